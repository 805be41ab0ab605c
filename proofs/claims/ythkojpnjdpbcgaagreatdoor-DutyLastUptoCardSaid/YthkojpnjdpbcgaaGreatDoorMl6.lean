/- How a proof about a function on plain data begins and ends. No program in sight. Conditions: none. -/
import Derived.Test.YthkojpnjdpbcgaaGreatDoorMl5
set_option linter.unusedVariables false
set_option maxRecDepth 100000
set_option maxHeartbeats 8000000
set_option linter.unusedSimpArgs false
namespace Go.Proofs.YthkojpnjdpbcgaaGreatDoor
open Go.RowKit
theorem qbt {P:Program} {f:FuncId} {fn:Func} {c:Code} (hf:P.funcs[f]? = some fn) (hb:fn.body=some c) (hn:(fn.name == "runtime.NumGoroutine")=false) (args:Array Value) (W:World):(callFunc f args).run P W=.ok (.enter f args) W:=by
 have hn2:¬fn.name = "runtime.NumGoroutine":=by simpa using hn
 simp [callFunc,hf,hb,hn2]
theorem qaa.scal {P:Program} {f:FuncId} {xs:List Value} {z:Value} (he:∀(args:Array Value) (W:World),(callFunc f args).run P W=.ok (.enter f args) W) (hz:qek z=true)
  (h:∀w:World,(∀w':World,w.heap.size≤w'.heap.size→(∀b,b<w.heap.size→w'.heap[b]? = w.heap[b]?)→Gd w')→Calls P f xs.toArray w fun e w'=>e=.returned z∧Grw w w'):qaa P f (xs.map fun x=>.a (.v x)) (.a (.v z)):=by
 refine⟨he,fun w x vs _ hg hl hr=>?_⟩
 have:vs=xs:=by
  apply List.ext_getElem?
  intro j
  simp at hl
  by_cases hj:j<xs.length
  ·have:=hr j (.a (.v xs[j])) (by rw [List.getElem?_map,List.getElem?_eq_getElem hj];rfl)
   rw [List.getD_eq_getElem?_getD,List.getElem?_eq_getElem (by omega)] at this
   rw [List.getElem?_eq_getElem (by omega),List.getElem?_eq_getElem hj]
   exact congrArg some this.v_inv.1
  ·rw [List.getElem?_eq_none (by omega),List.getElem?_eq_none (by omega)]
 subst this
 refine (h w fun w' hs hb=>hg w' hs fun b hlt _ _=>hb b hlt).mono ?_
 rintro e w' ⟨rfl,hq⟩
 exact⟨z,rfl,hq,.v hz⟩
def RSr {P:Program} (C:Cx P) (ops:Array Oper) (r:(Nat→D)×List Bx×List Oper) (K:(Nat→D)→List Bx→Prop):Prop:=RS C ops r.2.2 r.1 r.2.1 K
theorem qai {P:Program} {C:Cx P} {ops:Array Oper} {e:Nat→D} {st:List Bx} {l:List Oper} {K:(Nat→D)→List Bx→Prop}:RSr C ops (e,st,l) K=RS C ops l e st K:=rfl
theorem RS.run2 {P:Program} {C:Cx P} {ops:Array Oper} {K:(Nat→D)→List Bx→Prop} {l:List Oper} {e:Nat→D} {st:List Bx} {r:(Nat→D)×List Bx×List Oper} (h:runS P l e st=r) (hr:RSr C ops r K):RS C ops l e st K:=RS.run' (e':=r.1) (st':=r.2.1) (l':=r.2.2) h hr
def RQr (P:Program) (ops:Array Oper) (st:List Bx) (r:(Nat→D)×List Oper) (K:(Nat→D)→Prop):Prop:=RQ P ops st r.2 r.1 K
theorem qbh {P:Program} {ops:Array Oper} {e:Nat→D} {st:List Bx} {l:List Oper} {K:(Nat→D)→Prop}:RQr P ops st (e,l) K=RQ P ops st l e K:=rfl
theorem RQ.run2 {P:Program} {ops:Array Oper} {K:(Nat→D)→Prop} {l:List Oper} {e:Nat→D} {st:List Bx} {r:(Nat→D)×List Oper} (h:runQ P st l e=r) (hr:RQr P ops st r K):RQ P ops st l e K:=RQ.run' (e':=r.1) (l':=r.2) h hr
def retN (P:Program) (n:Nat) (rs:List ResultVar) (d:D):Exit→(Nat→D)→List Bx→Prop
 | .normal,e,st|.ret,e,st=>resL P n e st rs d
 | _,_,_=>False
theorem qaa.go {P:Program} {f:FuncId} {fn:Func} {c:Code} {n:Nat} {rs:List ResultVar} {ds:List D} {d:D} (hf:P.funcs[f]? = some fn) (hb:fn.body=some c) (hn:fn.ntmps=n) (hr:fn.results=⟨rs⟩) (hnm:(fn.name == "runtime.NumGoroutine")=false) (hl:(decide (ds.length≤n)&&decide (n≤1000000))=true)
  (h:∀C:Cx P,C.ro=none→WP C n c (retN P n rs d) (qaj 0 ds) []):qaa P f ds d:=by
 rw [Bool.and_eq_true,decide_eq_true_iff,decide_eq_true_iff] at hl
 refine qaa.intro hf hb (qbt hf hb hnm) hn hl.1 hl.2 fun C hC=>(h C hC).mono ?_
 intro ex e st hq
 have:fn.results.toList=rs:=by rw [hr]
 cases ex with
 | normal=>show resL P n e st fn.results.toList d;rw [this];exact hq
 | ret=>show resL P n e st fn.results.toList d;rw [this];exact hq
 | _=>exact hq
section
variable {P:Program} {C:Cx P} {n:Nat} {e e':Nat→D} {st:List Bx} {d d':D} {ks:List Nat} {ops:Array Oper} {N:(Nat→D)→List Bx→Prop} {Q:Exit→(Nat→D)→List Bx→Prop}
theorem ret1 {t:Nat} (ht:decide (t<n)=true) (he:qc9 st (e t)=d') (hc:clD1 d'=true) (h:d'=d):retN P n [.tmp t] d .ret e st:=by
 subst h
 show res1 P n e st (.tmp t)=some d'∧clD1 d'=true
 refine⟨?_,hc⟩
 simp only [res1]
 rw [if_pos (of_decide_eq_true ht),he]
theorem retC {t:Nat} {T:TypeId} {i off:Nat} {row:List A} {k:Option Nat} {d0:D} (ht:decide (t<n)=true) (he:e t=.a (.ptr i off)) (hs:st[i]? = some (.cell row)) (hk:ldk P T=some k) (hd:qae k row off=some d0) (hse:qc9 st d0=d') (hc:clD1 d'=true) (h:d'=d):retN P n [.cell t T] d .ret e st:=by
 subst h
 show res1 P n e st (.cell t T)=some d'∧clD1 d'=true
 refine⟨?_,hc⟩
 simp only [res1]
 rw [if_pos (of_decide_eq_true ht)]
 simp only [he,hs,hk,hd,Option.map_some,hse]
theorem RS.finT (he:qa7 e ks=e') (h:N e' st):RS C ops [] e st fun e' st'=>qdi N Q .normal (qa7 e' ks) st':=by subst he;exact h
@[go_sem] theorem qab:qdi N Q .normal=N:=rfl
@[go_sem] theorem qbc:qdi N Q .ret=Q .ret:=rfl
@[go_sem] theorem qds {i:Nat}:qdi N Q (.exit i)=Q (.exit i):=rfl
@[go_sem] theorem qac {i:Nat}:qhs i Q .normal=Q .normal:=rfl
@[go_sem] theorem qa0 {i:Nat}:qhs i Q .ret=Q .ret:=rfl
theorem qcz (i:Nat):qhs i Q (.exit i)=Q .normal:=if_pos rfl
theorem qcy {i j:Nat} (h:j≠i):qhs i Q (.exit j)=Q (.exit j):=if_neg h
@[go_sem] theorem seeD1_v {x:Value}:qc9 st (.a (.v x))=.a (.v x):=rfl
@[go_sem] theorem seeD1_sl {rows:List (List A)}:qc9 st (.a (.sl rows))=.a (.sl rows):=rfl
@[go_sem] theorem seeD1_nl:qc9 st (.a .nl)=.a (.sl []):=rfl
@[go_sem] theorem seeD1_r {row:List A}:qc9 st (.r row)=.r (row.map (seeA st)):=rfl
@[go_sem] theorem clD1_v {x:Value}:clD1 (.a (.v x))=true:=rfl
@[go_sem] theorem clD1_sl {rows:List (List A)}:clD1 (.a (.sl rows))=true:=rfl
@[go_sem] theorem clD1_fn {f:FuncId} {l:List A}:clD1 (.a (.fn f l))=l.all clA:=rfl
@[go_sem] theorem clD1_r {row:List A}:clD1 (.r row)=row.all clA:=rfl
@[go_sem] theorem clD_v {x:Value}:clD (.a (.v x))=true:=rfl
@[go_sem] theorem clD_sl {rows:List (List A)}:clD (.a (.sl rows))=true:=rfl
@[go_sem] theorem clD_r {row:List A}:clD (.r row)=row.all clA:=rfl
@[go_sem] theorem clD_nl:clD (.a .nl)=true:=rfl
@[go_sem] theorem clD_ref {row:List A} {o:Nat}:clD (.a (.ref row o))=true:=rfl
@[go_sem] theorem clD_fn {f:FuncId}:clD (.a (.fn f []))=true:=rfl
theorem RQ.nil {P:Program} {ops:Array Oper} {st:List Bx} {e:Nat→D} {K:(Nat→D)→Prop} (h:K e):RQ P ops st [] e K:=h
@[go_sem] theorem toList_lit (l:List UInt8):ByteArray.toList ⟨⟨l⟩⟩=l:=by rw [qc0]
theorem qam {a b:Bool} (h:a=b):D.a (.v (.bool a))=.a (.v (.bool b)):=by rw [h]
theorem qco {k:IntKind} {a b:Int} (h:a=b):D.a (.v (.int k a))=.a (.v (.int k b)):=by rw [h]
@[go_sem] theorem evBin_eqi {b:Bool} {k:IntKind} {x y:Int}:qc5 b .eql (.int k x) (.int k y)=some (.bool (x==y)):=if_pos rfl
@[go_sem] theorem evBin_nei {b:Bool} {k:IntKind} {x y:Int}:qc5 b .neq (.int k x) (.int k y)=some (.bool (x != y)):=if_pos rfl
@[go_sem] theorem evBin_lti {b:Bool} {k:IntKind} {x y:Int}:qc5 b .lss (.int k x) (.int k y)=some (.bool (decide (x<y))):=if_pos rfl
@[go_sem] theorem evBin_lei {b:Bool} {k:IntKind} {x y:Int}:qc5 b .leq (.int k x) (.int k y)=some (.bool (decide (x≤y))):=if_pos rfl
@[go_sem] theorem evBin_gti {b:Bool} {k:IntKind} {x y:Int}:qc5 b .gtr (.int k x) (.int k y)=some (.bool (decide (x>y))):=if_pos rfl
@[go_sem] theorem evBin_gei {b:Bool} {k:IntKind} {x y:Int}:qc5 b .geq (.int k x) (.int k y)=some (.bool (decide (x≥y))):=if_pos rfl
@[go_sem] theorem evBin_add {b:Bool} {k:IntKind} {x y:Int}:qc5 b .add (.int k x) (.int k y)=some (.int k (k.wrap (x+y))):=if_pos rfl
@[go_sem] theorem evBin_sub {b:Bool} {k:IntKind} {x y:Int}:qc5 b .sub (.int k x) (.int k y)=some (.int k (k.wrap (x-y))):=if_pos rfl
@[go_sem] theorem evBin_eqs {b:Bool} {x y:ByteArray}:qc5 b .eql (.string x) (.string y)=some (.bool (x.toList==y.toList)):=rfl
@[go_sem] theorem evBin_nes {b:Bool} {x y:ByteArray}:qc5 b .neq (.string x) (.string y)=some (.bool (!(x.toList==y.toList))):=rfl
@[go_sem] theorem evBin_neb {x y:Bool}:qc5 true .neq (.bool x) (.bool y)=some (.bool (!(x==y))):=rfl
@[go_sem] theorem evUn_not {x:Bool}:evUn .not (.bool x)=some (.bool (!x)):=rfl
end
def nrA (m:Nat):A→Bool
 | .ptr i _=>decide (i<m)
 | .own i _=>decide (i<m)
 | .ep i _ _ _=>decide (i<m)
 | .fn _ caps=>nrL caps
 | .fm _ caps=>nrL caps
 | .mp i=>decide (i<m)
 | .cs i _ _=>decide (i<m)
 | _=>true
 where nrL:List A→Bool
 | []=>true
 | x::r=>nrA m x&&nrL r
theorem qeq {m:Nat}:∀{l:List A},nrA.nrL m l=true→∀(i:Nat) (x:A),l[i]? = some x→nrA m x=true
 | [],_,i,x,h=>by simp at h
 | y::r,h,i,x,hx=>by
  rw [nrA.nrL,Bool.and_eq_true] at h
  cases i with
  | zero=>simp at hx;subst hx;exact h.1
  | succ i=>exact qeq h.2 i x (by simpa using hx)
def nrD (m:Nat):D→Bool
 | .junk|.undef=>true
 | .a x=>nrA m x
 | .r row=>row.all (nrA m)
 | .t ds=>ds.all clD1
def nrS (m:Nat):List Bx→Bool
 | []=>true
 | .gone::r=>nrS m r
 | .cell row::r=>row.all (nrA m)&&nrS m r
 | .arr _ _ _::r=>nrS m r
 | .map _ _ es::r=>(es.all fun e=>e.2.all (nrA m))&&nrS m r
theorem qfp {m:Nat}:∀{l:List Bx} {i:Nat} {k:KS} {wd:Bool} {es:List (Value×List A)},nrS m l=true→l[i]? = some (.map k wd es)→(es.all fun e=>e.2.all (nrA m))=true
 | [],i,k,wd,es,_,h=>by simp at h
 | y::r,i,k,wd,es,h,hi=>by
  cases i with
  | zero =>
   simp at hi;subst hi
   rw [nrS,Bool.and_eq_true] at h;exact h.1
  | succ i =>
   have:nrS m r=true:=by cases y<;>simp only [nrS,Bool.and_eq_true] at h<;>first|exact h|exact h.2
   exact qfp this (by simpa using hi)
theorem qee {m:Nat}:∀{l:List Bx} {i:Nat} {row:List A},nrS m l=true→l[i]? = some (.cell row)→row.all (nrA m)=true
 | [],i,row,_,h=>by simp at h
 | y::r,i,row,h,hi=>by
  cases i with
  | zero =>
   simp at hi;subst hi
   rw [nrS,Bool.and_eq_true] at h;exact h.1
  | succ i =>
   have:nrS m r=true:=by cases y<;>simp only [nrS,Bool.and_eq_true] at h<;>first|exact h|exact h.2
   exact qee this (by simpa using hi)
theorem qef {w:World} {x:Nat→Prop} {bl:List Nat} {st ex:List Bx} {b:Nat} (h:(⟨w,x,bl.take st.length,st⟩:Vw).mut b):(⟨w,x,bl,st++ex⟩:Vw).mut b:=by
 rcases h with h|⟨i,y,h1,h2,h3⟩
 ·exact .inl h
 ·have hi:i<st.length:=(List.getElem?_eq_some_iff.1 h2).1
  exact .inr ⟨i,y,by simp only at h1;rwa [List.getElem?_take_of_lt hi] at h1,by simp only;rwa [List.getElem?_append_left hi],h3⟩
theorem RepA.drop {w:World} {x:Nat→Prop} {bl:List Nat} {st ex:List Bx} {y:A} {u:Value} (h:RepA ⟨w,x,bl,st++ex⟩ y u):nrA st.length y=true→RepA ⟨w,x,bl.take st.length,st⟩ y u:=by
 induction h with
 | c y u h=>exact fun _=>.c _ _ (h.mono (Nat.le_refl _) fun b _ hm=>⟨fun _=>rfl,fun h=>hm (qef h)⟩)
 | ptr i off b hi hr =>
  intro hn
  have hi:i<st.length:=by simpa [nrA] using hn
  refine .ptr i off b hi fun row hs=>?_
  have:=hr row (by simp only at hs ⊢;rwa [List.getElem?_append_left hi])
  simp only at this ⊢
  rwa [List.getElem?_take_of_lt hi]
 | cs i off len b hi hr =>
  intro hn
  have hi:i<st.length:=by simpa [nrA] using hn
  refine .cs i off len b hi fun row hs=>?_
  have:=hr row (by simp only at hs ⊢;rwa [List.getElem?_append_left hi])
  simp only at this ⊢
  rwa [List.getElem?_take_of_lt hi]
 | own i ver a l c hi hr =>
  intro hn
  have hi:i<st.length:=by simpa [nrA] using hn
  refine .own i ver a l c hi fun ver' n rows hs=>?_
  have:=hr ver' n rows (by simp only at hs ⊢;rwa [List.getElem?_append_left hi])
  simp only at this ⊢
  rwa [List.getElem?_take_of_lt hi]
 | ep i ver z off b ad hi hr =>
  intro hn
  have hi:i<st.length:=by simpa [nrA] using hn
  refine .ep i ver z off b ad hi fun ver' n rows hs=>?_
  have:=hr ver' n rows (by simp only at hs ⊢;rwa [List.getElem?_append_left hi])
  simp only at this ⊢
  rwa [List.getElem?_take_of_lt hi]
 | fn f caps vs hl _ ih=>exact fun hn=>.fn f caps vs hl fun i z hz=>ih i z hz (qeq hn i z hz)
 | fm f caps vs hl _ ih=>exact fun hn=>.fm f caps vs hl fun i z hz=>ih i z hz (qeq hn i z hz)
 | mp i b hi hr =>
  intro hn
  have hi:i<st.length:=by simpa [nrA] using hn
  refine .mp i b hi fun k wd es hs=>?_
  have:=hr k wd es (by simp only at hs ⊢;rwa [List.getElem?_append_left hi])
  simp only at this ⊢
  rwa [List.getElem?_take_of_lt hi]
theorem MRep.drop {w:World} {x:Nat→Prop} {bl:List Nat} {st ex:List Bx} {wd:Bool} {row:List A} {u:Value} (h:MRep ⟨w,x,bl,st++ex⟩ wd row u) (hn:row.all (nrA st.length)=true):MRep ⟨w,x,bl.take st.length,st⟩ wd row u:=by
 cases wd with
 | false=>obtain⟨y,rfl,h2⟩:=h;exact⟨y,rfl,h2.drop (by simpa using hn)⟩
 | true=>obtain⟨vs,h1,h2,h3⟩:=h;exact⟨vs,h1,h2,fun j y hj=>(h3 j y hj).drop (List.all_eq_true.1 hn y (lm4 hj))⟩
theorem RepD.drop {w:World} {x:Nat→Prop} {bl:List Nat} {st ex:List Bx} {d:D} {u:Value} (h:RepD ⟨w,x,bl,st++ex⟩ d u) (hn:nrD st.length d=true):RepD ⟨w,x,bl.take st.length,st⟩ d u:=by
 have row:∀{row:List A} {vs:List Value},vs.length=row.length→(∀(j:Nat) (y:A),row[j]? = some y→RepA ⟨w,x,bl,st++ex⟩ y (vs.getD j Go.undef))→row.all (nrA st.length)=true→RepD ⟨w,x,bl.take st.length,st⟩ (.r row) (.agg vs.toArray) :=
  fun hl h hn=>.r _ _ hl fun j y hj=>(h j y hj).drop (List.all_eq_true.1 hn y (lm4 hj))
 have clnr0:∀y:A,clA y=true→nrA st.length y=true:=fun y hy=>by
  cases y<;>first|rfl|(simp [clA] at hy;done)|skip
  rename_i caps
  cases caps<;>first|rfl|(simp [clA] at hy)
 have clnrL:∀l:List A,l.all clA=true→nrA.nrL st.length l=true:=fun l=>by
  induction l with
  | nil=>intro _;rfl
  | cons y l ih =>
   intro h
   rw [List.all_cons,Bool.and_eq_true] at h
   rw [nrA.nrL,Bool.and_eq_true]
   exact⟨clnr0 y h.1,ih h.2⟩
 have clnr:∀y:A,clA1 y=true→nrA st.length y=true:=fun y hy=>by
  cases y with
  | fn f caps=>exact clnrL caps hy
  | _=>exact clnr0 _ hy
 cases h with
 | junk _=>exact .junk _
 | undef=>exact .undef
 | a y u h=>exact .a y u (h.drop hn)
 | r r vs hl h=>exact row hl h hn
 | t ds vs hl h =>
  refine .t ds vs hl fun j d hd=>?_
  have hc:=List.all_eq_true.1 hn d (lm4 hd)
  have:=h j d hd
  generalize vs.getD j Go.undef=u' at this ⊢
  cases this with
  | junk=>cases hc
  | undef=>cases hc
  | a y _ h=>exact .a y _ (h.drop (clnr y hc))
  | r r vs hl h=>exact row hl h (List.all_eq_true.2 fun y hy=>clnr0 y (List.all_eq_true.1 hc y hy))
  | t=>cases hc
theorem M.drop {P:Program} {C:Cx P} {w:World} {x:Nat→Prop} {bl:List Nat} {st ex:List Bx} {tm:Array Value} {n:Nat} {e:Nat→D} (h:M C ⟨w,x,bl,st++ex⟩ tm n e) (he:∀t,nrD st.length (e t)=true) (hs:nrS st.length st=true) (hV:C.V0.st.length≤st.length):M C ⟨w,x,bl.take st.length,st⟩ tm n e:=by
 have hlen:=h.ok.len
 simp only [List.length_append] at hlen
 have at1:∀{i:Nat} {b:Nat},(bl.take st.length)[i]? = some b→i<st.length∧bl[i]? = some b:=fun {i b} hb=>by
  have:=(List.getElem?_eq_some_iff.1 hb).1
  simp only [List.length_take] at this
  have hi:i<st.length:=by omega
  exact⟨hi,by rwa [List.getElem?_take_of_lt hi] at hb⟩
 have at2:∀{i:Nat} {y:Bx},i<st.length→st[i]? = some y→(st++ex)[i]? = some y:=fun hi hy=>by rwa [List.getElem?_append_left hi]
 refine⟨h.size,fun t ht=>(h.slot t ht).drop (he t),⟨by simp;omega,fun i b hb=>h.ok.lt i b (at1 hb).2,h.ok.xlt,fun w' hs hb=>h.ok.gd w' hs fun b hlt hn hnx hc=>hb b hlt (fun hm=>hn (List.mem_of_mem_take hm)) hnx hc,fun i b hb=>h.ok.isc i b (at1 hb).2,fun i j b y z h1 h2 h3 h4 h5 h6=>?_,fun i row b h1 h2=>?_,fun i ver n rows b h1 h2=>?_,fun i k wd es b h1 h2=>?_⟩,⟨hV,h.le.size,fun b hb hm=>⟨(h.le.blk b hb hm).1,fun hm'=>(h.le.blk b hb hm).2 (qef hm')⟩,fun i r hi hr=>?_,fun i ver m rows hi hr=>?_,fun i k wd es hi hr=>?_⟩,h.fr,fun b hb=>h.low b (List.mem_of_mem_take hb),fun b hb=>h.sep b (List.mem_of_mem_take hb),h.x0,h.xk,h.xg,fun b hb=>⟨(h.nx b hb).1,(h.nx b hb).2.imp id fun ⟨q2,q3,q4⟩=>⟨q2,fun hm=>q3 (List.mem_of_mem_take hm),q4⟩⟩,h.nx0⟩
 ·exact h.ok.inj i j b y z (at1 h1).2 (at1 h2).2 (at2 (at1 h1).1 h3) (at2 (at1 h2).1 h4) h5 h6
 ·obtain⟨hi,hb⟩:=at1 h2
  obtain⟨cs,T,k1,k2,k3⟩:=h.ok.cell i row b (at2 hi h1) hb
  have hrow:=qee hs h1
  exact⟨cs,T,k1,k2,fun j y hj=>(k3 j y hj).drop (List.all_eq_true.1 hrow y (lm4 hj))⟩
 ·obtain⟨hi,hb⟩:=at1 h2
  obtain⟨cs,T,c,k1,k2,k3,k4,k5,k6⟩:=h.ok.arr i ver n rows b (at2 hi h1) hb
  exact⟨cs,T,c,k1,k2,k3,k4,k5,fun k r j y hk hj=>(k6 k r j y hk hj).mono (Nat.le_refl _) fun b _ hm=>⟨fun _=>rfl,fun hh=>hm (qef hh)⟩⟩
 ·obtain⟨hi,hb⟩:=at1 h2
  obtain⟨ms,k1,k2,k3⟩:=h.ok.map i k wd es b (at2 hi h1) hb
  have hes:=qfp hs h1
  exact⟨ms,k1,k2,fun j y row hj=>by obtain⟨q1,v,q2,q3⟩:=k3 j y row hj;exact⟨q1,v,q2,q3.drop (List.all_eq_true.1 hes _ (lm4 hj))⟩⟩
 ·have hi2:i<st.length:=by omega
  have:=h.le.cell i r hi (at2 hi2 hr)
  simp only at this ⊢
  rwa [List.getElem?_take_of_lt hi2]
 ·have hi2:i<st.length:=by omega
  obtain⟨v0,n0,r0,q1,q2⟩:=h.le.arr i ver m rows hi (at2 hi2 hr)
  refine⟨v0,n0,r0,q1,q2.imp id fun ⟨e1,e2,e3,e4,e5⟩=>⟨e1,e2,e3,?_,e5⟩⟩
  simp only at e4 ⊢
  rwa [List.getElem?_take_of_lt hi2]
 ·have hi2:i<st.length:=by omega
  have:=h.le.map i k wd es hi (at2 hi2 hr)
  simp only at this ⊢
  rwa [List.getElem?_take_of_lt hi2]
def nrE (m:Nat) (l:List (Nat×D)):Bool:=l.all fun p=>nrD m p.2
theorem qjh {m:Nat}:∀{l:List (Nat×D)},nrE m l=true→∀t,nrD m (envL l t)=true
 | [],_,_=>rfl
 | (t',d)::r,h,t=>by
  simp only [nrE,List.all_cons,Bool.and_eq_true] at h
  by_cases ht:t=t'
  ·subst ht;simp only [envL,upd,if_true];exact h.1
  ·simp only [envL,upd];rw [if_neg ht];exact qjh h.2 t
theorem Sat.drop {P:Program} {C:Cx P} {w:World} {x:Nat→Prop} {bl:List Nat} {st ex:List Bx} {a:Act} {n:Nat} {e:Nat→D} (h:Sat C ⟨w,x,bl,st++ex⟩ a n e) (he:∀t,nrD st.length (e t)=true) (hs:nrS st.length st=true) (hV:C.V0.st.length≤st.length):Sat C ⟨w,x,bl.take st.length,st⟩ a n e:=by
 obtain⟨ms,⟨h1,h2,h3⟩,hm,henv⟩:=h
 refine⟨ms,⟨h1,h2,fun D hD=>?_⟩,hm.drop he hs hV,henv.frm ⟨rfl,rfl,rfl,Nat.le_refl _,fun _ _ _=>rfl⟩ (fun b hb=>?_) fun _ hb=>hb⟩
 ·obtain⟨q1,q2,q3,q4⟩:=h3 D hD
  exact⟨q1,q2,fun h=>q3 (List.mem_of_mem_take h),q4⟩
 ·obtain⟨i,y,h1,h2,h3⟩:=hb
  have hi:i<st.length:=(List.getElem?_eq_some_iff.1 h2).1
  exact .inl ⟨i,y,by simp only at h1;rwa [List.getElem?_take_of_lt hi] at h1,by simp only;rwa [List.getElem?_append_left hi],h3⟩
section
variable {P:Program} {C:Cx P} {n:Nat} {Q:Exit→(Nat→D)→List Bx→Prop} {e:Nat→D} {st:List Bx}
theorem WP.loopX {α:Type} (env:α→List (Nat×D)) (sto:α→List Bx) (μ:α→Nat) (y:α) {c:Code} (h0:qal e (env y)) (hs:st=sto y)
  (round:∀y,WP C n c (qdi (fun e' st'=>∃z ex,μ z<μ y∧qal e' (env z)∧st'=sto z++ex∧nrE (sto z).length (env z)=true∧nrS (sto z).length (sto z)=true) Q) (envL (env y)) (sto y)) (hlen:∀y z,(sto y).length=(sto z).length:=by intros;rfl):WP C n (.loop c) Q e st:=by
 subst hs
 have main:C.V0.st.length≤(sto y).length→WP C n (.loop c) Q (envL (env y)) (sto y):=by
  intro hV
  refine WP.loopS (fun y e st=>e=envL (env y)∧st=sto y) μ y ⟨rfl,rfl⟩ ?_
  rintro y2 _ _ ⟨rfl,rfl⟩
  refine (round y2).mono ?_
  intro ex e' st' hq
  cases ex with
  | normal =>
   obtain⟨z,exx,hlt,hag,rfl,hn1,hn2⟩:=hq
   intro a w x bl hm
   exact⟨z,x,_,_,_,hlt,⟨rfl,rfl⟩,(hm.weaken hag).drop (qjh hn1) hn2 (by rw [hlen z y];exact hV)⟩
  | _=>exact hq
 intro a w x bl hm
 exact main hm.m.le.len a w x bl (hm.weaken h0)
end
@[go_sem] theorem qbk {z:Int} (h1 : -9223372036854775808≤z) (h2:z<9223372036854775808):IntKind.i64.wrap z=z:=by
 simp [IntKind.wrap,IntKind.signed,IntKind.bits];omega
@[go_sem] theorem qap {k:Nat} (h:k<9223372036854775807):IntKind.i64.wrap ((k:Int)+1)=((k+1:Nat):Int):=by
 rw [qbk (by omega) (by omega)];omega
def lend0 (st:List Bx):A→A
 | .ptr i off=>match st[i]? with
  | some (.cell row)=>.ref row off
  | _=>.ptr i off
 | .own i ver=>match st[i]? with
  | some (.arr ver' _ rows)=>if ver=ver' then .sl rows else .own i ver
  | _=>.own i ver
 | x=>x
def qhy (st:List Bx):A→Bool
 | .ptr i _=>match st[i]? with
  | some (.cell row)=>row.all clA
  | _=>false
 | .own i ver=>match st[i]? with
  | some (.arr ver' _ _)=>ver==ver'
  | _=>false
 | x=>clA x
def qlv (st:List Bx):A→A
 | .fn f caps=>.fn f (caps.map (lend0 st))
 | x=>lend0 st x
def ldOk (st:List Bx):A→Bool
 | .fn _ caps=>caps.all (qhy st)
 | x=>qhy st x
def qf7 (st:List Bx):D→D
 | .a x=>.a (qlv st x)
 | d=>d
def qf8 (st:List Bx):D→Bool
 | .a x=>ldOk st x
 | .r row=>row.all clA
 | _=>false
@[go_sem] theorem lendD_a (st:List Bx) (x:A):qf7 st (.a x)=.a (qlv st x):=rfl
@[go_sem] theorem lendD_r (st:List Bx) (x:List A):qf7 st (.r x)=.r x:=rfl
@[go_sem] theorem lendA_v (st:List Bx) (x:Value):qlv st (.v x)=.v x:=rfl
@[go_sem] theorem lendA_sl (st:List Bx) (x:List (List A)):qlv st (.sl x)=.sl x:=rfl
@[go_sem] theorem lendA_fn (st:List Bx) (f:FuncId) (l:List A):qlv st (.fn f l)=.fn f (l.map (lend0 st)):=rfl
@[go_sem] theorem lend0_ptr0 (row:List A) (st:List Bx) (o:Nat):lend0 (.cell row::st) (.ptr 0 o)=.ref row o:=rfl
@[go_sem] theorem lend0_ptr1 (y:Bx) (row:List A) (st:List Bx) (o:Nat):lend0 (y::.cell row::st) (.ptr 1 o)=.ref row o:=rfl
@[go_sem] theorem lend0_ptr2 (y z:Bx) (row:List A) (st:List Bx) (o:Nat):lend0 (y::z::.cell row::st) (.ptr 2 o)=.ref row o:=rfl
@[go_sem] theorem ldOkD_a (st:List Bx) (x:A):qf8 st (.a x)=ldOk st x:=rfl
@[go_sem] theorem ldOkD_r (st:List Bx) (x:List A):qf8 st (.r x)=x.all clA:=rfl
@[go_sem] theorem ldOk_v (st:List Bx) (x:Value):ldOk st (.v x)=true:=rfl
@[go_sem] theorem ldOk_sl (st:List Bx) (x:List (List A)):ldOk st (.sl x)=true:=rfl
@[go_sem] theorem ldOk_fn (st:List Bx) (f:FuncId) (l:List A):ldOk st (.fn f l)=l.all (qhy st):=rfl
@[go_sem] theorem ldOk0_ptr0 (row:List A) (st:List Bx) (o:Nat):qhy (.cell row::st) (.ptr 0 o)=row.all clA:=rfl
@[go_sem] theorem ldOk0_ptr1 (y:Bx) (row:List A) (st:List Bx) (o:Nat):qhy (y::.cell row::st) (.ptr 1 o)=row.all clA:=rfl
@[go_sem] theorem ldOk0_ptr2 (y z:Bx) (row:List A) (st:List Bx) (o:Nat):qhy (y::z::.cell row::st) (.ptr 2 o)=row.all clA:=rfl
def qjo (V:Vw) (b:Nat):Prop:=V.x b∧¬b∈V.bl
theorem RepC.less {w:World} {m m':Nat→Prop} (h:∀b,m' b→m b) {x:A} {u:Value} (hr:RepC w m x u):RepC w m' x u :=
 hr.mono (Nat.le_refl _) fun b _ hm=>⟨fun _=>rfl,fun h'=>hm (h b h')⟩
theorem RepC.lent {V:Vw} {x:A} {u:Value} (hr:RepC V.w V.mut x u):RepC V.w (qjo V) x u:=hr.less fun _ h=>.inl h.1
theorem RepA.lend0 {V:Vw} (hok:Ok V) {y:A} {u:Value} (h:RepA V y u) (hc:qhy V.st y=true):RepC V.w (qjo V) (lend0 V.st y) u:=by
 have other:clA y=true→RepC V.w (qjo V) y u:=fun hcl=>(h.cl hcl).lent
 cases y with
 | ptr i off =>
  unfold qhy at hc
  dsimp only at hc
  cases hs:V.st[i]? with
  | none=>rw [hs] at hc;cases hc
  | some bx =>
   cases bx with
   | gone=>rw [hs] at hc;cases hc
   | map=>rw [hs] at hc;cases hc
   | arr=>rw [hs] at hc;cases hc
   | cell row =>
    rw [hs] at hc
    dsimp only at hc
    have hl:Go.Proofs.YthkojpnjdpbcgaaGreatDoor.lend0 V.st (.ptr i off)=.ref row off:=by unfold Go.Proofs.YthkojpnjdpbcgaaGreatDoor.lend0;dsimp only;rw [hs]
    rw [hl]
    cases h with
    | c _ _ h=>cases h
    | ptr _ _ b hi hb =>
     have hb:=hb row hs
     obtain⟨cs,T,h1,h2,h3⟩:=hok.cell i row b hs hb
     have:=RepC.ref (w:=V.w) (mu:=qjo V) row off b 0 (fun j=>cs.getD j Go.undef) (hok.isc i b hb) (fun hx=>hx.2 (lm4 hb)) (fun j x hj=>?_) fun j x hj=>((h3 j x hj).cl (List.all_eq_true.1 hc x (lm4 hj))).lent
     ·rw [Nat.zero_add] at this;exact this
     ·have hlt:j<cs.size:=by
       rw [h2];exact (List.getElem?_eq_some_iff.1 hj).1
      have hcell:V.w.cell? ⟨b,0+j,none⟩=cs[0+j]?:=by
       rw [World.cell?,h1];rfl
      rw [hcell,Nat.zero_add,Array.getD_eq_getD_getElem?,Array.getElem?_eq_getElem hlt];rfl
 | v x=>exact other hc
 | nl=>exact other hc
 | sl r=>exact other hc
 | sk r=>exact other hc
 | ref r o=>exact other hc
 | own i ver =>
  unfold qhy at hc
  dsimp only at hc
  cases hs:V.st[i]? with
  | none=>rw [hs] at hc;cases hc
  | some bx =>
   cases bx with
   | gone=>rw [hs] at hc;cases hc
   | map=>rw [hs] at hc;cases hc
   | cell=>rw [hs] at hc;cases hc
   | arr ver' n rows =>
    rw [hs] at hc
    have hv:ver=ver':=by simpa using hc
    subst hv
    have hl:Go.Proofs.YthkojpnjdpbcgaaGreatDoor.lend0 V.st (.own i ver)=.sl rows:=by unfold Go.Proofs.YthkojpnjdpbcgaaGreatDoor.lend0;dsimp only;rw [hs];exact if_pos rfl
    rw [hl]
    cases h with
    | c _ _ h=>cases h
    | own _ _ a l c hi hr =>
     obtain⟨_,hr⟩:=hr _ _ _ hs
     obtain⟨rfl,b,cs,T,rfl,hb,hh,hsz,hlc⟩:=hr rfl
     obtain⟨cs',T',c',h1,h2,h3,h4,h5,h6⟩:=hok.arr i ver n rows b hs hb
     rw [hh] at h1;injection h1 with h1;injection h1 with e1 e2;subst e1
     refine .sl rows n b 0 c (fun k j=>cs.getD (k*n+j) Go.undef) (hok.isc i b hb) (fun hx=>hx.2 (lm4 hb)) hlc h5 (fun k row j y hk hj=>?_) fun k row j y hk hj=>(h6 k row j y hk hj).lent
     have hklt:=(List.getElem?_eq_some_iff.1 hk).1
     have hjlt:j<n:=by have:=(List.getElem?_eq_some_iff.1 hj).1;rw [h5 k row hk] at this;exact this
     have hlt:k*n+j<cs.size:=by
      rw [hsz]
      have:(k+1)*n≤c*n:=Nat.mul_le_mul_right n (by omega)
      rw [Nat.add_mul,Nat.one_mul] at this;omega
     have hcell:V.w.cell? ⟨b,0+k*n+j,none⟩=cs[0+k*n+j]?:=by
      rw [World.cell?,hh];rfl
     rw [hcell,Nat.zero_add,Array.getD_eq_getD_getElem?,Array.getElem?_eq_getElem hlt];rfl
 | ep i v z o=>cases hc
 | mp i=>cases hc
 | cs i o n=>cases hc
 | fn f caps=>exact other hc
 | fm f caps=>cases hc
theorem RepA.lend {V:Vw} (hok:Ok V) {y:A} {u:Value} (h:RepA V y u) (hc:ldOk V.st y=true):RepC V.w (qjo V) (qlv V.st y) u:=by
 cases y with
 | fn f caps =>
  cases h with
  | c _ _ h=>cases h with
   | fn _ _ vs hl hr =>
    refine .fn f _ vs (by simpa using hl) fun i x hi=>?_
    rw [List.getElem?_map,Option.map_eq_some_iff] at hi
    obtain⟨y,hy,rfl⟩:=hi
    exact (RepA.c y _ (hr i y hy)).lend0 hok (List.all_eq_true.1 hc y (lm4 hy))
  | fn _ _ vs hl hr =>
   refine .fn f _ vs (by simpa using hl) fun i x hi=>?_
   rw [List.getElem?_map,Option.map_eq_some_iff] at hi
   obtain⟨y,hy,rfl⟩:=hi
   exact (hr i y hy).lend0 hok (List.all_eq_true.1 hc y (lm4 hy))
 | ptr i off=>exact h.lend0 hok hc
 | v x=>exact h.lend0 hok hc
 | nl=>exact h.lend0 hok hc
 | sl r=>exact h.lend0 hok hc
 | sk r=>exact h.lend0 hok hc
 | ref r o=>exact h.lend0 hok hc
 | own i v=>exact h.lend0 hok hc
 | fm f c=>exact h.lend0 hok hc
 | ep i v z o=>exact h.lend0 hok hc
 | mp i=>exact h.lend0 hok hc
 | cs i o n=>exact h.lend0 hok hc
theorem RepD.lend {V:Vw} (hok:Ok V) {d:D} {u:Value} (h:RepD V d u) (hc:qf8 V.st d=true):RepD (out V.w (qjo V)) (qf7 V.st d) u:=by
 have key:∀{x:A} {u:Value},RepC V.w (qjo V) x u→RepA (out V.w (qjo V)) x u:=fun h=>h.toOut
 cases h with
 | a x u h=>exact .a _ _ (key (h.lend hok hc))
 | r row vs hl h =>
  refine .r row vs hl fun j x hj=>key ?_
  exact ((h j x hj).cl (List.all_eq_true.1 hc x (lm4 hj))).lent
 | junk=>cases hc
 | undef=>cases hc
 | t=>cases hc
theorem qaa.upL {P:Program} {f:FuncId} {ds raw:List D} {z:Value} (h:qaa P f ds (.a (.v z))) {V:Vw} (hok:Ok V) {vs:List Value} (hd:raw.map (qf7 V.st)=ds) (hl:vs.length=raw.length) (hr:∀(i:Nat) (d':D),raw[i]? = some d'→RepD V d' (vs.getD i Go.undef)) (hc:raw.all (qf8 V.st)=true) :
  Calls P f vs.toArray V.w fun en w'=>∃v,en=.returned v∧Grw V.w w'∧RepD (V.to w') (.a (.v z)) v:=by
 subst hd
 refine (h.2 V.w (qjo V) vs (fun b hb=>hok.xlt b hb.1) (fun w' hs hb=>hok.gd w' hs fun b hlt _ hx=>hb b hlt fun h=>hx h.1) (by simpa using hl) fun i d' hi=>?_).mono ?_
 ·rw [List.getElem?_map,Option.map_eq_some_iff] at hi
  obtain⟨y,hy,rfl⟩:=hi
  exact (hr i y hy).lend hok (List.all_eq_true.1 hc y (lm4 hy))
 ·rintro en w' ⟨v,h1,h2,h3⟩
  obtain⟨rfl,hp⟩:=h3.v_inv
  exact⟨v,h1,h2,.a _ _ (.c _ _ (.v v hp))⟩
section
variable {P:Program} {st:List Bx} {e:Nat→D} {o:Oper}
theorem OpJ.callL {f:FuncId} {xs:Array Operand} {tys:Array TypeId} {ds:List D} {z:Value} (ho:o.op=.call ⟨.value (.func f),xs,tys⟩) (hx:(xs.toList.map (evO e)).map (qf7 st)=ds) (hc:(xs.toList.map (evO e)).all (qf8 st)=true) (hp:qaa P f ds (.a (.v z))):OpJ P st e o (.a (.v z)):=by
 intro ρ V hV hok hu
 subst hV
 rw [ho] at hu
 have hf:ρ (.func f)=.func (.func f) #[] #[]:=fn_inv (hu (.func f) (by simp [qad,Op.operands,Call.operands]))
 have hrun:(execOp ρ o).run P V.w=.ok (.enter f (xs.map ρ)) V.w:=by
  simp only [execOp,ho,resolve,hf,Deferred.ofValue,Sem.run_bind,Sem.run_pure,Result.andThen_ok,invoke,Array.empty_append,Array.append_empty,hp.1]
 rw [hrun]
 refine⟨rfl,?_⟩
 have:=hp.upL hok (vs:=(xs.map ρ).toList) hx (by simp) (fun i d' hd=>?_) hc
 ·rw [Array.toArray_toList] at this;exact this
 ·rw [List.getElem?_map,Option.map_eq_some_iff] at hd
  obtain⟨y,hy,rfl⟩:=hd
  have:=hu y (by have:=lm4 hy;simp [qad,Op.operands,Call.operands];right;simpa using this)
  have hget:(xs.map ρ).toList.getD i Go.undef=ρ y:=by
   rw [List.getD_eq_getElem?_getD,Array.toList_map,List.getElem?_map,hy];rfl
  rw [hget];exact this
theorem OpJ.callvL {f:FuncId} {y:Operand} {caps:List A} {xs:Array Operand} {tys:Array TypeId} {ds:List D} {z:Value} (ho:o.op=.call ⟨.value y,xs,tys⟩) (hy:evO e y=.a (.fn f caps)) (hx:(xs.toList.map (evO e)++caps.map D.a).map (qf7 st)=ds) (hc:(xs.toList.map (evO e)++caps.map D.a).all (qf8 st)=true) (hp:qaa P f ds (.a (.v z))):OpJ P st e o (.a (.v z)):=by
 intro ρ V hV hok hu
 subst hV
 rw [ho] at hu
 have h1:=hu y (by simp [qad,Op.operands,Call.operands])
 rw [hy] at h1
 have key:∃vs:List Value,ρ y=.func (.func f) #[] vs.toArray∧vs.length=caps.length∧∀(i:Nat) (z:A),caps[i]? = some z→RepA V z (vs.getD i Go.undef):=by
  generalize ρ y=u at *
  cases h1 with
  | a _ _ h=>cases h with
   | c _ _ h=>cases h with
    | fn _ _ vs hl h=>exact⟨vs,rfl,hl,fun i z hz=>.c _ _ (h i z hz)⟩
   | fn _ _ vs hl h=>exact⟨vs,rfl,hl,h⟩
 obtain⟨vs,hf,hvl,hvr⟩:=key
 have hrun:(execOp ρ o).run P V.w=.ok (.enter f (xs.map ρ++vs.toArray)) V.w:=by
  simp only [execOp,ho,resolve,hf,Deferred.ofValue,Sem.run_bind,Sem.run_pure,Result.andThen_ok,invoke,Array.empty_append,hp.1]
 rw [hrun]
 refine⟨rfl,?_⟩
 have:=hp.upL hok (vs:=(xs.map ρ).toList++vs) hx (by simp [hvl]) (fun i d' hd=>?_) hc
 ·rw [show ((xs.map ρ).toList++vs).toArray=xs.map ρ++vs.toArray by apply Array.ext';rw [List.toList_toArray,Array.toList_append]] at this;exact this
 ·rw [List.getElem?_append] at hd
  rw [List.getD_eq_getElem?_getD,List.getElem?_append]
  simp only [List.length_map,Array.length_toList,Array.size_map] at hd ⊢
  split at hd
  ·rename_i hlt
   rw [if_pos hlt]
   rw [List.getElem?_map,Option.map_eq_some_iff] at hd
   obtain⟨y',hy',rfl⟩:=hd
   have:=hu y' (by have:=lm4 hy';simp [qad,Op.operands,Call.operands];right;simpa using this)
   rw [Array.toList_map,List.getElem?_map,hy'];exact this
  ·rename_i hlt
   rw [if_neg hlt]
   rw [List.getElem?_map,Option.map_eq_some_iff] at hd
   obtain⟨z,hz,rfl⟩:=hd
   have:=hvr _ z hz
   rw [List.getD_eq_getElem?_getD] at this
   exact .a _ _ this
end
section
variable {P:Program} {C:Cx P} {ops:Array Oper} {r:List Oper} {e:Nat→D} {st:List Bx} {ds:List D} {z:Value} {dst:Option Nat} {ty:TypeId} {pos:String} {after:Array Edge} {guard:Option (Nat×Bool)}
theorem RS.callL {K:(Nat→D)→List Bx→Prop} {f:FuncId} {xs:List Operand} {tys:Array TypeId} (hx:(xs.map (evO e)).map (qf7 st)=ds) (hc:(xs.map (evO e)).all (qf8 st)=true) (hp:qaa P f ds (.a (.v z))) (h:RS C ops r (putE e dst (.a (.v z))) st K):RS C ops (⟨dst,.call ⟨.value (.func f),⟨xs⟩,tys⟩,ty,pos,after,guard⟩::r) e st K :=
 .inl ⟨.a (.v z),st,.inr ⟨rfl,.of (.callL rfl hx hc hp)⟩,h⟩
theorem RS.callvL {K:(Nat→D)→List Bx→Prop} {f:FuncId} {y:Operand} {caps:List A} {xs:List Operand} {tys:Array TypeId} (hy:evO e y=.a (.fn f caps)) (hx:(xs.map (evO e)++caps.map D.a).map (qf7 st)=ds) (hc:(xs.map (evO e)++caps.map D.a).all (qf8 st)=true) (hp:qaa P f ds (.a (.v z))) (h:RS C ops r (putE e dst (.a (.v z))) st K):RS C ops (⟨dst,.call ⟨.value y,⟨xs⟩,tys⟩,ty,pos,after,guard⟩::r) e st K :=
 .inl ⟨.a (.v z),st,.inr ⟨rfl,.of (.callvL rfl hy hx hc hp)⟩,h⟩
end
def frz0 (i:Nat) (row:List A):A→A
 | .ptr j off=>if j=i then .ref row off else .ptr j off
 | x=>x
def frzA (i:Nat) (row:List A):A→A
 | .fn f caps=>.fn f (caps.map (frz0 i row))
 | x=>frz0 i row x
def frzD (i:Nat) (row:List A):D→D
 | .a x=>.a (frzA i row x)
 | d=>d
@[go_sem] theorem frz_eq (i:Nat) (row:List A) (off:Nat):frz0 i row (.ptr i off)=.ref row off:=if_pos rfl
@[go_sem] theorem frzD_a (i:Nat) (row:List A) (x:A):frzD i row (.a x)=.a (frzA i row x):=rfl
@[go_sem] theorem frzA_fn (i:Nat) (row:List A) (f:FuncId) (l:List A):frzA i row (.fn f l)=.fn f (l.map (frz0 i row)):=rfl
@[go_sem] theorem frzA_ptr (i:Nat) (row:List A) (j o:Nat):frzA i row (.ptr j o)=frz0 i row (.ptr j o):=rfl
@[go_sem] theorem frzA_v (i:Nat) (row:List A) (x:Value):frzA i row (.v x)=.v x:=rfl
theorem M.freeze {P:Program} {C:Cx P} {w:World} {x:Nat→Prop} {bl:List Nat} {st:List Bx} {tm:Array Value} {n:Nat} {e:Nat→D} {i:Nat} {row:List A} (hm:M C ⟨w,x,bl,st⟩ tm n e) (hs:st[i]? = some (.cell row)) (hc:row.all clA=true):M C ⟨w,x,bl,st.set i .gone⟩ tm n fun t=>frzD i row (e t):=by
 have hi:i<st.length:=(List.getElem?_eq_some_iff.1 hs).1
 have hne:∀(j:Nat) (y:Bx),(st.set i .gone)[j]? = some y→y.live=true→j≠i∧st[j]? = some y:=by
  intro j y hj hl
  rw [List.getElem?_set] at hj
  split at hj
  ·rename_i h
   subst h
   injection hj with hj;subst hj;cases hl
  ·rename_i h;exact⟨fun h'=>h h'.symm,hj⟩
 have hmut:∀b,(⟨w,x,bl,st.set i .gone⟩:Vw).mut b→(⟨w,x,bl,st⟩:Vw).mut b:=by
  rintro b (h|⟨j,y,h1,h2,h3⟩)
  ·exact .inl h
  ·exact .inr ⟨j,y,h1,(hne j y h2 h3).2,h3⟩
 have hle:(⟨w,x,bl,st⟩:Vw).Le ⟨w,x,bl,st.set i .gone⟩:=by
  refine⟨by simp,Nat.le_refl _,fun b _ h=>⟨fun _=>rfl,fun h'=>h (hmut b h')⟩,fun j r hj hr=>?_,fun j ver m rows hj hr=>?_,fun j kk wd es hj hr=>?_⟩
  ·exact⟨⟨r,(hne j _ hr rfl).2⟩,rfl⟩
  ·exact⟨ver,m,rows,(hne j _ hr rfl).2,.inr ⟨rfl,rfl,rfl,rfl,fun _ cs _ _ hc=>⟨cs,hc,rfl⟩⟩⟩
  ·exact⟨⟨kk,wd,es,(hne j _ hr rfl).2⟩,rfl⟩
 have hnm:∀b,bl[i]? = some b→¬(⟨w,x,bl,st.set i .gone⟩:Vw).mut b:=by
  rintro b hb (h|⟨j,y,h1,h2,h3⟩)
  ·exact hm.sep b (lm4 hb) h
  ·obtain⟨h4,h5⟩:=hne j y h2 h3
   exact h4 (hm.ok.inj j i b y (.cell row) h1 hb h5 hs h3 rfl)
 refine⟨hm.size,fun t ht=>?_,⟨by simpa using hm.ok.len,hm.ok.lt,hm.ok.xlt,hm.ok.gd,hm.ok.isc,fun j k b y z h1 h2 h3 h4 h5 h6=>?_,fun j r b h1 h2=>?_,fun j ver m rows b h1 h2=>?_,fun j kk wd es b h1 h2=>?_⟩,hm.le.trans hle,hm.fr,hm.low,hm.sep,hm.x0,hm.xk,hm.xg,hm.nx,hm.nx0⟩
 ·have h0:∀{y:A} {u:Value},RepA ⟨w,x,bl,st⟩ y u→RepA ⟨w,x,bl,st.set i .gone⟩ (frz0 i row y) u:=by
   intro y u h
   cases y with
   | ptr j off =>
    unfold frz0
    dsimp only
    split
    ·rename_i hji
     subst hji
     cases h with
     | c _ _ h=>cases h
     | ptr _ _ b hlt hb =>
      have hb:=hb row hs
      obtain⟨cs,T,h1,h2,h3⟩:=hm.ok.cell j row b hs hb
      have:=RepC.ref (w:=w) (mu:=(⟨w,x,bl,st.set j .gone⟩:Vw).mut) row off b 0 (fun k=>cs.getD k Go.undef) (hm.ok.isc j b hb) (hnm b hb) (fun k y hk=>?_) fun k y hk=>((h3 k y hk).cl (List.all_eq_true.1 hc y (lm4 hk))).less hmut
      ·rw [Nat.zero_add] at this;exact .c _ _ this
      ·have hlt2:k<cs.size:=by rw [h2];exact (List.getElem?_eq_some_iff.1 hk).1
       have hcell:w.cell? ⟨b,0+k,none⟩=cs[0+k]?:=by
        rw [World.cell?,h1];rfl
       rw [hcell,Nat.zero_add,Array.getD_eq_getD_getElem?,Array.getElem?_eq_getElem hlt2];rfl
    ·exact h.mono hle
   | v z=>exact h.mono hle
   | nl=>exact h.mono hle
   | sl z=>exact h.mono hle
   | sk z=>exact h.mono hle
   | ref z o=>exact h.mono hle
   | own z o=>exact h.mono hle
   | ep z o p q=>exact h.mono hle
   | mp z=>exact h.mono hle
   | cs z o n=>exact h.mono hle
   | fn f c=>exact h.mono hle
   | fm f c=>exact h.mono hle
  have h1:∀{y:A} {u:Value},RepA ⟨w,x,bl,st⟩ y u→RepA ⟨w,x,bl,st.set i .gone⟩ (frzA i row y) u:=by
   intro y u h
   cases y with
   | fn f caps =>
    have key:∃vs:List Value,u=.func (.func f) #[] vs.toArray∧vs.length=caps.length∧∀(j:Nat) (z:A),caps[j]? = some z→RepA ⟨w,x,bl,st⟩ z (vs.getD j Go.undef):=by
     cases h with
     | c _ _ h=>cases h with
      | fn _ _ vs hl h=>exact⟨vs,rfl,hl,fun j z hz=>.c _ _ (h j z hz)⟩
     | fn _ _ vs hl h=>exact⟨vs,rfl,hl,h⟩
    obtain⟨vs,rfl,hl,hv⟩:=key
    refine .fn f _ vs (by simpa using hl) fun j z hz=>?_
    rw [List.getElem?_map,Option.map_eq_some_iff] at hz
    obtain⟨z0,hz,rfl⟩:=hz
    exact h0 (hv j z0 hz)
   | ptr z o=>exact h0 h
   | v z=>exact h0 h
   | nl=>exact h0 h
   | sl z=>exact h0 h
   | sk z=>exact h0 h
   | ref z o=>exact h0 h
   | own z o=>exact h0 h
   | ep z o p q=>exact h0 h
   | mp z=>exact h0 h
   | cs z o n=>exact h0 h
   | fm f c=>exact h0 h
  have h:=hm.slot t ht
  generalize e t=d at h ⊢
  generalize tm.getD t Go.undef=u at h ⊢
  cases d with
  | a y=>cases h with
   | a _ _ h=>exact .a _ _ (h1 h)
  | _=>exact h.mono hle
 ·exact hm.ok.inj j k b y z h1 h2 (hne j y h3 h5).2 (hne k z h4 h6).2 h5 h6
 ·obtain⟨cs,T,k1,k2,k3⟩:=hm.ok.cell j r b (hne j _ h1 rfl).2 h2
  exact⟨cs,T,k1,k2,fun k y hk=>(k3 k y hk).mono hle⟩
 ·obtain⟨cs,T,c,k1,k2,k3,k4,k5,k6⟩:=hm.ok.arr j ver m rows b (hne j _ h1 rfl).2 h2
  exact⟨cs,T,c,k1,k2,k3,k4,k5,fun k r q y hk hq=>(k6 k r q y hk hq).less hmut⟩
 ·obtain⟨ms,k1,k2,k3⟩:=hm.ok.map j kk wd es b (hne j _ h1 rfl).2 h2
  exact⟨ms,k1,k2,fun q y row hj=>by obtain⟨q1,v,q2,q3⟩:=k3 q y row hj;exact⟨q1,v,q2,q3.mono hle⟩⟩
theorem Sat.freeze {P:Program} {C:Cx P} {w:World} {x:Nat→Prop} {bl:List Nat} {st:List Bx} {a:Act} {n:Nat} {e:Nat→D} {i:Nat} {row:List A} (h:Sat C ⟨w,x,bl,st⟩ a n e) (hs:st[i]? = some (.cell row)) (hc:row.all clA=true):Sat C ⟨w,x,bl,st.set i .gone⟩ a n fun t=>frzD i row (e t):=by
 obtain⟨ms,h1,hm,henv⟩:=h
 refine⟨ms,h1,hm.freeze hs hc,?_⟩
 have h2:EnvE C.E C.on (C.nxm ms) (e 1000000) ⟨w,x,bl,st.set i .gone⟩:=henv.frm ⟨rfl,rfl,rfl,Nat.le_refl _,fun _ _ _=>rfl⟩ (fun b hb=>by
  obtain⟨j,y,h1,h2,h3⟩:=hb
  have h2:(st.set i .gone)[j]? = some y:=h2
  rw [List.getElem?_set] at h2
  split at h2
  ·split at h2
   ·injection h2 with h2;subst h2;cases h3
   ·cases h2
  ·exact .inl ⟨j,y,h1,h2,h3⟩) fun _ hb=>hb
 show EnvE C.E C.on (C.nxm ms) (frzD i row (e 1000000)) _
 generalize e 1000000=g at h2 ⊢
 cases g with
 | a y =>
  cases y with
  | ptr j off =>
   unfold frzD frzA frz0
   dsimp only
   split<;>trivial
  | fn f c=>trivial
  | _=>exact h2
 | _=>exact h2
theorem WP.freeze {P:Program} {C:Cx P} {n:Nat} {c:Code} {Q:Exit→(Nat→D)→List Bx→Prop} {e:Nat→D} {st:List Bx} (i:Nat) (row:List A) (l:List (Nat×D)) (hs:st[i]? = some (.cell row)) (hc:row.all clA=true) (hag:qal (fun t=>frzD i row (e t)) l) (h:WP C n c Q (envL l) (st.set i .gone)):WP C n c Q e st:=by
 intro a w x bl hm
 exact h a w x bl ((hm.freeze hs hc).weaken hag)
def qd8 (row:List A) (off sz l h:Nat):List (List A):=(List.range (h-l)).map fun k=>(row.drop (off+(l+k)*sz)).take sz
section
variable {P:Program} {st:List Bx} {e:Nat→D} {o:Oper}
theorem qgw {V:Vw} {ρ:Operand→Value} {lo hi mx:Option Operand} {len m l h:Nat} (hlo:∀z,lo=some z→RepD V (evO e z) (ρ z)) (hhi:∀z,hi=some z→RepD V (evO e z) (ρ z)) (hmx:∀z,mx=some z→RepD V (evO e z) (ρ z))
  (hs:mx.isSome=true→hi.isSome=true) (h0:bndD e mx len=some m) (h1:bndD e hi m=some h) (h2:lowD e lo h=some l) {w:World} :
  (Instr.sliceBounds false len len (lo.map ρ) (hi.map ρ) (mx.map ρ)).run P w=.ok (l,h,m) w∧m≤len∧h≤m∧l≤h:=by
 have hm:=qde (P:=P) (w:=w) (c:=.slice3Alen) hmx h0 (Nat.le_refl _)
 have hh:=fun c=>qde (P:=P) (w:=w) (c:=c) hhi h1 (Nat.le_refl _)
 have hl:l≤h∧∀c z,lo=some z→(Instr.sliceBound (ρ z) h c).run P w=.ok l w:=by
  cases lo with
  | none=>injection h2 with h2;exact⟨by omega,fun c z hz=>by cases hz⟩
  | some z=>exact⟨(qde (P:=P) (w:=w) (c:=.sliceB) hlo h2 (Nat.le_refl _)).2,fun c z' hz=>by injection hz with hz;subst hz;exact (qde (P:=P) (w:=w) (c:=c) hlo h2 (Nat.le_refl _)).1⟩
 refine⟨?_,hm.2,(hh .sliceB).2,hl.1⟩
 unfold Instr.sliceBounds
 cases mx with
 | none =>
  injection h0 with h0;subst h0
  cases hi with
  | none =>
   injection h1 with h1;subst h1
   cases lo with
   | none=>injection h2 with h2;subst h2;rfl
   | some z=>simp only [Option.map_none,Option.map_some,Sem.run_bind,Sem.run_pure,Result.andThen_ok,Option.isSome_none,Bool.false_eq_true,if_false,hl.2 _ z rfl]
  | some y =>
   have hy:∀c,(Instr.sliceBound (ρ y) len c).run P w=.ok h w:=fun c=>(hh c).1
   cases lo with
   | none=>injection h2 with h2;subst h2;simp only [Option.map_none,Option.map_some,Sem.run_bind,Sem.run_pure,Result.andThen_ok,Option.isSome_none,Bool.false_eq_true,if_false,hy]
   | some z=>simp only [Option.map_none,Option.map_some,Sem.run_bind,Sem.run_pure,Result.andThen_ok,Option.isSome_none,Bool.false_eq_true,if_false,hy,hl.2 _ z rfl]
 | some t =>
  have ht:(Instr.sliceBound (ρ t) len .slice3Alen).run P w=.ok m w:=hm.1
  cases hi with
  | none=>cases hs rfl
  | some y =>
   have hy:∀c,(Instr.sliceBound (ρ y) m c).run P w=.ok h w:=fun c=>(hh c).1
   cases lo with
   | none=>injection h2 with h2;subst h2;simp only [Option.map_none,Option.map_some,Sem.run_bind,Sem.run_pure,Result.andThen_ok,Option.isSome_some,Bool.false_eq_true,if_false,if_true,ht,hy]
   | some z=>simp only [Option.map_none,Option.map_some,Sem.run_bind,Sem.run_pure,Result.andThen_ok,Option.isSome_some,Bool.false_eq_true,if_false,if_true,ht,hy,hl.2 _ z rfl]
theorem OpJ.slice_arr {T:TypeId} {x:Operand} {lo hi mx:Option Operand} {row:List A} {off len sz l h m:Nat} (ho:o.op=.slice T x lo hi mx) (hx:evO e x=.a (.ref row off)) (ha:ar P T=some (len,sz)) (hs:mx.isSome=true→hi.isSome=true)
  (h0:bndD e mx len=some m) (h1:bndD e hi m=some h) (h2:lowD e lo h=some l) (hr:off+h*sz≤row.length):OpJ P st e o (.a (.sl (qd8 row off sz l h))):=by
 intro ρ V _ _ hu
 rw [ho] at hu
 have hx1:=hu x (by simp [qad,Op.operands])
 rw [hx] at hx1
 have hlo:∀z,lo=some z→RepD V (evO e z) (ρ z):=fun z hz=>hu z (by subst hz;simp [qad,Op.operands])
 have hhi:∀z,hi=some z→RepD V (evO e z) (ρ z):=fun z hz=>hu z (by subst hz;simp [qad,Op.operands])
 have hmx:∀z,mx=some z→RepD V (evO e z) (ρ z):=fun z hz=>hu z (by subst hz;simp [qad,Op.operands])
 simp only [execOp,ho]
 generalize ρ x=u at *
 unfold ar at ha
 split at ha
 ·rename_i len' el hel
  cases hinfo:P.info? el with
  | none=>simp [hinfo] at ha
  | some inf =>
   simp only [hinfo,Option.map_some,Option.some.injEq,Prod.mk.injEq] at ha
   obtain⟨rfl,rfl⟩:=ha
   obtain⟨g1,g2,g3,g4⟩:=qgw (P:=P) (w:=V.w) hlo hhi hmx hs h0 h1 h2
   cases hx1.c_inv rfl with
   | ref _ _ b o' val hb hm hv hrr =>
    have main:(Instr.sliceAt T (.pointer (some ⟨b,o'+off,none⟩)) (lo.map ρ) (hi.map ρ) (mx.map ρ)).run P V.w=.ok (.slice (some (if m=l then ⟨b,o'+off,none⟩ else (⟨b,o'+off,none⟩:Addr).add (l*inf.size))) (h-l) (m-l)) V.w:=by
     simp only [Instr.sliceAt,Sem.run_bind,run_underlying hel,Result.andThen_ok,Instr.sureAddr,Sem.run_pure,g1,sizeOf,typeInfo,run_program,hinfo]
    simp only [Sem.run_bind,main,Result.andThen_ok,Sem.run_pure]
    by_cases hlh:h-l=0
    ·have:qd8 row off inf.size l h=[]:=by unfold qd8;rw [hlh];rfl
     rw [this,hlh]
     exact .val (.a _ _ (.c _ _ (.sl0 _ _)))
    ·have hml:m≠l:=by omega
     rw [if_neg hml]
     have hlen:(qd8 row off inf.size l h).length=h-l:=by unfold qd8;simp
     have hget:∀i r,(qd8 row off inf.size l h)[i]? = some r→i<h-l∧r=(row.drop (off+(l+i)*inf.size)).take inf.size:=fun i r hi=>by
      unfold qd8 at hi
      rw [List.getElem?_map,Option.map_eq_some_iff] at hi
      obtain⟨k,hk,rfl⟩:=hi
      obtain⟨h5,h6⟩:=List.getElem?_eq_some_iff.1 hk
      rw [List.length_range] at h5
      rw [List.getElem_range] at h6
      subst h6
      exact⟨h5,rfl⟩
     have hin:∀i,i<h-l→off+(l+i)*inf.size+inf.size≤row.length:=fun i hi=>by
      have:(l+i+1)*inf.size≤h*inf.size:=Nat.mul_le_mul_right _ (by omega)
      rw [Nat.add_mul,Nat.one_mul] at this
      omega
     have hat:∀i r j y,(qd8 row off inf.size l h)[i]? = some r→r[j]? = some y→row[off+(l+i)*inf.size+j]? = some y:=fun i r j y hi hj=>by
      obtain⟨h5,rfl⟩:=hget i r hi
      rw [List.getElem?_take] at hj
      split at hj
      ·rw [List.getElem?_drop] at hj;exact hj
      ·cases hj
     have:=RepC.sl (w:=V.w) (mu:=V.mut) (qd8 row off inf.size l h) inf.size b (o'+off+l*inf.size) (m-l) (fun i j=>val (off+(l+i)*inf.size+j)) hb hm (by rw [hlen];omega) (fun i r hi=>?_) (fun i r j y hi hj=>?_) (fun i r j y hi hj=>hrr _ y (hat i r j y hi hj))
     ·rw [hlen] at this
      rw [show (⟨b,o'+off,none⟩:Addr).add (l*inf.size)=⟨b,o'+off+l*inf.size,none⟩ by simp [Addr.add_mid]]
      exact .val (.a _ _ (.c _ _ this))
     ·obtain⟨h5,rfl⟩:=hget i r hi
      have:=hin i h5
      simp;omega
     ·have:=hv _ y (hat i r j y hi hj)
      rw [Nat.add_mul] at this
      rw [show o'+off+l*inf.size+i*inf.size+j=o'+(off+(l*inf.size+i*inf.size)+j) by omega]
      rw [this,Nat.add_mul]
 ·cases ha
theorem RS.sliceA {C:Cx P} {ops:Array Oper} {r:List Oper} {dst:Option Nat} {ty:TypeId} {pos:String} {after:Array Edge} {guard:Option (Nat×Bool)} {K:(Nat→D)→List Bx→Prop} {T:TypeId} {x:Operand} {lo hi mx:Option Operand} {row:List A} {off len sz l h m:Nat} {rows:List (List A)} (hx:evO e x=.a (.ref row off)) (ha:ar P T=some (len,sz)) (hs:(!mx.isSome||hi.isSome)=true)
  (h0:bndD e mx len=some m) (h1:bndD e hi m=some h) (h2:lowD e lo h=some l) (hr:off+h*sz≤row.length) (hc:qd8 row off sz l h=rows) (k:RS C ops r (putE e dst (.a (.sl rows))) st K):RS C ops (⟨dst,.slice T x lo hi mx,ty,pos,after,guard⟩::r) e st K :=
 .inl ⟨.a (.sl rows),st,.inr ⟨rfl,.of (hc▸.slice_arr rfl hx ha (fun h=>by rw [h] at hs;exact hs) h0 h1 h2 hr)⟩,k⟩
end
section
variable {P:Program} {st:List Bx} {e:Nat→D} {dst:Option Nat} {ty:TypeId} {pos:String} {after:Array Edge} {guard:Option (Nat×Bool)} {T:TypeId} {x m:Operand} {lo hi mx:Option Operand} {row:List A} {off:Nat}
@[go_sem] theorem evQ_slice3:evQ P st e ⟨dst,.slice T x lo hi (some m),ty,pos,after,guard⟩=none:=rfl
@[go_sem] theorem evG_slice:evG P st e ⟨dst,.slice T x lo hi mx,ty,pos,after,guard⟩=none:=rfl
@[go_sem] theorem slD_ref:slD P T e lo hi (.a (.ref row off))=none:=rfl
end
end Go.Proofs.YthkojpnjdpbcgaaGreatDoor
