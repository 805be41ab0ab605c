/- The document's shape of expressions, and what fits, on plain data. Conditions: at most 2^20 of anything. -/
import Derived.Test.YthkojpnjdpbcgaaGreatDoorMl31
import Derived.Test.YthkojpnjdpbcgaaGreatDoorMl24
import Derived.Test.YthkojpnjdpbcgaaGreatDoorMl34
import Derived.Test.YthkojpnjdpbcgaaGreatDoorMl25
import Derived.Test.YthkojpnjdpbcgaaGreatDoorMl35
import Derived.Test.YthkojpnjdpbcgaaGreatDoorMl22
set_option linter.unusedVariables false
set_option maxRecDepth 100000
set_option maxHeartbeats 8000000
set_option linter.unusedSimpArgs false
namespace Go.Proofs.YthkojpnjdpbcgaaGreatDoor
open Go.RowKit
theorem thisC (c:Cs):(c.params.length=0∧qbl c=[(2,0)]∧qe4 c=⟨2,c.name,0,(2,0),(0,0),(0,0),(0,0)⟩)∨(c.params.length=1∧qbl c=[(2,0),(3,1)]∧qe4 c=⟨2,c.name,1,(2,0),(3,1),(0,0),(0,0)⟩)∨(c.params.length=2∧qbl c=[(2,0),(3,1),(3,2)]∧qe4 c=⟨2,c.name,2,(2,0),(3,1),(3,2),(0,0)⟩)∨(3≤c.params.length∧(∃r,qbl c=(2,0)::(3,1)::(3,2)::(3,3)::r)∧qe4 c=⟨2,c.name,3,(2,0),(3,1),(3,2),(3,3)⟩):=by
 unfold qe4 qfa qbl
 generalize c.params.length=n
 match n with
 | 0=>exact Or.inl ⟨rfl,rfl,rfl⟩
 | 1=>exact Or.inr (Or.inl ⟨rfl,rfl,rfl⟩)
 | 2=>exact Or.inr (Or.inr (Or.inl ⟨rfl,rfl,rfl⟩))
 | k+3 =>
  refine Or.inr (Or.inr (Or.inr ⟨by omega,⟨(List.range k).map fun i=>(3,((i+3+1:Nat):Int)),?_⟩,?_⟩))
  ·simp [List.range_succ_eq_map,Function.comp_def];intros;omega
  ·rw [show min (k+3+1) 4=4 by omega];simp [List.range_succ_eq_map]
theorem owIx (l:List (Int×Int)) (i:Nat) (q:Int×Int) (h:l[i]? = some q) (z:Int) (hz:z=(i:Int)):∀q2,ixD (some 2) q2 (.a (.sl (l.map owAt))) (.a (.v (.int .i64 z)))=some (.a (.ref (owAt q) 0)):=fun q2=>by subst hz;exact qaq rfl (by rw [List.getElem?_map,h];rfl) (by simp only [go_sem])
theorem pr18This (c:Cs) (hcp:c.params.length≤1048576):qaa Tryz.prog 33 [.r (Cs.at c)] (.r (Ty.at (qe4 c))):=by
 have hq:=pr15This c hcp
 have z1:=zrTy
 have w0:owAt (2,0)=[.v (.int .i64 2),.v (.int .i64 0)]:=rfl
 have w1:owAt (3,1)=[.v (.int .i64 3),.v (.int .i64 1)]:=rfl
 have w2:owAt (3,2)=[.v (.int .i64 3),.v (.int .i64 2)]:=rfl
 have w3:owAt (3,3)=[.v (.int .i64 3),.v (.int .i64 3)]:=rfl
 rcases thisC c with ⟨hn,hL,hT⟩|⟨hn,hL,hT⟩|⟨hn,hL,hT⟩|⟨hn,⟨r,hL⟩,hT⟩
 ·rw [hT]
  have hm:min (3:Int) (c.params.length:Int)=0:=by omega
  have x0:=owIx (qbl c) 0 (2,0) (by rw [hL];rfl) 0 rfl
  generalize qbl c=L at hq x0
  refine qaa.go Tryz.func33 rfl Tryz.ntmps33 rfl rfl rfl (fun C hro=>?_)
  have fx:=trivial
  replace fx:=ai15 hm (ai15 x0 (ai15 w0 (ai15 z1 trivial)))
  repeat' (first|refine stp [0,1,2,3,4,5,18] ?_|(refine stc (r1:=by exact hq) (r2:=?_);refine rnx ?_)|refine WP.loop_in ?_|refine WPIn.unroll ?_|fail)
  all_goals first|rfl|trace_state
 ·rw [hT]
  have hm:min (3:Int) (c.params.length:Int)=1:=by omega
  have x0:=owIx (qbl c) 0 (2,0) (by rw [hL];rfl) 0 rfl
  have x1:=owIx (qbl c) 1 (3,1) (by rw [hL];rfl) 1 rfl
  generalize qbl c=L at hq x0 x1
  refine qaa.go Tryz.func33 rfl Tryz.ntmps33 rfl rfl rfl (fun C hro=>?_)
  have fx:=trivial
  replace fx:=ai15 hm (ai15 x0 (ai15 x1 (ai15 w0 (ai15 w1 (ai15 z1 trivial)))))
  repeat' (first|refine stp [0,1,2,3,4,5,18] ?_|(refine stc (r1:=by exact hq) (r2:=?_);refine rnx ?_)|refine WP.loop_in ?_|refine WPIn.unroll ?_|fail)
  all_goals first|rfl|trace_state
 ·rw [hT]
  have hm:min (3:Int) (c.params.length:Int)=2:=by omega
  have x0:=owIx (qbl c) 0 (2,0) (by rw [hL];rfl) 0 rfl
  have x1:=owIx (qbl c) 1 (3,1) (by rw [hL];rfl) 1 rfl
  have x2:=owIx (qbl c) 2 (3,2) (by rw [hL];rfl) 2 rfl
  generalize qbl c=L at hq x0 x1 x2
  refine qaa.go Tryz.func33 rfl Tryz.ntmps33 rfl rfl rfl (fun C hro=>?_)
  have fx:=trivial
  replace fx:=ai15 hm (ai15 x0 (ai15 x1 (ai15 x2 (ai15 w0 (ai15 w1 (ai15 w2 (ai15 z1 trivial)))))))
  repeat' (first|refine stp [0,1,2,3,4,5,18] ?_|(refine stc (r1:=by exact hq) (r2:=?_);refine rnx ?_)|refine WP.loop_in ?_|refine WPIn.unroll ?_|fail)
  all_goals first|rfl|trace_state
 ·rw [hT]
  have hm:min (3:Int) (c.params.length:Int)=3:=by omega
  have x0:=owIx (qbl c) 0 (2,0) (by rw [hL];rfl) 0 rfl
  have x1:=owIx (qbl c) 1 (3,1) (by rw [hL];rfl) 1 rfl
  have x2:=owIx (qbl c) 2 (3,2) (by rw [hL];rfl) 2 rfl
  have x3:=owIx (qbl c) 3 (3,3) (by rw [hL];rfl) 3 rfl
  generalize qbl c=L at hq x0 x1 x2 x3
  refine qaa.go Tryz.func33 rfl Tryz.ntmps33 rfl rfl rfl (fun C hro=>?_)
  have fx:=trivial
  replace fx:=ai15 hm (ai15 x0 (ai15 x1 (ai15 x2 (ai15 x3 (ai15 w0 (ai15 w1 (ai15 w2 (ai15 w3 (ai15 z1 trivial)))))))))
  repeat' (first|refine stp [0,1,2,3,4,5,18] ?_|(refine stc (r1:=by exact hq) (r2:=?_);refine rnx ?_)|refine WP.loop_in ?_|refine WPIn.unroll ?_|fail)
  all_goals first|rfl|trace_state
theorem pr18Type (c:Cs) (m:Me) (s:List UInt8) (hc:c.params.length≤1048576) (ha:m.params.length≤1048576) (hb:m.locals.length≤1048576):qaa Tryz.prog 13 [.r (Cs.at c),.r (Me.at m),.a (.v (.string (bs s)))] (.t [.r (Ty.at (qak c m s).1),.a (.v (.bool (qak c m s).2))]):=by
 have z1:=zrTy
 cases hT:(s==qc6) with
 | true =>
  have hts:(s==[116,104,105,115])=true:=hT
  rw [show qak c m s=(qe4 c,true) by unfold qak;rw [if_pos hT]]
  have hq:=pr18This c hc
  generalize qe4 c=T at hq ⊢
  dsimp only
  refine qaa.go Tryz.func13 rfl Tryz.ntmps13 rfl rfl rfl (fun C hro=>?_)
  have fx:=trivial
  replace fx:=ai15 hts trivial
  repeat' (first|refine stp [0,1,2,3,4,6,7,8,10,17] ?_|(refine stc (r1:=by exact hq) (r2:=?_);refine rnx ?_)|fail)
  all_goals rfl
 | false =>
  have hts:(s==[116,104,105,115])=false:=hT
  rcases qij m s with hp|⟨j,z,hz,_,hp⟩
  ·have hd:decide (qaz m s<0)=true:=decide_eq_true (by omega)
   rw [show qak c m s=(Ty.zero,false) by unfold qak;rw [if_neg (by rw [hT];exact Bool.false_ne_true),if_pos (by omega)]]
   refine qaa.go Tryz.func13 rfl Tryz.ntmps13 rfl rfl rfl (fun C hro=>?_)
   have fx:=trivial
   replace fx:=ai15 hts (ai15 hd trivial)
   repeat' (first|refine stp [0,1,2,3,4,6,7,8,10,17] ?_|(refine stc (r1:=by exact qkp m s ha hb) (r2:=?_);refine rnx ?_)|fail)
   all_goals rfl
  ·have hd:decide ((j:Int)<0)=false:=decide_eq_false (by omega)
   have hjx:∀q2,ixD (some 13) q2 (.a (.sl ((m.params++m.locals).map Vr.at))) (.a (.v (.int .i64 (j:Int))))=some (.a (.ref (Vr.at z) 0)):=fun q2=>qaq rfl (by rw [List.getElem?_map,hz];rfl) (by simp only [go_sem])
   have hma:List.map Vr.at m.params++List.map Vr.at m.locals=(m.params++m.locals).map Vr.at:=List.map_append.symm
   rw [show qak c m s=(z.ty,true) by unfold qak;rw [if_neg (by rw [hT];exact Bool.false_ne_true),if_neg (by omega),hp,Int.toNat_natCast,hz];rfl]
   refine qaa.go Tryz.func13 rfl Tryz.ntmps13 rfl rfl rfl (fun C hro=>?_)
   have fx:=trivial
   replace fx:=ai15 hts (ai15 hp (ai15 hd (ai15 hjx trivial)))
   repeat' (first|refine stp [0,1,2,3,4,6,7,8,10,17] ?_|(refine stc (r1:=by first|exact qkp m s ha hb|exact qm0 m ha hb) (r2:=?_);refine rnx ?_)|fail)
   all_goals rfl
structure Fs where
 cls:List UInt8
 var:Vr
def Fs.at:Fs→List A
 | ⟨cls,var⟩=>[.v (.string (bs cls))]++Vr.at var
section
variable (s:Fs)
theorem Fs.row:Fs.at s=[.v (.string (bs s.cls)),.v (.string (bs s.var.name)),.v (.int .i64 s.var.ty.kind),.v (.string (bs s.var.ty.cls)),.v (.int .i64 s.var.ty.n),.v (.int .i64 s.var.ty.o0.1),.v (.int .i64 s.var.ty.o0.2),.v (.int .i64 s.var.ty.o1.1),.v (.int .i64 s.var.ty.o1.2),.v (.int .i64 s.var.ty.o2.1),.v (.int .i64 s.var.ty.o2.2),.v (.int .i64 s.var.ty.o3.1),.v (.int .i64 s.var.ty.o3.2),.v (.int .i64 s.var.at_)]:=by obtain⟨cls,⟨var_name,⟨var_ty_kind,var_ty_cls,var_ty_n,var_ty_o0,var_ty_o1,var_ty_o2,var_ty_o3⟩,var_at_⟩⟩:=s;simp only [Fs.at,Vr.at,Ty.at];rfl
@[go_sem] theorem Fs.len:(Fs.at s).length=14:=by rw [Fs.row];rfl
@[go_sem] theorem Fs.cl:(Fs.at s).all clA=true:=by rw [Fs.row];rfl
@[go_sem] theorem Fs.see (st:List Bx):(Fs.at s).map (seeA st)=Fs.at s:=by rw [Fs.row];rfl
@[go_sem] theorem Fs.nr (m:Nat):(Fs.at s).all (nrA m)=true:=by rw [Fs.row];rfl
@[go_sem] theorem Fs.w:qae (some 14) (Fs.at s) 0=some (.r (Fs.at s)):=qbp (Fs.len s)
@[go_sem] theorem Fs.pw (t:Fs):qah (Fs.at s) 0 (Fs.at t)=Fs.at t:=qbv (by rw [Fs.len,Fs.len])
@[go_sem] theorem Fs.g1:qae none (Fs.at s) 1=some (.a (.v (.string (bs s.var.name)))):=by rw [Fs.row];rfl
@[go_sem] theorem Fs.s2:qae (some 11) (Fs.at s) 2=some (.r (Ty.at s.var.ty)):=by obtain⟨_,⟨_,⟨_,_,_,_,_,_,_⟩,_⟩⟩:=s;simp only [Fs.at,Vr.at,Ty.at];rfl
end
def Fs.zero:Fs:=⟨[],Vr.zero⟩
theorem Fs.z0:[A.v (.string ⟨#[]⟩),.v (.string ⟨#[]⟩),.v (.int .i64 0),.v (.string ⟨#[]⟩),.v (.int .i64 0),.v (.int .i64 0),.v (.int .i64 0),.v (.int .i64 0),.v (.int .i64 0),.v (.int .i64 0),.v (.int .i64 0),.v (.int .i64 0),.v (.int .i64 0),.v (.int .i64 0)]=Fs.at Fs.zero:=by unfold Fs.zero;simp only [Fs.at,Vr.zero,Vr.at,Ty.zero,Ty.at];rfl
def mkF (c:Cs) (v:Vr):Fs:=⟨c.name,v⟩
def fsOf (p:List Cs) (i:Int):List Fs:=((p[i.toNat]?).map fun c=>c.fields.map (mkF c)).getD []
def allT (p:List Cs) (l:List Int) (t:Nat):List Fs:=(l.reverse.take t).flatMap (fsOf p)
def allF (p:List Cs) (s:List UInt8):List Fs:=(qbs p s).reverse.flatMap (fsOf p)
theorem qnr (p:List Cs) (l:List Int):allT p l l.length=l.reverse.flatMap (fsOf p):=by unfold allT;rw [List.take_of_length_le (by simp)]
theorem allT_succ {p:List Cs} {l:List Int} {t j:Nat} {c:Cs} (h:l[l.length-1-t]? = some (j:Int)) (ht:t<l.length) (hj:p[j]? = some c):allT p l (t+1)=allT p l t++c.fields.map (mkF c):=by
 have hr:l.reverse[t]? = some (j:Int):=by rw [List.getElem?_reverse ht];exact h
 unfold allT
 rw [List.take_add_one,hr,List.flatMap_append]
 congr 1
 simp [fsOf,hj]
def wsum (f:Cs→Nat) (p:List Cs):List Nat→Nat
 | []=>0
 | i::m=>((p[i]?).map f).getD 0+wsum f p m
def dnL:List Nat→List Nat
 | []=>[]
 | 0::r=>dnL r
 | (k+1)::r=>k::dnL r
theorem ql7:∀(m:List Nat) (k:Nat),k∈dnL m→k+1∈m
 | [],k,h=>by simp [dnL] at h
 | 0::r,k,h=>by rw [dnL] at h;exact List.mem_cons_of_mem _ (ql7 r k h)
 | (j+1)::r,k,h=>by
  rw [dnL,List.mem_cons] at h
  rcases h with rfl|h
  ·exact List.mem_cons_self
  ·exact List.mem_cons_of_mem _ (ql7 r k h)
theorem qhl:∀(m:List Nat),m.Nodup→(dnL m).Nodup
 | [],_=>by rw [dnL];exact List.nodup_nil
 | 0::r,h=>by rw [dnL];exact qhl r (List.nodup_cons.1 h).2
 | (j+1)::r,h=>by
  rw [dnL]
  exact List.nodup_cons.2 ⟨fun hm=>(List.nodup_cons.1 h).1 (ql7 r j hm),qhl r (List.nodup_cons.1 h).2⟩
theorem wsum_no (f:Cs→Nat) (c:Cs) (r:List Cs):∀m:List Nat,0∉m→wsum f (c::r) m=wsum f r (dnL m)
 | [],_=>rfl
 | 0::m,h=>absurd List.mem_cons_self h
 | (k+1)::m,h=>by rw [wsum,dnL,wsum,List.getElem?_cons_succ,wsum_no f c r m fun h'=>h (List.mem_cons_of_mem _ h')]
theorem qmh (f:Cs→Nat) (c:Cs) (r:List Cs):∀m:List Nat,m.Nodup→wsum f (c::r) m≤f c+wsum f r (dnL m)
 | [],_=>Nat.zero_le _
 | 0::m,h=>by
  rw [wsum,dnL,wsum_no f c r m (List.nodup_cons.1 h).1];simp
 | (k+1)::m,h=>by
  have:=qmh f c r m (List.nodup_cons.1 h).2
  rw [wsum,dnL,wsum,List.getElem?_cons_succ];omega
theorem wsum_le (f:Cs→Nat):∀(p:List Cs) (m:List Nat),m.Nodup→wsum f p m≤qaf f p
 | [],m,_=>by
  have:∀m:List Nat,wsum f [] m=0:=by intro m;induction m with|nil=>rfl|cons x r ih=>rw [wsum,ih];rfl
  rw [this];exact Nat.zero_le _
 | c::r,m,h=>by
  have h1:=qmh f c r m h
  have h2:=wsum_le f r (dnL m) (qhl m h)
  have h3:qaf f (c::r)=f c+qaf f r:=by first|rfl|simp [qaf]
  omega
theorem qnq {p:List Cs} {l:List Int} (h:PlN p l) (t:Nat):(allT p l t).length≤qaf (fun c=>c.fields.length) p:=by
 have key:∀m:List Int,(m.flatMap (fsOf p)).length=wsum (fun c=>c.fields.length) p (m.map Int.toNat):=by
  intro m
  induction m with
  | nil=>rfl
  | cons x r ih =>
   rw [List.flatMap_cons,List.length_append,ih,List.map_cons,wsum]
   congr 1
   unfold fsOf
   cases p[x.toNat]?<;>simp
 unfold allT
 rw [key]
 refine wsum_le _ p _ ?_
 have hs:(List.take t l.reverse).Nodup:=List.Nodup.sublist (List.take_sublist t _) (List.pairwise_reverse.2 (List.Pairwise.imp (fun q=>Ne.symm q) h.1))
 refine List.pairwise_map.2 (List.Pairwise.imp_of_mem (fun {a b} ha hb hab=>?_) hs)
 obtain⟨k1,_,rfl,_⟩:=h.2 a (List.mem_reverse.1 (List.mem_of_mem_take ha))
 obtain⟨k2,_,rfl,_⟩:=h.2 b (List.mem_reverse.1 (List.mem_of_mem_take hb))
 intro he
 simp at he
 exact hab (by rw [he])
structure WayL (α:Type) (n:Nat) (Q:Nat→List α) where
 k:Nat
 q:List α
 v:Option Nat
 hk:k≤n
 hq:q=Q k
 hv:v=none→q=[]
def ouE (i:Nat):Option Nat→D
 | none=>.a .nl
 | some v=>.a (.own i v)
def ouC {α:Type} (n:Nat) (enc:α→List A) (q:List α):Option Nat→List Bx
 | none=>[]
 | some v=>[.arr v n (q.map enc)]
set_option maxRecDepth 100000
theorem allF_len (p:List Cs) (s:List UInt8):(allF p s).length≤qaf (fun c=>c.fields.length) p:=by
 have:=qnq (qdd p s) (qbs p s).length
 rwa [qnr] at this
def findF (p:List Cs) (s n:List UInt8):Int:=ixOf (fun f:Fs=>f.var.name==n) (allF p s) 0
def qa4 (p:List Cs) (s n:List UInt8):Fs×Bool:=if findF p s n<0 then (Fs.zero,false) else (((allF p s)[(findF p s n).toNat]?).getD Fs.zero,true)
theorem pIxSlot (q:Fs→Bool) (l:List Fs) (fn:FuncId) (caps:List A) (hcl:caps.all clA=true) (hn:l.length≤1048576) (hf:∀k∈l,qaa Tryz.prog fn (.r (Fs.at k)::caps.map D.a) (.a (.v (.bool (q k))))):qaa Tryz.prog 174 [.a (.sl (l.map Fs.at)),.a (.fn fn caps)] (.a (.v (.int .i64 (ixOf q l 0)))):=by
 have hcd:=qhp hcl
 have hld:=qhq hcl
 refine qaa.go Tryz.func174 rfl Tryz.ntmps174 rfl rfl rfl (fun C hro=>?_)
 have fx:=trivial
 repeat' (first|refine stp [0,1,4,5,7,8,9,16] ?_|fail)
 refine WP.loop (α:={ k:Nat // k≤l.length∧(l.take k).any q=false }) (fun y=>[(0,.a (.sl (l.map Fs.at))),(1,.a (.fn fn caps)),(7,.a (.v (.int .i64 (l.length:Nat)))),(8,.a (.v (.int .i64 (y.1:Nat))))]) (fun _=>[]) (fun y=>l.length-y.1) ⟨0,by omega,rfl⟩ (by simp only [qal,go_sem,simprocAttr];first|done|rfl) rfl ?_
 rintro⟨k,hk,hinv⟩
 dsimp only
 by_cases hlt:k<l.length
 ·have hlt2:decide ((k:Int)<((l.length:Nat):Int))=true:=decide_eq_true (by omega)
  obtain⟨z,hz⟩:∃z,l[k]? = some z:=⟨_,List.getElem?_eq_getElem hlt⟩
  have hzm:z∈l:=lm4 hz
  have hzt:=qao hz
  have hix:∀q2,ixD (some 14) q2 (.a (.sl (l.map Fs.at))) (.a (.v (.int .i64 (k:Int))))=some (.a (.ref (Fs.at z) 0)):=fun q2=>qaq rfl (by rw [List.getElem?_map,hz];rfl) (by simp only [go_sem])
  have hw:k<9223372036854775807:=by omega
  have hwu:=qap (k:=k) (by omega)
  replace fx:=ai15 hlt2 (ai15 hix (ai15 hwu (ai15 hcd (ai15 hld trivial))))
  repeat' (first|refine stp [0,1,4,5,7,8,9,16] ?_|(refine stc (r1:=by exact hf z hzm) (r2:=?_);refine rnx ?_)|refine WP.cn (fun hc=>?_) (fun hc=>?_)|fail)
  ·rw [qd5 q l k 0 z hz hinv hc,Nat.zero_add]
  ·refine⟨⟨k+1,by omega,by rw [hzt,List.any_append,hinv];simpa using hc⟩,by dsimp only;omega,?_,rfl⟩
   simp only [qal,go_sem,simprocAttr]
 obtain rfl:k=l.length:=by omega
 rw [List.take_length] at hinv
 have hlt2:decide ((l.length:Int)<(l.length:Int))=false:=decide_eq_false (by omega)
 replace fx:=ai15 hlt2 trivial
 repeat' (first|refine stp [0,1,4,5,7,8,9,16] ?_|fail)
 rw [qb8 q l 0 hinv]
theorem pfNamed1 (f:Fs) (s:List UInt8):qaa Tryz.prog 207 [.r (Fs.at f),.a (.ref [.v (.string (bs s))] 0)] (.a (.v (.bool (f.var.name==s)))):=by
 refine qaa.go Tryz.func207 rfl Tryz.ntmps207 rfl rfl rfl (fun C hro=>?_)
 have fx:=trivial
 repeat' (first|refine stp [0,1,2,3] ?_|fail)
 rfl
theorem pfNamed (s:List UInt8):DM Tryz.prog 175 [.a (.v (.string (bs s)))] [] (.a (.fn 207 [.ptr 0 0])) [.cell [.v (.string (bs s))]]:=by
 refine DM.intro Tryz.func175 rfl Tryz.ntmps175 rfl rfl rfl (by simp only [go_sem,simprocAttr]) (fun V0 Kb Nx=>?_)
 have fx:=trivial
 repeat' (first|refine stp [0,1,2] ?_|fail)
 exact qar ⟨rfl,_,rfl⟩
end Go.Proofs.YthkojpnjdpbcgaaGreatDoor
