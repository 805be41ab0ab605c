/- Maps of a function's own, on plain data. No program in sight. Conditions: none. -/
import Derived.Test.YthkojpnjdpbcgaaGreatDoorMg5
import Derived.Test.YthkojpnjdpbcgaaGreatDoorMg9
import Derived.Test.YthkojpnjdpbcgaaGreatDoorMg11
import Derived.Test.YthkojpnjdpbcgaaGreatDoorMg10
set_option linter.unusedVariables false
set_option maxRecDepth 100000
set_option maxHeartbeats 8000000
set_option linter.unusedSimpArgs false
namespace Go.Proofs.YthkojpnjdpbcgaaGreatDoor
open Go.RowKit
theorem qd8 {α β γ:Type} (r:Result α) (f:α→World→Result β) (g:β→World→Result γ):(r.andThen f).andThen g=r.andThen fun a w=>(f a w).andThen g:=by cases r<;>rfl
/-! ### Keys -/
def kEq:Value→Value→Bool
 | .string a,.string b=>a.toList==b.toList
 | .int _ a,.int _ b=>a==b
 | _,_=>false
theorem ba_eqb (a b:ByteArray):(a==b)=(a.toList==b.toList):=by
 rw [qi0]
 have h1:(a==b)=(a.data==b.data):=rfl
 rw [h1]
 cases h:(a.data==b.data)
 ·symm;rw [Bool.eq_false_iff];intro h';rw [beq_iff_eq] at h'
  rw [beq_eq_false_iff_ne] at h;exact h (Array.ext' h')
 ·rw [beq_iff_eq] at h;rw [h];symm;exact beq_self_eq_true _
theorem kEq_eq {k:KS} {a b:Value} (ha:k.ok a=true) (hb:k.ok b=true) (h:kEq a b=true):a=b:=by
 cases k with
 | str =>
  cases a<;>first|(cases ha;done)|skip
  cases b<;>first|(cases hb;done)|skip
  simp only [kEq,qi0,beq_iff_eq] at h
  rename_i s t
  cases s;cases t
  congr 1;congr 1;exact Array.ext' h
 | int q =>
  cases a<;>first|(cases ha;done)|skip
  cases b<;>first|(cases hb;done)|skip
  simp only [KS.ok,decide_eq_true_iff] at ha hb
  simp only [kEq,beq_iff_eq] at h
  rw [h,←ha,hb]
theorem same_kEq {k:KS} {d:TypeDesc} {a b:Value} (hd:match k with|.str=>d=.string|.int q=>d=.int q) (ha:k.ok a=true) (hb:k.ok b=true):Instr.sameNow d a b=some (kEq a b):=by
 cases k with
 | str =>
  subst hd
  cases a<;>first|(cases ha;done)|skip
  cases b<;>first|(cases hb;done)|skip
  simp only [Instr.sameNow,kEq,ba_eqb]
 | int q =>
  subst hd
  cases a<;>first|(cases ha;done)|skip
  cases b<;>first|(cases hb;done)|skip
  simp only [KS.ok,decide_eq_true_iff] at ha hb
  simp only [Instr.sameNow,kEq]
  rw [if_pos (ha.symm.trans hb)]
theorem qjd {k:KS} {a:Value} (ha:k.ok a=true):Instr.sameBits 10000 a a=true:=by
 cases k with
 | str=>cases a<;>first|(cases ha;done)|(simp only [Instr.sameBits,ba_eqb];exact beq_self_eq_true _)
 | int q=>cases a<;>first|(cases ha;done)|(simp only [Instr.sameBits];simp)
/-! ### Entries -/
def mix (es:List (Value×List A)) (kv:Value):Nat:=es.findIdx fun p=>kEq kv p.1
def mhas (es:List (Value×List A)) (kv:Value):Bool:=es.any fun p=>kEq kv p.1
def mval (es:List (Value×List A)) (kv:Value) (z:List A):List A:=((es.find? fun p=>kEq kv p.1).map (·.2)).getD z
def ment (es:List (Value×List A)) (kv:Value) (z:List A):List (Value×List A):=if mhas es kv then es else es++[(kv,z)]
def qb7:List (Value×List A)→Nat→List A→List (Value×List A)
 | [],_,_=>[]
 | p::r,0,row=>(p.1,row)::r
 | p::r,i+1,row=>p::qb7 r i row
def mput (es:List (Value×List A)) (kv:Value) (row:List A):List (Value×List A):=qb7 (ment es kv row) (mix es kv) row
theorem qip {es:List (Value×List A)} {kv:Value} (h:mhas es kv=true):mix es kv<es.length:=by
 unfold mhas at h;unfold mix
 rw [List.any_eq_true] at h
 obtain⟨p,hp,hk⟩:=h
 exact List.findIdx_lt_length_of_exists ⟨p,hp,hk⟩
theorem mix_ge {es:List (Value×List A)} {kv:Value} (h:mhas es kv=false):mix es kv=es.length:=by
 unfold mhas at h;unfold mix
 rw [List.findIdx_eq_length]
 intro p hp
 have:=List.any_eq_false.1 h p hp
 simpa using this
theorem qio (p:Value×List A) (row:List A):∀es:List (Value×List A),qb7 (es++[p]) es.length row=es++[(p.1,row)]
 | []=>rfl
 | q::r=>by simp only [List.cons_append,List.length_cons,qb7];rw [qio p row r]
theorem mput_has {es:List (Value×List A)} {kv:Value} {row:List A} (h:mhas es kv=true):mput es kv row=qb7 es (mix es kv) row:=by
 unfold mput ment;rw [if_pos h]
theorem mput_new {es:List (Value×List A)} {kv:Value} {row:List A} (h:mhas es kv=false):mput es kv row=es++[(kv,row)]:=by
 unfold mput ment;rw [if_neg (by simp [h]),mix_ge h,qio]
theorem qd6 (row:List A):∀(es:List (Value×List A)) (i:Nat),(qb7 es i row).length=es.length
 | [],_=>rfl
 | p::r,0=>rfl
 | p::r,i+1=>by simp only [qb7,List.length_cons];rw [qd6 row r i]
theorem qin (row:List A):∀(es:List (Value×List A)) (i j:Nat) (y:Value) (rw2:List A),(qb7 es i row)[j]? = some (y,rw2)→(j=i∧rw2=row∧∃r0,es[j]? = some (y,r0))∨(j≠i∧es[j]? = some (y,rw2))
 | [],i,j,y,rw2,h=>by simp [qb7] at h
 | p::r,0,0,y,rw2,h=>by
  simp only [qb7,List.getElem?_cons_zero,Option.some.injEq,Prod.mk.injEq] at h
  exact .inl ⟨rfl,h.2.symm,p.2,by simp only [List.getElem?_cons_zero];rw [←h.1]⟩
 | p::r,0,j+1,y,rw2,h=>.inr ⟨by omega,by simpa only [qb7,List.getElem?_cons_succ] using h⟩
 | p::r,i+1,0,y,rw2,h=>.inr ⟨by omega,by simpa only [qb7,List.getElem?_cons_zero] using h⟩
 | p::r,i+1,j+1,y,rw2,h=>by
  simp only [qb7,List.getElem?_cons_succ] at h
  rcases qin row r i j y rw2 h with ⟨h1,h2,r0,h3⟩|⟨h1,h2⟩
  ·exact .inl ⟨by omega,h2,r0,by simpa only [List.getElem?_cons_succ] using h3⟩
  ·exact .inr ⟨by omega,by simpa only [List.getElem?_cons_succ] using h2⟩
theorem qni {es:List (Value×List A)} {kv:Value} (h:mhas es kv=true) (z:List A):∃p,es[mix es kv]? = some p∧kEq kv p.1=true∧mval es kv z=p.2:=by
 refine⟨es[mix es kv]'(qip h),List.getElem?_eq_getElem (qip h),List.findIdx_getElem (w:=qip h),?_⟩
 unfold mval
 have hf:(es.find? fun p=>kEq kv p.1)=some (es[mix es kv]'(qip h)):=by
  rw [List.find?_eq_some_iff_getElem]
  refine⟨List.findIdx_getElem (w:=qip h),mix es kv,qip h,rfl,fun j hj=>?_⟩
  have:=List.not_of_lt_findIdx hj
  simpa using this
 rw [hf];rfl
theorem mval_no {es:List (Value×List A)} {kv:Value} (h:mhas es kv=false) (z:List A):mval es kv z=z:=by
 unfold mval
 rw [List.find?_eq_none.2 fun p hp=>by simpa using List.any_eq_false.1 h p hp];rfl
def qka (V:Vw) (k:KS) (wd:Bool) (es:List (Value×List A)) (ms:Array MapEntry):Prop :=
 ms.size=es.length∧∀(j:Nat) (y:Value) (row:List A),es[j]? = some (y,row)→KS.ok k y=true∧∃v,ms[j]? = some ⟨y,v,j⟩∧MRep V wd row v
def KD (k:KS) (d:TypeDesc):Prop:=match k with|.str=>d=.string|.int q=>d=.int q
theorem qnr {V:Vw} {k:KS} {wd:Bool} {kv:Value} {d:TypeDesc} (hd:KD k d) (hk:k.ok kv=true):∀(es:List (Value×List A)) (ml:List MapEntry) (i:Nat),ml.length=es.length→(∀(j:Nat) (y:Value) (row:List A),es[j]? = some (y,row)→KS.ok k y=true∧∃v b,ml[j]? = some ⟨y,v,b⟩∧MRep V wd row v) →
  (mhas es kv=false∧Instr.findNow d kv ml i=some none)∨(mhas es kv=true∧∃e:MapEntry,ml[mix es kv]? = some e∧Instr.findNow d kv ml i=some (some (i+mix es kv,e.val)))
 | [],[],i,_,_=>.inl ⟨rfl,rfl⟩
 | [],m::ml,i,h,_=>by simp at h
 | p::es,[],i,h,_=>by simp at h
 | (y,row)::es,m::ml,i,hl,h=>by
  obtain⟨h1,v,b,h2,h3⟩:=h 0 y row rfl
  simp only [List.getElem?_cons_zero,Option.some.injEq] at h2
  subst h2
  have hs:=same_kEq (k:=k) (d:=d) hd hk h1
  have hmh:mhas ((y,row)::es) kv=(kEq kv y||mhas es kv):=rfl
  cases hq:kEq kv y with
  | true =>
   refine .inr ⟨by rw [hmh,hq];rfl,⟨y,v,b⟩,?_,?_⟩
   ·have:mix ((y,row)::es) kv=0:=by unfold mix;rw [List.findIdx_cons];simp [hq]
    rw [this];rfl
   ·have:mix ((y,row)::es) kv=0:=by unfold mix;rw [List.findIdx_cons];simp [hq]
    rw [this]
    simp only [Instr.findNow,hs,hq,Nat.add_zero]
  | false =>
   have hm1:mix ((y,row)::es) kv=mix es kv+1:=by unfold mix;rw [List.findIdx_cons];simp [hq]
   have ih:=qnr hd hk es ml (i+1) (by simpa using hl) fun j y' row' hj=>by
    have:=h (j+1) y' row' (by simpa only [List.getElem?_cons_succ] using hj)
    simpa only [List.getElem?_cons_succ] using this
   have hfn:Instr.findNow d kv (⟨y,v,b⟩::ml) i=Instr.findNow d kv ml (i+1):=by
    simp only [Instr.findNow,hs,hq]
   rcases ih with ⟨h4,h5⟩|⟨h4,e,h5,h6⟩
   ·exact .inl ⟨by rw [hmh,hq,h4];rfl,hfn.trans h5⟩
   ·refine .inr ⟨by rw [hmh,hq,h4];rfl,e,by rw [hm1,List.getElem?_cons_succ];exact h5,hfn.trans ?_⟩
    rw [h6,hm1];congr 3;omega
section
variable {P:Program} {w:World}
theorem qe1 {r:Nat} {ms:Array MapEntry} {n:Nat} (h:w.heap[r]? = some (.map ms n)):(getObj r).run P w=.ok (.map ms n) w:=by simp [getObj,Sem.run,h]
theorem qe0 {r:Nat} {ms:Array MapEntry} {n:Nat} (o:Obj) (h:w.heap[r]? = some (.map ms n)):(setObj r o).run P w=.ok () (w.putObj r o):=by simp [setObj,Sem.run,h,World.putObj]
theorem qma {T:TypeId} {k:KS} {d:TypeDesc} {kv:Value} (hT:P.underlying T=some d) (hd:KD k d) (hk:k.ok kv=true) (em:Bool):(Instr.checkKey em 10000 T kv).run P w=.ok () w:=by
 unfold Instr.checkKey
 rw [Sem.run_bind,run_underlying hT w]
 cases k with
 | str =>
  obtain rfl:d=.string:=hd
  cases kv<;>first|(cases hk;done)|rfl
 | int q =>
  obtain rfl:d=.int q:=hd
  cases kv<;>first|(cases hk;done)|rfl
theorem run_fk {V:Vw} {T:TypeId} {k:KS} {wd:Bool} {d:TypeDesc} {kv:Value} {es:List (Value×List A)} {ms:Array MapEntry} (hT:P.underlying T=some d) (hd:KD k d) (hk:k.ok kv=true) (hm:qka V k wd es ms) :
  (mhas es kv=false∧(Instr.findKey T kv ms.toList).run P w=.ok none w)∨(mhas es kv=true∧∃v,ms[mix es kv]? = some ⟨kv,v,mix es kv⟩∧(∃p,es[mix es kv]? = some p∧p.1=kv∧MRep V wd p.2 v∧∀z,mval es kv z=p.2)∧(Instr.findKey T kv ms.toList).run P w=.ok (some (mix es kv,v)) w):=by
 have h:=qnr (V:=V) (wd:=wd) hd hk es ms.toList 0 (by simpa using hm.1) fun j y row hj=>by
  obtain⟨h1,v,h2,h3⟩:=hm.2 j y row hj
  exact⟨h1,v,j,by simpa using h2,h3⟩
 have hf:∀r,Instr.findNow d kv ms.toList 0=some r→(Instr.findKey T kv ms.toList).run P w=.ok r w:=fun r hr=>by
  unfold Instr.findKey
  rw [Sem.run_bind,run_underlying hT w]
  simp only [Result.andThen_ok,hr,Sem.run_pure]
 rcases h with ⟨h1,h2⟩|⟨h1,e,h2,h3⟩
 ·exact .inl ⟨h1,hf _ h2⟩
 ·obtain⟨p,q1,q2,q3⟩:=qni h1 []
  obtain⟨r1,v,r2,r3⟩:=hm.2 _ p.1 p.2 q1
  have hpk:kv=p.1:=kEq_eq hk r1 q2
  have he:e=⟨p.1,v,mix es kv⟩:=by
   have:ms.toList[mix es kv]? = some ⟨p.1,v,mix es kv⟩:=by simpa using r2
   rw [this] at h2;injection h2 with h2;exact h2.symm
  subst he
  refine .inr ⟨h1,v,by rw [r2,←hpk],⟨p,q1,hpk.symm,r3,fun z=>?_⟩,hf _ (by rw [h3,Nat.zero_add])⟩
  obtain⟨p',s1,s2,s3⟩:=qni h1 z
  rw [q1] at s1;injection s1 with s1;rw [s3,s1]
theorem run_kts {k:KS} {kv:Value} (hk:k.ok kv=true):(Instr.keyThatStays kv kv).run P w=.ok kv w:=by
 unfold Instr.keyThatStays
 rw [if_pos (qjd hk)];rfl
end
def zEl:Value→Option (Bool×List A)
 | .agg vs=>(vs.toList.mapM zA).map fun r=>(true,r)
 | v=>(zA v).map fun x=>(false,[x])
def mT (P:Program) (T:TypeId):Option (KS×Bool×List A) :=
 match P.underlying T with
 | some (.map kt e)=>(match P.underlying kt,(P.info? e).bind (·.zero) with
  | some .string,some z=>(zEl z).map fun r=>(.str,r)
  | some (.int q),some z=>(zEl z).map fun r=>(.int q,r)
  | _,_=>none)
 | _=>none
theorem zEl_rep {V:Vw} {z:Value} {wd:Bool} {row:List A} (h:zEl z=some (wd,row)):MRep V wd row z:=by
 unfold zEl at h
 split at h
 ·rename_i vs
  rw [Option.map_eq_some_iff] at h
  obtain⟨r,h1,h2⟩:=h
  injection h2 with h2 h3;subst h2;subst h3
  obtain⟨k1,k2⟩:=qe3 (V:=V) h1
  exact⟨vs.toList,by rw [Array.toArray_toList],k1,k2⟩
 ·rw [Option.map_eq_some_iff] at h
  obtain⟨x,h1,h2⟩:=h
  injection h2 with h2 h3;subst h2;subst h3
  exact⟨x,rfl,zA_rep h1⟩
theorem qnj {P:Program} {T:TypeId} {k:KS} {wd:Bool} {z:List A} (h:mT P T=some (k,wd,z)):∃kt e d zv,P.underlying T=some (.map kt e)∧P.underlying kt=some d∧KD k d∧(∀w,(zeroValue e).run P w=.ok zv w)∧∀V,MRep V wd z zv:=by
 unfold mT at h
 split at h
 ·rename_i kt e hT
  have hz:∀zv,(P.info? e).bind (·.zero)=some zv→∀w,(zeroValue e).run P w=.ok zv w:=fun zv hzv w=>by
   cases hi:P.info? e with
   | none=>simp [hi] at hzv
   | some i =>
    rw [hi] at hzv
    have hzv:i.zero=some zv:=hzv
    simp [zeroValue,typeInfo,hi,hzv]
  split at h
  ·rename_i zv hk hzv
   rw [Option.map_eq_some_iff] at h
   obtain⟨r,h1,h2⟩:=h
   injection h2 with h2 h3;subst h2;subst h3
   exact⟨kt,e,_,zv,hT,hk,rfl,hz zv hzv,fun V=>zEl_rep h1⟩
  ·rename_i q zv hk hzv
   rw [Option.map_eq_some_iff] at h
   obtain⟨r,h1,h2⟩:=h
   injection h2 with h2 h3;subst h2;subst h3
   exact⟨kt,e,_,zv,hT,hk,rfl,hz zv hzv,fun V=>zEl_rep h1⟩
  ·cases h
 ·cases h
def elD:Bool→List A→D
 | true,row=>.r row
 | false,[x]=>.a x
 | false,_=>.junk
theorem qj6 {V:Vw} {wd:Bool} {row:List A} {v:Value} (h:MRep V wd row v):RepD V (elD wd row) v:=by
 cases wd with
 | true=>obtain⟨vs,rfl,h1,h2⟩:=h;exact .r _ _ h1 h2
 | false=>obtain⟨x,rfl,h1⟩:=h;exact .a _ _ h1
def elA (wd:Bool):D→Option (List A)
 | .a .nl=>if wd=false then some [.sl []] else none
 | .a x=>if wd=false then some [x] else none
 | .r row=>if wd=true then some row else none
 | _=>none
theorem qmr {V:Vw} {wd:Bool} {d:D} {row:List A} {v:Value} (h:elA wd d=some row) (hr:RepD V d v):MRep V wd row v:=by
 cases hr with
 | junk=>cases h
 | undef=>cases h
 | t=>cases h
 | r row' vs h1 h2 =>
  unfold elA at h
  dsimp only at h
  split at h
  ·rename_i hw;subst hw;injection h with h;subst h;exact⟨vs,rfl,h1,h2⟩
  ·cases h
 | a x u hx =>
  have main:∀y,RepA V y v→(if wd=false then some [y] else none)=some row→MRep V wd row v:=fun y hy h9=>by
   split at h9
   ·rename_i hw;subst hw;injection h9 with h9;subst h9;exact⟨y,rfl,hy⟩
   ·cases h9
  cases x with
  | nl =>
   refine main (.sl []) ?_ h
   cases hx with
   | c _ _ h=>cases h with
    | nl=>exact .c _ _ (.sl0 none 0)
  | _=>exact main _ hx h
/-! ### Steps -/
theorem Step.setM {V:Vw} (hok:Ok V) {i b:Nat} {k:KS} {wd:Bool} {es es':List (Value×List A)} {ms':Array MapEntry} (hs:V.st[i]? = some (.map k wd es)) (hb:V.bl[i]? = some b) (hm:qka V k wd es' ms') :
  Step V ⟨V.w.putObj b (.map ms' es'.length),V.x,V.bl,V.st.set i (.map k wd es')⟩:=by
 have hil:i<V.st.length:=(List.getElem?_eq_some_iff.1 hs).1
 have hbl:b<V.w.heap.size:=hok.lt i b hb
 have hnew:(V.w.putObj b (.map ms' es'.length)).heap[b]? = some (.map ms' es'.length):=World.putObj_heap_same hbl
 have hold:∀c,c≠b→(V.w.putObj b (.map ms' es'.length)).heap[c]? = V.w.heap[c]?:=fun c hc=>World.putObj_heap_other hc
 have hsz:(V.w.putObj b (.map ms' es'.length)).heap.size=V.w.heap.size:=by simp
 have hmb:V.mine b:=⟨i,_,hb,hs,rfl⟩
 have hst:∀j,(V.st.set i (.map k wd es'))[j]? = if i=j then some (.map k wd es') else V.st[j]?:=fun j=>by
  rw [List.getElem?_set]
  split
  ·rename_i h;subst h;simp [hil]
  ·rfl
 have hlive:∀j (y:Bx),(V.st.set i (.map k wd es'))[j]? = some y→y.live=true→∃y':Bx,V.st[j]? = some y'∧y'.live=true:=fun j y h1 h2=>by
  rw [hst] at h1
  split at h1
  ·rename_i h;subst h;exact⟨_,hs,rfl⟩
  ·exact⟨y,h1,h2⟩
 have hne:∀j c y,j≠i→V.st[j]? = some y→y.live=true→V.bl[j]? = some c→c≠b:=fun j c y hj h1 h2 h3 h=>by
  subst h
  exact hj (hok.inj j i c y _ h3 hb h1 hs h2 rfl)
 have hle:V.Le ⟨V.w.putObj b (.map ms' es'.length),V.x,V.bl,V.st.set i (.map k wd es')⟩:=by
  refine⟨by simp,by simp,fun c hc hm=>⟨fun _=>hold c fun h=>hm (h▸.inr hmb),fun h=>hm ?_⟩,fun j r hj h=>?_,fun j ver n rows hj h=>?_,fun j kk wd2 es2 hj h=>?_⟩
  ·rcases h with h|⟨j,y,h1,h2,h3⟩
   ·exact .inl h
   ·obtain⟨y',h4,h5⟩:=hlive j y h2 h3
    exact .inr ⟨j,y',h1,h4,h5⟩
  ·have h:(V.st.set i (.map k wd es'))[j]? = some (.cell r):=h
   rw [hst] at h
   split at h
   ·cases h
   ·exact⟨⟨r,h⟩,rfl⟩
  ·have h7:(V.st.set i (.map k wd es'))[j]? = some (.arr ver n rows):=h
   rw [hst] at h7
   clear h
   split at h7
   ·cases h7
   ·rename_i hn
    exact⟨ver,n,rows,h7,.inr ⟨rfl,rfl,rfl,rfl,fun c cs _ hk hc=>⟨cs,(hold c (hne j c _ (fun h=>hn h.symm) h7 rfl hk)).trans hc,rfl⟩⟩⟩
  ·have h7:(V.st.set i (.map k wd es'))[j]? = some (.map kk wd2 es2):=h
   rw [hst] at h7
   split at h7
   ·rename_i hn;subst hn;exact⟨⟨_,_,_,hs⟩,rfl⟩
   ·exact⟨⟨kk,wd2,es2,h7⟩,rfl⟩
 refine⟨hle,⟨by simp [hok.len],fun j c h=>by have:=hok.lt j c h;simpa using this,fun c h=>by have:=hok.xlt c h;simpa using this,fun w' hs' hb'=>hok.gd w' (by have h9:(V.w.putObj b (.map ms' es'.length)).heap.size≤w'.heap.size:=hs';simpa using h9) (fun c hlt hn hnx hc=>(hb' c (by show c<(V.w.putObj b (.map ms' es'.length)).heap.size;simpa using hlt) hn hnx (by obtain⟨o,h1,h2⟩:=hc;exact⟨o,(hold c fun h=>hn (h▸lm4 hb)).trans h1,h2⟩)).trans (hold c fun h=>hn (h▸lm4 hb))),fun j c h=>?_,fun j j2 c y z h1 h2 h3 h4 h5 h6=>?_,fun j r c h1 h2=>?_,fun j ver n rows c h1 h2=>?_,fun j kk wd2 es2 c h1 h2=>?_⟩,?_,fun c hc=>.inl hc⟩
 ·by_cases hkb:c=b
  ·subst hkb;exact⟨_,hnew,rfl⟩
  ·obtain⟨o,q1,q2⟩:=hok.isc j c h
   exact⟨o,(hold c hkb).trans q1,q2⟩
 ·obtain⟨y',k1,k2⟩:=hlive j y h3 h5
  obtain⟨z',k3,k4⟩:=hlive j2 z h4 h6
  exact hok.inj j j2 c y' z' h1 h2 k1 k3 k2 k4
 ·simp only at h1 h2 ⊢
  rw [hst] at h1
  split at h1
  ·cases h1
  ·rename_i hn
   obtain⟨cs',T',k1,k2,k3⟩:=hok.cell j r c h1 h2
   exact⟨cs',T',(hold c (hne j c _ (fun h=>hn h.symm) h1 rfl h2)).trans k1,k2,fun j y hj=>(k3 j y hj).mono hle⟩
 ·simp only at h1 h2 ⊢
  rw [hst] at h1
  split at h1
  ·cases h1
  ·rename_i hn
   obtain⟨cs',T',cc,k1,k2,k3,k4,k5,k6⟩:=hok.arr j ver n rows c h1 h2
   exact⟨cs',T',cc,(hold c (hne j c _ (fun h=>hn h.symm) h1 rfl h2)).trans k1,k2,k3,k4,k5,fun q r j y hk hj=>(k6 q r j y hk hj).mono hle.size hle.blk⟩
 ·simp only at h1 h2 ⊢
  rw [hst] at h1
  split at h1
  ·rename_i hn
   subst hn
   injection h1 with h1;injection h1 with h1 h3 h4;subst h1;subst h3;subst h4
   rw [hb] at h2;injection h2 with h2;subst h2
   exact⟨ms',hnew,hm.1,fun q y row hj=>by obtain⟨q1,v,q2,q3⟩:=hm.2 q y row hj;exact⟨q1,v,q2,q3.mono hle⟩⟩
  ·rename_i hn
   obtain⟨ms,k1,k2,k3⟩:=hok.map j kk wd2 es2 c h1 h2
   exact⟨ms,(hold c (hne j c _ (fun h=>hn h.symm) h1 rfl h2)).trans k1,k2,fun q y row hj=>by obtain⟨q1,v,q2,q3⟩:=k3 q y row hj;exact⟨q1,v,q2,q3.mono hle⟩⟩
 ·exact⟨rfl,rfl,rfl,by simp,fun c _ hn=>hold c fun h=>hn (h▸lm4 hb)⟩
theorem Step.pushM {V:Vw} (hok:Ok V) (k:KS) (wd:Bool):Step V ⟨V.w.alloc (.map #[] 0),V.x,V.bl++[V.w.heap.size],V.st++[.map k wd []]⟩:=by
 have hnew:(V.w.alloc (.map #[] 0)).heap[V.w.heap.size]? = some (.map #[] 0):=qa0 _ _ _ rfl
 have hold:∀b,b<V.w.heap.size→(V.w.alloc (.map #[] 0)).heap[b]? = V.w.heap[b]?:=fun b hb=>Below.heap_alloc V.w _ b hb
 have hmine:∀b,(⟨V.w.alloc (.map #[] 0),V.x,V.bl++[V.w.heap.size],V.st++[.map k wd []]⟩:Vw).mine b→b<V.w.heap.size→V.mine b:=by
  rintro b ⟨i,y,h1,h2,h3⟩ hb
  simp only at h1 h2
  rw [List.getElem?_append] at h1 h2
  rw [←hok.len] at h2
  split at h1
  ·rename_i hi
   rw [if_pos hi] at h2
   exact⟨i,y,h1,h2,h3⟩
  ·have:=lm4 h1
   simp at this;omega
 have hle:V.Le ⟨V.w.alloc (.map #[] 0),V.x,V.bl++[V.w.heap.size],V.st++[.map k wd []]⟩:=by
  refine⟨by simp,by simp,fun b hb hm=>⟨fun _=>hold b hb,fun h=>hm ?_⟩,fun i r hi h=>?_,fun i ver n rows hi h=>?_,fun i k wd es hi h=>?_⟩
  ·rcases h with h|h
   ·exact .inl h
   ·exact .inr (hmine b h hb)
  ·simp only at h ⊢
   rw [List.getElem?_append_left hi] at h
   exact⟨⟨r,h⟩,List.getElem?_append_left (by rw [hok.len];exact hi)⟩
  ·simp only at h ⊢
   rw [List.getElem?_append_left hi] at h
   exact⟨ver,n,rows,h,.inr ⟨rfl,rfl,rfl,List.getElem?_append_left (by rw [hok.len];exact hi),fun b cs _ hb hc=>⟨cs,(hold b (hok.lt i b hb)).trans hc,rfl⟩⟩⟩
  ·simp only at h ⊢
   rw [List.getElem?_append_left hi] at h
   exact⟨⟨k,wd,es,h⟩,List.getElem?_append_left (by rw [hok.len];exact hi)⟩
 have at1:∀i (b:Nat),(V.bl++[V.w.heap.size])[i]? = some b→(i<V.st.length∧V.bl[i]? = some b)∨(i=V.st.length∧b=V.w.heap.size):=by
  intro i b h
  rw [List.getElem?_append] at h
  split at h
  ·rename_i hi;left;rw [hok.len] at hi;exact⟨hi,h⟩
  ·rename_i hi
   right
   have hlt:=(List.getElem?_eq_some_iff.1 h).1
   simp at hlt
   have:i=V.bl.length:=by omega
   subst this
   simp at h
   exact⟨hok.len,h.symm⟩
 have at2:∀i (y:Bx),(V.st++[Bx.map k wd []])[i]? = some y→i<V.st.length→V.st[i]? = some y:=fun i y h hi=>by rwa [List.getElem?_append_left hi] at h
 refine⟨hle,⟨by simp [hok.len],fun i b h=>?_,fun b h=>?_,fun w' hs hb=>hok.gd w' (by have:(V.w.alloc (.map #[] 0)).heap.size≤w'.heap.size:=hs;simp at this;omega) (fun b hlt hn hnx hc=>(hb b (by show b<(V.w.alloc (.map #[] 0)).heap.size;simp;omega) (by show ¬b∈V.bl++[V.w.heap.size];simp;exact⟨hn,by omega⟩) hnx (by obtain⟨o,h1,h2⟩:=hc;exact⟨o,(hold b hlt).trans h1,h2⟩)).trans (hold b hlt)),fun i b h=>?_,fun i j b y z h1 h2 h3 h4 h5 h6=>?_,fun i r b h1 h2=>?_,fun i ver n rows b h1 h2=>?_,fun i kk wd2 es b h1 h2=>?_⟩,.of_grwK ((Grw.refl _).alloc _),fun b hb=>?_⟩
 ·rcases at1 i b h with ⟨_,h⟩|⟨_,rfl⟩
  ·have:=hok.lt i b h;simp;omega
  ·simp
 ·have:=hok.xlt b h;simp;omega
 ·rcases at1 i b h with ⟨_,h⟩|⟨_,rfl⟩
  ·obtain⟨o,q1,q2⟩:=hok.isc i b h
   exact⟨o,(hold b (hok.lt i b h)).trans q1,q2⟩
  ·exact⟨_,hnew,rfl⟩
 ·rcases at1 i b h1 with ⟨hi,h1⟩|⟨rfl,rfl⟩
  ·rcases at1 j b h2 with ⟨hj,h2⟩|⟨rfl,rfl⟩
   ·exact hok.inj i j b y z h1 h2 (at2 i y h3 hi) (at2 j z h4 hj) h5 h6
   ·have:=hok.lt i _ h1;omega
  ·rcases at1 j _ h2 with ⟨hj,h2⟩|⟨rfl,_⟩
   ·have:=hok.lt j _ h2;omega
   ·rfl
 ·rcases at1 i b h2 with ⟨hi,h2⟩|⟨rfl,rfl⟩
  ·obtain⟨cs',T',k1,k2,k3⟩:=hok.cell i r b (at2 i _ h1 hi) h2
   exact⟨cs',T',(hold b (hok.lt i b h2)).trans k1,k2,fun j y hj=>(k3 j y hj).mono hle⟩
  ·simp at h1
 ·rcases at1 i b h2 with ⟨hi,h2⟩|⟨rfl,rfl⟩
  ·obtain⟨cs',T',c,k1,k2,k3,k4,k5,k6⟩:=hok.arr i ver n rows b (at2 i _ h1 hi) h2
   exact⟨cs',T',c,(hold b (hok.lt i b h2)).trans k1,k2,k3,k4,k5,fun k r j y hk hj=>(k6 k r j y hk hj).mono hle.size hle.blk⟩
  ·simp at h1
 ·rcases at1 i b h2 with ⟨hi,h2⟩|⟨rfl,rfl⟩
  ·obtain⟨ms,k1,k2,k3⟩:=hok.map i kk wd2 es b (at2 i _ h1 hi) h2
   exact⟨ms,(hold b (hok.lt i b h2)).trans k1,k2,fun j y row hj=>by obtain⟨q1,v,q2,q3⟩:=k3 j y row hj;exact⟨q1,v,q2,q3.mono hle⟩⟩
  ·simp at h1
   obtain⟨rfl,rfl,rfl⟩:=h1
   exact⟨#[],hnew,rfl,fun j y row hj=>by simp at hj⟩
 ·simp at hb
  rcases hb with hb|rfl
  ·exact .inl hb
  ·right;exact Nat.le_refl _
section
variable {P:Program} {st:List Bx} {e:Nat→D} {o:Oper}
theorem qk2 {V:Vw} {i:Nat} {u:Value} {k:KS} {wd:Bool} {es:List (Value×List A)} (h:RepD V (.a (.mp i)) u) (hs:V.st[i]? = some (.map k wd es)):∃b,u=.map (some b)∧V.bl[i]? = some b:=by
 cases h with
 | a _ _ h=>cases h with
  | c _ _ h=>cases h
  | mp _ b hi hb=>exact⟨b,rfl,hb k wd es hs⟩
theorem Ok.msrep {V:Vw} (hok:Ok V) {i b:Nat} {k:KS} {wd:Bool} {es:List (Value×List A)} (hs:V.st[i]? = some (.map k wd es)) (hb:V.bl[i]? = some b):∃ms,V.w.heap[b]? = some (.map ms es.length)∧qka V k wd es ms:=by
 obtain⟨ms,h1,h2,h3⟩:=hok.map i k wd es b hs hb
 exact⟨ms,h1,h2,h3⟩
def lkD (ok wd:Bool) (es:List (Value×List A)) (kv:Value) (z:List A):D :=
 if ok then .t [elD wd (mval es kv z),.a (.v (.bool (mhas es kv)))] else elD wd (mval es kv z)
theorem OpJ.lookup {T:TypeId} {x i:Operand} {ok:Bool} {j:Nat} {k:KS} {wd:Bool} {es:List (Value×List A)} {kv:Value} {z:List A} (ho:o.op=.lookup T x i ok) (hx:evO e x=.a (.mp j)) (hs:st[j]? = some (.map k wd es)) (hi:evO e i=.a (.v kv)) (hk:k.ok kv=true) (hT:mT P T=some (k,wd,z)):OpJ P st e o (lkD ok wd es kv z):=by
 intro ρ V hst hok hu
 subst hst
 rw [ho] at hu
 have h1:=hu x (by simp [qac,Op.operands])
 have h2:=hu i (by simp [qac,Op.operands])
 rw [hx] at h1;rw [hi] at h2
 obtain⟨h2,_⟩:=h2.v_inv
 obtain⟨b,h1,hb⟩:=qk2 h1 hs
 obtain⟨ms,hh,hm⟩:=hok.msrep hs hb
 obtain⟨kt,et,d,zv,q1,q2,q3,q4,q5⟩:=qnj hT
 have fin:∀(v:Value) (y:Bool),RepD V (elD wd (mval es kv z)) v→mhas es kv=y→QUp P V (lkD ok wd es kv z) (.ok (.value (if ok then .tuple #[v,.bool y] else v)) V.w):=fun v y h hy=>by
  refine .val ?_
  unfold lkD
  cases ok
  ·exact h
  ·rw [if_pos rfl,if_pos rfl]
   refine .t _ [v,.bool y] rfl fun j d hj=>?_
   match j,hj with
   | 0,hj=>simp at hj;subst hj;exact h
   | 1,hj=>simp at hj;subst hj;rw [hy];exact .v rfl
   | j+2,hj=>simp at hj
 have hrun:(Instr.lookup T (.map (some b)) kv ok).run P V.w=((Instr.findKey kt kv ms.toList).run P V.w).andThen fun r w'=>(match r with|some (_,v)=>(pure (v,true):Sem (Value×Bool))|none=>(do pure (←zeroValue et,false))).run P w' |>.andThen fun p w''=>(pure (if ok then .tuple #[p.1,.bool p.2] else p.1):Sem Value).run P w'':=by
  simp only [Instr.lookup,Sem.run_bind,run_underlying q1 V.w,Result.andThen_ok,qe1 hh,Sem.run_pure,qma q2 q3 hk,qd8]
  congr 1;funext r w'
  rcases r with _|⟨_,_⟩<;>simp only [Sem.run_bind,Sem.run_pure,qd8,Result.andThen_ok]
 simp only [execOp,ho,h1,h2,Sem.run_bind,hrun]
 rcases run_fk (P:=P) (w:=V.w) q2 q3 hk hm with ⟨p1,p2⟩|⟨p1,v,p2,⟨p,p3,p4,p5,p6⟩,p7⟩
 ·simp only [p2,Result.andThen_ok,Sem.run_bind,q4,Sem.run_pure]
  exact fin zv false (by rw [mval_no p1];exact qj6 (q5 V)) p1
 ·simp only [p7,Result.andThen_ok,Sem.run_pure]
  exact fin v true (by rw [p6];exact qj6 p5) p1
theorem OpJ.len_map {x:Operand} {T:TypeId} {j:Nat} {k:KS} {wd:Bool} {es:List (Value×List A)} {z:List A} (ho:o.op=.call ⟨.builtin .len,#[x],#[T]⟩) (hx:evO e x=.a (.mp j)) (hs:st[j]? = some (.map k wd es)) (hT:mT P T=some (k,wd,z)):OpJ P st e o (.a (.v (.int .i64 (es.length:Nat)))):=by
 intro ρ V hst hok hu
 subst hst
 rw [ho] at hu
 have h1:=hu x (by simp [qac,Op.operands,Call.operands])
 rw [hx] at h1
 obtain⟨b,h1,hb⟩:=qk2 h1 hs
 obtain⟨ms,hh,hm,_⟩:=hok.msrep hs hb
 obtain⟨kt,et,d,zv,q1,q2,q3,q4,q5⟩:=qnj hT
 have:(execOp ρ o).run P V.w=.ok (.value (.int .i64 (es.length:Nat))) V.w:=by
  simp [execOp,ho,resolve,invoke,builtin,Builtin.len_,Sem.run_bind,run_underlying q1,h1,goInt,qe1 hh,hm]
 rw [this]
 exact .val (.v rfl)
theorem qmh {ms:Array MapEntry} {i:Nat} {f:MapEntry→MapEntry} {m:MapEntry} (h:ms[i]? = some m) (hf:f m=m):ms.modify i f=ms:=by
 refine Array.ext (by simp) fun j h1 h2=>?_
 rw [Array.getElem_modify]
 split
 ·rename_i hij;subst hij
  have:ms[i]=m:=by rw [Array.getElem?_eq_getElem h2] at h;injection h
  rw [this,hf]
 ·rfl
theorem qka.push {V:Vw} {k:KS} {wd:Bool} {es:List (Value×List A)} {ms:Array MapEntry} (hm:qka V k wd es ms) {kv v:Value} {row:List A} (hk:k.ok kv=true) (hr:MRep V wd row v):qka V k wd (es++[(kv,row)]) (ms.push ⟨kv,v,es.length⟩):=by
 refine⟨by simp [hm.1],fun j y row' hj=>?_⟩
 rw [List.getElem?_append] at hj
 split at hj
 ·rename_i hlt
  obtain⟨h1,u,h2,h3⟩:=hm.2 j y row' hj
  exact⟨h1,u,by rw [Array.getElem?_push,if_neg (by rw [hm.1];omega)];exact h2,h3⟩
 ·rename_i hlt
  have hj2:j-es.length=0:=by
   have:=(List.getElem?_eq_some_iff.1 hj).1
   simp at this;omega
  rw [hj2] at hj
  simp only [List.getElem?_cons_zero,Option.some.injEq,Prod.mk.injEq] at hj
  obtain⟨rfl,rfl⟩:=hj
  have hjl:j=es.length:=by omega
  subst hjl
  exact⟨hk,v,by rw [Array.getElem?_push,if_pos hm.1.symm],hr⟩
theorem qka.setAt {V:Vw} {k:KS} {wd:Bool} {es:List (Value×List A)} {ms:Array MapEntry} (hm:qka V k wd es ms) {i:Nat} {v:Value} {row:List A} {f:MapEntry→MapEntry} (hf:∀m,ms[i]? = some m→f m=⟨m.key,v,m.born⟩) (hr:MRep V wd row v):qka V k wd (qb7 es i row) (ms.modify i f):=by
 refine⟨by rw [Array.size_modify,hm.1,qd6],fun j y row' hj=>?_⟩
 rcases qin row es i j y row' hj with ⟨rfl,rfl,r0,h3⟩|⟨h1,h2⟩
 ·obtain⟨k1,u,k2,k3⟩:=hm.2 j y r0 h3
  refine⟨k1,v,?_,hr⟩
  rw [Array.getElem?_modify,if_pos rfl,k2,Option.map_some,hf _ k2]
 ·obtain⟨k1,u,k2,k3⟩:=hm.2 j y row' h2
  exact⟨k1,u,by rw [Array.getElem?_modify,if_neg (fun h=>h1 h.symm)];exact k2,k3⟩
theorem GUp.val' {V:Vw} {st':List Bx} {d:D} {v:Value} {w':World} {bl':List Nat} (h:Step V ⟨w',V.x,bl',st'⟩) (hr:RepD ⟨w',V.x,bl',st'⟩ d v):GUp P V st' d (.ok (.value v) w'):=⟨bl',h,hr⟩
theorem OpG.mapEntry {T:TypeId} {m kx:Operand} {j:Nat} {k:KS} {wd:Bool} {es:List (Value×List A)} {kv:Value} {z:List A} (ho:o.op=.mapEntry T m kx) (hx:evO e m=.a (.mp j)) (hs:st[j]? = some (.map k wd es)) (hi:evO e kx=.a (.v kv)) (hk:k.ok kv=true) (hT:mT P T=some (k,wd,z)) :
  OpG P st e o (.t [elD wd (mval es kv z),.a (.v (.int .i64 (mix es kv:Nat)))]) (st.set j (.map k wd (ment es kv z))):=by
 intro ρ V hst hok hu
 subst hst
 rw [ho] at hu
 have h1:=hu m (by simp [qac,Op.operands])
 have h2:=hu kx (by simp [qac,Op.operands])
 rw [hx] at h1;rw [hi] at h2
 obtain⟨h2,_⟩:=h2.v_inv
 obtain⟨b,h1,hb⟩:=qk2 h1 hs
 obtain⟨ms,hh,hm⟩:=hok.msrep hs hb
 obtain⟨kt,et,d,zv,q1,q2,q3,q4,q5⟩:=qnj hT
 have fin:∀(V':Vw) (v:Value),RepD V' (elD wd (mval es kv z)) v→RepD V' (.t [elD wd (mval es kv z),.a (.v (.int .i64 (mix es kv:Nat)))]) (.tuple #[v,goInt (mix es kv:Nat)]):=fun V' v h=>by
  refine .t _ [v,goInt (mix es kv:Nat)] rfl fun i d hi=>?_
  match i,hi with
  | 0,hi=>simp at hi;subst hi;exact h
  | 1,hi=>simp at hi;subst hi;exact .v rfl
  | i+2,hi=>simp at hi
 simp only [execOp,ho,h1,h2,Sem.run_bind,Instr.mapEntry,run_underlying q1 V.w,Result.andThen_ok,qe1 hh,qma q2 q3 hk,qd8]
 rcases run_fk (P:=P) (w:=V.w) q2 q3 hk hm with ⟨p1,p2⟩|⟨p1,v,p2,⟨p,p3,p4,p5,p6⟩,p7⟩
 ·simp only [p2,Result.andThen_ok,Sem.run_bind,q4,qe0 _ hh,Sem.run_pure]
  have hst:=Step.setM hok hs hb (hm.push hk (q5 V))
  have he:ment es kv z=es++[(kv,z)]:=by unfold ment;rw [p1];rfl
  rw [he]
  rw [List.length_append] at hst
  rw [show goInt (es.length:Nat)=goInt (mix es kv:Nat) by rw [mix_ge p1]]
  refine .val' hst (fin _ _ ?_)
  rw [mval_no p1]
  exact qj6 (q5 _)
 ·have hkey:(((ms[mix es kv]?).map (·.key)).getD kv)=kv:=by rw [p2];rfl
  have hborn:(((ms[mix es kv]?).map fun x=>(x.born:Int)).getD 0)=(mix es kv:Nat):=by rw [p2];rfl
  simp only [p7,Result.andThen_ok,Sem.run_bind,hkey,run_kts hk,qe0 _ hh,Sem.run_pure,hborn]
  have hmod:(ms.modify (mix es kv) fun e=>{ e with key:=kv })=ms:=qmh p2 rfl
  rw [hmod]
  have he:ment es kv z=es:=by unfold ment;rw [p1];rfl
  rw [he]
  have hst:=Step.setM hok hs hb hm
  refine .val' hst (fin _ _ ?_)
  rw [p6]
  exact qj6 (p5.mono hst.le)
theorem OpG.entryStore {T:TypeId} {m sx x:Operand} {j i:Nat} {q:IntKind} {k:KS} {wd:Bool} {es:List (Value×List A)} {row:List A} (ho:o.op=.entryStore T m sx x) (hx:evO e m=.a (.mp j)) (hs:st[j]? = some (.map k wd es)) (hi:evO e sx=.a (.v (.int q (i:Nat)))) (hlt:i<es.length) (hv:elA wd (evO e x)=some row) :
  OpG P st e o .undef (st.set j (.map k wd (qb7 es i row))):=by
 intro ρ V hst hok hu
 subst hst
 rw [ho] at hu
 have h1:=hu m (by simp [qac,Op.operands])
 have h2:=hu sx (by simp [qac,Op.operands])
 have h3:=hu x (by simp [qac,Op.operands])
 rw [hx] at h1;rw [hi] at h2
 obtain⟨h2,_⟩:=h2.v_inv
 obtain⟨b,h1,hb⟩:=qk2 h1 hs
 obtain⟨ms,hh,hm⟩:=hok.msrep hs hb
 obtain⟨⟨y,r0⟩,hy⟩:∃p,es[i]? = some p:=⟨_,List.getElem?_eq_getElem hlt⟩
 obtain⟨_,u,hu2,_⟩:=hm.2 i y r0 hy
 have hborn:∀(a:Nat) (mm:MapEntry),ms[a]? = some mm→mm.born=a:=fun a mm ha=>by
  have hal:a<es.length:=by rw [←hm.1];exact (Array.getElem?_eq_some_iff.1 ha).1
  obtain⟨_,u,k2,_⟩:=hm.2 a es[a].1 es[a].2 (List.getElem?_eq_getElem hal)
  rw [ha] at k2;injection k2 with k2;rw [k2]
 have hfind:ms.findIdx? (fun e=>((e.born:Nat):Int)==((i:Nat):Int))=some i:=by
  rw [Array.findIdx?_eq_some_iff_getElem]
  have hi:i<ms.size:=by rw [hm.1];exact hlt
  refine⟨hi,?_,fun a ha=>?_⟩
  ·rw [hborn i _ (Array.getElem?_eq_getElem hi)];simp
  ·rw [hborn a _ (Array.getElem?_eq_getElem (by omega))];simp;omega
 simp only [execOp,ho,h1,h2,Sem.run_bind,Instr.entryStore,Result.andThen_ok,qe1 hh,asInt,asIntOf,Sem.run_pure,hfind,qe0 _ hh]
 have hst:=Step.setM hok hs hb (hm.setAt (i:=i) (v:=ρ x) (row:=row) (f:=fun e=>{ e with val:=ρ x }) (fun _ _=>rfl) (qmr hv h3))
 rw [qd6] at hst
 exact⟨rfl,_,hst⟩
theorem OpG.mapUpdate {T:TypeId} {m kx x:Operand} {j:Nat} {k:KS} {wd:Bool} {es:List (Value×List A)} {kv:Value} {z row:List A} (ho:o.op=.mapUpdate T m kx x∨o.op=.insert T m kx x) (hx:evO e m=.a (.mp j)) (hs:st[j]? = some (.map k wd es)) (hi:evO e kx=.a (.v kv)) (hk:k.ok kv=true) (hT:mT P T=some (k,wd,z)) (hv:elA wd (evO e x)=some row) :
  OpG P st e o .undef (st.set j (.map k wd (mput es kv row))):=by
 intro ρ V hst hok hu
 subst hst
 have hu':∀y,y∈[m,kx,x]→RepD V (evO e y) (ρ y):=fun y hy=>hu y (by
  rcases ho with ho|ho<;>rw [ho]<;>simp [qac,Op.operands]<;>simpa using hy)
 have h1:=hu' m (by simp)
 have h2:=hu' kx (by simp)
 have h3:=hu' x (by simp)
 rw [hx] at h1;rw [hi] at h2
 obtain⟨h2,_⟩:=h2.v_inv
 obtain⟨b,h1,hb⟩:=qk2 h1 hs
 obtain⟨ms,hh,hm⟩:=hok.msrep hs hb
 obtain⟨kt,et,d,zv,q1,q2,q3,q4,q5⟩:=qnj hT
 have hE:(execOp ρ o).run P V.w=((Instr.mapUpdate T (.map (some b)) kv (ρ x)).run P V.w).andThen fun _ w=>.ok .skip w:=by
  rcases ho with ho|ho<;>simp only [execOp,ho,h1,h2,Sem.run_bind,Sem.run_pure]
 rw [hE]
 simp only [Instr.mapUpdate,Sem.run_bind,run_underlying q1 V.w,Result.andThen_ok,qe1 hh,qma q2 q3 hk,qd8]
 rcases run_fk (P:=P) (w:=V.w) q2 q3 hk hm with ⟨p1,p2⟩|⟨p1,v,p2,⟨p,p3,p4,p5,p6⟩,p7⟩
 ·simp only [p2,Result.andThen_ok,qe0 _ hh]
  have hst:=Step.setM hok hs hb (hm.push hk (qmr hv h3))
  rw [mput_new p1]
  rw [List.length_append] at hst
  exact⟨rfl,_,hst⟩
 ·have hkey:(((ms[mix es kv]?).map (·.key)).getD kv)=kv:=by rw [p2];rfl
  simp only [p7,Result.andThen_ok,Sem.run_bind,hkey,run_kts hk,qe0 _ hh]
  have hst:=Step.setM hok hs hb (hm.setAt (i:=mix es kv) (v:=ρ x) (row:=row) (f:=fun e=>{ e with key:=kv,val:=ρ x }) (fun mm hmm=>by rw [p2] at hmm;injection hmm with hmm;subst hmm;rfl) (qmr hv h3))
  rw [mput_has p1]
  rw [qd6] at hst
  exact⟨rfl,_,hst⟩
theorem OpG.makeMap {T:TypeId} {k:KS} {wd:Bool} {z:List A} (ho:o.op=.makeMap T none) (hT:mT P T=some (k,wd,z)):OpG P st e o (.a (.mp st.length)) (st++[.map k wd []]):=by
 intro ρ V hst hok hu
 subst hst
 have hE:(execOp ρ o).run P V.w=.ok (.value (.map (some V.w.heap.size))) (V.w.alloc (.map #[] 0)):=by
  simp only [execOp,ho,Option.map_none,Instr.makeMap,Sem.run_bind,Sem.run_pure]
  rfl
 rw [hE]
 have hst:=Step.pushM hok k wd
 refine .val' hst (.a _ _ (.mp _ _ (by show V.st.length<(V.st++[Bx.map k wd []]).length;simp) fun k' wd' es' h=>?_))
 show (V.bl++[V.w.heap.size])[V.st.length]? = some V.w.heap.size
 rw [←hok.len];simp
end
theorem run_lit0 {P:Program} {w:World} {t e:TypeId} {ie:TypeInfo} (hu:P.underlying t=some (.slice e)) (hie:P.info? e=some ie):(Instr.buildSlice t 0 #[]).run P w=.ok (.slice (some ⟨w.heap.size,0,none⟩) 0 0) (w.alloc (.cells #[] e)):=by
 simp [Instr.buildSlice,run_underlying hu,sizeOf,typeInfo,hie,newRow,Instr.fill]
 congr 2
 apply Array.eq_empty_of_size_eq_zero;simp
theorem qks {P:Program} {w:World} {T el:TypeId} {a:Option Addr} {l c:Nat} (hu:P.underlying T=some (.slice el)) (d:Nat):(Op.equalIn (d+1) T (.slice a l c) (.slice none 0 0)).run P w=.ok a.isNone w:=by
 simp only [Op.equalIn,Sem.run_bind,run_underlying hu,Result.andThen_ok]
 cases a<;>rfl
theorem run_eqNil {P:Program} {w:World} {T el:TypeId} {a:Option Addr} {l c:Nat} (hu:P.underlying T=some (.slice el)) (q:Bool):(binOp (bif q then .neq else .eql) T (.slice a l c) (.slice none 0 0)).run P w=.ok (.bool (a.isNone != q)) w:=by
 have h:(Op.equal T (.slice a l c) (.slice none 0 0)).run P w=.ok a.isNone w:=qks hu 9999
 cases q
 ·show (do pure (.bool (←Op.equal T (.slice a l c) (.slice none 0 0)):Value):Sem Value).run P w=_
  rw [Sem.run_bind,h,Result.andThen_ok,Sem.run_pure];cases a<;>rfl
 ·show (do pure (.bool (!(←Op.equal T (.slice a l c) (.slice none 0 0))):Value):Sem Value).run P w=_
  rw [Sem.run_bind,h,Result.andThen_ok,Sem.run_pure];cases a<;>rfl
theorem guard_nil {P:Program} {w:World} {T:TypeId} {a:Option Addr} {l c:Nat} (q:Bool) (x y:Operand):(eqGuard (bif q then .neq else .eql) T x y (.slice a l c) (.slice none 0 0)).run P w=.ok () w:=by cases q<;>rfl
section
variable {P:Program} {C:Cx P} {ops:Array Oper} {r:List Oper} {st:List Bx} {e:Nat→D} {o:Oper} {dst:Option Nat} {ty:TypeId} {pos:String} {after:Array Edge} {K:(Nat→D)→List Bx→Prop} {T T':TypeId} {n bs:Nat} {zr:List A}
theorem OpG.lit0 (ho:o.op=.buildSlice T 0 ⟨[]⟩) (hn:es P T=some n) (hn0:0<n) (hz:zrT P T=some zr) (hzl:zr.length=n) (hby:byt P T=some bs):OpG P st e o (.a (.own st.length 0)) (st++[.arr 0 n []]):=by
 intro ρ V hst hok hu
 subst hst
 obtain⟨el,inf,z,hel,hinfo,hzz,hsz,hzc,hbs,hzr⟩:=slT hn hz hzl hby
 have hexec:(execOp ρ o).run P V.w=((Instr.buildSlice T 0 #[]).run P V.w).andThen fun v w=>.ok (.value v) w:=by
  simp only [execOp,ho,Sem.run_bind,Sem.run_pure]
  congr 3
  apply Array.eq_empty_of_size_eq_zero;simp
 rw [hexec,run_lit0 hel hinfo,Result.andThen_ok]
 have hnewc:(V.w.alloc (.cells #[] el)).heap[V.w.heap.size]? = some (.cells #[] el (0,0)):=qa0 _ _ _ rfl
 have hown:=qd1 (V:=V) hok.len #[] el n 0 [] hnewc (by simp) (Nat.le_refl 0)
 exact .val (Step.pushA hok #[] el n 0 [] ((Grw.refl V.w).alloc _) hnewc (by simp) hn0 (Nat.le_refl 0) (fun k row hk=>by simp at hk) (fun k row j y hk=>by simp at hk)) (.a _ _ hown)
theorem RS.lit0 {len:Nat} (hl:len=0) (hn:es P T=some n) (hn0:0<n) (hz:zrT P T=some zr) (hzl:zr.length=n) (hby:byt P T=some bs) (k:RS C ops r (putE e dst (.a (.own st.length 0))) (st++[.arr 0 n []]) K):RS C ops (⟨dst,.buildSlice T len ⟨[]⟩,ty,pos,after,none⟩::r) e st K:=by
 subst hl
 exact .inl ⟨_,_,.inl ⟨rfl,OpG.lit0 rfl hn hn0 hz hzl hby⟩,k⟩
theorem sl_inv {V:Vw} {rows:List (List A)} {u:Value} (h:RepD V (.a (.sl rows)) u):∃a l c,u=.slice a l c∧(0<rows.length→a.isNone=false):=by
 cases h with
 | a _ _ h=>cases h with
  | c _ _ h=>cases h with
   | sl0 a c=>exact⟨a,0,c,rfl,fun h=>by simp at h⟩
   | sl rows n b o c val _ _ _ _ _ _=>exact⟨_,_,_,rfl,fun _=>rfl⟩
theorem nl_inv {V:Vw} {u:Value} (h:RepD V (.a .nl) u):u=.slice none 0 0:=by
 cases h with
 | a _ _ h=>cases h with
  | c _ _ h=>cases h;rfl
theorem RS.eqNil {rows:List (List A)} {q:Bool} {op:BinOp} {x:Operand} {g:D} (hq:op=bif q then .neq else .eql) (hx:evO e x=.a (.sl rows)) (hT:isSl P T=true) (hg:e 1000000=g) (h:∀b,(0<rows.length→b=q)→RS C ops r (upd (putE e dst (.a (.v (.bool b)))) 1000000 g) st K) :
  RS C ops (⟨dst,.binOp op T x (.const (.slice none 0 0)) T',ty,pos,after,none⟩::r) e st K:=by
 refine .inr ⟨trivial,fun d st' g'=>st'=st∧g'=g∧∃b,(0<rows.length→b=q)∧d=.a (.v (.bool b)),?_,?_⟩
 ·intro ρ V Nx hst hok hsep hnx henv hu
  subst hst
  rw [hg] at henv
  have h1:=hu x (by simp [qac,Op.operands])
  rw [hx] at h1
  have h2:=hu (.const (.slice none 0 0)) (by simp [qac,Op.operands])
  have h2:ρ (.const (.slice none 0 0))=.slice none 0 0:=nl_inv h2
  obtain⟨a,l,c,ha,hne⟩:=sl_inv h1
  obtain⟨el,hel⟩:∃el,P.underlying T=some (.slice el):=by
   unfold isSl at hT
   split at hT
   ·exact⟨_,by assumption⟩
   ·cases hT
  have hrun:(execOp ρ ⟨dst,.binOp op T x (.const (.slice none 0 0)) T',ty,pos,after,none⟩).run P V.w=.ok (.value (.bool (a.isNone != q))) V.w:=by
   simp only [execOp,ha,h2,hq,Sem.run_bind,guard_nil,run_eqNil hel,Result.andThen_ok,Sem.run_pure]
  rw [hrun]
  exact⟨_,V.st,g,V.x,V.bl,⟨rfl,rfl,_,fun h=>by rw [hne h];cases q<;>rfl,rfl⟩,.refl hok,henv,.v rfl⟩
 ·rintro d st' g' ⟨rfl,rfl,b,hb,rfl⟩
  exact h b hb
/-! ### Maps -/
variable {m kx x i:Operand} {j:Nat} {k:KS} {wd:Bool} {es2:List (Value×List A)} {kv:Value} {z row:List A} {ok:Bool}
@[go_sem] theorem evQ_mapEntry {guard:Option (Nat×Bool)}:evQ P st e ⟨dst,.mapEntry T m kx,ty,pos,after,guard⟩=none:=rfl
@[go_sem] theorem evG_mapEntry {guard:Option (Nat×Bool)}:evG P st e ⟨dst,.mapEntry T m kx,ty,pos,after,guard⟩=none:=rfl
@[go_sem] theorem evQ_entryStore {guard:Option (Nat×Bool)}:evQ P st e ⟨dst,.entryStore T m kx x,ty,pos,after,guard⟩=none:=rfl
@[go_sem] theorem evG_entryStore {guard:Option (Nat×Bool)}:evG P st e ⟨dst,.entryStore T m kx x,ty,pos,after,guard⟩=none:=rfl
@[go_sem] theorem evQ_mapUpdate {guard:Option (Nat×Bool)}:evQ P st e ⟨dst,.mapUpdate T m kx x,ty,pos,after,guard⟩=none:=rfl
@[go_sem] theorem evG_mapUpdate {guard:Option (Nat×Bool)}:evG P st e ⟨dst,.mapUpdate T m kx x,ty,pos,after,guard⟩=none:=rfl
@[go_sem] theorem evQ_lookup {guard:Option (Nat×Bool)}:evQ P st e ⟨dst,.lookup T m kx ok,ty,pos,after,guard⟩=none:=rfl
@[go_sem] theorem evG_lookup {guard:Option (Nat×Bool)}:evG P st e ⟨dst,.lookup T m kx ok,ty,pos,after,guard⟩=none:=rfl
@[go_sem] theorem evQ_makeMap {guard:Option (Nat×Bool)} {h:Option Operand}:evQ P st e ⟨dst,.makeMap T h,ty,pos,after,guard⟩=none:=rfl
@[go_sem] theorem evG_makeMap {guard:Option (Nat×Bool)} {h:Option Operand}:evG P st e ⟨dst,.makeMap T h,ty,pos,after,guard⟩=none:=rfl
@[go_sem] theorem evG_bin {op:BinOp} {guard:Option (Nat×Bool)} {x y:Operand}:evG P st e ⟨dst,.binOp op T x y T',ty,pos,after,guard⟩=none:=rfl
@[go_sem] theorem bin2_nl {b:Bool} {ls:Option (List Nat)} {op:BinOp} {rows:List (List A)}:bin2 b ls op (.a (.sl rows)) (.a .nl)=none:=rfl
end
/-! ### What the reckoning turns to -/
theorem un_cl {σ:List Nat} {row:List A} (h:row.all clA=true):row.map (unA σ)=row:=by
 rw [List.all_eq_true] at h
 conv=>rhs;rw [←List.map_id row]
 refine List.map_congr_left fun y hy=>?_
 have:=h y hy
 cases y<;>first|rfl|(cases this;done)|skip
 rename_i f l;cases l with
 | nil=>rfl
 | cons=>cases this
theorem rn_cl {σ:List Nat} {row:List A} (h:row.all clA=true):row.map (rnA σ)=row:=by
 rw [List.all_eq_true] at h
 conv=>rhs;rw [←List.map_id row]
 refine List.map_congr_left fun y hy=>?_
 have:=h y hy
 cases y<;>first|rfl|(cases this;done)|skip
 rename_i f l;cases l with
 | nil=>rfl
 | cons=>cases this
theorem in_cl {σ:List Nat} {row:List A} (h:row.all clA=true):row.all (inA σ)=true:=by
 rw [List.all_eq_true] at h ⊢
 intro y hy
 have:=h y hy
 cases y<;>first|rfl|(cases this;done)|skip
 rename_i f l;cases l with
 | nil=>rfl
 | cons=>cases this
theorem nr_clr {m:Nat} {row:List A} (h:row.all clA=true):row.all (nrA m)=true:=qng h
attribute [go_sem] un_cl rn_cl in_cl nr_clr
section
variable {σ:List Nat} {i k n m o:Nat} {x:A} {l r:List A} {d:D} {ds:List D} {b:Bx} {bs:List Bx} {st:List Bx} {es:List (Value×List A)} {wd:Bool} {q:KS}
@[go_sem] theorem unA_v {z:Value}:unA σ (.v z)=.v z:=rfl
@[go_sem] theorem unA_nl:unA σ .nl=.nl:=rfl
@[go_sem] theorem unA_sl {z:List (List A)}:unA σ (.sl z)=.sl z:=rfl
@[go_sem] theorem unA_ref {z:List A}:unA σ (.ref z o)=.ref z o:=rfl
@[go_sem] theorem unA_ptr:unA σ (.ptr i o)=.ptr (σ.idxOf i) o:=rfl
@[go_sem] theorem unA_own:unA σ (.own i o)=.own (σ.idxOf i) o:=rfl
@[go_sem] theorem unA_ep {z:Nat}:unA σ (.ep i z o m)=.ep (σ.idxOf i) z o m:=rfl
@[go_sem] theorem unA_mp:unA σ (.mp i)=.mp (σ.idxOf i):=rfl
@[go_sem] theorem unA_fn {f:FuncId}:unA σ (.fn f l)=.fn f (unA.unL σ l):=rfl
@[go_sem] theorem unL_n:unA.unL σ []=[]:=rfl
@[go_sem] theorem unL_c:unA.unL σ (x::l)=unA σ x::unA.unL σ l:=rfl
@[go_sem] theorem inA_v {z:Value}:inA σ (.v z)=true:=rfl
@[go_sem] theorem inA_nl:inA σ .nl=true:=rfl
@[go_sem] theorem inA_sl {z:List (List A)}:inA σ (.sl z)=true:=rfl
@[go_sem] theorem inA_ref {z:List A}:inA σ (.ref z o)=true:=rfl
@[go_sem] theorem inA_ptr:inA σ (.ptr i o)=σ.contains i:=rfl
@[go_sem] theorem inA_own:inA σ (.own i o)=σ.contains i:=rfl
@[go_sem] theorem inA_ep {z:Nat}:inA σ (.ep i z o m)=σ.contains i:=rfl
@[go_sem] theorem inA_mp:inA σ (.mp i)=σ.contains i:=rfl
@[go_sem] theorem inA_fn {f:FuncId}:inA σ (.fn f l)=inA.inL σ l:=rfl
@[go_sem] theorem inL_n:inA.inL σ []=true:=rfl
@[go_sem] theorem inL_c:inA.inL σ (x::l)=(inA σ x&&inA.inL σ l):=rfl
@[go_sem] theorem unD_a:unD σ (.a x)=.a (unA σ x):=rfl
@[go_sem] theorem unD_r:unD σ (.r l)=.r (l.map (unA σ)):=rfl
@[go_sem] theorem inD_a:inD σ (.a x)=inA σ x:=rfl
@[go_sem] theorem inD_r:inD σ (.r l)=l.all (inA σ):=rfl
@[go_sem] theorem unB_cell:unB σ (.cell l)=.cell (l.map (unA σ)):=rfl
@[go_sem] theorem unB_arr {v:Nat} {z:List (List A)}:unB σ (.arr v n z)=.arr v n z:=rfl
@[go_sem] theorem inB_cell:inB σ (.cell l)=l.all (inA σ):=rfl
@[go_sem] theorem inB_arr {v:Nat} {z:List (List A)}:inB σ (.arr v n z)=true:=rfl
@[go_sem] theorem lendOk_e {vs:List D}:qcf σ bs vs=(decide σ.Nodup&&bs.all (inB σ)&&vs.all (inD σ)):=rfl
@[go_sem] theorem rnA_v {z:Value}:rnA σ (.v z)=.v z:=rfl
@[go_sem] theorem rnA_nl:rnA σ .nl=.nl:=rfl
@[go_sem] theorem rnA_sl {z:List (List A)}:rnA σ (.sl z)=.sl z:=rfl
@[go_sem] theorem rnA_ref {z:List A}:rnA σ (.ref z o)=.ref z o:=rfl
@[go_sem] theorem rnA_ptr:rnA σ (.ptr i o)=.ptr (σ.getD i 0) o:=rfl
@[go_sem] theorem rnA_own:rnA σ (.own i o)=.own (σ.getD i 0) o:=rfl
@[go_sem] theorem rnA_ep {z:Nat}:rnA σ (.ep i z o m)=.ep (σ.getD i 0) z o m:=rfl
@[go_sem] theorem rnA_mp:rnA σ (.mp i)=.mp (σ.getD i 0):=rfl
@[go_sem] theorem rnA_fn {f:FuncId}:rnA σ (.fn f l)=.fn f (rnA.rnL σ l):=rfl
@[go_sem] theorem rnL_n:rnA.rnL σ []=[]:=rfl
@[go_sem] theorem rnL_c:rnA.rnL σ (x::l)=rnA σ x::rnA.rnL σ l:=rfl
@[go_sem] theorem rnD_a:rnD σ (.a x)=.a (rnA σ x):=rfl
@[go_sem] theorem rnD_r:rnD σ (.r l)=.r (l.map (rnA σ)):=rfl
@[go_sem] theorem rnD_t:rnD σ (.t ds)=.t (rnD.rnDs σ ds):=rfl
@[go_sem] theorem rnDs_n:rnD.rnDs σ []=[]:=rfl
@[go_sem] theorem rnDs_c:rnD.rnDs σ (d::ds)=rnD σ d::rnD.rnDs σ ds:=rfl
@[go_sem] theorem rnB_cell:rnB σ (.cell l)=.cell (l.map (rnA σ)):=rfl
@[go_sem] theorem rnB_arr {v:Nat} {z:List (List A)}:rnB σ (.arr v n z)=.arr v n z:=rfl
@[go_sem] theorem rnB_gone:rnB σ .gone=.gone:=rfl
@[go_sem] theorem mrg_n {α:Type} {l m:List α}:mrg [] l m=l++m:=rfl
@[go_sem] theorem mrg_c {α:Type} {l m:List α} {x:α}:mrg (i::σ) l (x::m)=mrg σ (l.set i x) m:=rfl
@[go_sem] theorem rnX_0:rnX σ k 0=σ:=by simp [rnX]
@[go_sem] theorem rnX_1:rnX σ k 1=σ++[k]:=rfl
@[go_sem] theorem rnX_2:rnX σ k 2=σ++[k,k+1]:=rfl
@[go_sem] theorem rnX_3:rnX σ k 3=σ++[k,k+1,k+2]:=rfl
@[go_sem] theorem nrM_a:nrM m (.a x)=nrA m x:=rfl
@[go_sem] theorem nrM_r:nrM m (.r l)=l.all (nrA m):=rfl
@[go_sem] theorem nrM_t:nrM m (.t ds)=nrM.nrMs m ds:=rfl
@[go_sem] theorem nrMs_n:nrM.nrMs m []=true:=rfl
@[go_sem] theorem nrMs_c:nrM.nrMs m (d::ds)=(nrM m d&&nrM.nrMs m ds):=rfl
@[go_sem] theorem nrA_fn0 {f:FuncId}:nrA m (.fn f [])=true:=rfl
@[go_sem] theorem nrA_fnc {f:FuncId}:nrA m (.fn f (x::l))=nrA.nrL m (x::l):=rfl
@[go_sem] theorem nrL_n:nrA.nrL m []=true:=rfl
@[go_sem] theorem nrL_c:nrA.nrL m (x::l)=(nrA m x&&nrA.nrL m l):=rfl
@[go_sem] theorem seeA_own {v:Nat}:seeA st (.own i v)=(match st[i]? with|some (.arr ver' _ rows)=>if v=ver' then .sl rows else .own i v|_=>.own i v):=rfl
@[go_sem] theorem seeD1_own {v:Nat}:qcy st (.a (.own i v))=.a (match st[i]? with|some (.arr ver' _ rows)=>if v=ver' then .sl rows else .own i v|_=>.own i v):=rfl
@[go_sem] theorem nrA_nl:nrA m .nl=true:=rfl
@[go_sem] theorem nrA_mp1:nrA m (.mp i)=decide (i<m):=rfl
@[go_sem] theorem nrA_ep1 {z:Nat}:nrA m (.ep i z o n)=decide (i<m):=rfl
@[go_sem] theorem nrS_m:nrS m (.map q wd es::bs)=((es.all fun e=>e.2.all (nrA m))&&nrS m bs):=rfl
@[go_sem] theorem lkD_t {kv:Value} {z:List A}:lkD true wd es kv z=.t [elD wd (mval es kv z),.a (.v (.bool (mhas es kv)))]:=rfl
@[go_sem] theorem lkD_f {kv:Value} {z:List A}:lkD false wd es kv z=elD wd (mval es kv z):=rfl
@[go_sem] theorem elD_t:elD true l=.r l:=rfl
@[go_sem] theorem elD_1:elD false [x]=.a x:=rfl
@[go_sem] theorem elA_v {z:Value}:elA false (.a (.v z))=some [.v z]:=rfl
@[go_sem] theorem elA_sl {z:List (List A)}:elA false (.a (.sl z))=some [.sl z]:=rfl
@[go_sem] theorem elA_ptr:elA false (.a (.ptr i o))=some [.ptr i o]:=rfl
@[go_sem] theorem elA_own:elA false (.a (.own i o))=some [.own i o]:=rfl
@[go_sem] theorem elA_r:elA true (.r l)=some l:=rfl
@[go_sem] theorem ksS {s:ByteArray}:KS.ok .str (.string s)=true:=rfl
@[go_sem] theorem ksI {p:IntKind} {z:Int}:KS.ok (.int p) (.int p z)=true:=by simp [KS.ok]
end
theorem qa9 {α:Type} {f:α→List A} {n:Nat} (h:∀x,(f x).length=n) (l:List α):qal n (l.map f)=true:=by simp [qal,h]
@[go_sem] theorem allLen_n {n:Nat}:qal n []=true:=rfl
@[go_sem] theorem allLen_c {n:Nat} {r:List A} {l:List (List A)}:qal n (r::l)=((r.length==n)&&qal n l):=rfl
@[go_sem] theorem allLen_app {n:Nat} {k l:List (List A)}:qal n (k++l)=(qal n k&&qal n l):=by simp [qal]
@[go_sem] theorem strLen {s:List UInt8}:(qg1 s).length=1:=rfl
@[go_sem] theorem allLen_str {l:List (List UInt8)}:qal 1 (l.map qg1)=true:=qa9 (f:=qg1) (fun _=>rfl) l
@[go_sem] theorem allLen_ow {l:List (Int×Int)}:qal 2 (l.map owAt)=true:=qa9 (f:=owAt) (fun _=>rfl) l
@[go_sem] theorem allLen_Vr {l:List Vr}:qal 13 (l.map Vr.at)=true:=qa9 (fun x=>Vr.len x) l
@[go_sem] theorem allLen_Ex {l:List Ex}:qal 4 (l.map Ex.at)=true:=qa9 (fun x=>Ex.len x) l
@[go_sem] theorem allLen_St {l:List St}:qal 23 (l.map St.at)=true:=qa9 (fun x=>St.len x) l
@[go_sem] theorem allLen_Me {l:List Me}:qal 17 (l.map Me.at)=true:=qa9 (fun x=>Me.len x) l
@[go_sem] theorem allLen_Cs {l:List Cs}:qal 7 (l.map Cs.at)=true:=qa9 (fun x=>Cs.len x) l
@[go_sem] theorem allLen_Ty {l:List Ty}:qal 11 (l.map Ty.at)=true:=qa9 (fun x=>Ty.len x) l
attribute [go_sem] List.getD_cons_zero List.getD_cons_succ List.length_append List.length_singleton List.length_replicate List.append_nil
/-! ### Short rules -/
section
variable {P:Program} {C:Cx P} {ops:Array Oper} {r:List Oper} {st st':List Bx} {e:Nat→D} {dst:Option Nat} {ty:TypeId} {pos:String} {after:Array Edge} {K:(Nat→D)→List Bx→Prop} {T T':TypeId} {n bs i ver:Nat} {zr:List A} {rows rows2 rows':List (List A)} {s x y:Operand} {f:FuncId} {xs:List Operand} {tys:Array TypeId} {d d' g:D} {ds vs:List D} {st0 st1 bs':List Bx} {m kx ix:Operand} {j:Nat} {k:KS} {wd:Bool} {es2 es3:List (Value×List A)} {kv:Value} {z row:List A} {ok:Bool}
theorem RS.aO (k:RS C ops r (putE e dst (.a (.own i (ver+1)))) (st.set i (.arr (ver+1) n rows')) K) (hs:evO e s=.a (.own i ver):=by (simp only [go_sem,simprocAttr,fx])<;>rfl) (ha:st[i]? = some (.arr ver n rows):=by (simp only [go_sem,simprocAttr,fx])<;>rfl) (hx:qbs st (evO e x)=some rows2:=by (simp only [go_sem,simprocAttr,fx])<;>rfl) (hn:es P T=some n:=by (simp only [go_sem])<;>rfl) (hz:zrT P T=some zr:=by (simp only [go_sem])<;>rfl) (hzl:zr.length=n:=by (simp only [go_sem])<;>rfl) (hby:byt P T=some bs:=by (simp only [go_sem])<;>rfl) (hl2:qal n rows2=true:=by (simp only [go_sem,simprocAttr,fx])<;>rfl)
  (hb1:(rows.length+rows2.length)*bs≤140737488355328:=by (try simp only [go_sem]);omega) (hb2:rows.length+rows2.length≤4611686018427387904:=by (try simp only [go_sem]);omega) (hr:rows++rows2=rows':=by (try simp only [go_sem,simprocAttr,fx])<;>rfl):RS C ops (⟨dst,.call ⟨.builtin .append,⟨[s,x]⟩,⟨[T,T]⟩⟩,ty,pos,after,none⟩::r) e st K:=RS.appO hs ha hx hn hz hzl hby hl2 hb1 hb2 hr k
theorem RS.aN (k:RS C ops r (putE e dst (.a (.own st.length 0))) (st++[.arr 0 n rows2]) K) (hs:evO e s=.a .nl:=by (simp only [go_sem,simprocAttr,fx])<;>rfl) (hx:qbs st (evO e x)=some rows2:=by (simp only [go_sem,simprocAttr,fx])<;>rfl) (hn:es P T=some n:=by (simp only [go_sem])<;>rfl) (hn0:0<n:=by decide) (hz:zrT P T=some zr:=by (simp only [go_sem])<;>rfl) (hzl:zr.length=n:=by (simp only [go_sem])<;>rfl) (hby:byt P T=some bs:=by (simp only [go_sem])<;>rfl) (hl2:qal n rows2=true:=by (simp only [go_sem,simprocAttr,fx])<;>rfl) (hne:0<rows2.length:=by (try simp only [go_sem]);omega)
  (hb1:rows2.length*bs≤140737488355328:=by (try simp only [go_sem]);omega) (hb2:rows2.length≤4611686018427387904:=by (try simp only [go_sem]);omega):RS C ops (⟨dst,.call ⟨.builtin .append,⟨[s,x]⟩,⟨[T,T]⟩⟩,ty,pos,after,none⟩::r) e st K:=RS.appN hs hx hn hn0 hz hzl hby hl2 hne hb1 hb2 k
theorem RS.mS {len:Nat} {kl kc:IntKind} (k:RS C ops r (putE e dst (.a (.own st.length 0))) (st++[.arr 0 n (List.replicate len zr)]) K) (hx:evO e x=.a (.v (.int kl (len:Nat))):=by (simp only [go_sem,simprocAttr,fx])<;>rfl) (hy:evO e y=.a (.v (.int kc (len:Nat))):=by (simp only [go_sem,simprocAttr,fx])<;>rfl) (hn:es P T=some n:=by (simp only [go_sem])<;>rfl) (hn0:0<n:=by decide) (hz:zrT P T=some zr:=by (simp only [go_sem])<;>rfl) (hzl:zr.length=n:=by (simp only [go_sem])<;>rfl) (hcl:zr.all clA=true:=by (simp only [go_sem])<;>rfl) (hby:byt P T=some bs:=by (simp only [go_sem])<;>rfl)
  (hb1:len*bs≤281474976710656:=by (try simp only [go_sem]);omega) (hb2:len≤4611686018427387904:=by (try simp only [go_sem]);omega):RS C ops (⟨dst,.makeSlice T x y,ty,pos,after,none⟩::r) e st K:=RS.mk hx hy hn hn0 hz hzl hcl hby hb1 hb2 k
theorem RS.l0 {len:Nat} (k:RS C ops r (putE e dst (.a (.own st.length 0))) (st++[.arr 0 n []]) K) (hl:len=0:=by rfl) (hn:es P T=some n:=by (simp only [go_sem])<;>rfl) (hn0:0<n:=by decide) (hz:zrT P T=some zr:=by (simp only [go_sem])<;>rfl) (hzl:zr.length=n:=by (simp only [go_sem])<;>rfl) (hby:byt P T=some bs:=by (simp only [go_sem])<;>rfl):RS C ops (⟨dst,.buildSlice T len ⟨[]⟩,ty,pos,after,none⟩::r) e st K:=RS.lit0 hl hn hn0 hz hzl hby k
theorem RS.li {len:Nat} {parts:List (Nat×Operand)} (k:RS C ops r (putE e dst (.a (.own st.length 0))) (st++[.arr 0 n rows]) K) (hn:es P T=some n:=by (simp only [go_sem])<;>rfl) (hn0:0<n:=by decide) (hlen:0<len:=by decide) (hz:zrT P T=some zr:=by (simp only [go_sem])<;>rfl) (hzl:zr.length=n:=by (simp only [go_sem])<;>rfl) (hcl:zr.all clA=true:=by (simp only [go_sem])<;>rfl) (hby:byt P T=some bs:=by (simp only [go_sem])<;>rfl) (hsm:len*n≤16777216:=by decide)
  (hp:qb6 n (List.replicate len zr) (parts.map fun p=>(p.1,evO e p.2))=some rows:=by (simp only [go_sem,simprocAttr,List.replicate_succ,List.replicate_zero,fx])<;>rfl):RS C ops (⟨dst,.buildSlice T len ⟨parts⟩,ty,pos,after,none⟩::r) e st K:=RS.lit hn hn0 hlen hz hzl hcl hby hsm hp k
theorem RS.sE {z off:Nat} {row xs:List A} (k:RS C ops r (putE e dst .undef) (st.set i (.arr ver n rows')) K) (hx:evO e x=.a (.ep i ver z off):=by (simp only [go_sem,simprocAttr,fx])<;>rfl) (ha:st[i]? = some (.arr ver n rows):=by (simp only [go_sem,simprocAttr,fx])<;>rfl) (hz:rows[z]? = some row:=by (simp only [go_sem,simprocAttr,fx])<;>rfl) (hy:qap (evO e y)=some xs:=by (simp only [go_sem,simprocAttr,fx])<;>rfl) (hc:xs.all clA=true:=by (simp only [go_sem,simprocAttr,fx])<;>rfl) (hT:szo P T=some xs.length:=by (simp only [go_sem,simprocAttr,fx])<;>rfl) (hle:off+xs.length≤row.length:=by simp only [go_sem,simprocAttr,fx])
  (hr:rows.set z (qae row off xs)=rows':=by (simp only [go_sem,simprocAttr,fx])<;>rfl):RS C ops (⟨dst,.store T x y,ty,pos,after,none⟩::r) e st K:=RS.stoE hx ha hz hy hc hT hle hr k
theorem RS.eN (h:∀b,(0<rows.length→b=false)→RS C ops r (upd (putE e dst (.a (.v (.bool b)))) 1000000 g) st K) (hx:evO e x=.a (.sl rows):=by (simp only [go_sem,simprocAttr,fx])<;>rfl) (hT:isSl P T=true:=by simp only [go_sem]) (hg:e 1000000=g:=by (simp only [go_sem,simprocAttr])<;>rfl):RS C ops (⟨dst,.binOp .eql T x (.const (.slice none 0 0)) T',ty,pos,after,none⟩::r) e st K:=RS.eqNil (q:=false) rfl hx hT hg h
theorem RS.cM (σ:List Nat) (hx:xs.map (evO e)=vs:=by (simp only [go_sem,simprocAttr,fx])<;>rfl) (hs:σ.map (fun i=>st.getD i .gone)=bs':=by (simp only [go_sem,simprocAttr,fx])<;>rfl) (hin:qcf σ bs' vs=true:=by (simp only [go_sem,simprocAttr,fx])<;>rfl) (hu:vs.map (unD σ)=ds:=by (simp only [go_sem,simprocAttr,fx])<;>rfl) (hv:bs'.map (unB σ)=st0:=by (simp only [go_sem,simprocAttr,fx])<;>rfl) (hg:e 1000000=g:=by (simp only [go_sem,simprocAttr])<;>rfl) (hp:DM P f ds st0 d st1) (hne:0<st1.length:=by exact Nat.zero_lt_succ _) (hd:rnD (rnX σ st.length (st1.length-σ.length)) d=d':=by (simp only [go_sem,simprocAttr,fx])<;>rfl)
  (hst:mrg σ st (st1.map (rnB (rnX σ st.length (st1.length-σ.length))))=st':=by (simp only [go_sem,simprocAttr,fx])<;>rfl) (h:RS C ops r (upd (putE e dst d') 1000000 g) st' K):RS C ops (⟨dst,.call ⟨.value (.func f),⟨xs⟩,tys⟩,ty,pos,after,none⟩::r) e st K:=RS.callM σ hx hs hin hu hv hg hp hne hd hst h
end
/-! ### How such a one ends -/
section
variable {P:Program} {n t:Nat} {O:D→List Bx→D→Prop} {e:Nat→D} {st:List Bx} {rs:List ResultVar} {d:D} {ds:List D}
theorem retM0 (h:O (.t []) st (e 1000000)):retM P n [] O .ret e st:=⟨.t [],⟨[],rfl,rfl⟩,h⟩
theorem retM0n (h:O (.t []) st (e 1000000)):retM P n [] O .normal e st:=⟨.t [],⟨[],rfl,rfl⟩,h⟩
theorem retM1 (h:O d st (e 1000000)) (he:e t=d:=by (simp only [go_sem,simprocAttr,fx])<;>rfl) (ht:decide (t<n)=true:=by rfl):retM P n [.tmp t] O .ret e st:=⟨d,by simp only [resM,qec];rw [if_pos (of_decide_eq_true ht),he],h⟩
end
theorem qab.goV {P:Program} {f:FuncId} {fn:Func} {c:Code} {n:Nat} {rs:List ResultVar} {ds:List D} {d:D} (hf:P.funcs[f]? = some fn) (hb:fn.body=some c) (hn:fn.ntmps=n) (hr:fn.results=⟨rs⟩) (hnm:(fn.name == "runtime.NumGoroutine")=false) (hl:(decide (ds.length≤n)&&decide (n≤1000000))=true)
  (h:∀C:Cx P,C.ro=none→C.V0.st=[]→WP C n c (retN P n rs d) (qaj 0 ds) []):qab P f ds d:=by
 rw [Bool.and_eq_true,decide_eq_true_iff,decide_eq_true_iff] at hl
 refine⟨qch hf hb hnm,fun w x vs hx hgd hvl hrr=>?_⟩
 have hsat:Sat (Cx.pure P w x) (Cx.pure P w x).V0 { tmps:=vs.toArray++Array.replicate (fn.ntmps-vs.toArray.size) Go.undef,defers:=[] } n (qaj 0 ds):=by
  refine⟨[],⟨rfl,by simp,fun D hD=>by simp at hD⟩,⟨by simp;omega,fun t _=>qdy (by omega) hvl hrr t,.out hx hgd,.refl _,.refl _ _,fun b hb=>by have hb:b∈([]:List Nat):=hb;simp at hb,fun b hb=>by have hb:b∈([]:List Nat):=hb;simp at hb,fun _ h=>h,fun h=>h.elim,fun _ h=>.inl h,fun _ h=>h.elim,fun _ h=>h.elim⟩,?_⟩
  rw [qee (by omega)];trivial
 refine qgu (C:=Cx.pure P w x) (RQ:=fun e st=>resL P n e st fn.results.toList d) hf hb rfl hsat ((h _ rfl rfl).mono fun ex e st hq=>?_) ?_
 ·have:fn.results.toList=rs:=by rw [hr]
  cases ex with
  | normal=>show resL P n e st fn.results.toList d;rw [this];exact hq
  | ret=>show resL P n e st fn.results.toList d;rw [this];exact hq
  | _=>exact hq
 ·intro tm V' e' hm _ hq
  obtain⟨v,h1,h2⟩:=qg4 hm hq
  exact⟨v,h1,v,rfl,hm.fr.grw,h2.lessOut hm.x0⟩
theorem DG.introV {P:Program} {E:Env P} {f:FuncId} {fn:Func} {c:Code} {n:Nat} {rs:List ResultVar} {ds:List D} {st0:List Bx} {g:D} {O:D→List Bx→D→Prop} (hf:P.funcs[f]? = some fn) (hb:fn.body=some c) (hn:fn.ntmps=n) (hr:fn.results=⟨rs⟩) (hnm:(fn.name == "runtime.NumGoroutine")=false) (hl:(decide (ds.length≤n)&&decide (n≤1000000))=true)
  (h:∀(C:Cx P),C.ro=none→C.E=E→C.on→C.V0.st=st0→WP C n c (retM P n rs O) (upd (qaj 0 ds) 1000000 g) st0):DG E f ds st0 g O:=by
 rw [Bool.and_eq_true,decide_eq_true_iff,decide_eq_true_iff] at hl
 refine⟨qch hf hb hnm,fun V Nx vs hst hok hsep hnx henv hvl hrr=>?_⟩
 subst hst
 have hsat:Sat (⟨V,fun b=>b∈V.bl∨(V.x b∧¬Nx b),True,none,E,Nx⟩:Cx P) V { tmps:=vs.toArray++Array.replicate (fn.ntmps-vs.toArray.size) Go.undef,defers:=[] } n (upd (qaj 0 ds) 1000000 g):=by
  refine⟨[],⟨rfl,by simp,fun D hD=>by simp at hD⟩,⟨by simp;omega,fun t ht=>?_,hok,.refl _,.refl _ _,fun b hb=>.inl (.inl hb),hsep,fun _ h=>h,fun _ b h h'=>.inl (.inr ⟨h,h'⟩),fun _ h=>.inl h,hnx,fun b hb=>(hnx b hb).1⟩,?_⟩
  ·have:upd (qaj 0 ds) 1000000 g t=qaj 0 ds t:=if_neg (by omega)
   rw [this]
   exact qdy (by omega) hvl hrr t
  ·have:upd (qaj 0 ds) 1000000 g 1000000=g:=if_pos rfl
   rw [this]
   exact henv.less fun b (hb:Nx b∨b∈([]:List Nat))=>hb.elim id fun h=>by simp at h
 refine qgu (C:=(⟨V,fun b=>b∈V.bl∨(V.x b∧¬Nx b),True,none,E,Nx⟩:Cx P)) (RQ:=fun e st=>∃d,resM P n e st rs d∧O d st (e 1000000)) hf hb rfl hsat ((h _ rfl rfl trivial rfl).mono fun ex e st hq=>?_) ?_
 ·cases ex with
  | normal=>exact hq
  | ret=>exact hq
  | _=>exact hq
 ·rintro tm V' e' hm henv' ⟨d,hres,hO⟩
  have hres':resM P n e' V'.st fn.results.toList d:=by rw [hr];exact hres
  obtain⟨v,h1,h2⟩:=qf8 hm hres'
  refine⟨v,h1,v,rfl,d,V'.st,e' 1000000,V'.x,V'.bl,hO,⟨hm.le,hm.ok,⟨hm.fr.os,hm.fr.tape,hm.fr.output,hm.fr.size,fun b hb hn=>hm.fr.block b hb fun h=>hn (h.imp id fun h=>⟨trivial,h.1,h.2⟩)⟩,fun b hb=>?_,fun _=>hm.sep,hm.x0,hm.xg⟩,henv',h2⟩
  rcases hm.low b hb with (h|h)|h
  ·exact .inl h
  ·exact absurd (hm.x0 b h.1) (hm.sep b hb)
  ·exact .inr h
section
variable {P:Program} {C:Cx P} {ops:Array Oper} {r:List Oper} {st:List Bx} {e:Nat→D} {dst:Option Nat} {o:Oper} {K:(Nat→D)→List Bx→Prop}
theorem OpJ.pickB {st:List Bx} {c x y:Operand} {b:Bool} (ho:o.op=.pick c x y) (hc:evO e c=.a (.v (.bool b))):OpJ P st e o (bif b then evO e x else evO e y):=by
 intro ρ V _ _ hu
 rw [ho] at hu
 have h1:=hu c (by simp only [qac];split<;>simp)
 rw [hc] at h1
 obtain⟨h1,_⟩:=h1.v_inv
 simp only [execOp,ho,h1,asBool]
 cases b
 ·have h2:=hu y (by simp [qac,h1])
  exact .val h2
 ·have h2:=hu x (by simp [qac,h1])
  exact .val h2
theorem RS.pk {c x y:Operand} {b:Bool} {d:D} {ty:TypeId} {pos:String} {after:Array Edge} {guard:Option (Nat×Bool)} (h:RS C ops r (putE e dst d) st K) (hc:evO e c=.a (.v (.bool b)):=by (simp only [go_sem,simprocAttr,fx])<;>rfl) (hd:(bif b then evO e x else evO e y)=d:=by (simp only [go_sem,simprocAttr,fx])<;>rfl):RS C ops (⟨dst,.pick c x y,ty,pos,after,guard⟩::r) e st K:=by
 subst hd
 exact .inl ⟨_,st,.inr ⟨rfl,.of (.pickB rfl hc)⟩,h⟩
theorem RS.gF {j:Nat} {b x:Bool} (h:RS C ops r (putE e o.dst .junk) st K) (hg:o.guard=some (j,b):=by rfl) (hx:(qa5 ops j).map e=some (.a (.v (.bool x))):=by (simp only [go_sem,simprocAttr,qa5,fx])<;>rfl) (hb:(x != b)=true:=by rfl):RS C ops (o::r) e st K:=by
 refine .inl ⟨.junk,st,.inr ⟨rfl,?_⟩,h⟩
 unfold qau
 rw [hg]
 simp only [hx]
 intro h2
 subst h2
 simp at hb
@[go_sem] theorem lend0_own {i v:Nat}:lend0 st (.own i v)=(match st[i]? with|some (.arr ver' _ rows)=>if v=ver' then .sl rows else .own i v|_=>.own i v):=rfl
@[go_sem] theorem lendA_own {i v:Nat}:qh1 st (.own i v)=lend0 st (.own i v):=rfl
@[go_sem] theorem lend0_nl:lend0 st .nl=.nl:=rfl
@[go_sem] theorem ldOk_own {i v:Nat}:ldOk st (.own i v)=(match st[i]? with|some (.arr ver' _ _)=>v==ver'|_=>false):=rfl
@[go_sem] theorem ldOk0_own {i v:Nat}:qe4 st (.own i v)=(match st[i]? with|some (.arr ver' _ _)=>v==ver'|_=>false):=rfl
@[go_sem] theorem ldOk_ptr {i v:Nat}:ldOk st (.ptr i v)=(match st[i]? with|some (.cell row)=>row.all clA|_=>false):=rfl
@[go_sem] theorem un1_j {op:UnOp}:un1 op .junk=none:=rfl
@[go_sem] theorem faD_j {q:Option Nat}:faD q .junk=none:=rfl
@[go_sem] theorem ldD_j {k:Option (Option Nat)}:ldD st k .junk=none:=rfl
@[go_sem] theorem exD_j {k:Nat}:exD k .junk=none:=rfl
@[go_sem] theorem nilD_j:nilD .junk=none:=rfl
@[go_sem] theorem pick3_j1 {c y:D}:qkz c .junk y=none:=by unfold qkz;split<;>simp_all
@[go_sem] theorem pick3_j2 {c x:D}:qkz c x .junk=none:=by unfold qkz;split<;>simp_all
@[go_sem] theorem bin2_j1 {b:Bool} {ls:Option (List Nat)} {op:BinOp} {y:D}:bin2 b ls op .junk y=none:=by unfold bin2;split<;>simp_all
@[go_sem] theorem bin2_j2 {b:Bool} {ls:Option (List Nat)} {op:BinOp} {x:D}:bin2 b ls op x .junk=none:=by unfold bin2;split<;>simp_all
@[go_sem] theorem ixD_j1 {n:Option Nat} {ar:Option (Nat×Nat)} {y:D}:ixD n ar .junk y=none:=by unfold ixD;split<;>simp_all
@[go_sem] theorem ixS_j1 {n:Option Nat} {ar:Option (Nat×Nat)} {y:D}:ixS st n ar .junk y=none:=by unfold ixS;simp only [ixD_j1]
section
variable {P:Program} {st:List Bx} {e:Nat→D} {dst:Option Nat} {ty T T':TypeId} {pos:String} {after:Array Edge} {guard:Option (Nat×Bool)} {x y c i:Operand}
@[go_sem] theorem evG_pick:evG P st e ⟨dst,.pick c x y,ty,pos,after,guard⟩=none:=rfl
@[go_sem] theorem evG_un {op:UnOp}:evG P st e ⟨dst,.unOp op T x,ty,pos,after,guard⟩=none:=rfl
@[go_sem] theorem evG_load:evG P st e ⟨dst,.load T x,ty,pos,after,guard⟩=none:=rfl
@[go_sem] theorem evG_faddr {k:Nat}:evG P st e ⟨dst,.fieldAddr T x k,ty,pos,after,guard⟩=none:=rfl
@[go_sem] theorem evG_iaddr:evG P st e ⟨dst,.indexAddr T x i,ty,pos,after,guard⟩=none:=rfl
@[go_sem] theorem evG_extract {k:Nat}:evG P st e ⟨dst,.extract x k,ty,pos,after,guard⟩=none:=rfl
@[go_sem] theorem evG_nil:evG P st e ⟨dst,.nilCheck x,ty,pos,after,guard⟩=none:=rfl
end
end
section
variable {P:Program} {ops:Array Oper} {r:List Oper} {e:Nat→D} {st:List Bx} {dst:Option Nat} {ty T:TypeId} {pos:String} {after:Array Edge} {x ix:Operand} {ok wd:Bool} {j:Nat} {k:KS} {es2:List (Value×List A)} {kv:Value} {z:List A} {K:(Nat→D)→Prop} {d:D} {guard:Option (Nat×Bool)}
end
@[go_sem] theorem putRow_z {l:List A}:qae l 0 []=l:=by simp [qae]
@[go_sem] theorem putRow_c {a x:A} {l xs:List A}:qae (a::l) 0 (x::xs)=x::qae l 0 xs:=by simp [qae]
@[go_sem] theorem putRow_s {a:A} {l xs:List A} {n:Nat}:qae (a::l) (n+1) xs=a::qae l n xs:=by simp [qae,Nat.add_right_comm]
@[go_sem] theorem ldRow_ws {a:A} {l:List A} {n off:Nat}:qaa (some n) (a::l) (off+1)=qaa (some n) l off:=by
 simp only [qaa,List.length_cons,List.drop_succ_cons]
 congr 1
 exact propext (by omega)
@[go_sem] theorem ldRow_w0 {a:A} {l:List A} {n:Nat}:qaa (some (n+1)) (a::l) 0=if n≤l.length then some (.r (a::l.take n)) else none:=by
 simp only [qaa,List.length_cons,List.drop_zero,List.take_succ_cons,Nat.zero_add]
 congr 1
 exact propext (by omega)
@[go_sem] theorem clA_seeV {st:List Bx} {z:Value}:clA (seeA st (.v z))=true:=rfl
@[go_sem] theorem seeA_vv {st:List Bx} {z:Value}:seeA st (.v z)=.v z:=rfl
attribute [go_sem] List.take_succ_cons List.take_zero List.drop_succ_cons List.drop_zero List.drop_nil List.take_nil List.cons_append List.nil_append List.length_cons List.length_nil
@[go_sem] theorem dCells_mp {i:Nat}:qap (.a (.mp i))=some [.mp i]:=rfl
section
variable {P:Program} {C:Cx P} {ops:Array Oper} {r:List Oper} {e:Nat→D} {st:List Bx} {dst:Option Nat} {ty T:TypeId} {pos:String} {after:Array Edge} {K:(Nat→D)→List Bx→Prop} {guard:Option (Nat×Bool)} {n bs:Nat} {zr:List A} {rows:List (List A)}
@[go_sem] theorem evQ_litG {len:Nat} {q:Array (Nat×Operand)}:evQ P st e ⟨dst,.buildSlice T len q,ty,pos,after,guard⟩=none:=rfl
@[go_sem] theorem evG_litG {len:Nat} {q:Array (Nat×Operand)}:evG P st e ⟨dst,.buildSlice T len q,ty,pos,after,guard⟩=none:=rfl
theorem RS.ls {len:Nat} {parts:List (Nat×Operand)} (k:RS C ops r (putE e dst (.a (.sl rows))) st K) (hn:es P T=some n:=by (simp only [go_sem])<;>rfl) (hn0:0<n:=by decide) (hlen:0<len:=by decide) (hz:zrT P T=some zr:=by (simp only [go_sem])<;>rfl) (hzl:zr.length=n:=by (simp only [go_sem])<;>rfl) (hcl:zr.all clA=true:=by (simp only [go_sem])<;>rfl) (hby:byt P T=some bs:=by (simp only [go_sem])<;>rfl) (hsm:len*n≤16777216:=by decide)
  (hp:qb6 n (List.replicate len zr) (parts.map fun p=>(p.1,evO e p.2))=some rows:=by (simp only [go_sem,simprocAttr,List.replicate_succ,List.replicate_zero,fx])<;>rfl):RS C ops (⟨dst,.buildSlice T len ⟨parts⟩,ty,pos,after,guard⟩::r) e st K:=RS.litS hn hn0 hlen hz hzl hcl hby hsm hp k
end
end Go.Proofs.YthkojpnjdpbcgaaGreatDoor
