/- Boxes by other numbers in functions that are handed boxes. No program in sight. Conditions: none. -/
import Derived.Test.YthkojpnjdpbcgaaGreatDoorMl24
import Derived.Test.YthkojpnjdpbcgaaGreatDoorMl34
import Derived.Test.YthkojpnjdpbcgaaGreatDoorMl42
import Derived.Test.YthkojpnjdpbcgaaGreatDoorMl46
import Derived.Test.YthkojpnjdpbcgaaGreatDoorMl45
import Derived.Test.YthkojpnjdpbcgaaGreatDoorMl47
import Derived.Test.YthkojpnjdpbcgaaGreatDoorMl41
set_option linter.unusedVariables false
set_option maxRecDepth 100000
set_option maxHeartbeats 8000000
set_option linter.unusedSimpArgs false
namespace Go.Proofs.YthkojpnjdpbcgaaGreatDoor
open Go.RowKit
section
theorem Vw.Le.use {V0 V:Vw} {σ:List Nat} {st0:List Bx} (hle:V0.Le V) (hok:Ok V) (h:LOk V.st σ st0) (hσ:∀i,i<V0.st.length→σ[i]? = some i):V0.Le (useV V σ st0):=by
 have hlen:V0.st.length≤st0.length:=by
  rcases Nat.eq_zero_or_pos V0.st.length with h0|h0
  ·omega
  ·have:=(List.getElem?_eq_some_iff.1 (hσ (V0.st.length-1) (by omega))).1
   rw [←h.len];omega
 have hbl:∀i,i<V0.st.length→(useV V σ st0).bl[i]? = V.bl[i]?:=fun i hi=>by
  have hb:V.bl[i]? = some (V.bl.getD i 0):=by
   have h1:=hle.len
   have h2:=hok.len
   rw [List.getD_eq_getElem?_getD,List.getElem?_eq_getElem (by omega)];rfl
  rw [hb]
  have h3:=qjp hok h (hσ i hi)
  rw [hb] at h3
  exact h3
 have hat:∀i y,i<V0.st.length→st0[i]? = some y→V.st[i]? = some (rnB σ y):=fun i y hi hy=>by rw [h.at_ i i (hσ i hi),hy];rfl
 refine⟨hlen,hle.size,fun b hb hn=>⟨(hle.blk b hb hn).1,fun hn'=>(hle.blk b hb hn).2 (qi2 hok h b hn')⟩,fun i row hi hr=>?_,fun i ver n rows hi hr=>?_,fun i k wd es hi hr=>?_⟩
 ·obtain⟨h1,h2⟩:=hle.cell i _ hi (hat i _ hi hr)
  exact⟨h1,(hbl i hi).trans h2⟩
 ·obtain⟨v0,n0,r0,h1,h2⟩:=hle.arr i ver n rows hi (hat i _ hi hr)
  refine⟨v0,n0,r0,h1,h2.imp id fun ⟨e1,e2,e3,e4,e5⟩=>⟨e1,e2,e3,(hbl i hi).trans e4,e5⟩⟩
 ·obtain⟨h1,h2⟩:=hle.map i k wd _ hi (hat i _ hi hr)
  exact⟨h1,(hbl i hi).trans h2⟩
structure VWU (n0:Nat) (d' d:D) (st st1:List Bx):Prop where
 u:∃σ,qfi st σ [] st1∧(∀i,i<n0→σ[i]? = some i)∧d'=rnD σ d∧nrM σ.length d=true
def vresU (P:Program) (n n0:Nat) (rs:List ResultVar) (d:D) (st1:List Bx) (l:EL) (st:List Bx):Prop :=
 match rs with
 | [r]=>(match raw1 P n (getL l) st r with
  | some d'=>VWU n0 d' d st st1
  | none=>False)
 | []=>VWU n0 (.t []) d st st1
 | _=>False
def vretU (P:Program) (n n0:Nat) (rs:List ResultVar) (d:D) (st1:List Bx):Exit→EL→List Bx→Prop
 | .normal,l,st=>vresU P n n0 rs d st1 l st
 | .ret,l,st=>vresU P n n0 rs d st1 l st
 | _,_,_=>False
theorem qlj {P:Program} {n n0:Nat} {rs:List ResultVar} {d:D} {st1:List Bx} {ex:Exit} {l:EL} {st:List Bx} (h:vretU P n n0 rs d st1 ex l st):retM P n rs (fun d1 s1 _=>∃σ,qfi s1 σ [] st1∧(∀i,i<n0→σ[i]? = some i)∧d1=rnD σ d∧nrM σ.length d=true) ex (envL l) st:=by
 have key:vresU P n n0 rs d st1 l st→∃d1,resM P n (envL l) st rs d1∧(∃σ,qfi st σ [] st1∧(∀i,i<n0→σ[i]? = some i)∧d1=rnD σ d∧nrM σ.length d=true):=by
  intro h2
  unfold vresU at h2
  rw [qbi] at h2
  split at h2
  ·split at h2
   ·rename_i d' hd
    exact⟨d',raw1_resM hd,h2.u⟩
   ·exact h2.elim
  ·exact⟨.t [],⟨[],rfl,rfl⟩,h2.u⟩
  ·exact h2.elim
 cases ex with
 | normal=>exact key h
 | ret=>exact key h
 | _=>exact h.elim
theorem DG.introMS {P:Program} {E:Env P} {f:FuncId} {fn:Func} {c:Code} {n:Nat} {rs:List ResultVar} {ds:List D} {st0:List Bx} {g:D} {O:D→List Bx→D→Prop} (hf:P.funcs[f]? = some fn) (hb:fn.body=some c) (hn:fn.ntmps=n) (hr:fn.results=⟨rs⟩) (hnm:(fn.name == "runtime.NumGoroutine")=false) (hl:(decide (ds.length≤n)&&decide (n≤1000000))=true)
  (h:∀(V0:Vw) (Kb Nx:Nat→Prop),V0.st=st0→WP (⟨V0,Kb,True,none,E,Nx⟩:Cx P) n c (retM P n rs O) (upd (qaj 0 ds) 1000000 g) st0):DG E f ds st0 g O:=by
 rw [Bool.and_eq_true,decide_eq_true_iff,decide_eq_true_iff] at hl
 refine⟨qbt hf hb hnm,fun V Nx vs hst hok hsep hnx henv hvl hrr=>?_⟩
 subst hst
 have hsat:Sat (⟨V,fun b=>b∈V.bl∨(V.x b∧¬Nx b),True,none,E,Nx⟩:Cx P) V { tmps:=vs.toArray++Array.replicate (fn.ntmps-vs.toArray.size) Go.undef,defers:=[] } n (upd (qaj 0 ds) 1000000 g):=by
  refine⟨[],⟨rfl,by simp,fun D hD=>by simp at hD⟩,⟨by simp;omega,fun t ht=>?_,hok,.refl _,.refl _ _,fun b hb=>.inl (.inl hb),hsep,fun _ h=>h,fun _ b h h'=>.inl (.inr ⟨h,h'⟩),fun _ h=>.inl h,hnx,fun b hb=>(hnx b hb).1⟩,?_⟩
  ·have:upd (qaj 0 ds) 1000000 g t=qaj 0 ds t:=if_neg (by omega)
   rw [this]
   exact qcg (by omega) hvl hrr t
  ·have:upd (qaj 0 ds) 1000000 g 1000000=g:=if_pos rfl
   rw [this]
   exact henv.less fun b (hb:Nx b∨b∈([]:List Nat))=>hb.elim id fun h=>by simp at h
 refine qeg (C:=(⟨V,fun b=>b∈V.bl∨(V.x b∧¬Nx b),True,none,E,Nx⟩:Cx P)) (RQ:=fun e st=>∃d,resM P n e st rs d∧O d st (e 1000000)) hf hb rfl hsat ((h V _ Nx rfl).mono fun ex e st hq=>?_) ?_
 ·cases ex with
  | normal=>exact hq
  | ret=>exact hq
  | _=>exact hq
 ·rintro tm V' e' hm henv' ⟨d,hres,hO⟩
  have hres':resM P n e' V'.st fn.results.toList d:=by rw [hr];exact hres
  obtain⟨v,h1,h2⟩:=qdv hm hres'
  refine⟨v,h1,v,rfl,d,V'.st,e' 1000000,V'.x,V'.bl,hO,⟨hm.le,hm.ok,⟨hm.fr.os,hm.fr.tape,hm.fr.output,hm.fr.size,fun b hb hn=>hm.fr.block b hb fun h=>hn (h.imp id fun h=>⟨trivial,h.1,h.2⟩)⟩,fun b hb=>?_,fun _=>hm.sep,hm.x0,hm.xg⟩,henv',h2⟩
  rcases hm.low b hb with (h|h)|h
  ·exact .inl h
  ·exact absurd (hm.x0 b h.1) (hm.sep b hb)
  ·exact .inr h
theorem qcb {P:Program} {f:FuncId} {fn:Func} {c:Code} {n:Nat} {rs:List ResultVar} {ds:List D} {st0:List Bx} {d:D} {st1:List Bx} (ks:List Nat) (hf:P.funcs[f]? = some fn) (hb:fn.body=some c) (hn:fn.ntmps=n) (hr:fn.results=⟨rs⟩) (hnm:(fn.name == "runtime.NumGoroutine")=false) (hl:(decide (ds.length≤n)&&decide (n≤1000000))=true)
  (hnr:(nrS st1.length st1&&nrM st1.length d&&decide (st0.length≤st1.length))=true)
  (h:∀C:Cx P,C.ro=none→C.V0.st=st0→vx P C n ks c (argL 0 ds) st0 (vretU P n st0.length rs d st1)):DM P f ds st0 d st1:=by
 simp only [Bool.and_eq_true,decide_eq_true_iff] at hnr
 have hg:DG (.none P) f ds st0 .junk (fun d1 s1 _=>∃σ,qfi s1 σ [] st1∧(∀i,i<st0.length→σ[i]? = some i)∧d1=rnD σ d∧nrM σ.length d=true):=DG.introMS hf hb hn hr hnm hl fun V0 Kb Nx hV=>WP.weaken (qme ds (by simp only [Bool.and_eq_true,decide_eq_true_iff] at hl;omega) .junk) (qe0 c _ _ _ _ (fun _ _ _=>qlj) (h _ rfl hV))
 refine⟨hnr.1.1,hnr.1.2,hnr.2,hg.1,fun V Nx vs q1 q2 q3 q4 q5 q6 q7=>?_⟩
 refine (hg.2 V Nx vs q1 q2 q3 q4 q5 q6 q7).mono ?_
 rintro en w' ⟨v,rfl,d1,s1,g,x',bl',⟨σ,hu,hσ,rfl,hnd⟩,r2,r3,r4⟩
 have hL:LOk (⟨w',x',bl',s1⟩:Vw).st σ st1:=hu.lok
 refine⟨v,rfl,d,st1,g,x',lb ⟨w',x',bl',s1⟩ σ,⟨rfl,[],by simp⟩,⟨r2.le.use r2.ok hL (fun i hi=>hσ i (by rw [←q1];exact hi)),use_ok r2.ok hL,r2.fr,fun b hb=>r2.new b (qdr r2.ok hL hb),fun hs b hb=>r2.sep hs b (qdr r2.ok hL hb),r2.xs,r2.xn⟩,?_,RepD.lendM (qi1 r2.ok hL) r4 _ rfl hnd⟩
 exact r3.frm ⟨rfl,rfl,rfl,Nat.le_refl _,fun _ _ _=>rfl⟩ (fun b hb=>.inl (qgd r2.ok hL hb)) fun _ hb=>hb
section
variable {P:Program} {C:Cx P} {n:Nat}
theorem Sat.useV {w:World} {x:Nat→Prop} {bl:List Nat} {st:List Bx} {σ:List Nat} {st0:List Bx} {a:Act} {l:EL} (h:Sat C ⟨w,x,bl,st⟩ a n (envL (rnE σ l))) (hu:qfi st σ l st0) (hσ:∀i,i<C.V0.st.length→σ[i]? = some i):Sat C ⟨w,x,lb ⟨w,x,bl,st⟩ σ,st0⟩ a n (envL l):=by
 obtain⟨ms,⟨h1,h2,h3⟩,hm,henv⟩:=h
 have hL:LOk (⟨w,x,bl,st⟩:Vw).st σ st0:=hu.lok
 have hA:=qi1 hm.ok hL
 refine⟨ms,⟨h1,h2,fun D hD=>?_⟩,⟨hm.size,fun t ht=>?_,use_ok hm.ok hL,hm.le.use hm.ok hL hσ,hm.fr,fun b hb=>hm.low b (qdr hm.ok hL hb),fun b hb=>hm.sep b (qdr hm.ok hL hb),hm.x0,hm.xk,hm.xg,fun b hb=>⟨(hm.nx b hb).1,(hm.nx b hb).2.imp id fun ⟨q2,q3,q4⟩=>⟨q2,fun hh=>q3 (qdr hm.ok hL hh),q4⟩⟩,hm.nx0⟩,?_⟩
 ·obtain⟨q1,q2,q3,q4⟩:=h3 D hD
  exact⟨q1,q2,fun h=>q3 (qdr hm.ok hL h),q4⟩
 ·have:=hm.slot t ht
  rw [qgy] at this
  exact RepD.lendM hA this _ rfl (qfi.env (st:=st) (st0:=st0) hu.nl t)
 ·rw [qgy] at henv
  exact henv.rn rfl (fun b hb=>qgd hm.ok hL hb) fun _ h=>h
theorem Wk.useV {e:Nat→D} {l:EL} {st st0 stV:List Bx} (σ:List Nat) (hag:qal e (rnE σ l)) (hu:qfi st σ l st0) (hV:C.V0.st=stV) (hσ:∀i,i<stV.length→σ[i]? = some i):Wk C n e st (envL l) st0:=fun _ _ _ _ hs=>⟨_,(hs.weaken hag).useV hu fun i hi=>hσ i (by rw [←hV];exact hi)⟩
end
def fstB:List Nat→Nat→Nat→Bool
 | _,_,0=>true
 | x::r,k,n+1=>bif Nat.beq x k then fstB r (k+1) n else false
 | [],_,_+1=>false
theorem fstB_at:∀(σ:List Nat) (k n:Nat),fstB σ k n=true→∀i,i<n→σ[i]? = some (k+i)
 | _,_,0,_,i,hi=>by omega
 | [],_,_+1,h,_,_=>by cases h
 | x::r,k,n+1,h,i,hi=>by
  rw [fstB] at h
  cases hx:Nat.beq x k with
  | false=>rw [hx] at h;cases h
  | true =>
   rw [hx,cond_true] at h
   cases i with
   | zero=>rw [Nat.eq_of_beq_eq_true hx];rfl
   | succ i =>
    have:=fstB_at r (k+1) n h i (by omega)
    rw [show k+(i+1)=k+1+i by omega]
    exact this
theorem qbe {σ:List Nat} {n:Nat} (h:fstB σ 0 n=true):∀i,i<n→σ[i]? = some i:=fun i hi=>by
 have:=fstB_at σ 0 n h i hi
 rwa [Nat.zero_add] at this
end
section
set_option maxRecDepth 100000
structure Db where
 p:List Cs
 c:Cs
 m:Me
 s:St
 v:Vu
def Db.at (x:A) (d:Db):List A:=[x,.sl (d.p.map Cs.at)]++Cs.at d.c++Me.at d.m++St.rv d.s++Vu.at d.v
def ouA:Option Nat→A
 | none=>.nl
 | some v=>.own 1 v
def dbS (ov:Option Nat) (q:List Du) (d:Db):List Bx:=.cell (Db.at (ouA ov) d)::ouB 23 Du.at q ov
def nxV:Option Nat→Nat
 | none=>0
 | some v=>v+1
theorem qg2 (ov:Option Nat) (q:List Du) (d:Db) (k:Int) (a:Ty) (hv:ov=none→q=[]) (hq:q.length≤4194304):DM Tryz.prog 39 [.a (.ptr 0 0),.a (.v (.int .i64 k)),.a (.sl [Ty.at a])] (dbS ov q d) (.t []) (dbS (some (nxV ov)) (q++[⟨k,a,tz⟩]) d):=by
 cases ov with
 | none =>
  obtain rfl:=hv rfl
  refine qcb [0,1,2,6,14] Tryz.func39 rfl Tryz.ntmps39 rfl rfl rfl rfl (fun C hro hst=>?_)
  repeat' ((conv=>whnf);first|(show VD ..;refine VD.dl [99999] ?_)|refine stv ?_|(show VB ..;refine VB.ff (by rfl) ?_)|fail)
  exact⟨[0,2],⟨by simp,rfl,rfl,rfl,rfl⟩,qbe rfl,rfl,rfl⟩
 | some v =>
  refine qcb [0,1,2,6,14] Tryz.func39 rfl Tryz.ntmps39 rfl rfl rfl rfl (fun C hro hst=>?_)
  repeat' ((conv=>whnf);first|(show VD ..;refine VD.dl [99999] ?_)|refine stv ?_|(show VB ..;refine VB.ff (by rfl) ?_)|fail)
  unfold dbS ouB
  rw [List.map_append]
  exact⟨[0,1],⟨by simp,rfl,rfl,rfl,rfl⟩,qbe rfl,rfl,rfl⟩
theorem qel (ov:Option Nat) (q:List Du) (d:Db) (k:Int) (a b:Ty) (hv:ov=none→q=[]) (hq:q.length≤4194304):DM Tryz.prog 39 [.a (.ptr 0 0),.a (.v (.int .i64 k)),.a (.sl [Ty.at a,Ty.at b])] (dbS ov q d) (.t []) (dbS (some (nxV ov)) (q++[⟨k,a,b⟩]) d):=by
 cases ov with
 | none =>
  obtain rfl:=hv rfl
  refine qcb [0,1,2,6,14] Tryz.func39 rfl Tryz.ntmps39 rfl rfl rfl rfl (fun C hro hst=>?_)
  repeat' ((conv=>whnf);first|(show VD ..;refine VD.dl [99999] ?_)|refine stv ?_|(show VB ..;refine VB.tt (by rfl) ?_)|fail)
  exact⟨[0,2],⟨by simp,rfl,rfl,rfl,rfl⟩,qbe rfl,rfl,rfl⟩
 | some v =>
  refine qcb [0,1,2,6,14] Tryz.func39 rfl Tryz.ntmps39 rfl rfl rfl rfl (fun C hro hst=>?_)
  repeat' ((conv=>whnf);first|(show VD ..;refine VD.dl [99999] ?_)|refine stv ?_|(show VB ..;refine VB.tt (by rfl) ?_)|fail)
  unfold dbS ouB
  rw [List.map_append]
  exact⟨[0,1],⟨by simp,rfl,rfl,rfl,rfl⟩,qbe rfl,rfl,rfl⟩
end
section
set_option maxRecDepth 100000
def Db.w (d:Db):Pc:=⟨d.p,d.c,d.m⟩
attribute [local irreducible] qak oneT qa4
theorem pdTyp (ov:Option Nat) (q:List Du) (d:Db) (s:List UInt8) (h:d.w.ok):DM Tryz.prog 22 [.a (.ptr 0 0),.a (.v (.string (bs s)))] (dbS ov q d) (.r (Ty.at (qak d.c d.m s).1)) (dbS ov q d):=by
 have h1:=pType d.c d.m s h.c h.a h.b
 generalize qak d.c d.m s=R at *
 cases ov with
 | none =>
  refine qcb [0,1,4,5] Tryz.func22 rfl Tryz.ntmps22 rfl rfl rfl rfl (fun C hro hst=>?_)
  repeat' ((conv=>whnf);first|(show VD ..;refine VD.dl [99999] ?_)|refine stv ?_|(show VCc ..;refine xO (fun hg=>by exact h1) ?_))
  exact⟨[0],⟨by simp,rfl,rfl,rfl,rfl⟩,qbe rfl,rfl,rfl⟩
 | some v =>
  refine qcb [0,1,4,5] Tryz.func22 rfl Tryz.ntmps22 rfl rfl rfl rfl (fun C hro hst=>?_)
  repeat' ((conv=>whnf);first|(show VD ..;refine VD.dl [99999] ?_)|refine stv ?_|(show VCc ..;refine xO (fun hg=>by exact h1) ?_))
  exact⟨[0,1],⟨by simp,rfl,rfl,rfl,rfl⟩,qbe rfl,rfl,rfl⟩
theorem pdValue (ov:Option Nat) (q:List Du) (d:Db) (e:Ex) (h:d.w.ok) (he:e.sz≤1048576):DM Tryz.prog 54 [.a (.ptr 0 0),.r (Ex.rw e)] (dbS ov q d) (.r (Ty.at (oneT d.c d.m e).1)) (dbS ov q d):=by
 have h1:=pShOf d.c d.m e h.c h.a h.b he
 rw [Ex.at_rw] at h1
 generalize oneT d.c d.m e=R at *
 cases ov with
 | none =>
  refine qcb [0,1,3,4,5] Tryz.func54 rfl Tryz.ntmps54 rfl rfl rfl rfl (fun C hro hst=>?_)
  repeat' ((conv=>whnf);first|(show VD ..;refine VD.dl [99999] ?_)|refine stv ?_|(show VCc ..;refine xO (fun hg=>by exact h1) ?_))
  exact⟨[0],⟨by simp,rfl,rfl,rfl,rfl⟩,qbe rfl,rfl,rfl⟩
 | some v =>
  refine qcb [0,1,3,4,5] Tryz.func54 rfl Tryz.ntmps54 rfl rfl rfl rfl (fun C hro hst=>?_)
  repeat' ((conv=>whnf);first|(show VD ..;refine VD.dl [99999] ?_)|refine stv ?_|(show VCc ..;refine xO (fun hg=>by exact h1) ?_))
  exact⟨[0,1],⟨by simp,rfl,rfl,rfl,rfl⟩,qbe rfl,rfl,rfl⟩
theorem pdField (ov:Option Nat) (q:List Du) (d:Db) (h:d.w.ok):DM Tryz.prog 55 [.a (.ptr 0 0)] (dbS ov q d) (.r (Fs.at (qa4 d.p d.v.obj.cls d.s.name).1)) (dbS ov q d):=by
 have h1:=pfdOf d.p h.p h.f d.v.obj.cls d.s.name
 generalize qa4 d.p d.v.obj.cls d.s.name=R at *
 cases ov with
 | none =>
  refine qcb [0,2,3] Tryz.func55 rfl Tryz.ntmps55 rfl rfl rfl rfl (fun C hro hst=>?_)
  repeat' ((conv=>whnf);first|(show VD ..;refine VD.dl [99999] ?_)|refine stv ?_|(show VCc ..;refine xO (fun hg=>by exact h1) ?_))
  exact⟨[0],⟨by simp,rfl,rfl,rfl,rfl⟩,qbe rfl,rfl,rfl⟩
 | some v =>
  refine qcb [0,2,3] Tryz.func55 rfl Tryz.ntmps55 rfl rfl rfl rfl (fun C hro hst=>?_)
  repeat' ((conv=>whnf);first|(show VD ..;refine VD.dl [99999] ?_)|refine stv ?_|(show VCc ..;refine xO (fun hg=>by exact h1) ?_))
  exact⟨[0,1],⟨by simp,rfl,rfl,rfl,rfl⟩,qbe rfl,rfl,rfl⟩
end
section
set_option maxRecDepth 100000
attribute [local irreducible] qak oneT qa4 seeT qca
theorem nov {v:Nat} {q:List Du}:some v=none→q=[]:=fun h=>by cases h
theorem pdTake (ov:Option Nat) (q:List Du) (d:Db) (cls:List UInt8) (t:Ty) (h:d.w.ok) (hv:ov=none→q=[]) (hq:q.length≤4000000):DM Tryz.prog 56 [.a (.ptr 0 0),.a (.v (.string (bs cls))),.r (Ty.at t)] (dbS ov q d) (.t []) (dbS (some (nxV (some (nxV ov)))) (q++qbf (qca d.p d.v cls t) (qca d.p d.v cls t) (qak d.c d.m d.s.x).1) d):=by
 have h1:=paRead d.p d.v cls t h.z
 have h2:=fun ov q=>pdTyp ov q d d.s.x h
 generalize qca d.p d.v cls t=tr at *
 generalize (qak d.c d.m d.s.x).1=tx at *
 cases ov with
 | none =>
  obtain rfl:=hv rfl
  refine qcb [0,1,2,5] Tryz.func56 rfl Tryz.ntmps56 rfl rfl rfl rfl (fun C hro hst=>?_)
  repeat' ((conv=>whnf);first|(show VD ..;refine VD.dl [39,22] ?_)|refine stv ?_|(show VC ..;(first|refine xM [0] (qg2 none [] d 3 tr (fun _=>rfl) (by simp)) ?_|refine xM [0,2] (h2 (some 0) [⟨3,tr,tz⟩]) ?_|refine xM [0,2] (qel (some 0) [⟨3,tr,tz⟩] d 1 tr tx nov (by simp)) ?_))|(show VCc ..;refine xO (fun hg=>by exact h1) ?_))
  exact⟨[0,2],⟨by simp,rfl,rfl,rfl,rfl⟩,qbe rfl,rfl,rfl⟩
 | some v =>
  refine qcb [0,1,2,5] Tryz.func56 rfl Tryz.ntmps56 rfl rfl rfl rfl (fun C hro hst=>?_)
  repeat' ((conv=>whnf);first|(show VD ..;refine VD.dl [39,22] ?_)|refine stv ?_|(show VC ..;(first|refine xM [0,1] (qg2 (some v) q d 3 tr nov (by omega)) ?_|refine xM [0,1] (h2 (some (v+1)) (q++[⟨3,tr,tz⟩])) ?_|refine xM [0,1] (qel (some (v+1)) (q++[⟨3,tr,tz⟩]) d 1 tr tx nov (by simp;omega)) ?_))|(show VCc ..;refine xO (fun hg=>by exact h1) ?_))
  rw [show q++qbf tr tr tx=q++[⟨3,tr,tz⟩]++[⟨1,tr,tx⟩] by simp [qbf]]
  exact⟨[0,1],⟨by simp,rfl,rfl,rfl,rfl⟩,qbe rfl,rfl,rfl⟩
theorem pdGive (ov:Option Nat) (q:List Du) (d:Db) (cls:List UInt8) (t:Ty) (e:Ex) (h:d.w.ok) (he:e.sz≤1048576) (hv:ov=none→q=[]) (hq:q.length≤4000000):DM Tryz.prog 57 [.a (.ptr 0 0),.a (.v (.string (bs cls))),.r (Ty.at t),.r (Ex.rw e)] (dbS ov q d) (.t []) (dbS (some (nxV (some (nxV ov)))) (q++qbf (seeT d.p d.v cls t) (oneT d.c d.m e).1 (seeT d.p d.v cls t)) d):=by
 have h1:=paSee d.p d.v cls t h.z
 have h2:=fun ov q=>pdValue ov q d e h he
 generalize seeT d.p d.v cls t=tr at *
 generalize (oneT d.c d.m e).1=tx at *
 cases ov with
 | none =>
  obtain rfl:=hv rfl
  refine qcb [0,1,2,3,6,7] Tryz.func57 rfl Tryz.ntmps57 rfl rfl rfl rfl (fun C hro hst=>?_)
  repeat' ((conv=>whnf);first|(show VD ..;refine VD.dl [39,54] ?_)|refine stv ?_|(show VC ..;(first|refine xM [0] (qg2 none [] d 3 tr (fun _=>rfl) (by simp)) ?_|refine xM [0,3] (h2 (some 0) [⟨3,tr,tz⟩]) ?_|refine xM [0,3] (qel (some 0) [⟨3,tr,tz⟩] d 1 tx tr nov (by simp)) ?_))|(show VCc ..;refine xO (fun hg=>by exact h1) ?_))
  exact⟨[0,3],⟨by simp,rfl,rfl,rfl,rfl⟩,qbe rfl,rfl,rfl⟩
 | some v =>
  refine qcb [0,1,2,3,6,7] Tryz.func57 rfl Tryz.ntmps57 rfl rfl rfl rfl (fun C hro hst=>?_)
  repeat' ((conv=>whnf);first|(show VD ..;refine VD.dl [39,54] ?_)|refine stv ?_|(show VC ..;(first|refine xM [0,1] (qg2 (some v) q d 3 tr nov (by omega)) ?_|refine xM [0,1] (h2 (some (v+1)) (q++[⟨3,tr,tz⟩])) ?_|refine xM [0,1] (qel (some (v+1)) (q++[⟨3,tr,tz⟩]) d 1 tx tr nov (by simp;omega)) ?_))|(show VCc ..;refine xO (fun hg=>by exact h1) ?_))
  rw [show q++qbf tr tx tr=q++[⟨3,tr,tz⟩]++[⟨1,tx,tr⟩] by simp [qbf]]
  exact⟨[0,1],⟨by simp,rfl,rfl,rfl,rfl⟩,qbe rfl,rfl,rfl⟩
end
section
set_option maxRecDepth 100000
def ovOf:List Du→Option Nat
 | []=>none
 | _::r=>some r.length
theorem qkt (q:List Du) (x:Du):ovOf (q++[x])=some (nxV (ovOf q)):=by
 cases q with
 | nil=>rfl
 | cons a r=>simp [ovOf,nxV]
theorem qim (q:List Du) (a b c:Ty):ovOf (q++qbf a b c)=some (nxV (some (nxV (ovOf q)))):=by
 rw [show q++qbf a b c=q++[⟨3,a,tz⟩]++[⟨1,b,c⟩] by simp [qbf],qkt,qkt]
theorem qd0 {q:List Du} (h:ovOf q=none):q=[]:=by cases q with|nil=>rfl|cons=>cases h
theorem dbS_nr (ov:Option Nat) (q:List Du) (d:Db):(nrS (dbS ov q d).length (dbS ov q d)&&nrM (dbS ov q d).length (.t [])&&decide ((dbS none [] d).length≤(dbS ov q d).length))=true:=by cases ov<;>rfl
def fdI:Option Nat→Nat
 | none=>1
 | some _=>2
structure WayB (n:Nat) (Q:Nat→List Du) where
 k:Nat
 q:List Du
 ov:Option Nat
 hk:k≤n
 hq:q=Q k
 hov:ov=ovOf q
attribute [local irreducible] qak oneT qa4 seeT qca qdk
theorem pdCall (d:Db) (f:Fd) (h:d.w.ok) (hs:d.s.sz≤1048576) (hf:calM d.p d.c d.m d.s=some f) (hn:f.m.params.length=d.s.args.length):DM Tryz.prog 58 [.a (.ptr 0 0)] (dbS none [] d) (.t []) (dbS (ovOf (qej d.w d.s d.v f)) (qej d.w d.s d.v f) d):=by
 have hak:Ak.ok ⟨d.p,d.c,d.m,d.s,Ty.zero,Ty.zero⟩:=⟨h.p,h.c,h.a,h.b,hs⟩
 have h1:=pgCallee d.p d.c d.m d.s hak h.z
 rw [cal_eq,hf,St.at_rv] at h1
 have hargs:∀e∈d.s.args,e.sz≤1048576:=fun e he=>Nat.le_trans (St.arg_sz d.s e he) hs
 have hal:d.s.args.length≤1048576:=Nat.le_trans (St.args_le d.s) hs
 unfold qej
 refine qcb [0,2,4,5,29,44,45,46,47,69] Tryz.func58 rfl Tryz.ntmps58 rfl rfl rfl ?_ (fun C hro hst=>?_)
 ·exact dbS_nr _ _ _
 have hq0:=callQ_0 (w:=d.w) (s:=d.s) (v:=d.v) (f:=f)
 repeat' ((conv=>whnf);first|(show VD ..;refine VD.dl [39] ?_)|refine stv ?_|(show VB ..;refine VB.mk (fun hc=>?_) fun hc=>?_)|(show VC ..;(refine xM [0] (qg2 none [] d 4 d.v.obj (fun _=>rfl) (by simp)) ?_))|(show VCc ..;refine xO (fun hg=>by exact h1) ?_))
 all_goals
  conv=>whnf
  have hc1:(!f.m.pure_)=_:=hc
  rw [hc1] at hq0
  first
  | (refine VL.gW (fun y:WayB d.s.args.length (qdk d.w d.s d.v f)=>[(0,.a (.ptr 0 0)),(2,.a (.ptr (fdI y.ov) 0)),(44,.a (.sl (d.s.args.map Ex.rw))),(45,.a (.v (.int .i64 ((d.s.args.map Ex.rw).length:Nat)))),(46,.a (.v (.int .i64 (y.k:Nat))))]) (fun y=>dbS y.ov y.q d++[.cell (Fd.at f)]) (fun y=>d.s.args.length-y.k) ⟨0,[⟨4,d.v.obj,tz⟩],some 0,Nat.zero_le _,hq0.symm,rfl⟩ ?_ ?_;exact Wk.useV [0,2,1] ⟨rfl,rfl,rfl,rfl,rfl,trivial⟩ ⟨by simp,rfl,rfl,rfl,rfl⟩ hst (qbe rfl))
  | (refine VL.gW (fun y:WayB d.s.args.length (qdk d.w d.s d.v f)=>[(0,.a (.ptr 0 0)),(2,.a (.ptr (fdI y.ov) 0)),(44,.a (.sl (d.s.args.map Ex.rw))),(45,.a (.v (.int .i64 ((d.s.args.map Ex.rw).length:Nat)))),(46,.a (.v (.int .i64 (y.k:Nat))))]) (fun y=>dbS y.ov y.q d++[.cell (Fd.at f)]) (fun y=>d.s.args.length-y.k) ⟨0,[],none,Nat.zero_le _,hq0.symm,rfl⟩ ?_ ?_;exact Wk.agree ⟨rfl,rfl,rfl,rfl,rfl,trivial⟩)
  | fail
  rintro⟨k,q,ov,hk,hq,hov⟩
  dsimp only
  have hqn:=qhr (w:=d.w) (s:=d.s) (v:=d.v) (f:=f) (k:=k)
  rw [←hq] at hqn
  by_cases hlt:k<d.s.args.length
  ·obtain⟨e,he⟩:∃e,d.s.args[k]? = some e:=⟨_,List.getElem?_eq_getElem hlt⟩
   obtain⟨b,hb⟩:∃b,f.m.params[k]? = some b:=⟨_,List.getElem?_eq_getElem (by omega)⟩
   have hix1:(d.s.args.map Ex.rw)[k]? = some (Ex.rw e):=by rw [List.getElem?_map,he];rfl
   have hix2:(f.m.params.map Vr.at)[k]? = some (Vr.at b):=by rw [List.getElem?_map,hb];rfl
   have hlt2:decide ((k:Int)<(((d.s.args.map Ex.rw).length:Nat):Int))=true:=decide_eq_true (by rw [List.length_map];omega)
   have hw1:IntKind.i64.wrap ((k:Nat)+1)=((k+1:Nat):Int):=qap (by omega)
   have hsn:=qoa (w:=d.w) (s:=d.s) (v:=d.v) (f:=f) he hb
   rw [←hq] at hsn
   have g1:=pdGive ov q d f.cls b.ty e h (hargs e (lm4 he)) (fun h=>qd0 (hov.symm.trans h)) (by omega)
   have e1:oneT d.w.c d.w.m e=oneT d.c d.m e:=rfl
   have e2:seeT d.w.p d.v f.cls b.ty=seeT d.p d.v f.cls b.ty:=rfl
   rw [e1,e2] at hsn
   have hov2:=qim q (seeT d.p d.v f.cls b.ty) (oneT d.c d.m e).1 (seeT d.p d.v f.cls b.ty)
   rw [←hov] at hov2
   generalize seeT d.p d.v f.cls b.ty=ts at *
   generalize (oneT d.c d.m e).1=tv at *
   obtain⟨y,hy1,hy2,hy3,hy4⟩:∃y:WayB d.s.args.length (qdk d.w d.s d.v f),d.s.args.length-y.k<d.s.args.length-k∧y.k=k+1∧y.q=q++qbf ts tv ts∧y.ov=some (nxV (some (nxV ov))):=⟨⟨k+1,q++qbf ts tv ts,some (nxV (some (nxV ov))),by omega,hsn.symm,hov2.symm⟩,by dsimp only;omega,rfl,rfl,rfl⟩
   cases ov with
   | none =>
    obtain rfl:=qd0 hov.symm
    repeat' ((conv=>whnf);first|(show VD ..;refine VD.dl [57] ?_)|(show VI ..;refine xI (fun _=>by first|exact hix1|exact hix2) ?_)|refine stv ?_|(show VB ..;refine VB.tt (by exact hlt2) ?_)|(show VC ..;(refine xM [0] g1 ?_))|fail)
    conv=>whnf
    refine⟨y,hy1,?_⟩
    rw [hy2,hy3,hy4,←hw1]
    exact Wk.useV [0,3,1] ⟨rfl,rfl,rfl,rfl,rfl,trivial⟩ ⟨by simp,rfl,rfl,rfl,rfl⟩ hst (qbe rfl)
   | some ver =>
    repeat' ((conv=>whnf);first|(show VD ..;refine VD.dl [57] ?_)|(show VI ..;refine xI (fun _=>by first|exact hix1|exact hix2) ?_)|refine stv ?_|(show VB ..;refine VB.tt (by exact hlt2) ?_)|(show VC ..;(refine xM [0,1] g1 ?_))|fail)
    conv=>whnf
    refine⟨y,hy1,?_⟩
    rw [hy2,hy3,hy4,←hw1]
    exact Wk.useV [0,1,2] ⟨rfl,rfl,rfl,rfl,rfl,trivial⟩ ⟨by simp,rfl,rfl,rfl,rfl⟩ hst (qbe rfl)
  ·obtain rfl:k=d.s.args.length:=by omega
   have hlt2:decide (((d.s.args.length:Nat):Int)<(((d.s.args.map Ex.rw).length:Nat):Int))=false:=decide_eq_false (by rw [List.length_map];omega)
   have g1:=pdTake ov q d f.cls f.m.ret h (fun h=>qd0 (hov.symm.trans h)) (by omega)
   rw [←hq]
   have e1:qak d.w.c d.w.m d.s.x=qak d.c d.m d.s.x:=rfl
   have e2:qca d.w.p d.v f.cls f.m.ret=qca d.p d.v f.cls f.m.ret:=rfl
   rw [e1,e2]
   have hov2:=qim q (qca d.p d.v f.cls f.m.ret) (qca d.p d.v f.cls f.m.ret) (qak d.c d.m d.s.x).1
   rw [←hov] at hov2
   generalize qca d.p d.v f.cls f.m.ret=tr at *
   generalize (qak d.c d.m d.s.x).1=tx at *
   cases ov with
   | none =>
    obtain rfl:=qd0 hov.symm
    repeat' ((conv=>whnf);first|refine stv ?_|(show VB ..;first|refine VB.ff (by exact hlt2) ?_|refine VB.mk (fun hc=>?_) fun hc=>?_)|(show VC ..;(refine xM [0] g1 ?_))|fail)
    ·rw [qax,show (ByteArray.mk #[]).toList=[] from qax []] at hc
     change (d.s.x != [])=_ at hc
     rw [hc,cond_true,hov2]
     conv=>whnf
     exact⟨[0,2],⟨by simp,rfl,rfl,rfl,rfl⟩,qbe rfl,rfl,rfl⟩
    ·rw [qax,show (ByteArray.mk #[]).toList=[] from qax []] at hc
     change (d.s.x != [])=_ at hc
     rw [hc,cond_false,List.append_nil,←hov]
     conv=>whnf
     exact⟨[0],⟨by simp,rfl,rfl,rfl,rfl⟩,qbe rfl,rfl,rfl⟩
   | some ver =>
    repeat' ((conv=>whnf);first|refine stv ?_|(show VB ..;first|refine VB.ff (by exact hlt2) ?_|refine VB.mk (fun hc=>?_) fun hc=>?_)|(show VC ..;(refine xM [0,1] g1 ?_))|fail)
    ·rw [qax,show (ByteArray.mk #[]).toList=[] from qax []] at hc
     change (d.s.x != [])=_ at hc
     rw [hc,cond_true,hov2]
     conv=>whnf
     exact⟨[0,1],⟨by simp,rfl,rfl,rfl,rfl⟩,qbe rfl,rfl,rfl⟩
    ·rw [qax,show (ByteArray.mk #[]).toList=[] from qax []] at hc
     change (d.s.x != [])=_ at hc
     rw [hc,cond_false,List.append_nil,←hov]
     conv=>whnf
     exact⟨[0,1],⟨by simp,rfl,rfl,rfl,rfl⟩,qbe rfl,rfl,rfl⟩
end
section
set_option maxRecDepth 100000
def allL (d:Db) (f:Fd):List Du :=
 bif d.s.kind==1 then [⟨1,(oneT d.c d.m d.s.e).1,(qak d.c d.m d.s.x).1⟩] else
 bif d.s.kind==2 then qbf (qca d.p d.v (qa4 d.p d.v.obj.cls d.s.name).1.cls (qa4 d.p d.v.obj.cls d.s.name).1.var.ty) (qca d.p d.v (qa4 d.p d.v.obj.cls d.s.name).1.cls (qa4 d.p d.v.obj.cls d.s.name).1.var.ty) (qak d.c d.m d.s.x).1 else
 bif d.s.kind==3 then ⟨4,d.v.obj,tz⟩::qbf (seeT d.p d.v (qa4 d.p d.v.obj.cls d.s.name).1.cls (qa4 d.p d.v.obj.cls d.s.name).1.var.ty) (oneT d.c d.m d.s.e).1 (seeT d.p d.v (qa4 d.p d.v.obj.cls d.s.name).1.cls (qa4 d.p d.v.obj.cls d.s.name).1.var.ty) else
 bif d.s.kind==4 then qej d.w d.s d.v f else
 bif d.s.kind==5 then [⟨5,d.s.ty,tz⟩,⟨1,d.s.ty,(qak d.c d.m d.s.x).1⟩] else
 bif d.s.kind==6 then [⟨1,d.s.ty,(qak d.c d.m d.s.x).1⟩] else
 bif d.s.kind==7 then (bif qan (qak d.c d.m d.s.x).1 then [⟨1,d.v.obj,(qak d.c d.m d.s.x).1⟩] else [⟨2,d.v.obj,(qak d.c d.m d.s.x).1⟩]) else
 bif d.s.kind==11 then (bif d.s.e.kind != 0 then [⟨1,(oneT d.c d.m d.s.e).1,d.m.ret⟩] else []) else []
attribute [local irreducible] qak oneT qa4 seeT qca qej qan
theorem pdAll (d:Db) (f:Fd) (h:d.w.ok) (hs:d.s.sz≤1048576) (hf:(d.s.kind==4)=true→calM d.p d.c d.m d.s=some f∧f.m.params.length=d.s.args.length):DM Tryz.prog 23 [.a (.ptr 0 0)] (dbS none [] d) (.t []) (dbS (ovOf (allL d f)) (allL d f) d):=by
 have he:d.s.e.sz≤1048576:=Nat.le_trans (St.e_sz d.s) hs
 have hT:=fun ov q=>pdTyp ov q d d.s.x h
 have hV:=fun ov q=>pdValue ov q d d.s.e h he
 have hF:=fun ov q=>pdField ov q d h
 have hTk:=pdTake none [] d (qa4 d.p d.v.obj.cls d.s.name).1.cls (qa4 d.p d.v.obj.cls d.s.name).1.var.ty h (fun _=>rfl) (by simp)
 have hGv:=pdGive (some 0) [⟨4,d.v.obj,tz⟩] d (qa4 d.p d.v.obj.cls d.s.name).1.cls (qa4 d.p d.v.obj.cls d.s.name).1.var.ty d.s.e h he nov (by simp)
 have hU:=qbd (qak d.c d.m d.s.x).1
 have hC:(d.s.kind==4)=true→DM Tryz.prog 58 [.a (.ptr 0 0)] (dbS none [] d) (.t []) (dbS (ovOf (qej d.w d.s d.v f)) (qej d.w d.s d.v f) d):=fun hk=>pdCall d f h hs (hf hk).1 (hf hk).2
 unfold allL
 generalize (qak d.c d.m d.s.x).1=tx at *
 generalize (oneT d.c d.m d.s.e).1=te at *
 generalize (qa4 d.p d.v.obj.cls d.s.name).1=sf at *
 generalize qca d.p d.v sf.cls sf.var.ty=tr at *
 generalize seeT d.p d.v sf.cls sf.var.ty=ts at *
 generalize qej d.w d.s d.v f=L at *
 rcases hov:ovOf L with _|ov
 all_goals
  rw [hov] at hC
  generalize hR:(bif d.s.kind==1 then [(⟨1,te,tx⟩:Du)] else bif d.s.kind==2 then qbf tr tr tx else bif d.s.kind==3 then ⟨4,d.v.obj,tz⟩::qbf ts te ts else bif d.s.kind==4 then L else bif d.s.kind==5 then [⟨5,d.s.ty,tz⟩,⟨1,d.s.ty,tx⟩] else bif d.s.kind==6 then [⟨1,d.s.ty,tx⟩] else bif d.s.kind==7 then (bif qan tx then [⟨1,d.v.obj,tx⟩] else [⟨2,d.v.obj,tx⟩]) else bif d.s.kind==11 then (bif d.s.e.kind != 0 then [⟨1,te,d.m.ret⟩] else []) else [])=R
  refine qcb [0,2,3,4,5,11,12,27,38,61,65,85,98,105,128,133] Tryz.func23 rfl Tryz.ntmps23 rfl rfl rfl ?_ (fun C hro hst=>?_)
  ·exact dbS_nr _ _ _
  repeat' ((conv=>whnf);first|(show VD ..;refine VD.dl [39,22,54,55,56,57,58] ?_)|refine stv ?_|(show VB ..;refine VB.mk (fun hc=>?_) fun hc=>?_)|(show VC ..;first|refine xC (fun hg=>by exact hU) ?_|(first|refine xM [0] (hT none []) ?_|refine xM [0] (hV none []) ?_|refine xM [0] (hF none []) ?_|refine xM [0] hTk ?_|refine xM [0,3] hGv ?_|refine xM [0] (hC (by assumption)) ?_|refine xM [0,2] (hT (some 0) [⟨5,d.s.ty,tz⟩]) ?_|refine xM [0,2] (qel (some 0) [⟨5,d.s.ty,tz⟩] d 1 d.s.ty tx nov (by simp)) ?_|refine xM [0] (qg2 none [] d 4 d.v.obj (fun _=>rfl) (by simp)) ?_|refine xM [0] (qg2 none [] d 5 d.s.ty (fun _=>rfl) (by simp)) ?_|refine xM [0] (qel none [] d 1 te tx (fun _=>rfl) (by simp)) ?_|refine xM [0] (qel none [] d 1 d.s.ty tx (fun _=>rfl) (by simp)) ?_|refine xM [0] (qel none [] d 1 d.v.obj tx (fun _=>rfl) (by simp)) ?_|refine xM [0] (qel none [] d 2 d.v.obj tx (fun _=>rfl) (by simp)) ?_|refine xM [0] (qel none [] d 1 te d.m.ret (fun _=>rfl) (by simp)) ?_))|fail)
  all_goals
   simp only [*,cond_true,cond_false] at hR
   subst hR
   try rw [hov]
   conv=>whnf
   first
   | exact⟨[0,2],⟨by simp,rfl,rfl,rfl,rfl⟩,qbe rfl,rfl,rfl⟩
   | exact⟨[0,3],⟨by simp,rfl,rfl,rfl,rfl⟩,qbe rfl,rfl,rfl⟩
   | exact⟨[0],⟨by simp,rfl,rfl,rfl,rfl⟩,qbe rfl,rfl,rfl⟩
   | fail
end
section
set_option maxRecDepth 100000
theorem all_line {d:Db} (mode:Int) (hv:d.v=vuL d.w mode d.s) (h:docI d.p d.c d.m d.s=0):qbo d.w mode d.s=(allL d (fdS (calM d.p d.c d.m d.s)).1,true):=by
 obtain⟨p,c,m,s,v⟩:=d
 dsimp only [Db.w] at hv h ⊢
 subst hv
 unfold qbo allL
 dsimp only [Db.w]
 rw [show (docI p c m s != 0)=false by rw [h];rfl,cond_false]
 have e1:slL ⟨p,c,m⟩ s=(qa4 p (vuL ⟨p,c,m⟩ mode s).obj.cls s.name).1:=rfl
 have e2:(vuL ⟨p,c,m⟩ mode s).obj=(qak c m s.y).1:=rfl
 rw [e1,e2]
 generalize vuL ⟨p,c,m⟩ mode s=v
 cases s.kind==1<;>cases s.kind==2<;>cases s.kind==3<;>cases s.kind==4<;>cases s.kind==5<;>cases s.kind==6<;>try rfl
 cases s.kind==7<;>cases qan (qak c m s.x).1<;>cases s.kind==11<;>cases s.e.kind != 0<;>rfl
attribute [local irreducible] qak oneT qa4 seeT qca qej qan allL docI calM
theorem pdLine (w:Pc) (mode:Int) (s:St) (h:w.ok) (hs:s.sz≤1048576):qaa Tryz.prog 10 [.a (.sl (w.p.map Cs.at)),.a (.v (.int .i64 mode)),.r (Cs.at w.c),.r (Me.at w.m),.r (St.rv s)] (.t [.a (.sl ((qbo w mode s).1.map Du.at)),.a (.v (.bool (qbo w mode s).2))]):=by
 obtain⟨p,c,m⟩:=w
 dsimp only
 have hak:Ak.ok ⟨p,c,m,s,Ty.zero,Ty.zero⟩:=⟨h.p,h.c,h.a,h.b,hs⟩
 have h0:=pgStmtD p c m s hak h.z (pfdOf p h.p h.f)
 rw [St.at_rv] at h0
 have hT:(s.y==[116,104,105,115])=((bs s.y).toList==(ByteArray.mk #[116,104,105,115]).toList):=by rw [qax,show (ByteArray.mk #[116,104,105,115]).toList=[116,104,105,115] from qax [116,104,105,115]]
 have h1:=pdTyp none [] ⟨p,c,m,s,⟨0,tz,false⟩⟩ s.y h
 have hl:=fun hd=>all_line (d:=⟨p,c,m,s,vuL ⟨p,c,m⟩ mode s⟩) mode rfl hd
 have h2:docI p c m s=0→DM Tryz.prog 23 [.a (.ptr 0 0)] (dbS none [] ⟨p,c,m,s,vuL ⟨p,c,m⟩ mode s⟩) (.t []) (dbS (ovOf (allL ⟨p,c,m,s,vuL ⟨p,c,m⟩ mode s⟩ (fdS (calM p c m s)).1)) (allL ⟨p,c,m,s,vuL ⟨p,c,m⟩ mode s⟩ (fdS (calM p c m s)).1) ⟨p,c,m,s,vuL ⟨p,c,m⟩ mode s⟩):=fun hd=>by
  refine pdAll ⟨p,c,m,s,vuL ⟨p,c,m⟩ mode s⟩ (fdS (calM p c m s)).1 h hs fun hk=>?_
  obtain⟨f,hf,hn⟩:=doc_call hd hk
  refine⟨?_,?_⟩
  ·show calM p c m s=_
   rw [hf];rfl
  ·show (fdS (calM p c m s)).1.m.params.length=_
   rw [hf];exact hn
 dsimp only [Db.w] at hl
 by_cases hdoc:docI p c m s=0
 ·have h2:=h2 hdoc
  rw [hl hdoc]
  rw [hdoc] at h0
  generalize allL ⟨p,c,m,s,vuL ⟨p,c,m⟩ mode s⟩ (fdS (calM p c m s)).1=R at *
  unfold vuL at h2
  rw [hT] at h2
  dsimp only at h1 h2
  generalize (qak c m s.y).1=ty at *
  rcases hov:ovOf R with _|ov
  ·rw [hov] at h2
   obtain rfl:=qd0 hov
   refine qaa.vx [0,1,2,3,4,7,8,9,10,11,12,18] Tryz.func10 rfl Tryz.ntmps10 rfl rfl rfl (fun C hro hst=>?_)
   repeat' ((conv=>whnf);first|(show VD ..;refine VD.dl [22,23] ?_)|(show VZ ..;refine .n ?_)|refine stv ?_|(show VB ..;refine VB.ff (by rfl) ?_)|(show VC ..;first|refine xC (fun hg=>by exact h0) ?_|(first|refine xM [3] h1 ?_|refine xM [3] h2 ?_))|fail)
   rfl
  ·rw [hov] at h2
   refine qaa.vx [0,1,2,3,4,7,8,9,10,11,12,18] Tryz.func10 rfl Tryz.ntmps10 rfl rfl rfl (fun C hro hst=>?_)
   repeat' ((conv=>whnf);first|(show VD ..;refine VD.dl [22,23] ?_)|(show VZ ..;refine .n ?_)|refine stv ?_|(show VB ..;refine VB.ff (by rfl) ?_)|(show VC ..;first|refine xC (fun hg=>by exact h0) ?_|(first|refine xM [3] h1 ?_|refine xM [3] h2 ?_))|fail)
   rfl
 ·have hn:(docI p c m s != 0)=true:=by simp [hdoc]
  have hl0:qbo ⟨p,c,m⟩ mode s=([],false):=by unfold qbo;dsimp only;rw [hn];rfl
  rw [hl0]
  refine qaa.vx [0,1,2,3,4,7,8,9,10,11,12,18] Tryz.func10 rfl Tryz.ntmps10 rfl rfl rfl (fun C hro hst=>?_)
  repeat' ((conv=>whnf);first|refine stv ?_|(show VB ..;refine VB.tt (by exact hn) ?_)|(show VC ..;refine xC (fun hg=>by exact h0) ?_)|fail)
  rfl
end
section
set_option maxRecDepth 100000
theorem awLine:qbo ⟨[a28C],a28C,a28M⟩ 1 a28S=([⟨1,tPeer,tRep⟩],true):=by kernel_rfl
theorem aw28b:qaa Tryz.prog 7 [] (.a (.v (.bool true))):=by
 have h1:=awOf
 have h2:=pdLine ⟨[a28C],a28C,a28M⟩ 1 a28S (pc_ok (by decide) (.head _) (.head _)) (by decide)
 rw [awLine] at h2
 refine qaa.vx [0,1,3,4] Tryz.func7 rfl Tryz.ntmps7 rfl rfl rfl (fun C hro hst=>?_)
 repeat' ((conv=>whnf);first|(show VD ..;refine .q ?_)|refine stv ?_|(show VC ..;refine xC (fun hg=>by first|exact h1|exact h2) ?_))
 iterate 2
  conv=>whnf
  refine VQ.mk (.a (.v (.bool true))) (by kernel_rfl) ?_
  repeat' ((conv=>whnf);first|refine stv ?_|fail)
 rfl
end
end Go.Proofs.YthkojpnjdpbcgaaGreatDoor
