/- Regions whose order is drawn, with two writers that may come in either order. No program in sight. Conditions: none. -/
import Derived.Test.YthkojpnjdpbcgaaGreatDoorMl21
import Derived.Test.YthkojpnjdpbcgaaGreatDoorMl23
set_option linter.unusedVariables false
set_option maxRecDepth 100000
set_option maxHeartbeats 8000000
set_option linter.unusedSimpArgs false
namespace Go.Proofs.YthkojpnjdpbcgaaGreatDoor
open Go.RowKit
section
variable {P:Program}
end
end Go.Proofs.YthkojpnjdpbcgaaGreatDoor
namespace Go.Proofs.YthkojpnjdpbcgaaGreatDoor
open Go.RowKit
def useV (V:Vw) (σ:List Nat) (st0:List Bx):Vw:=⟨V.w,V.x,lb V σ,st0⟩
section
variable {V:Vw} {σ:List Nat} {st0:List Bx}
theorem qgd (hok:Ok V) (h:LOk V.st σ st0) {b:Nat} (hb:(useV V σ st0).mine b):V.mine b:=by
 obtain⟨j,y,h1,_,_⟩:=hb
 exact qb0 hok h (lm4 h1)
theorem qi2 (hok:Ok V) (h:LOk V.st σ st0) (b:Nat) (hb:(useV V σ st0).mut b):V.mut b:=by
 rcases hb with hb|hb
 ·exact .inl hb
 ·exact .inr (qgd hok h hb)
theorem qi1 (hok:Ok V) (h:LOk V.st σ st0):∀x u,RepA V x u→∀a,x=rnA σ a→nrA σ.length a=true→RepA (useV V σ st0) a u :=
 fun _ _ hx=>RepA.lendM (V:=V) (U:=useV V σ st0) rfl (qi2 hok h) h.len (fun j i hj=>h.at_ j i hj) (fun _ _ hj=>qjp hok h hj) hx
theorem qdr (hok:Ok V) (h:LOk V.st σ st0) {b:Nat} (hb:b∈lb V σ):b∈V.bl:=Vw.mine_mem (qb0 hok h hb)
theorem use_ok (hok:Ok V) (h:LOk V.st σ st0):Ok (useV V σ st0):=by
 have hA:=qi1 hok h
 have hC:∀x u,RepC V.w V.mut x u→RepC (useV V σ st0).w (useV V σ st0).mut x u:=fun x u hx=>hx.mono (Nat.le_refl _) fun b _ hb=>⟨fun _=>rfl,fun h2=>hb (qi2 hok h b h2)⟩
 refine⟨by show (lb V σ).length=st0.length;rw [lb,List.length_map,h.len],fun j b hb=>?_,hok.xlt,fun w' hs hw=>hok.gd w' hs fun c hlt h1 h2 hic=>hw c hlt (fun hc=>h1 (qdr hok h hc)) h2 hic,fun j b hb=>?_,fun i j b y z h1 h2 h3 h4 h5 h6=>?_,fun i row b h1 h2=>?_,fun i ver n rows b h1 h2=>?_,fun i k wd es b h1 h2=>?_⟩
 ·obtain⟨i,_,h2⟩:=qb3 hok h hb;exact hok.lt i b h2
 ·obtain⟨i,_,h2⟩:=qb3 hok h hb;exact hok.isc i b h2
 ·obtain⟨p,p1,p2⟩:=qb3 hok h h1
  obtain⟨q,q1,q2⟩:=qb3 hok h h2
  obtain⟨y',_,p4,p5⟩:=h.get p1
  obtain⟨z',_,q4,q5⟩:=h.get q1
  have hpq:=hok.inj p q b _ _ p2 q2 p4 q4 (by rw [qbw];exact p5) (by rw [qbw];exact q5)
  subst hpq
  exact (List.getElem?_inj (List.getElem?_eq_some_iff.1 p1).1 h.nd).1 (p1.trans q1.symm)
 ·obtain⟨p,p1,p2⟩:=qb3 hok h h2
  have hp:V.st[p]? = some (.cell (row.map (rnA σ))):=by rw [h.at_ i p p1];have h1:st0[i]? = some (.cell row):=h1;rw [h1];rfl
  obtain⟨cs,T,k1,k2,k3⟩:=hok.cell p _ b hp p2
  have hn:=qee h.nr h1
  rw [List.all_eq_true] at hn
  exact⟨cs,T,k1,by rw [k2,List.length_map],fun j x hj=>hA _ _ (k3 j (rnA σ x) (by rw [List.getElem?_map,hj];rfl)) x rfl (hn x (lm4 hj))⟩
 ·obtain⟨p,p1,p2⟩:=qb3 hok h h2
  have hp:V.st[p]? = some (.arr ver n rows):=by rw [h.at_ i p p1];have h1:st0[i]? = some (.arr ver n rows):=h1;rw [h1];rfl
  obtain⟨cs,T,c,k1,k2,k3,k4,k5,k6⟩:=hok.arr p ver n rows b hp p2
  exact⟨cs,T,c,k1,k2,k3,k4,k5,fun k row j x hk hj=>hC _ _ (k6 k row j x hk hj)⟩
 ·obtain⟨p,p1,p2⟩:=qb3 hok h h2
  have hp:V.st[p]? = some (.map k wd (es.map fun e=>(e.1,e.2.map (rnA σ)))):=by rw [h.at_ i p p1];have h1:st0[i]? = some (.map k wd es):=h1;rw [h1];rfl
  obtain⟨ms,k1,k2,k3⟩:=hok.map p k wd _ b hp p2
  rw [List.length_map] at k1 k2
  have hn:=qfp h.nr h1
  rw [List.all_eq_true] at hn
  refine⟨ms,k1,k2,fun j y row hj=>?_⟩
  obtain⟨q1,v,q2,q3⟩:=k3 j y (row.map (rnA σ)) (by rw [List.getElem?_map,hj];rfl)
  exact⟨q1,v,q2,q3.lendM hA (hn _ (lm4 hj))⟩
end
def rnE (σ:List Nat) (l:EL):EL:=l.map fun p=>(p.1,rnD σ p.2)
theorem qgy (σ:List Nat):∀(l:EL) (t:Nat),envL (rnE σ l) t=rnD σ (envL l t)
 | [],_=>rfl
 | (t',d)::r,t=>by
  show upd (envL (rnE σ r)) t' (rnD σ d) t=rnD σ (upd (envL r) t' d t)
  unfold upd
  split
  ·rfl
  ·exact qgy σ r t
structure qfi (st:List Bx) (σ:List Nat) (l:EL) (st0:List Bx):Prop where
 nd:σ.Nodup
 at_:σ.map (fun i=>st[i]?)=st0.map fun b=>some (rnB σ b)
 live:st0.all Bx.live=true
 nr:nrS σ.length st0=true
 nl:(l.all fun p=>nrM σ.length p.2)=true
theorem qfi.lok {st:List Bx} {σ:List Nat} {l:EL} {st0:List Bx} (h:qfi st σ l st0):LOk st σ st0:=by
 refine⟨h.nd,by have:=congrArg List.length h.at_;simpa using this,fun j i hj=>?_,fun j y hy=>List.all_eq_true.1 h.live y (lm4 hy),h.nr⟩
 have:=congrArg (fun l=>l[j]?) h.at_
 simp only [List.getElem?_map,hj,Option.map_some] at this
 cases hs:st0[j]? with
 | none=>rw [hs] at this;cases this
 | some y=>rw [hs] at this;simpa using this
theorem qfi.env {st:List Bx} {σ:List Nat} {st0:List Bx}:∀{l:EL},(l.all fun p=>nrM σ.length p.2)=true→∀t,nrM σ.length (envL l t)=true
 | [],_,_=>rfl
 | (t',d)::r,h,t=>by
  simp only [List.all_cons,Bool.and_eq_true] at h
  show nrM σ.length (upd (envL r) t' d t)=true
  unfold upd
  split
  ·exact h.1
  ·exact qfi.env (st:=st) (st0:=st0) h.2 t
section
variable {P:Program} {C:Cx P} {n:Nat} {ks:List Nat} {c:Code}
theorem EnvE.rn {E:Env P} {on:Prop} {Nx:Nat→Prop} {σ:List Nat} {d:D} {V U:Vw} (h:EnvE E on Nx (rnD σ d) V) (hw:U.w=V.w) (hm:∀b,U.mine b→V.mine b) (hx:∀b,V.x b→U.x b):EnvE E on Nx d U:=by
 have key:EnvE E on Nx d V:=by
  cases d with
  | a x=>cases x<;>first|exact h|trivial
  | _=>trivial
 refine key.frm ⟨by rw [hw],by rw [hw],by rw [hw],by rw [hw];exact Nat.le_refl _,fun _ _ _=>by rw [hw]⟩ (fun b hb=>.inl (hm b hb)) hx
theorem Sat.use {w:World} {x:Nat→Prop} {bl:List Nat} {st:List Bx} {σ:List Nat} {st0:List Bx} {a:Act} {l:EL} (h:Sat C ⟨w,x,bl,st⟩ a n (envL (rnE σ l))) (hu:qfi st σ l st0) (hV0:C.V0.st=[]):Sat C ⟨w,x,lb ⟨w,x,bl,st⟩ σ,st0⟩ a n (envL l):=by
 obtain⟨ms,⟨h1,h2,h3⟩,hm,henv⟩:=h
 have hL:LOk (⟨w,x,bl,st⟩:Vw).st σ st0:=hu.lok
 have hA:=qi1 hm.ok hL
 have hV:C.V0.st.length=0:=by rw [hV0];rfl
 refine⟨ms,⟨h1,h2,fun D hD=>?_⟩,⟨hm.size,fun t ht=>?_,use_ok hm.ok hL,⟨by rw [hV];exact Nat.zero_le _,hm.le.size,fun b hb hn=>⟨(hm.le.blk b hb hn).1,fun hn'=>(hm.le.blk b hb hn).2 (qi2 hm.ok hL b hn')⟩,fun i r hi _=>by omega,fun i v m r hi _=>by omega,fun i k wd es hi _=>by omega⟩,hm.fr,fun b hb=>hm.low b (qdr hm.ok hL hb),fun b hb=>hm.sep b (qdr hm.ok hL hb),hm.x0,hm.xk,hm.xg,fun b hb=>⟨(hm.nx b hb).1,(hm.nx b hb).2.imp id fun ⟨q2,q3,q4⟩=>⟨q2,fun hh=>q3 (qdr hm.ok hL hh),q4⟩⟩,hm.nx0⟩,?_⟩
 ·obtain⟨q1,q2,q3,q4⟩:=h3 D hD
  exact⟨q1,q2,fun h=>q3 (qdr hm.ok hL h),q4⟩
 ·have:=hm.slot t ht
  rw [qgy] at this
  exact RepD.lendM hA this _ rfl (qfi.env (st:=st) (st0:=st0) hu.nl t)
 ·rw [qgy] at henv
  exact henv.rn rfl (fun b hb=>qgd hm.ok hL hb) fun _ h=>h
theorem Wk.use {e:Nat→D} {l:EL} {st st0:List Bx} (σ:List Nat) (hag:qal e (rnE σ l)) (hu:qfi st σ l st0) (hV0:C.V0.st=[]):Wk C n e st (envL l) st0:=fun _ _ _ _ hs=>⟨_,(hs.weaken hag).use hu hV0⟩
theorem VL.gW {α:Type} {l:EL} {st:List Bx} {K:Exit→EL→List Bx→Prop} (env:α→EL) (sto:α→List Bx) (μ:α→Nat) (y:α) (h0:Wk C n (envL l) st (envL (env y)) (sto y)) (round:∀y,vx P C n ks c (env y) (sto y) fun ex l' st'=>match ex with
  | .normal=>∃z,μ z<μ y∧Wk C n (envL l') st' (envL (env z)) (sto z)
  | ex=>K ex l' st'):VL C n ks c l st K:=by
 refine .wp (h0.wp (WP.loopW env sto μ y fun y=>qe0 c _ _ _ _ (fun ex l st hk=>?_) (round y)))
 cases ex with
 | normal=>exact hk
 | _=>exact⟨_,rfl,hk⟩
end
end Go.Proofs.YthkojpnjdpbcgaaGreatDoor
namespace Go.Proofs.YthkojpnjdpbcgaaGreatDoor
open Go.RowKit
section
variable {P:Program}
theorem raw1_resM {n:Nat} {e:Nat→D} {st:List Bx} {r:ResultVar} {d:D} (hd:raw1 P n e st r=some d):qhx P n e st r=some d:=by
 unfold raw1 at hd
 unfold qhx
 split at hd<;>dsimp only
 ·exact hd
 ·split at hd
  ·rename_i ht
   rw [if_pos ht]
   split at hd
   ·rename_i i off he
    rw [he]
    dsimp only
    split at hd
    ·rename_i row k hs hk
     rw [hs,hk]
     dsimp only
     split at hd
     ·rename_i m
      split at hd
      ·rename_i hc
       rw [Bool.and_eq_true] at hc
       have e1:=Nat.eq_of_beq_eq_true hc.1
       have e2:=Nat.eq_of_beq_eq_true hc.2
       subst e1;subst e2
       injection hd with hd;subst hd
       simp [qae]
      ·exact hd
     ·exact hd
    ·cases hd
   ·cases hd
  ·cases hd
/-! ### Nil slices stay nil -/
/-! ### A nil slice is a slice with nothing in it -/
end
end Go.Proofs.YthkojpnjdpbcgaaGreatDoor
namespace Go.Proofs.YthkojpnjdpbcgaaGreatDoor
open Go.RowKit
section
variable {w:World} {x:Nat→Prop} {bl:List Nat} {st st':List Bx}
end
variable {P:Program}
end Go.Proofs.YthkojpnjdpbcgaaGreatDoor
