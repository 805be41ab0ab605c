/- What a function hands back with boxes that it was lent or made: the rule of entry for contracts with boxes. No program in sight. Conditions: none. -/
import Derived.Test.YtfbopaaambkfkaaGreatDoorMg30
set_option linter.unusedVariables false
set_option maxRecDepth 100000
set_option maxHeartbeats 8000000
set_option linter.unusedSimpArgs false
namespace Go.Proofs.YtfbopaaambkfkaaGreatDoor
open Go.RowKit
section
variable {P:Program}
theorem qjh {n:Nat} {e:Nat→D} {st:List Bx} {r:ResultVar} {d:D} (hd:raw1 P n e st r=some d):qie P n e st r=some d:=by
 unfold raw1 at hd
 unfold qie
 split at hd<;>dsimp only
 ·exact hd
 ·split at hd
  ·rename_i ht
   rw [if_pos ht]
   split at hd
   ·rename_i i off he
    rw [he]
    dsimp only
    split at hd
    ·rename_i row k hs hk
     rw [hs,hk]
     dsimp only
     split at hd
     ·rename_i m
      split at hd
      ·rename_i hc
       rw [Bool.and_eq_true] at hc
       have e1:=Nat.eq_of_beq_eq_true hc.1
       have e2:=Nat.eq_of_beq_eq_true hc.2
       subst e1;subst e2
       injection hd with hd;subst hd
       simp [qap]
      ·exact hd
     ·exact hd
    ·cases hd
   ·cases hd
  ·cases hd
/-! ### Nil slices stay nil -/
def seeN (st:List Bx):A→A
 | .nl=>.nl
 | x=>seeA st x
def seeND (st:List Bx):D→D
 | .a x=>.a (seeN st x)
 | .r row=>.r (row.map (seeN st))
 | d=>d
theorem RepA.seeN {V:Vw} (hok:Ok V) (hx:∀b,b∈V.bl→¬V.x b) {y:A} {u:Value} (h:RepA V y u) (hc:clA1 (seeN V.st y)=true):RepA (out V.w V.x) (seeN V.st y) u:=by
 cases y with
 | nl=>cases h with|c _ _ h=>cases h;exact .c _ _ .nl
 | _=>exact h.see hok hx hc
theorem RepD.seeN {V:Vw} (hok:Ok V) (hx:∀b,b∈V.bl→¬V.x b) {d:D} {u:Value} (h:RepD V d u) (hc:clD1 (seeND V.st d)=true):RepD (out V.w V.x) (seeND V.st d) u:=by
 cases h with
 | junk=>cases hc
 | undef=>cases hc
 | t=>cases hc
 | a x u h=>exact .a _ u (h.seeN hok hx hc)
 | r row vs hl h =>
  refine .r _ vs (by simp [hl]) fun j y hj=>?_
  rw [List.getElem?_map,Option.map_eq_some_iff] at hj
  obtain⟨y',hj,rfl⟩:=hj
  exact (h j y' hj).seeN hok hx (clA1_of <| List.all_eq_true.1 hc _ (List.mem_map.2 ⟨y',lm4 hj,rfl⟩))
def hNa (st:List Bx) (x:A) (k:A→Prop):Prop :=
 match x with
 | .nl=>k .nl
 | x=>hSa st x k
def hNr (st:List Bx):List A→(List A→Prop)→Prop
 | [],k=>k []
 | x::r,k=>hNa st x fun x=>hNr st r fun r=>k (x::r)
def hNd (st:List Bx) (d:D) (k:D→Prop):Prop :=
 match d with
 | .a x=>hNa st x fun x=>k (.a x)
 | .r row=>hNr st row fun row=>k (.r row)
 | d=>k (seeND st d)
theorem hNa_see {st:List Bx} {x:A} {k:A→Prop} (h:hNa st x k):k (seeN st x):=by
 unfold hNa at h
 split at h
 ·exact h
 ·rename_i hne
  have:=qky h
  cases x with
  | nl=>exact absurd rfl hne
  | _=>exact this
theorem hNr_see {st:List Bx}:∀{row:List A} {k:List A→Prop},hNr st row k→k (row.map (seeN st))
 | [],_,h=>h
 | x::r,k,h=>by
  have h1:hNa st x fun x=>hNr st r fun r=>k (x::r):=h
  exact hNr_see (k:=fun r'=>k (seeN st x::r')) (hNa_see h1)
theorem hNd_see {st:List Bx} {d:D} {k:D→Prop} (h:hNd st d k):k (seeND st d):=by
 unfold hNd at h
 split at h
 ·exact hNa_see h
 ·exact hNr_see h
 ·exact h
def vresN (P:Program) (n:Nat) (rs:List ResultVar) (d:D) (l:EL) (st:List Bx):Prop :=
 match rs with
 | [r]=>(match raw1 P n (getL l) st r with
  | some d0=>hNd st d0 fun d'=>VG (clD1 d'=true) (VE d' d)
  | none=>False)
 | _=>False
def vretN (P:Program) (n:Nat) (rs:List ResultVar) (d:D):Exit→EL→List Bx→Prop
 | .normal,l,st=>vresN P n rs d l st
 | .ret,l,st=>vresN P n rs d l st
 | _,_,_=>False
def retNN (P:Program) (n:Nat) (rs:List ResultVar) (d:D) (e:Nat→D) (st:List Bx):Prop:=∃d0,resM P n e st rs d0∧seeND st d0=d∧clD1 d=true
theorem qj6 {n:Nat} {rs:List ResultVar} {d:D} {ex:Exit} {l:EL} {st:List Bx} (h:vretN P n rs d ex l st):retR (retNN P n rs d) ex (envL l) st:=by
 have key:vresN P n rs d l st→retNN P n rs d (envL l) st:=by
  intro h2
  unfold vresN at h2
  rw [qc7] at h2
  split at h2
  ·split at h2
   ·rename_i d0 hd
    obtain⟨hc,⟨rfl⟩⟩:=hNd_see h2
    exact⟨d0,qjh hd,rfl,hc⟩
   ·exact h2.elim
  ·exact h2.elim
 cases ex with
 | normal=>exact key h
 | ret=>exact key h
 | _=>exact h.elim
theorem qld {f:FuncId} {fn:Func} {c:Code} {n:Nat} {rs:List ResultVar} {ds:List D} {d:D} (ks:List Nat) (hf:P.funcs[f]? = some fn) (hb:fn.body=some c) (hn:fn.ntmps=n) (hr:fn.results=⟨rs⟩) (hnm:(fn.name == "runtime.NumGoroutine")=false) (hl:(decide (ds.length≤n)&&decide (n≤1000000))=true)
  (h:∀C:Cx P,C.ro=none→C.V0.st=[]→vx P C n ks c (argL 0 ds) [] (vretN P n rs d)):qaa P f ds d:=by
 rw [Bool.and_eq_true,decide_eq_true_iff,decide_eq_true_iff] at hl
 refine⟨qbp hf hb hnm,fun w x vs hx hgd hvl hrr=>?_⟩
 have hsat:Sat (Cx.pure P w x) (Cx.pure P w x).V0 { tmps:=vs.toArray++Array.replicate (fn.ntmps-vs.toArray.size) Go.undef,defers:=[] } n (qau 0 ds):=by
  refine⟨[],⟨rfl,by simp,fun D hD=>by simp at hD⟩,⟨by simp;omega,fun t _=>qde (by omega) hvl hrr t,.out hx hgd,.refl _,.refl _ _,fun b hb=>by have hb:b∈([]:List Nat):=hb;simp at hb,fun b hb=>by have hb:b∈([]:List Nat):=hb;simp at hb,fun _ h=>h,fun h=>h.elim,fun _ h=>.inl h,fun _ h=>h.elim,fun _ h=>h.elim⟩,?_⟩
  rw [qda (by omega)];trivial
 refine qfk (C:=Cx.pure P w x) (RQ:=retNN P n rs d) hf hb rfl hsat (WP.weaken (qh3 ds) (qc3 c _ _ _ _ (fun _ _ _=>qj6) (h _ rfl rfl))) ?_
 intro tm V' e' hm _ hq
 obtain⟨d0,hq,rfl,hc⟩:=hq
 obtain⟨v,h1,h2⟩:=qf1 hm (fn:=fn) (by rw [hr];exact hq)
 exact⟨v,h1,v,rfl,hm.fr.grw,(h2.seeN hm.ok hm.sep hc).lessOut hm.x0⟩
/-! ### A nil slice is a slice with nothing in it -/
theorem RepA.nlsl {V:Vw} {u:Value} (h:RepA V .nl u):RepA V (.sl []) u:=by
 cases h with|c _ _ h=>cases h;exact .c _ _ (.sl0 none 0)
theorem qaa.nlA {f:FuncId} {d:D} (pre post:List D) (h:qaa P f (pre++.a (.sl [])::post) d):qaa P f (pre++.a .nl::post) d:=by
 refine⟨h.1,fun w x vs hx hg hl hr=>h.2 w x vs hx hg (by simpa using hl) fun i d' hi=>?_⟩
 rcases Nat.lt_trichotomy i pre.length with hp|hp|hp
 ·exact hr i d' (by rw [List.getElem?_append_left hp] at hi ⊢;exact hi)
 ·subst hp
  rw [List.getElem?_append_right (Nat.le_refl _),Nat.sub_self] at hi
  injection hi with hi;subst hi
  have:=hr pre.length (.a .nl) (by rw [List.getElem?_append_right (Nat.le_refl _),Nat.sub_self];rfl)
  cases this with|a _ _ h=>exact .a _ _ h.nlsl
 ·exact hr i d' (by
   rw [List.getElem?_append_right (Nat.le_of_lt hp)] at hi ⊢
   obtain⟨k,hk⟩:∃k,i-pre.length=k+1:=⟨i-pre.length-1,by omega⟩
   rw [hk] at hi ⊢;exact hi)
end
end Go.Proofs.YtfbopaaambkfkaaGreatDoor
