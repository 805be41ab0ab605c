/- What is read may be, and is the same as another one just if both are alike without their places. No program in sight. Conditions: none. -/
import Derived.Test.YtfbopaaambkfkaaGreatDoorMg43
import Derived.Test.YtfbopaaambkfkaaGreatDoorMg42
set_option linter.unusedVariables false
set_option maxRecDepth 100000
set_option maxHeartbeats 8000000
set_option linter.unusedSimpArgs false
namespace Go.Proofs.YtfbopaaambkfkaaGreatDoor
open Go.RowKit
theorem qf8 {α:Type} (f f':α→α→Bool) (g:α→α) (h:∀x y,f (g x) (g y)=f' x y):∀l m:List α,(((l.map g).zip (m.map g)).all fun p=>f p.1 p.2)=((l.zip m).all fun p=>f' p.1 p.2)
 | [],_=>by simp
 | x::l,[]=>by simp
 | x::l,y::m=>by rw [List.map_cons,List.map_cons,List.zip_cons_cons,List.zip_cons_cons,List.all_cons,List.all_cons,h,qf8 f f' g h l m]
mutual
theorem St.same_bare2:∀s t:St,s.bare.sameB t.bare=s.sameB t
 | ⟨k,x,y,n,t,e,args,body,els,a⟩,⟨k',x',y',n',t',e',args',body',els',a'⟩=>by
  rw [St.bare,St.bare,St.same_eq,St.same_eq];dsimp only
  rw [St.sames_bare2 body body',St.sames_bare2 els els']
theorem St.sames_bare2:∀l m:List St,St.samesB (St.bares l) (St.bares m)=St.samesB l m
 | [],[]=>rfl
 | [],_::_=>rfl
 | _::_,[]=>rfl
 | e::r,f::t=>by rw [St.bares,St.bares,St.samesB,St.samesB,St.same_bare2 e f,St.sames_bare2 r t]
end
mutual
theorem St.at_bare2:∀s t:St,s.sameB t=true→s.bare.atB t.bare=true
 | ⟨k,x,y,n,t,e,args,body,els,a⟩,⟨k',x',y',n',t',e',args',body',els',a'⟩=>by
  rw [St.bare,St.bare,St.same_eq,St.at_eq];dsimp only
  intro h
  simp only [Bool.and_eq_true] at h
  rw [St.ats_bare2 body body' h.2.2.2.2.2.2.2.1,St.ats_bare2 els els' h.2.2.2.2.2.2.2.2];rfl
theorem St.ats_bare2:∀l m:List St,St.samesB l m=true→St.atsB (St.bares l) (St.bares m)=true
 | [],[]=>fun _=>rfl
 | [],_::_=>fun h=>by cases h
 | _::_,[]=>fun h=>by cases h
 | e::r,f::t=>by
  rw [St.samesB,St.bares,St.bares,St.atsB]
  intro h
  rw [Bool.and_eq_true] at h
  rw [St.at_bare2 e f h.1,St.ats_bare2 r t h.2];rfl
end
theorem Vr.same_bare2 (a b:Vr):a.bare.sameB true b.bare=a.sameB false b:=by unfold Vr.sameB Vr.bare;simp
theorem qfl (l m:List Vr):qa4 true (l.map Vr.bare) (m.map Vr.bare)=qa4 false l m:=by
 unfold qa4
 rw [qf8 (fun a b:Vr=>a.sameB true b) (fun a b=>a.sameB false b) Vr.bare Vr.same_bare2,List.length_map,List.length_map]
theorem Me.like_bare2 (a b:Me):a.bare.likeB true b.bare=a.likeB false b:=by
 unfold Me.likeB
 simp only [Me.bare]
 rw [qfl,qfl,←St.bares_map,←St.bares_map,St.sames_bare2]
 cases h:St.samesB a.body b.body with
 | true=>rw [St.ats_bare2 _ _ h];simp;rfl
 | false=>simp
theorem Cs.one_bare2 (a b:Cs):a.bare.oneB true b.bare=a.oneB false b:=by
 unfold Cs.oneB
 simp only [Cs.bare]
 rw [qfl,qf8 (fun a b:Me=>a.likeB true b) (fun a b=>a.likeB false b) Me.bare Me.like_bare2,List.length_map,List.length_map]
 simp
theorem like_bare2 (l m:List Cs):likeB true (l.map Cs.bare) (m.map Cs.bare)=likeB false l m:=by
 unfold likeB
 rw [qf8 (fun a b:Cs=>a.oneB true b) (fun a b=>a.oneB false b) Cs.bare Cs.one_bare2,List.length_map,List.length_map]
theorem qgx {α:Type} {f:α→Nat} {n:Nat}:∀l:List α,(∀x∈l,f x≤n)→qc8 f l≤n
 | [],_=>Nat.zero_le _
 | x::r,h=>by
  have h1:=h x (by simp)
  have h2:=qgx r fun y hy=>h y (by simp [hy])
  rw [qc8];omega
theorem St.deeps_leN {n:Nat}:∀l:List St,(∀x∈l,x.deep≤n)→St.deeps l≤n
 | [],_=>Nat.zero_le _
 | x::r,h=>by
  have h1:=h x (by simp)
  have h2:=St.deeps_leN r fun y hy=>h y (by simp [hy])
  rw [St.deeps];omega
theorem of_small {l:List Cs} (h:rightB l=true):(ofP l).classes≤20∧(ofP l).stmts≤400∧(ofP l).deep≤20:=by
 unfold rightB at h
 rw [Bool.and_eq_true,decide_eq_true_iff,List.all_eq_true] at h
 obtain⟨h1,h2⟩:=h
 refine⟨?_,h2,?_⟩
 ·show ((l.length:Nat):Int)≤20
  cases l with
  | nil=>decide
  | cons c r =>
   have:=h1 c (by simp)
   simp only [Bool.not_eq_true',Bool.or_eq_false_iff,decide_eq_false_iff_not] at this
   omega
 ·show ((qc8 Cs.deep l:Nat):Int)≤20
  have:qc8 Cs.deep l≤20:=qgx l fun c hc=>qgx c.methods fun m hm=>St.deeps_leN m.body fun s hs=>by
   have:=h1 c hc
   simp only [Bool.not_eq_true',Bool.or_eq_false_iff,Bool.not_eq_false'] at this
   have h3:=this.2
   unfold Cs.rightB at h3
   simp only [Bool.and_eq_true,List.all_eq_true] at h3
   have h4:=h3.2.2.1 m hm
   unfold Me.rightB at h4
   rw [Bool.and_eq_true,List.all_eq_true] at h4
   have h5:=h4.1 s hs
   unfold St.rightB at h5
   rw [Bool.and_eq_true,decide_eq_true_iff] at h5
   exact h5.2
  omega
end Go.Proofs.YtfbopaaambkfkaaGreatDoor
