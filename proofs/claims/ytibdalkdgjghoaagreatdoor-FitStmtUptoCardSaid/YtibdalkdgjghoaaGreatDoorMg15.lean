/- Loops whose rounds leave boxes, of which some are kept: the kept ones grow from round to round. No program in sight. Conditions: none. -/
import Derived.Test.YtibdalkdgjghoaaGreatDoorMg14
set_option linter.unusedVariables false
set_option maxRecDepth 100000
set_option maxHeartbeats 8000000
set_option linter.unusedSimpArgs false
namespace Go.Proofs.YtibdalkdgjghoaaGreatDoor
open Go.RowKit
section
variable {P:Program} {C:Cx P} {n:Nat} {Q:Exit→(Nat→D)→List Bx→Prop} {e:Nat→D} {st:List Bx}
theorem WP.loopG {α:Type} (env:α→List (Nat×D)) (sto:α→List Bx) (μ:α→Nat) (y:α) {c:Code} (h0:Agree e (env y)) (hs:st=sto y)
  (round:∀y,WP C n c (thenQ (fun e' st'=>∃z ex,μ z<μ y∧(sto y).length≤(sto z).length∧Agree e' (env z)∧st'=sto z++ex∧nrE (sto z).length (env z)=true∧nrS (sto z).length (sto z)=true) Q) (envL (env y)) (sto y)):WP C n (.loop c) Q e st:=by
 subst hs
 have main:C.V0.st.length≤(sto y).length→WP C n (.loop c) Q (envL (env y)) (sto y):=by
  intro hV
  refine WP.loopS (fun y e st=>C.V0.st.length≤(sto y).length∧e=envL (env y)∧st=sto y) μ y ⟨hV,rfl,rfl⟩ ?_
  rintro y2 _ _ ⟨hV2,rfl,rfl⟩
  refine (round y2).mono ?_
  intro ex e' st' hq
  cases ex with
  | normal =>
   obtain⟨z,exx,hlt,hle,hag,rfl,hn1,hn2⟩:=hq
   intro a w x bl hm
   exact⟨z,x,_,_,_,hlt,⟨Nat.le_trans hV2 hle,rfl,rfl⟩,(hm.weaken hag).drop (nrE_env hn1) hn2 (Nat.le_trans hV2 hle)⟩
  | _=>exact hq
 intro a w x bl hm
 exact main hm.m.le.len a w x bl (hm.weaken h0)
end
end Go.Proofs.YtibdalkdgjghoaaGreatDoor
