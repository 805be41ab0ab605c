/- scope.This on plain data. Conditions: at most 2^20 parameters. -/
import Derived.Test.YtibdalkdgjghoaaGreatDoorMc17
import Derived.Test.YtibdalkdgjghoaaGreatDoorMc18
set_option linter.unusedVariables false
set_option maxRecDepth 100000
set_option maxHeartbeats 8000000
set_option linter.unusedSimpArgs false
namespace Go.Proofs.YtibdalkdgjghoaaGreatDoor
open Go.RowKit
def ownAt (c : Cs) (k : Nat) : Int × Int := (thisL c).getD k (0, 0)
def thisT (c : Cs) : Ty := ⟨2, c.name, ((min (c.params.length + 1) 4 : Nat) : Int) - 1, ownAt c 0, ownAt c 1, ownAt c 2, ownAt c 3⟩
theorem pThis (c : Cs) (hc : c.params.length ≤ 1048576) : DPure Tryz.prog 110 [.r (Cs.at c)] (.r (Ty.at (thisT c))) := by
 have htz : Ty.at Ty.zero = [.v (.int .i64 0), .v (.string (bs [])), .v (.int .i64 0), .v (.int .i64 0), .v (.int .i64 0), .v (.int .i64 0), .v (.int .i64 0), .v (.int .i64 0), .v (.int .i64 0), .v (.int .i64 0), .v (.int .i64 0)] := rfl
 have hal : allLen 2 ((thisL c).map owAt) = true := allLen_ow
 have hln : (thisL c).length = c.params.length + 1 := by simp [thisL]
 have hwr : IntKind.i64.wrap (((min (thisL c).length 4 : Nat) : Int) - 1) = ((min (c.params.length + 1) 4 : Nat) : Int) - 1 := by rw [hln]; exact wrap64 (by omega) (by omega)
 have hpr : putRow [A.v (.int .i64 0), .v (.int .i64 0), .v (.int .i64 0), .v (.int .i64 0), .v (.int .i64 0), .v (.int .i64 0), .v (.int .i64 0), .v (.int .i64 0)] 0 (List.take (min (thisL c).length 4) ((thisL c).map owAt)).flatten = [.v (.int .i64 (ownAt c 0).1), .v (.int .i64 (ownAt c 0).2), .v (.int .i64 (ownAt c 1).1), .v (.int .i64 (ownAt c 1).2), .v (.int .i64 (ownAt c 2).1), .v (.int .i64 (ownAt c 2).2), .v (.int .i64 (ownAt c 3).1), .v (.int .i64 (ownAt c 3).2)] := by
  rw [hln]
  unfold ownAt thisL
  generalize c.params.length = n
  match n with
  | 0 => rfl
  | 1 => rfl
  | 2 => rfl
  | k + 3 =>
   rw [show min (k + 3 + 1) 4 = 4 by omega, show k + 3 = (((k + 1) + 1) + 1) from rfl]
   simp [List.range_succ_eq_map, owAt, putRow]
 refine DPure.go Tryz.func110 rfl Tryz.ntmps110 rfl rfl rfl (fun C hro => ?_)
 have fx := trivial
 replace fx := And.intro htz (And.intro hal (And.intro hwr (And.intro hpr trivial)))
 repeat' (first | refine WP.seq ?_ | (refine WP.rg [0, 1, 2, 3] ?_; simp only [RSr_mk]) | refine RS.fnT ?_ | (refine RS.fn ?_; try simp only [thenQ_n, blockQ_n]) | (refine RS.cl (hp := by exact pThisL c hc) (h := ?_); refine RS.rn ?_; simp only [RSr_mk]) | (refine RS.cL (hp := by exact pThisL c hc) (h := ?_); refine RS.rn ?_; simp only [RSr_mk]) | (refine RS.sE ?_; refine RS.rn ?_; simp only [RSr_mk]) | (refine RS.sN ?_; refine RS.rn ?_; simp only [RSr_mk]) | (refine RS.sC ?_; refine RS.rn ?_; simp only [RSr_mk]) | (refine RS.cC ?_; refine RS.rn ?_; simp only [RSr_mk]) | (refine WP.ret ?_; (try simp only [thenQ_r, blockQ_r])) | refine retC3 ?_ | ((first | refine WP.dw (id := 2) 4 [0, 1, 2, 3] ?_); simp only [RQr_mk, List.drop_succ_cons, List.drop_zero, List.drop_nil]) | (refine RQ.nil ?_; refine RS.rn ?_; simp only [RSr_mk]) | (refine RQ.cl (hp := by exact pThisL c hc) (h := ?_); refine RQ.rn ?_; simp only [RQr_mk]) | (refine RQ.cL (hp := by exact pThisL c hc) (h := ?_); refine RQ.rn ?_; simp only [RQr_mk]) | (refine RQ.sC ?_; refine RQ.rn ?_; simp only [RQr_mk]))
 rfl
theorem placeI_get (m : Me) (s : List UInt8) : placeI m s = -1 ∨ ∃ (j : Nat) (z : Vr), (m.params ++ m.locals)[j]? = some z ∧ z.name = s ∧ placeI m s = (j : Int) := by
 rcases varI_get m.params s with h | ⟨j, z, h1, h2, h3⟩
 ·rcases varI_get m.locals s with g | ⟨k, y, g1, g2, g3⟩
  ·exact .inl (by unfold placeI; rw [if_neg (by omega), if_pos (by omega)])
  ·refine .inr ⟨m.params.length + k, y, ?_, g2, ?_⟩
   ·rw [List.getElem?_append_right (by omega), Nat.add_sub_cancel_left]; exact g1
   ·unfold placeI; rw [if_neg (by omega), if_neg (by omega), g3]; omega
 ·refine .inr ⟨j, z, ?_, h2, ?_⟩
  ·rw [List.getElem?_append_left (List.getElem?_eq_some_iff.1 h1).1]; exact h1
  ·unfold placeI; rw [if_pos (by omega), h3]
def thisS : List UInt8 := [116, 104, 105, 115]
def typeT (c : Cs) (m : Me) (s : List UInt8) : Ty × Bool :=
 if (s == thisS) = true then (thisT c, true) else if placeI m s < 0 then (Ty.zero, false) else ((((m.params ++ m.locals)[(placeI m s).toNat]?).map Vr.ty).getD Ty.zero, true)
theorem pType (c : Cs) (m : Me) (s : List UInt8) (hc : c.params.length ≤ 1048576) (ha : m.params.length ≤ 1048576) (hb : m.locals.length ≤ 1048576) : DPure Tryz.prog 103 [.r (Cs.at c), .r (Me.at m), .a (.v (.string (bs s)))] (.t [.r (Ty.at (typeT c m s).1), .a (.v (.bool (typeT c m s).2))]) := by
 have htb : (thisS == thisS) = true := rfl
 cases hT : (s == thisS) with
 | true =>
  have hts : (s == [116, 104, 105, 115]) = true := hT
  rw [show typeT c m s = (thisT c, true) by unfold typeT; rw [if_pos hT]]
  have hq := pThis c hc
  generalize thisT c = T at hq ⊢
  dsimp only
  refine DPure.go Tryz.func103 rfl Tryz.ntmps103 rfl rfl rfl (fun C hro => ?_)
  have fx := trivial
  replace fx := And.intro hts trivial
  repeat' (first | refine WP.seq ?_ | (refine WP.rg [0, 1, 2, 3, 4, 6, 7, 8, 10, 17] ?_; simp only [RSr_mk]) | refine RS.fnT ?_ | (refine RS.fn ?_; try simp only [thenQ_n, blockQ_n]) | (refine RS.cl (hp := by exact hq) (h := ?_); refine RS.rn ?_; simp only [RSr_mk]) | (refine RS.cL (hp := by exact hq) (h := ?_); refine RS.rn ?_; simp only [RSr_mk]) | (refine RS.sE ?_; refine RS.rn ?_; simp only [RSr_mk]) | (refine RS.xC ?_; refine RS.rn ?_; simp only [RSr_mk]) | ((refine WP.cn (fun hc => ?_) (fun hc => ?_)) <;> try exact Bool.noConfusion hc) | (refine WP.skip ?_; try simp only [thenQ_n, blockQ_n]) | (refine WP.ret ?_; (try simp only [thenQ_r, blockQ_r])) | refine ret3 ?_ | refine retCT ?_)
  all_goals rfl
 | false =>
  have hts : (s == [116, 104, 105, 115]) = false := hT
  rcases placeI_get m s with hp | ⟨j, z, hz, _, hp⟩
  ·have hd : decide (placeI m s < 0) = true := decide_eq_true (by omega)
   rw [show typeT c m s = (Ty.zero, false) by unfold typeT; rw [if_neg (by rw [hT]; exact Bool.false_ne_true), if_pos (by omega)]]
   refine DPure.go Tryz.func103 rfl Tryz.ntmps103 rfl rfl rfl (fun C hro => ?_)
   have fx := trivial
   replace fx := And.intro hts (And.intro hd trivial)
   repeat' (first | refine WP.seq ?_ | (refine WP.rg [0, 1, 2, 3, 4, 6, 7, 8, 10, 17] ?_; simp only [RSr_mk]) | refine RS.fnT ?_ | (refine RS.fn ?_; try simp only [thenQ_n, blockQ_n]) | (refine RS.cl (hp := by exact pPlace m s ha hb) (h := ?_); refine RS.rn ?_; simp only [RSr_mk]) | (refine RS.cL (hp := by exact pPlace m s ha hb) (h := ?_); refine RS.rn ?_; simp only [RSr_mk]) | (refine RS.sE ?_; refine RS.rn ?_; simp only [RSr_mk]) | (refine RS.xC ?_; refine RS.rn ?_; simp only [RSr_mk]) | ((refine WP.cn (fun hc => ?_) (fun hc => ?_)) <;> try exact Bool.noConfusion hc) | (refine WP.skip ?_; try simp only [thenQ_n, blockQ_n]) | (refine WP.ret ?_; (try simp only [thenQ_r, blockQ_r])) | refine ret3 ?_ | refine retCT ?_)
   all_goals rfl
  ·have hd : decide ((j : Int) < 0) = false := decide_eq_false (by omega)
   have hjx : ∀ q2, ixD (some 13) q2 (.a (.sl ((m.params ++ m.locals).map Vr.at))) (.a (.v (.int .i64 (j : Int)))) = some (.a (.ref (Vr.at z) 0)) := fun q2 => ixD_at rfl (by rw [List.getElem?_map, hz]; rfl) (by simp only [go_sem])
   have hma : List.map Vr.at m.params ++ List.map Vr.at m.locals = (m.params ++ m.locals).map Vr.at := List.map_append.symm
   rw [show typeT c m s = (z.ty, true) by unfold typeT; rw [if_neg (by rw [hT]; exact Bool.false_ne_true), if_neg (by omega), hp, Int.toNat_natCast, hz]; rfl]
   refine DPure.go Tryz.func103 rfl Tryz.ntmps103 rfl rfl rfl (fun C hro => ?_)
   have fx := trivial
   replace fx := And.intro hts (And.intro hp (And.intro hd (And.intro hjx trivial)))
   repeat' (first | refine WP.seq ?_ | (refine WP.rg [0, 1, 2, 3, 4, 6, 7, 8, 10, 17] ?_; simp only [RSr_mk]) | refine RS.fnT ?_ | (refine RS.fn ?_; try simp only [thenQ_n, blockQ_n]) | (refine RS.cl (hp := by first | exact pPlace m s ha hb | exact pVarsA m ha hb) (h := ?_); refine RS.rn ?_; simp only [RSr_mk]) | (refine RS.cL (hp := by first | exact pPlace m s ha hb | exact pVarsA m ha hb) (h := ?_); refine RS.rn ?_; simp only [RSr_mk]) | (refine RS.sE ?_; refine RS.rn ?_; simp only [RSr_mk]) | (refine RS.xC ?_; refine RS.rn ?_; simp only [RSr_mk]) | ((refine WP.cn (fun hc => ?_) (fun hc => ?_)) <;> try exact Bool.noConfusion hc) | (refine WP.skip ?_; try simp only [thenQ_n, blockQ_n]) | (refine WP.ret ?_; (try simp only [thenQ_r, blockQ_r])) | refine ret3 ?_ | refine retCT ?_)
   all_goals rfl
theorem pMust (b : Bool) (z : Int) : DPure Tryz.prog 104 [.a (.v (.bool b)), .a (.v (.int .i64 z))] (.a (.v (.int .i64 (bif b then 0 else z)))) := by
 cases b
 all_goals refine DPure.go Tryz.func104 rfl Tryz.ntmps104 rfl rfl rfl (fun C hro => ?_)
 all_goals have fx := trivial
 all_goals (repeat' (first | refine WP.seq ?_ | (refine WP.rg [0, 1, 4, 5] ?_; simp only [RSr_mk]) | refine RS.fnT ?_ | (refine RS.fn ?_; try simp only [thenQ_n, blockQ_n]) | ((refine WP.cn (fun hc => ?_) (fun hc => ?_)) <;> try exact Bool.noConfusion hc) | (refine WP.skip ?_; try simp only [thenQ_n, blockQ_n]) | (refine WP.ret ?_; (try simp only [thenQ_r, blockQ_r])) | refine ret3 ?_))
 all_goals rfl
end Go.Proofs.YtibdalkdgjghoaaGreatDoor
