/- The document's variables, places, types of names, on plain data. Conditions: at most 2^20 of anything. -/
import Derived.Test.YtibdalkdgjghoaaGreatDoorMc39
import Derived.Test.YtibdalkdgjghoaaGreatDoorMc29
import Derived.Test.YtibdalkdgjghoaaGreatDoorMc36
import Derived.Test.YtibdalkdgjghoaaGreatDoorMc37
import Derived.Test.YtibdalkdgjghoaaGreatDoorMc38
import Derived.Test.YtibdalkdgjghoaaGreatDoorMc31
import Derived.Test.YtibdalkdgjghoaaGreatDoorMc40
import Derived.Test.YtibdalkdgjghoaaGreatDoorMc24
set_option linter.unusedVariables false
set_option maxRecDepth 100000
set_option maxHeartbeats 8000000
set_option linter.unusedSimpArgs false
namespace Go.Proofs.YtibdalkdgjghoaaGreatDoor
open Go.RowKit
theorem prUnique (t : Ty) : DPure Tryz.prog 56 [.r (Ty.at t)] (.a (.v (.bool (uniqB t)))) := by
 refine DPure.go Tryz.func56 rfl Tryz.ntmps56 rfl rfl rfl (fun C hro => ?_)
 have fx := trivial
 repeat' (first | refine WP.seq ?_ | (refine WP.rg [0, 1, 2] ?_; simp only [RSr_mk]) | refine RS.fnT ?_ | (refine RS.fn ?_; try simp only [thenQ_n, blockQ_n]) | (refine RS.pk ?_; refine RS.rn ?_; simp only [RSr_mk]) | (refine RS.gF ?_; refine RS.rn ?_; simp only [RSr_mk]) | (refine RS.xC ?_; refine RS.rn ?_; simp only [RSr_mk]) | (refine WP.ret ?_; (try simp only [thenQ_r, blockQ_r])) | refine ret3 ?_)
 rfl
theorem pr12Vars (m : Me) (ha : m.params.length ≤ 1048576) (hb : m.locals.length ≤ 1048576) : DPure Tryz.prog 102 [.r (Me.at m)] (.a (.sl ((m.params ++ m.locals).map Vr.at))) := by
 have hma : List.map Vr.at m.params ++ List.map Vr.at m.locals = (m.params ++ m.locals).map Vr.at := List.map_append.symm
 refine DPure.go Tryz.func102 rfl Tryz.ntmps102 rfl rfl rfl (fun C hro => ?_)
 have fx := trivial
 repeat' (first | (refine RWL.fin ?_; try simp only [thenQ_n, blockQ_n]) | refine WP.seq ?_ | (refine WP.rg [0, 1, 2] ?_; simp only [RSr_mk]) | refine RS.fnT ?_ | (refine RS.fn ?_; try simp only [thenQ_n, blockQ_n]) | (refine RS.aO ?_; refine RS.rn ?_; simp only [RSr_mk]) | (refine RS.aN ?_; refine RS.rn ?_; simp only [RSr_mk]) | (refine RS.l0 ?_; refine RS.rn ?_; simp only [RSr_mk]) | (refine RS.aE ?_; refine RS.rn ?_; simp only [RSr_mk]) | (refine RS.aK ?_; refine RS.rn ?_; simp only [RSr_mk]) | (refine' WP.dl (id := 1) [0, 0, 2, 7, 0, 16, 63, 127] [0, 1, 2] [0, 3, 6] [(0, _), (3, _), (6, _)] ?_) | refine RWL.fr ?_ | refine RWL.wt ?_ | refine RWL.l0 ?_ | refine RWL.aO ?_ | refine RWL.aN ?_ | refine RWL.re ?_ ?_ | refine RdO.oz | refine RdO.oa ?_ | refine RdO.oe ?_ | refine RdO.on | (refine WP.ret ?_; (try simp only [thenQ_r, blockQ_r])) | refine ret3 ?_)
 rw [hma]
theorem varI_app (s : List UInt8) (m : Me) : varI (m.params ++ m.locals) s = placeI m s := by
 have key : ∀ (a b : List Vr) (k : Nat), ixOf (fun v : Vr => v.name == s) (a ++ b) k = if ixOf (fun v : Vr => v.name == s) a k ≥ 0 then ixOf (fun v : Vr => v.name == s) a k else ixOf (fun v : Vr => v.name == s) b (k + a.length) := by
  intro a b
  induction a with
  | nil => intro k; rw [List.nil_append, ixOf, if_neg (by decide)]; rfl
  | cons x a ih =>
   intro k
   rw [List.cons_append, ixOf, ixOf]
   split
   ·rw [if_pos (by omega)]
   ·rw [ih (k + 1), List.length_cons, show k + 1 + a.length = k + (a.length + 1) by omega]
 have sh : ∀ (b : List Vr) (k d : Nat), ixOf (fun v : Vr => v.name == s) b (k + d) = if ixOf (fun v : Vr => v.name == s) b k < 0 then -1 else ixOf (fun v : Vr => v.name == s) b k + d := by
  intro b
  induction b with
  | nil => intro k d; rw [ixOf, ixOf, if_pos (by decide)]
  | cons x b ih =>
   intro k d
   rw [ixOf, ixOf]
   split
   ·rw [if_neg (by omega)]; omega
   ·rw [show k + d + 1 = k + 1 + d by omega]; exact ih (k + 1) d
 unfold placeI varI
 rw [key]
 split
 ·rfl
 ·rw [sh m.locals 0 m.params.length]
  split
  ·rfl
  ·omega
theorem pr18Place (m : Me) (s : List UInt8) (ha : m.params.length ≤ 1048576) (hb : m.locals.length ≤ 1048576) : DPure Tryz.prog 133 [.r (Me.at m), .a (.v (.string (bs s)))] (.a (.v (.int .i64 (placeI m s)))) := by
 have hv := pr12Vars m ha hb
 have hlen : (m.params ++ m.locals).length ≤ 2097152 := by rw [List.length_append]; omega
 rw [← varI_app]
 generalize m.params ++ m.locals = l at hv hlen ⊢
 refine DPure.go Tryz.func133 rfl Tryz.ntmps133 rfl rfl rfl (fun C hro => ?_)
 have fx := trivial
 repeat' (first | refine WP.seq ?_ | (refine WP.rg [0, 1, 2, 4, 5, 6, 12, 21] ?_; simp only [RSr_mk]) | refine RS.fnT ?_ | (refine RS.fn ?_; try simp only [thenQ_n, blockQ_n]) | (refine RS.cl (hp := by exact hv) (h := ?_); refine RS.rn ?_; simp only [RSr_mk]) | (refine RS.cL (hp := by exact hv) (h := ?_); refine RS.rn ?_; simp only [RSr_mk]) | (refine RS.lC ?_; refine RS.rn ?_; simp only [RSr_mk]) | (refine RS.xC ?_; refine RS.rn ?_; simp only [RSr_mk]) | ((refine WP.cn (fun hc => ?_) (fun hc => ?_)) <;> try exact Bool.noConfusion hc) | (refine WP.skip ?_; try simp only [thenQ_n, blockQ_n]) | (refine WP.exit ?_; try simp only [thenQ_e, blockQ_e, blockQ_o, ne_eq, Nat.reduceEqDiff, not_false_eq_true, reduceCtorEq, thenQ_n, blockQ_n]) | refine WP.block ?_ | (refine WP.ret ?_; (try simp only [thenQ_r, blockQ_r])) | refine ret3 ?_)
 refine WP.loopX (α := { k : Nat // k ≤ l.length ∧ (l.take k).any (fun v : Vr => v.name == s) = false }) (fun y => [(1, .a (.v (.string (bs s)))), (5, .a (.sl (l.map Vr.at))), (6, .a (.v (.int .i64 (y.1 : Nat))))]) (fun _ => [.cell (Me.at m)]) (fun y => l.length - y.1) ⟨0, by omega, rfl⟩ (by simp only [Agree, go_sem, simprocAttr]; first | done | rfl) rfl ?_
 rintro ⟨k, hk, hinv⟩
 dsimp only
 by_cases hlt : k < l.length
 ·have hlt2 : decide ((k : Int) < ((l.length : Nat) : Int)) = true := decide_eq_true (by omega)
  obtain ⟨z, hz⟩ : ∃ z, l[k]? = some z := ⟨_, List.getElem?_eq_getElem hlt⟩
  have hzm : z ∈ l := List.mem_of_getElem? hz
  have hzt := take_snocA hz
  have hix : ∀ q2, ixD (some 13) q2 (.a (.sl (l.map Vr.at))) (.a (.v (.int .i64 (k : Int)))) = some (.a (.ref (Vr.at z) 0)) := fun q2 => ixD_at rfl (by rw [List.getElem?_map, hz]; rfl) (by simp only [go_sem])
  have hwu := wrap64n (k := k) (by omega)
  replace fx := And.intro hlt2 (And.intro hix (And.intro hwu trivial))
  repeat' (first | refine WP.seq ?_ | (refine WP.rg [0, 1, 2, 4, 5, 6, 12, 21] ?_; simp only [RSr_mk]) | refine RS.fnT ?_ | (refine RS.fn ?_; try simp only [thenQ_n, blockQ_n]) | (refine RS.lC ?_; refine RS.rn ?_; simp only [RSr_mk]) | (refine RS.xC ?_; refine RS.rn ?_; simp only [RSr_mk]) | ((refine WP.cn (fun hc => ?_) (fun hc => ?_)) <;> try exact Bool.noConfusion hc) | (refine WP.skip ?_; try simp only [thenQ_n, blockQ_n]) | (refine WP.exit ?_; try simp only [thenQ_e, blockQ_e, blockQ_o, ne_eq, Nat.reduceEqDiff, not_false_eq_true, reduceCtorEq, thenQ_n, blockQ_n]) | refine WP.block ?_ | (refine WP.ret ?_; (try simp only [thenQ_r, blockQ_r])) | refine ret3 ?_)
  ·exact int_eq (by rw [varI, ixOf_at _ l k 0 z hz hinv hc, Nat.zero_add])
  ·refine ⟨⟨k + 1, by omega, by rw [hzt, List.any_append, hinv]; simpa using hc⟩, [], by dsimp only; omega, by simp only [Agree, go_sem, simprocAttr], rfl, by simp only [nrE, nrD, List.all_cons, List.all_nil, go_sem, simprocAttr], by simp only [go_sem, simprocAttr, Me.nr]⟩
 obtain rfl : k = l.length := by omega
 rw [List.take_length] at hinv
 have hlt2 : decide ((l.length : Int) < (l.length : Int)) = false := decide_eq_false (by omega)
 replace fx := And.intro hlt2 trivial
 repeat' (first | refine WP.seq ?_ | (refine WP.rg [0, 1, 2, 4, 5, 6, 12, 21] ?_; simp only [RSr_mk]) | refine RS.fnT ?_ | (refine RS.fn ?_; try simp only [thenQ_n, blockQ_n]) | (refine RS.lC ?_; refine RS.rn ?_; simp only [RSr_mk]) | (refine RS.xC ?_; refine RS.rn ?_; simp only [RSr_mk]) | ((refine WP.cn (fun hc => ?_) (fun hc => ?_)) <;> try exact Bool.noConfusion hc) | (refine WP.skip ?_; try simp only [thenQ_n, blockQ_n]) | (refine WP.exit ?_; try simp only [thenQ_e, blockQ_e, blockQ_o, ne_eq, Nat.reduceEqDiff, not_false_eq_true, reduceCtorEq, thenQ_n, blockQ_n]) | refine WP.block ?_ | (refine WP.ret ?_; (try simp only [thenQ_r, blockQ_r])) | refine ret3 ?_)
 exact int_eq (by rw [varI, ixOf_none _ l 0 hinv])
theorem pr15This (c : Cs) (hc : c.params.length ≤ 1048576) : DPure Tryz.prog 217 [.r (Cs.at c)] (.a (.sl ((thisL c).map owAt))) := by
 have z1 := zrOw
 unfold thisL
 generalize hn : c.params.length = n at hc ⊢
 refine DPure.go Tryz.func217 rfl Tryz.ntmps217 rfl rfl rfl (fun C hro => ?_)
 have fx := trivial
 replace fx := And.intro z1 trivial
 repeat' (first | refine WP.seq ?_ | (refine WP.rg [0, 1, 2, 3, 4, 11] ?_; simp only [RSr_mk]) | refine RS.fnT ?_ | (refine RS.fn ?_; try simp only [thenQ_n, blockQ_n]) | (refine RS.aO ?_; refine RS.rn ?_; simp only [RSr_mk]) | (refine RS.aN ?_; refine RS.rn ?_; simp only [RSr_mk]) | (refine RS.li ?_; refine RS.rn ?_; simp only [RSr_mk]) | (refine RS.aE ?_; refine RS.rn ?_; simp only [RSr_mk]) | (refine RS.aK ?_; refine RS.rn ?_; simp only [RSr_mk]) | (refine RS.lC ?_; refine RS.rn ?_; simp only [RSr_mk]) | (refine RS.bC ?_; refine RS.rn ?_; simp only [RSr_mk]) | ((refine WP.cn (fun hc => ?_) (fun hc => ?_)) <;> try exact Bool.noConfusion hc) | (refine WP.skip ?_; try simp only [thenQ_n, blockQ_n]) | (refine WP.exit ?_; try simp only [thenQ_e, blockQ_e, blockQ_o, ne_eq, Nat.reduceEqDiff, not_false_eq_true, reduceCtorEq, thenQ_n, blockQ_n]) | refine WP.block ?_ | (refine WP.ret ?_; (try simp only [thenQ_r, blockQ_r])) | refine ret3 ?_)
 refine WP.loopX (α := { k : Nat // k ≤ n }) (fun y => [(1, .a (.ptr 0 0)), (3, .a (.own 1 y.1)), (4, .a (.v (.int .i64 (y.1 : Nat))))]) (fun y => [.cell (Cs.at c), .arr y.1 2 ((((2, 0) :: (List.range y.1).map fun i => (3, ((i + 1 : Nat) : Int))) : List (Int × Int)).map owAt)]) (fun y => n - y.1) ⟨0, by omega⟩ (by simp only [Agree, go_sem, simprocAttr]; first | done | rfl) rfl ?_
 rintro ⟨k, hk⟩
 dsimp only
 have hkk : (k == k) = true := beq_self_eq_true k
 by_cases hlt : k < n
 ·have hlt2 : decide ((k : Int) < (n : Int)) = true := decide_eq_true (by omega)
  have hwu := wrap64n (k := k) (by omega)
  have hrl : (((((2, 0) :: (List.range k).map fun i => (3, ((i + 1 : Nat) : Int))) : List (Int × Int)).map owAt)).length = k + 1 := by simp
  have hrr : ((((2, 0) :: (List.range k).map fun i => (3, ((i + 1 : Nat) : Int))) : List (Int × Int)).map owAt) ++ [[.v (.int .i64 3), .v (.int .i64 ((k + 1 : Nat) : Int))]] = ((((2, 0) :: (List.range (k + 1)).map fun i => (3, ((i + 1 : Nat) : Int))) : List (Int × Int)).map owAt) := by rw [List.range_succ]; simp [owAt]
  generalize ((((2, 0) :: (List.range k).map fun i => (3, ((i + 1 : Nat) : Int))) : List (Int × Int)).map owAt) = R at hrl hrr ⊢
  replace fx := And.intro hlt2 (And.intro hwu (And.intro hn (And.intro z1 (And.intro hrl (And.intro hrr (And.intro hkk trivial))))))
  repeat' (first | refine WP.seq ?_ | (refine WP.rg [0, 1, 2, 3, 4, 11] ?_; simp only [RSr_mk]) | refine RS.fnT ?_ | (refine RS.fn ?_; try simp only [thenQ_n, blockQ_n]) | (refine RS.aO ?_; refine RS.rn ?_; simp only [RSr_mk]) | (refine RS.aN ?_; refine RS.rn ?_; simp only [RSr_mk]) | (refine RS.ls ?_; refine RS.rn ?_; simp only [RSr_mk]) | (refine RS.aE ?_; refine RS.rn ?_; simp only [RSr_mk]) | (refine RS.aK ?_; refine RS.rn ?_; simp only [RSr_mk]) | (refine RS.lC ?_; refine RS.rn ?_; simp only [RSr_mk]) | (refine RS.bC ?_; refine RS.rn ?_; simp only [RSr_mk]) | ((refine WP.cn (fun hc => ?_) (fun hc => ?_)) <;> try exact Bool.noConfusion hc) | (refine WP.skip ?_; try simp only [thenQ_n, blockQ_n]) | (refine WP.exit ?_; try simp only [thenQ_e, blockQ_e, blockQ_o, ne_eq, Nat.reduceEqDiff, not_false_eq_true, reduceCtorEq, thenQ_n, blockQ_n]) | refine WP.block ?_ | (refine WP.ret ?_; (try simp only [thenQ_r, blockQ_r])) | refine ret3 ?_)
  refine ⟨⟨k + 1, by omega⟩, [], by dsimp only; omega, by simp only [Agree, go_sem, simprocAttr], by first | rfl | (simp only [hrr, go_sem, simprocAttr]; done) | (rw [← hrr]; rfl), by simp only [nrE, nrD, List.all_cons, List.all_nil, go_sem, simprocAttr], by simp only [nrE, nrD, List.all_cons, List.all_nil, go_sem, simprocAttr, Cs.nr]⟩
 ·obtain rfl : k = n := by omega
  have hlt2 : decide ((k : Int) < (k : Int)) = false := decide_eq_false (by omega)
  replace fx := And.intro hlt2 (And.intro hn (And.intro hkk trivial))
  repeat' (first | refine WP.seq ?_ | (refine WP.rg [0, 1, 2, 3, 4, 11] ?_; simp only [RSr_mk]) | refine RS.fnT ?_ | (refine RS.fn ?_; try simp only [thenQ_n, blockQ_n]) | (refine RS.aO ?_; refine RS.rn ?_; simp only [RSr_mk]) | (refine RS.aN ?_; refine RS.rn ?_; simp only [RSr_mk]) | (refine RS.ls ?_; refine RS.rn ?_; simp only [RSr_mk]) | (refine RS.aE ?_; refine RS.rn ?_; simp only [RSr_mk]) | (refine RS.aK ?_; refine RS.rn ?_; simp only [RSr_mk]) | (refine RS.lC ?_; refine RS.rn ?_; simp only [RSr_mk]) | (refine RS.bC ?_; refine RS.rn ?_; simp only [RSr_mk]) | ((refine WP.cn (fun hc => ?_) (fun hc => ?_)) <;> try exact Bool.noConfusion hc) | (refine WP.skip ?_; try simp only [thenQ_n, blockQ_n]) | (refine WP.exit ?_; try simp only [thenQ_e, blockQ_e, blockQ_o, ne_eq, Nat.reduceEqDiff, not_false_eq_true, reduceCtorEq, thenQ_n, blockQ_n]) | refine WP.block ?_ | (refine WP.ret ?_; (try simp only [thenQ_r, blockQ_r])) | refine ret3 ?_)
  rfl
end Go.Proofs.YtibdalkdgjghoaaGreatDoor
namespace Go.Proofs.YtibdalkdgjghoaaGreatDoor
open Go.RowKit
theorem thisC (c : Cs) : (c.params.length = 0 ∧ thisL c = [(2, 0)] ∧ thisT c = ⟨2, c.name, 0, (2, 0), (0, 0), (0, 0), (0, 0)⟩) ∨ (c.params.length = 1 ∧ thisL c = [(2, 0), (3, 1)] ∧ thisT c = ⟨2, c.name, 1, (2, 0), (3, 1), (0, 0), (0, 0)⟩) ∨ (c.params.length = 2 ∧ thisL c = [(2, 0), (3, 1), (3, 2)] ∧ thisT c = ⟨2, c.name, 2, (2, 0), (3, 1), (3, 2), (0, 0)⟩) ∨ (3 ≤ c.params.length ∧ (∃ r, thisL c = (2, 0) :: (3, 1) :: (3, 2) :: (3, 3) :: r) ∧ thisT c = ⟨2, c.name, 3, (2, 0), (3, 1), (3, 2), (3, 3)⟩) := by
 unfold thisT ownAt thisL
 generalize c.params.length = n
 match n with
 | 0 => exact Or.inl ⟨rfl, rfl, rfl⟩
 | 1 => exact Or.inr (Or.inl ⟨rfl, rfl, rfl⟩)
 | 2 => exact Or.inr (Or.inr (Or.inl ⟨rfl, rfl, rfl⟩))
 | k + 3 =>
  refine Or.inr (Or.inr (Or.inr ⟨by omega, ⟨(List.range k).map fun i => (3, ((i + 3 + 1 : Nat) : Int)), ?_⟩, ?_⟩))
  ·simp [List.range_succ_eq_map, Function.comp_def]; intros; omega
  ·rw [show min (k + 3 + 1) 4 = 4 by omega]; simp [List.range_succ_eq_map]
theorem owIx (l : List (Int × Int)) (i : Nat) (q : Int × Int) (h : l[i]? = some q) (z : Int) (hz : z = (i : Int)) : ∀ q2, ixD (some 2) q2 (.a (.sl (l.map owAt))) (.a (.v (.int .i64 z))) = some (.a (.ref (owAt q) 0)) := fun q2 => by subst hz; exact ixD_at rfl (by rw [List.getElem?_map, h]; rfl) (by simp only [go_sem])
theorem pr18This (c : Cs) (hcp : c.params.length ≤ 1048576) : DPure Tryz.prog 164 [.r (Cs.at c)] (.r (Ty.at (thisT c))) := by
 have hq := pr15This c hcp
 have z1 := zrTy
 have w0 : owAt (2, 0) = [.v (.int .i64 2), .v (.int .i64 0)] := rfl
 have w1 : owAt (3, 1) = [.v (.int .i64 3), .v (.int .i64 1)] := rfl
 have w2 : owAt (3, 2) = [.v (.int .i64 3), .v (.int .i64 2)] := rfl
 have w3 : owAt (3, 3) = [.v (.int .i64 3), .v (.int .i64 3)] := rfl
 rcases thisC c with ⟨hn, hL, hT⟩ | ⟨hn, hL, hT⟩ | ⟨hn, hL, hT⟩ | ⟨hn, ⟨r, hL⟩, hT⟩
 ·rw [hT]
  have hm : min (3 : Int) (c.params.length : Int) = 0 := by omega
  have x0 := owIx (thisL c) 0 (2, 0) (by rw [hL]; rfl) 0 rfl
  generalize thisL c = L at hq x0
  refine DPure.go Tryz.func164 rfl Tryz.ntmps164 rfl rfl rfl (fun C hro => ?_)
  have fx := trivial
  replace fx := And.intro hm (And.intro x0 (And.intro w0 (And.intro z1 trivial)))
  repeat' (first | refine WP.seq ?_ | (refine WP.rg [0, 1, 2, 3, 4, 5, 18] ?_; simp only [RSr_mk]) | refine RS.fnT ?_ | (refine RS.fn ?_; try simp only [thenQ_n, blockQ_n]) | (refine RS.cl (hp := by exact hq) (h := ?_); refine RS.rn ?_; simp only [RSr_mk]) | (refine RS.cL (hp := by exact hq) (h := ?_); refine RS.rn ?_; simp only [RSr_mk]) | (refine RS.sE ?_; refine RS.rn ?_; simp only [RSr_mk]) | (refine RS.lC ?_; refine RS.rn ?_; simp only [RSr_mk]) | (refine RS.xC ?_; refine RS.rn ?_; simp only [RSr_mk]) | ((refine WP.cn (fun hc => ?_) (fun hc => ?_)) <;> try exact Bool.noConfusion hc) | (refine WP.skip ?_; try simp only [thenQ_n, blockQ_n]) | (refine WP.exit ?_; try simp only [thenQ_e, blockQ_e, blockQ_o, ne_eq, Nat.reduceEqDiff, not_false_eq_true, reduceCtorEq, thenQ_n, blockQ_n]) | refine WP.block ?_ | refine WP.loop_in ?_ | refine WPIn.unroll ?_ | (refine WP.ret ?_; (try simp only [thenQ_r, blockQ_r])) | refine retC3 ?_)
  all_goals first | rfl | trace_state
 ·rw [hT]
  have hm : min (3 : Int) (c.params.length : Int) = 1 := by omega
  have x0 := owIx (thisL c) 0 (2, 0) (by rw [hL]; rfl) 0 rfl
  have x1 := owIx (thisL c) 1 (3, 1) (by rw [hL]; rfl) 1 rfl
  generalize thisL c = L at hq x0 x1
  refine DPure.go Tryz.func164 rfl Tryz.ntmps164 rfl rfl rfl (fun C hro => ?_)
  have fx := trivial
  replace fx := And.intro hm (And.intro x0 (And.intro x1 (And.intro w0 (And.intro w1 (And.intro z1 trivial)))))
  repeat' (first | refine WP.seq ?_ | (refine WP.rg [0, 1, 2, 3, 4, 5, 18] ?_; simp only [RSr_mk]) | refine RS.fnT ?_ | (refine RS.fn ?_; try simp only [thenQ_n, blockQ_n]) | (refine RS.cl (hp := by exact hq) (h := ?_); refine RS.rn ?_; simp only [RSr_mk]) | (refine RS.cL (hp := by exact hq) (h := ?_); refine RS.rn ?_; simp only [RSr_mk]) | (refine RS.sE ?_; refine RS.rn ?_; simp only [RSr_mk]) | (refine RS.lC ?_; refine RS.rn ?_; simp only [RSr_mk]) | (refine RS.xC ?_; refine RS.rn ?_; simp only [RSr_mk]) | ((refine WP.cn (fun hc => ?_) (fun hc => ?_)) <;> try exact Bool.noConfusion hc) | (refine WP.skip ?_; try simp only [thenQ_n, blockQ_n]) | (refine WP.exit ?_; try simp only [thenQ_e, blockQ_e, blockQ_o, ne_eq, Nat.reduceEqDiff, not_false_eq_true, reduceCtorEq, thenQ_n, blockQ_n]) | refine WP.block ?_ | refine WP.loop_in ?_ | refine WPIn.unroll ?_ | (refine WP.ret ?_; (try simp only [thenQ_r, blockQ_r])) | refine retC3 ?_)
  all_goals first | rfl | trace_state
 ·rw [hT]
  have hm : min (3 : Int) (c.params.length : Int) = 2 := by omega
  have x0 := owIx (thisL c) 0 (2, 0) (by rw [hL]; rfl) 0 rfl
  have x1 := owIx (thisL c) 1 (3, 1) (by rw [hL]; rfl) 1 rfl
  have x2 := owIx (thisL c) 2 (3, 2) (by rw [hL]; rfl) 2 rfl
  generalize thisL c = L at hq x0 x1 x2
  refine DPure.go Tryz.func164 rfl Tryz.ntmps164 rfl rfl rfl (fun C hro => ?_)
  have fx := trivial
  replace fx := And.intro hm (And.intro x0 (And.intro x1 (And.intro x2 (And.intro w0 (And.intro w1 (And.intro w2 (And.intro z1 trivial)))))))
  repeat' (first | refine WP.seq ?_ | (refine WP.rg [0, 1, 2, 3, 4, 5, 18] ?_; simp only [RSr_mk]) | refine RS.fnT ?_ | (refine RS.fn ?_; try simp only [thenQ_n, blockQ_n]) | (refine RS.cl (hp := by exact hq) (h := ?_); refine RS.rn ?_; simp only [RSr_mk]) | (refine RS.cL (hp := by exact hq) (h := ?_); refine RS.rn ?_; simp only [RSr_mk]) | (refine RS.sE ?_; refine RS.rn ?_; simp only [RSr_mk]) | (refine RS.lC ?_; refine RS.rn ?_; simp only [RSr_mk]) | (refine RS.xC ?_; refine RS.rn ?_; simp only [RSr_mk]) | ((refine WP.cn (fun hc => ?_) (fun hc => ?_)) <;> try exact Bool.noConfusion hc) | (refine WP.skip ?_; try simp only [thenQ_n, blockQ_n]) | (refine WP.exit ?_; try simp only [thenQ_e, blockQ_e, blockQ_o, ne_eq, Nat.reduceEqDiff, not_false_eq_true, reduceCtorEq, thenQ_n, blockQ_n]) | refine WP.block ?_ | refine WP.loop_in ?_ | refine WPIn.unroll ?_ | (refine WP.ret ?_; (try simp only [thenQ_r, blockQ_r])) | refine retC3 ?_)
  all_goals first | rfl | trace_state
 ·rw [hT]
  have hm : min (3 : Int) (c.params.length : Int) = 3 := by omega
  have x0 := owIx (thisL c) 0 (2, 0) (by rw [hL]; rfl) 0 rfl
  have x1 := owIx (thisL c) 1 (3, 1) (by rw [hL]; rfl) 1 rfl
  have x2 := owIx (thisL c) 2 (3, 2) (by rw [hL]; rfl) 2 rfl
  have x3 := owIx (thisL c) 3 (3, 3) (by rw [hL]; rfl) 3 rfl
  generalize thisL c = L at hq x0 x1 x2 x3
  refine DPure.go Tryz.func164 rfl Tryz.ntmps164 rfl rfl rfl (fun C hro => ?_)
  have fx := trivial
  replace fx := And.intro hm (And.intro x0 (And.intro x1 (And.intro x2 (And.intro x3 (And.intro w0 (And.intro w1 (And.intro w2 (And.intro w3 (And.intro z1 trivial)))))))))
  repeat' (first | refine WP.seq ?_ | (refine WP.rg [0, 1, 2, 3, 4, 5, 18] ?_; simp only [RSr_mk]) | refine RS.fnT ?_ | (refine RS.fn ?_; try simp only [thenQ_n, blockQ_n]) | (refine RS.cl (hp := by exact hq) (h := ?_); refine RS.rn ?_; simp only [RSr_mk]) | (refine RS.cL (hp := by exact hq) (h := ?_); refine RS.rn ?_; simp only [RSr_mk]) | (refine RS.sE ?_; refine RS.rn ?_; simp only [RSr_mk]) | (refine RS.lC ?_; refine RS.rn ?_; simp only [RSr_mk]) | (refine RS.xC ?_; refine RS.rn ?_; simp only [RSr_mk]) | ((refine WP.cn (fun hc => ?_) (fun hc => ?_)) <;> try exact Bool.noConfusion hc) | (refine WP.skip ?_; try simp only [thenQ_n, blockQ_n]) | (refine WP.exit ?_; try simp only [thenQ_e, blockQ_e, blockQ_o, ne_eq, Nat.reduceEqDiff, not_false_eq_true, reduceCtorEq, thenQ_n, blockQ_n]) | refine WP.block ?_ | refine WP.loop_in ?_ | refine WPIn.unroll ?_ | (refine WP.ret ?_; (try simp only [thenQ_r, blockQ_r])) | refine retC3 ?_)
  all_goals first | rfl | trace_state
theorem pr18Type (c : Cs) (m : Me) (s : List UInt8) (hc : c.params.length ≤ 1048576) (ha : m.params.length ≤ 1048576) (hb : m.locals.length ≤ 1048576) : DPure Tryz.prog 107 [.r (Cs.at c), .r (Me.at m), .a (.v (.string (bs s)))] (.t [.r (Ty.at (typeT c m s).1), .a (.v (.bool (typeT c m s).2))]) := by
 have z1 := zrTy
 cases hT : (s == thisS) with
 | true =>
  have hts : (s == [116, 104, 105, 115]) = true := hT
  rw [show typeT c m s = (thisT c, true) by unfold typeT; rw [if_pos hT]]
  have hq := pr18This c hc
  generalize thisT c = T at hq ⊢
  dsimp only
  refine DPure.go Tryz.func107 rfl Tryz.ntmps107 rfl rfl rfl (fun C hro => ?_)
  have fx := trivial
  replace fx := And.intro hts trivial
  repeat' (first | refine WP.seq ?_ | (refine WP.rg [0, 1, 2, 3, 4, 6, 7, 8, 10, 17] ?_; simp only [RSr_mk]) | refine RS.fnT ?_ | (refine RS.fn ?_; try simp only [thenQ_n, blockQ_n]) | (refine RS.cl (hp := by exact hq) (h := ?_); refine RS.rn ?_; simp only [RSr_mk]) | (refine RS.cL (hp := by exact hq) (h := ?_); refine RS.rn ?_; simp only [RSr_mk]) | (refine RS.sE ?_; refine RS.rn ?_; simp only [RSr_mk]) | (refine RS.xC ?_; refine RS.rn ?_; simp only [RSr_mk]) | ((refine WP.cn (fun hc => ?_) (fun hc => ?_)) <;> try exact Bool.noConfusion hc) | (refine WP.skip ?_; try simp only [thenQ_n, blockQ_n]) | (refine WP.ret ?_; (try simp only [thenQ_r, blockQ_r])) | refine ret3 ?_ | refine retCT ?_)
  all_goals rfl
 | false =>
  have hts : (s == [116, 104, 105, 115]) = false := hT
  rcases placeI_get m s with hp | ⟨j, z, hz, _, hp⟩
  ·have hd : decide (placeI m s < 0) = true := decide_eq_true (by omega)
   rw [show typeT c m s = (Ty.zero, false) by unfold typeT; rw [if_neg (by rw [hT]; exact Bool.false_ne_true), if_pos (by omega)]]
   refine DPure.go Tryz.func107 rfl Tryz.ntmps107 rfl rfl rfl (fun C hro => ?_)
   have fx := trivial
   replace fx := And.intro hts (And.intro hd trivial)
   repeat' (first | refine WP.seq ?_ | (refine WP.rg [0, 1, 2, 3, 4, 6, 7, 8, 10, 17] ?_; simp only [RSr_mk]) | refine RS.fnT ?_ | (refine RS.fn ?_; try simp only [thenQ_n, blockQ_n]) | (refine RS.cl (hp := by exact pr18Place m s ha hb) (h := ?_); refine RS.rn ?_; simp only [RSr_mk]) | (refine RS.cL (hp := by exact pr18Place m s ha hb) (h := ?_); refine RS.rn ?_; simp only [RSr_mk]) | (refine RS.sE ?_; refine RS.rn ?_; simp only [RSr_mk]) | (refine RS.xC ?_; refine RS.rn ?_; simp only [RSr_mk]) | ((refine WP.cn (fun hc => ?_) (fun hc => ?_)) <;> try exact Bool.noConfusion hc) | (refine WP.skip ?_; try simp only [thenQ_n, blockQ_n]) | (refine WP.ret ?_; (try simp only [thenQ_r, blockQ_r])) | refine ret3 ?_ | refine retCT ?_)
   all_goals rfl
  ·have hd : decide ((j : Int) < 0) = false := decide_eq_false (by omega)
   have hjx : ∀ q2, ixD (some 13) q2 (.a (.sl ((m.params ++ m.locals).map Vr.at))) (.a (.v (.int .i64 (j : Int)))) = some (.a (.ref (Vr.at z) 0)) := fun q2 => ixD_at rfl (by rw [List.getElem?_map, hz]; rfl) (by simp only [go_sem])
   have hma : List.map Vr.at m.params ++ List.map Vr.at m.locals = (m.params ++ m.locals).map Vr.at := List.map_append.symm
   rw [show typeT c m s = (z.ty, true) by unfold typeT; rw [if_neg (by rw [hT]; exact Bool.false_ne_true), if_neg (by omega), hp, Int.toNat_natCast, hz]; rfl]
   refine DPure.go Tryz.func107 rfl Tryz.ntmps107 rfl rfl rfl (fun C hro => ?_)
   have fx := trivial
   replace fx := And.intro hts (And.intro hp (And.intro hd (And.intro hjx trivial)))
   repeat' (first | refine WP.seq ?_ | (refine WP.rg [0, 1, 2, 3, 4, 6, 7, 8, 10, 17] ?_; simp only [RSr_mk]) | refine RS.fnT ?_ | (refine RS.fn ?_; try simp only [thenQ_n, blockQ_n]) | (refine RS.cl (hp := by first | exact pr18Place m s ha hb | exact pr12Vars m ha hb) (h := ?_); refine RS.rn ?_; simp only [RSr_mk]) | (refine RS.cL (hp := by first | exact pr18Place m s ha hb | exact pr12Vars m ha hb) (h := ?_); refine RS.rn ?_; simp only [RSr_mk]) | (refine RS.sE ?_; refine RS.rn ?_; simp only [RSr_mk]) | (refine RS.xC ?_; refine RS.rn ?_; simp only [RSr_mk]) | ((refine WP.cn (fun hc => ?_) (fun hc => ?_)) <;> try exact Bool.noConfusion hc) | (refine WP.skip ?_; try simp only [thenQ_n, blockQ_n]) | (refine WP.ret ?_; (try simp only [thenQ_r, blockQ_r])) | refine ret3 ?_ | refine retCT ?_)
   all_goals rfl
theorem pr19number : DPure Tryz.prog 171 [] (.r (Ty.at (tyK 1))) := by
 have z1 := zrTy
 refine DPure.go Tryz.func171 rfl Tryz.ntmps171 rfl rfl rfl (fun C hro => ?_)
 have fx := trivial
 replace fx := And.intro z1 trivial
 repeat' (first | refine WP.seq ?_ | (refine WP.rg [0] ?_; simp only [RSr_mk]) | refine RS.fnT ?_ | (refine RS.fn ?_; try simp only [thenQ_n, blockQ_n]) | (refine RS.sE ?_; refine RS.rn ?_; simp only [RSr_mk]) | (refine WP.ret ?_; (try simp only [thenQ_r, blockQ_r])) | refine retC3 ?_)
 rfl
theorem pr19Fits (p : List Cs) (f t : Ty) (hn : p.length ≤ 1048576) : DPure Tryz.prog 58 [.a (.sl (p.map Cs.at)), .r (Ty.at f), .r (Ty.at t)] (.a (.v (.int .i64 (fitsI p f t)))) := by
 refine DPure.go Tryz.func58 rfl Tryz.ntmps58 rfl rfl rfl (fun C hro => ?_)
 have fx := trivial
 repeat' (first | refine WP.seq ?_ | (refine WP.rg [0, 1, 2, 4, 5, 6, 7, 8, 9, 39, 56, 63, 64] ?_; simp only [RSr_mk]) | refine RS.fnT ?_ | (refine RS.fn ?_; try simp only [thenQ_n, blockQ_n]) | (refine RS.cl (hp := by first | exact prUnique f | exact prUnique t | exact pr14Below p f.cls t.cls hn) (h := ?_); refine RS.rn ?_; simp only [RSr_mk]) | (refine RS.cL (hp := by first | exact prUnique f | exact prUnique t | exact pr14Below p f.cls t.cls hn) (h := ?_); refine RS.rn ?_; simp only [RSr_mk]) | (refine RS.pk ?_; refine RS.rn ?_; simp only [RSr_mk]) | (refine RS.gF ?_; refine RS.rn ?_; simp only [RSr_mk]) | ((refine WP.cn (fun hc => ?_) (fun hc => ?_)) <;> try exact Bool.noConfusion hc) | (refine WP.skip ?_; try simp only [thenQ_n, blockQ_n]) | (refine WP.ret ?_; (try simp only [thenQ_r, blockQ_r])) | refine ret3 ?_ | ((first | refine WP.dw (id := 1) 6 [0, 1, 2, 4, 5, 6, 7, 8, 9, 39, 56, 63, 64] ?_); simp only [RQr_mk, List.drop_succ_cons, List.drop_zero, List.drop_nil]) | (refine RQ.nil ?_; refine RS.rn ?_; simp only [RSr_mk]) | (refine RQ.cl (hp := by first | exact prUnique f | exact prUnique t | exact pr14Below p f.cls t.cls hn) (h := ?_); refine RQ.rn ?_; simp only [RQr_mk]) | (refine RQ.cL (hp := by first | exact prUnique f | exact prUnique t | exact pr14Below p f.cls t.cls hn) (h := ?_); refine RQ.rn ?_; simp only [RQr_mk]))
 all_goals (refine int_eq ?_; unfold fitsI; generalize uniqB f = a at *; generalize uniqB t = b at *; generalize belowB p f.cls t.cls = d at *; by_cases q1 : f.kind = 1 <;> by_cases q2 : f.kind = 2 <;> by_cases q3 : f.kind = 3 <;> by_cases q4 : t.kind = 1 <;> by_cases q5 : t.kind = 2 <;> first | (exfalso; omega) | (cases a <;> cases b <;> cases d <;> simp_all))
theorem pr19Gives (p : List Cs) (f t : Ty) (hn : p.length ≤ 1048576) : DPure Tryz.prog 57 [.a (.sl (p.map Cs.at)), .r (Ty.at f), .r (Ty.at t)] (.a (.v (.int .i64 (givesI p f t)))) := by
 refine DPure.go Tryz.func57 rfl Tryz.ntmps57 rfl rfl rfl (fun C hro => ?_)
 have fx := trivial
 repeat' (first | refine WP.seq ?_ | (refine WP.rg [0, 1, 2, 4, 5, 6, 14, 17, 24] ?_; simp only [RSr_mk]) | refine RS.fnT ?_ | (refine RS.fn ?_; try simp only [thenQ_n, blockQ_n]) | (refine RS.cl (hp := by first | exact prUnique f | exact pr14Below p f.cls t.cls hn) (h := ?_); refine RS.rn ?_; simp only [RSr_mk]) | (refine RS.cL (hp := by first | exact prUnique f | exact pr14Below p f.cls t.cls hn) (h := ?_); refine RS.rn ?_; simp only [RSr_mk]) | (refine RS.pk ?_; refine RS.rn ?_; simp only [RSr_mk]) | (refine RS.gF ?_; refine RS.rn ?_; simp only [RSr_mk]) | ((refine WP.cn (fun hc => ?_) (fun hc => ?_)) <;> try exact Bool.noConfusion hc) | (refine WP.skip ?_; try simp only [thenQ_n, blockQ_n]) | (refine WP.ret ?_; (try simp only [thenQ_r, blockQ_r])) | refine ret3 ?_)
 all_goals (refine int_eq ?_; unfold givesI; generalize uniqB f = a at *; generalize belowB p f.cls t.cls = d at *; by_cases q2 : f.kind = 2 <;> by_cases q5 : t.kind = 2 <;> cases a <;> cases d <;> simp_all)
end Go.Proofs.YtibdalkdgjghoaaGreatDoor
namespace Go.Proofs.YtibdalkdgjghoaaGreatDoor
open Go.RowKit
theorem notF {b : Bool} (h : (!b) = false) : b = true := by cases b <;> simp_all
theorem notT {b : Bool} (h : (!b) = true) : b = false := by cases b <;> simp_all
theorem pr19of (c : Cs) (m : Me) (hcp : c.params.length ≤ 1048576) (ha : m.params.length ≤ 1048576) (hb : m.locals.length ≤ 1048576) : ∀ (n : Nat) (e : Ex), e.sz ≤ n → e.sz ≤ 1048576 → DPure Tryz.prog 114 [.r (Cs.at c), .r (Me.at m), .r (Ex.at e)] (.t [.r (Ty.at (shT c m e).1), .a (.v (.int .i64 (shT c m e).2))])
 | 0, e, h, _ => by have := e.sz_pos; omega
 | n + 1, e, h, hz => by
  have IH : ∀ k ∈ e.kids, _ := fun k hk => pr19of c m hcp ha hb n k (by have := Ex.kid_lt hk; omega) (by have := Ex.kid_lt hk; omega)
  have hlen : e.kids.length ≤ 1048576 := by have := Ex.szs_len e.kids; have := e.sz_eq; omega
  rw [shT_eq]
  refine DPure.go Tryz.func114 rfl Tryz.ntmps114 rfl rfl rfl (fun C hro => ?_)
  have fx := trivial
  replace fx := And.intro tyZ trivial
  repeat' (first | (refine RWL.fin ?_; try simp only [thenQ_n, blockQ_n]) | refine WP.seq ?_ | (refine WP.rg [0, 1, 2, 3, 4, 5, 6, 7, 8, 9, 10, 11, 12, 13, 14, 17, 27, 32, 37, 43, 58, 66, 72, 82, 94] ?_; simp only [RSr_mk]) | refine RS.fnT ?_ | (refine RS.fn ?_; try simp only [thenQ_n, blockQ_n]) | (refine RS.cl (hp := by first | exact pr18Type c m e.name hcp ha hb | exact pr18This c hcp) (h := ?_); refine RS.rn ?_; simp only [RSr_mk]) | (refine RS.cL (hp := by first | exact pr18Type c m e.name hcp ha hb | exact pr18This c hcp) (h := ?_); refine RS.rn ?_; simp only [RSr_mk]) | (refine RS.sE ?_; refine RS.rn ?_; simp only [RSr_mk]) | (refine RS.pk ?_; refine RS.rn ?_; simp only [RSr_mk]) | (refine RS.gF ?_; refine RS.rn ?_; simp only [RSr_mk]) | (refine RS.lC ?_; refine RS.rn ?_; simp only [RSr_mk]) | (refine RS.xC ?_; refine RS.rn ?_; simp only [RSr_mk]) | (refine' WP.dl (id := 14) [0, 0, 0, 4, 0, 28, 60, 127, 255, 511, 511, 0, 3071, 8191] [0, 1, 2, 3, 4, 5, 6, 7, 8, 9, 10, 11, 12, 13, 14, 17, 27, 32, 37, 43, 58, 66, 72, 82, 94] [11, 12] [(11, _), (12, _)] ?_) | refine RWL.fr ?_ | (refine RWL.cl (hp := by first | exact pr18Type c m e.name hcp ha hb | exact pr18This c hcp) (h := ?_)) | refine RWL.wt ?_ | refine RWL.re ?_ ?_ | refine RdO.oz | refine RdO.oa ?_ | refine RdO.oe ?_ | refine RdO.on | ((refine WP.cn (fun hc => ?_) (fun hc => ?_)) <;> try exact Bool.noConfusion hc) | (refine WP.skip ?_; try simp only [thenQ_n, blockQ_n]) | (refine WP.exit ?_; try simp only [thenQ_e, blockQ_e, blockQ_o, ne_eq, Nat.reduceEqDiff, not_false_eq_true, reduceCtorEq, thenQ_n, blockQ_n]) | refine WP.block ?_ | (refine WP.ret ?_; (try simp only [thenQ_r, blockQ_r])) | refine ret3 ?_ | refine retCT ?_)
  ·rw [if_pos (by assumption), if_neg (by simpa using hc)]
  ·rw [if_pos (by assumption), if_pos (by simpa using hc)]
  ·rename_i h2
   rw [if_neg (by rw [h2]; exact Bool.false_ne_true), if_pos hc]
  ·rename_i h2 h3
   rw [if_neg (by rw [h2]; exact Bool.false_ne_true), if_neg (by rw [h3]; exact Bool.false_ne_true), if_pos hc]; rfl
  rename_i h2 h3
  rw [if_neg (by rw [h2]; exact Bool.false_ne_true), if_neg (by rw [h3]; exact Bool.false_ne_true), if_neg (by rw [hc]; exact Bool.false_ne_true)]
  clear h2 h3 hc
  refine WP.loopX (α := { y : Nat × Bool // y.1 ≤ e.kids.length ∧ shsT c m e.kind false e.kids = shsT c m e.kind y.2 (e.kids.drop y.1) }) (fun y => [(3, .a (.ptr 0 0)), (4, .a (.ptr 1 0)), (5, .a (.ptr 2 0)), (6, .a (.ptr 3 0)), (10, .a (.v (.bool (y.1.2 && e.kind == 14)))), (11, .a (.v (.int .i64 (y.1.1 : Nat))))]) (fun y => [.cell (Cs.at c), .cell (Me.at m), .cell (Ex.at e), .cell (Ty.at Ty.zero)]) (fun y => e.kids.length - y.1.1) ⟨(0, false), by omega, rfl⟩ (by simp only [Agree, go_sem, simprocAttr]; first | done | rfl) rfl ?_
  rintro ⟨⟨k, u⟩, hk, hinv⟩
  dsimp only at hk hinv ⊢
  by_cases hlt : k < e.kids.length
  ·have hlt2 : decide ((k : Int) < ((e.kids.length : Nat) : Int)) = true := decide_eq_true (by omega)
   obtain ⟨z, hz⟩ : ∃ z, e.kids[k]? = some z := ⟨_, List.getElem?_eq_getElem hlt⟩
   have hzm : z ∈ e.kids := List.mem_of_getElem? hz
   have hzt := take_snocA hz
   have hix : ∀ q2, ixD (some 4) q2 (.a (.sl (e.kids.map Ex.at))) (.a (.v (.int .i64 (k : Int)))) = some (.a (.ref (Ex.at z) 0)) := fun q2 => ixD_at rfl (by rw [List.getElem?_map, hz]; rfl) (by simp only [go_sem])
   have hwu := wrap64n (k := k) (by omega)
   have hdr : e.kids.drop k = z :: e.kids.drop (k + 1) := by rw [List.drop_eq_getElem_cons hlt]; congr 1; exact (List.getElem?_eq_some_iff.1 hz).2
   rw [hdr, shsT] at hinv
   have hIz := IH z hzm
   generalize shT c m z = R at hIz hinv
   clear IH
   have hA : (R.2 != 0) = true → shsT c m e.kind false e.kids = (Ty.zero, R.2) := fun h => by rw [hinv, if_neg (by simp at h; simp [h]), if_pos h]
   have hB : (R.2 != 0) = false → wantB e.kind R.1 = false → shsT c m e.kind false e.kids = (Ty.zero, 14) := fun h h' => by rw [hinv, if_pos (by simp at h; simp [h, h'])]
   have hC : (R.2 != 0) = false → wantB e.kind R.1 = true → shsT c m e.kind false e.kids = shsT c m e.kind (u || uniqB R.1) (e.kids.drop (k + 1)) := fun h h' => by rw [hinv, if_neg (by simp [h']), if_neg (by rw [h]; exact Bool.false_ne_true)]
   clear hinv
   by_cases e14 : e.kind = 14
   ·have q14 : (e.kind == 14) = true := by simp [e14]
    have q13 : (e.kind == 13) = false := by simp [e14]
    have hWd : wantB e.kind R.1 = (R.1.kind == 2 || R.1.kind == 3) := by unfold wantB; rw [q13, q14]; rfl
    cases u with
    | true =>
     replace fx := And.intro hlt2 (And.intro hix (And.intro hwu (And.intro tyZ (And.intro q13 (And.intro q14 trivial)))))
     repeat' (first | (refine RWL.fin ?_; try simp only [thenQ_n, blockQ_n]) | refine WP.seq ?_ | (refine WP.rg [0, 1, 2, 3, 4, 5, 6, 7, 8, 9, 10, 11, 12, 13, 14, 17, 27, 32, 37, 43, 58, 66, 72, 82, 94] ?_; simp only [RSr_mk]) | refine RS.fnT ?_ | (refine RS.fn ?_; try simp only [thenQ_n, blockQ_n]) | (refine RS.cl (hp := by first | exact prUnique R.1 | exact hIz) (h := ?_); refine RS.rn ?_; simp only [RSr_mk]) | (refine RS.cL (hp := by first | exact prUnique R.1 | exact hIz) (h := ?_); refine RS.rn ?_; simp only [RSr_mk]) | (refine RS.sE ?_; refine RS.rn ?_; simp only [RSr_mk]) | (refine RS.pk ?_; refine RS.rn ?_; simp only [RSr_mk]) | (refine RS.gF ?_; refine RS.rn ?_; simp only [RSr_mk]) | (refine RS.lC ?_; refine RS.rn ?_; simp only [RSr_mk]) | (refine RS.xC ?_; refine RS.rn ?_; simp only [RSr_mk]) | (refine' WP.dl (id := 14) [0, 0, 0, 4, 0, 28, 60, 127, 255, 511, 511, 0, 3071, 8191] [0, 1, 2, 3, 4, 5, 6, 7, 8, 9, 10, 11, 12, 13, 14, 17, 27, 32, 37, 43, 58, 66, 72, 82, 94] [11, 12] [(11, _), (12, _)] ?_) | refine RWL.fr ?_ | (refine RWL.cl (hp := by first | exact prUnique R.1 | exact hIz) (h := ?_)) | refine RWL.wt ?_ | refine RWL.re ?_ ?_ | refine RdO.oz | refine RdO.oa ?_ | refine RdO.oe ?_ | refine RdO.on | ((refine WP.cn (fun hc => ?_) (fun hc => ?_)) <;> try exact Bool.noConfusion hc) | (refine WP.skip ?_; try simp only [thenQ_n, blockQ_n]) | (refine WP.exit ?_; try simp only [thenQ_e, blockQ_e, blockQ_o, ne_eq, Nat.reduceEqDiff, not_false_eq_true, reduceCtorEq, thenQ_n, blockQ_n]) | refine WP.block ?_ | (refine WP.ret ?_; (try simp only [thenQ_r, blockQ_r])) | refine ret3 ?_ | refine retCT ?_)
     ·rw [hA (by assumption)]
     ·rw [hB (by assumption) (by rw [hWd]; exact notT hc)]
     ·refine ⟨⟨(k + 1, true || uniqB R.1), by dsimp only; omega, hC (by assumption) (by rw [hWd]; exact notF hc)⟩, _, by dsimp only; omega, by simp only [Agree, go_sem, simprocAttr, q14, Bool.true_or, Bool.false_or, Bool.and_true, Bool.and_false], rfl, by simp only [nrE, nrD, List.all_cons, List.all_nil, go_sem, simprocAttr], by simp only [go_sem, simprocAttr]⟩
    | false =>
     replace fx := And.intro hlt2 (And.intro hix (And.intro hwu (And.intro tyZ (And.intro q13 (And.intro q14 trivial)))))
     repeat' (first | (refine RWL.fin ?_; try simp only [thenQ_n, blockQ_n]) | refine WP.seq ?_ | (refine WP.rg [0, 1, 2, 3, 4, 5, 6, 7, 8, 9, 10, 11, 12, 13, 14, 17, 27, 32, 37, 43, 58, 66, 72, 82, 94] ?_; simp only [RSr_mk]) | refine RS.fnT ?_ | (refine RS.fn ?_; try simp only [thenQ_n, blockQ_n]) | (refine RS.cl (hp := by first | exact prUnique R.1 | exact hIz) (h := ?_); refine RS.rn ?_; simp only [RSr_mk]) | (refine RS.cL (hp := by first | exact prUnique R.1 | exact hIz) (h := ?_); refine RS.rn ?_; simp only [RSr_mk]) | (refine RS.sE ?_; refine RS.rn ?_; simp only [RSr_mk]) | (refine RS.pk ?_; refine RS.rn ?_; simp only [RSr_mk]) | (refine RS.gF ?_; refine RS.rn ?_; simp only [RSr_mk]) | (refine RS.lC ?_; refine RS.rn ?_; simp only [RSr_mk]) | (refine RS.xC ?_; refine RS.rn ?_; simp only [RSr_mk]) | (refine' WP.dl (id := 14) [0, 0, 0, 4, 0, 28, 60, 127, 255, 511, 511, 0, 3071, 8191] [0, 1, 2, 3, 4, 5, 6, 7, 8, 9, 10, 11, 12, 13, 14, 17, 27, 32, 37, 43, 58, 66, 72, 82, 94] [11, 12] [(11, _), (12, _)] ?_) | refine RWL.fr ?_ | (refine RWL.cl (hp := by first | exact prUnique R.1 | exact hIz) (h := ?_)) | refine RWL.wt ?_ | refine RWL.re ?_ ?_ | refine RdO.oz | refine RdO.oa ?_ | refine RdO.oe ?_ | refine RdO.on | ((refine WP.cn (fun hc => ?_) (fun hc => ?_)) <;> try exact Bool.noConfusion hc) | (refine WP.skip ?_; try simp only [thenQ_n, blockQ_n]) | (refine WP.exit ?_; try simp only [thenQ_e, blockQ_e, blockQ_o, ne_eq, Nat.reduceEqDiff, not_false_eq_true, reduceCtorEq, thenQ_n, blockQ_n]) | refine WP.block ?_ | (refine WP.ret ?_; (try simp only [thenQ_r, blockQ_r])) | refine ret3 ?_ | refine retCT ?_)
     ·rw [hA (by assumption)]
     ·rw [hB (by assumption) (by rw [hWd]; exact notT hc)]
     ·refine ⟨⟨(k + 1, false || uniqB R.1), by dsimp only; omega, hC (by assumption) (by rw [hWd]; exact notF hc)⟩, _, by dsimp only; omega, by simp only [Agree, go_sem, simprocAttr, q14, Bool.true_or, Bool.false_or, Bool.and_true, Bool.and_false], rfl, by simp only [nrE, nrD, List.all_cons, List.all_nil, go_sem, simprocAttr], by simp only [go_sem, simprocAttr]⟩
   ·have q14 : (e.kind == 14) = false := by simp [e14]
    cases q13 : (e.kind == 13) with
    | true =>
     have hWd : wantB e.kind R.1 = (R.1.kind == 2) := by unfold wantB; rw [q13]; rfl
     replace fx := And.intro hlt2 (And.intro hix (And.intro hwu (And.intro tyZ (And.intro q13 (And.intro q14 trivial)))))
     repeat' (first | (refine RWL.fin ?_; try simp only [thenQ_n, blockQ_n]) | refine WP.seq ?_ | (refine WP.rg [0, 1, 2, 3, 4, 5, 6, 7, 8, 9, 10, 11, 12, 13, 14, 17, 27, 32, 37, 43, 58, 66, 72, 82, 94] ?_; simp only [RSr_mk]) | refine RS.fnT ?_ | (refine RS.fn ?_; try simp only [thenQ_n, blockQ_n]) | (refine RS.cl (hp := by first | exact prUnique R.1 | exact hIz) (h := ?_); refine RS.rn ?_; simp only [RSr_mk]) | (refine RS.cL (hp := by first | exact prUnique R.1 | exact hIz) (h := ?_); refine RS.rn ?_; simp only [RSr_mk]) | (refine RS.sE ?_; refine RS.rn ?_; simp only [RSr_mk]) | (refine RS.pk ?_; refine RS.rn ?_; simp only [RSr_mk]) | (refine RS.gF ?_; refine RS.rn ?_; simp only [RSr_mk]) | (refine RS.lC ?_; refine RS.rn ?_; simp only [RSr_mk]) | (refine RS.xC ?_; refine RS.rn ?_; simp only [RSr_mk]) | (refine' WP.dl (id := 14) [0, 0, 0, 4, 0, 28, 60, 127, 255, 511, 511, 0, 3071, 8191] [0, 1, 2, 3, 4, 5, 6, 7, 8, 9, 10, 11, 12, 13, 14, 17, 27, 32, 37, 43, 58, 66, 72, 82, 94] [11, 12] [(11, _), (12, _)] ?_) | refine RWL.fr ?_ | (refine RWL.cl (hp := by first | exact prUnique R.1 | exact hIz) (h := ?_)) | refine RWL.wt ?_ | refine RWL.re ?_ ?_ | refine RdO.oz | refine RdO.oa ?_ | refine RdO.oe ?_ | refine RdO.on | ((refine WP.cn (fun hc => ?_) (fun hc => ?_)) <;> try exact Bool.noConfusion hc) | (refine WP.skip ?_; try simp only [thenQ_n, blockQ_n]) | (refine WP.exit ?_; try simp only [thenQ_e, blockQ_e, blockQ_o, ne_eq, Nat.reduceEqDiff, not_false_eq_true, reduceCtorEq, thenQ_n, blockQ_n]) | refine WP.block ?_ | (refine WP.ret ?_; (try simp only [thenQ_r, blockQ_r])) | refine ret3 ?_ | refine retCT ?_)
     ·rw [hA (by assumption)]
     ·rw [hB (by assumption) (by rw [hWd]; exact notT hc)]
     ·refine ⟨⟨(k + 1, u || uniqB R.1), by dsimp only; omega, hC (by assumption) (by rw [hWd]; exact notF hc)⟩, _, by dsimp only; omega, by simp only [Agree, go_sem, simprocAttr, q14, Bool.true_or, Bool.false_or, Bool.and_true, Bool.and_false], rfl, by simp only [nrE, nrD, List.all_cons, List.all_nil, go_sem, simprocAttr], by simp only [go_sem, simprocAttr]⟩
    | false =>
     have hWd : wantB e.kind R.1 = (R.1.kind == 1) := by unfold wantB; rw [q13, q14]; rfl
     replace fx := And.intro hlt2 (And.intro hix (And.intro hwu (And.intro tyZ (And.intro q13 (And.intro q14 trivial)))))
     repeat' (first | (refine RWL.fin ?_; try simp only [thenQ_n, blockQ_n]) | refine WP.seq ?_ | (refine WP.rg [0, 1, 2, 3, 4, 5, 6, 7, 8, 9, 10, 11, 12, 13, 14, 17, 27, 32, 37, 43, 58, 66, 72, 82, 94] ?_; simp only [RSr_mk]) | refine RS.fnT ?_ | (refine RS.fn ?_; try simp only [thenQ_n, blockQ_n]) | (refine RS.cl (hp := by first | exact prUnique R.1 | exact hIz) (h := ?_); refine RS.rn ?_; simp only [RSr_mk]) | (refine RS.cL (hp := by first | exact prUnique R.1 | exact hIz) (h := ?_); refine RS.rn ?_; simp only [RSr_mk]) | (refine RS.sE ?_; refine RS.rn ?_; simp only [RSr_mk]) | (refine RS.pk ?_; refine RS.rn ?_; simp only [RSr_mk]) | (refine RS.gF ?_; refine RS.rn ?_; simp only [RSr_mk]) | (refine RS.lC ?_; refine RS.rn ?_; simp only [RSr_mk]) | (refine RS.xC ?_; refine RS.rn ?_; simp only [RSr_mk]) | (refine' WP.dl (id := 14) [0, 0, 0, 4, 0, 28, 60, 127, 255, 511, 511, 0, 3071, 8191] [0, 1, 2, 3, 4, 5, 6, 7, 8, 9, 10, 11, 12, 13, 14, 17, 27, 32, 37, 43, 58, 66, 72, 82, 94] [11, 12] [(11, _), (12, _)] ?_) | refine RWL.fr ?_ | (refine RWL.cl (hp := by first | exact prUnique R.1 | exact hIz) (h := ?_)) | refine RWL.wt ?_ | refine RWL.re ?_ ?_ | refine RdO.oz | refine RdO.oa ?_ | refine RdO.oe ?_ | refine RdO.on | ((refine WP.cn (fun hc => ?_) (fun hc => ?_)) <;> try exact Bool.noConfusion hc) | (refine WP.skip ?_; try simp only [thenQ_n, blockQ_n]) | (refine WP.exit ?_; try simp only [thenQ_e, blockQ_e, blockQ_o, ne_eq, Nat.reduceEqDiff, not_false_eq_true, reduceCtorEq, thenQ_n, blockQ_n]) | refine WP.block ?_ | (refine WP.ret ?_; (try simp only [thenQ_r, blockQ_r])) | refine ret3 ?_ | refine retCT ?_)
     ·rw [hA (by assumption)]
     ·rw [hB (by assumption) (by rw [hWd]; exact notT hc)]
     ·refine ⟨⟨(k + 1, u || uniqB R.1), by dsimp only; omega, hC (by assumption) (by rw [hWd]; exact notF hc)⟩, _, by dsimp only; omega, by simp only [Agree, go_sem, simprocAttr, q14, Bool.true_or, Bool.false_or, Bool.and_true, Bool.and_false], rfl, by simp only [nrE, nrD, List.all_cons, List.all_nil, go_sem, simprocAttr], by simp only [go_sem, simprocAttr]⟩
  ·obtain rfl : k = e.kids.length := by omega
   have hlt2 : decide ((e.kids.length : Int) < (e.kids.length : Int)) = false := decide_eq_false (by omega)
   rw [List.drop_length, shsT] at hinv
   clear IH
   replace fx := And.intro hlt2 (And.intro tyZ trivial)
   repeat' (first | (refine RWL.fin ?_; try simp only [thenQ_n, blockQ_n]) | refine WP.seq ?_ | (refine WP.rg [0, 1, 2, 3, 4, 5, 6, 7, 8, 9, 10, 11, 12, 13, 14, 17, 27, 32, 37, 43, 58, 66, 72, 82, 94] ?_; simp only [RSr_mk]) | refine RS.fnT ?_ | (refine RS.fn ?_; try simp only [thenQ_n, blockQ_n]) | (refine RS.cl (hp := by exact pr19number) (h := ?_); refine RS.rn ?_; simp only [RSr_mk]) | (refine RS.cL (hp := by exact pr19number) (h := ?_); refine RS.rn ?_; simp only [RSr_mk]) | (refine RS.sE ?_; refine RS.rn ?_; simp only [RSr_mk]) | (refine RS.pk ?_; refine RS.rn ?_; simp only [RSr_mk]) | (refine RS.gF ?_; refine RS.rn ?_; simp only [RSr_mk]) | (refine RS.lC ?_; refine RS.rn ?_; simp only [RSr_mk]) | (refine RS.xC ?_; refine RS.rn ?_; simp only [RSr_mk]) | (refine' WP.dl (id := 14) [0, 0, 0, 4, 0, 28, 60, 127, 255, 511, 511, 0, 3071, 8191] [0, 1, 2, 3, 4, 5, 6, 7, 8, 9, 10, 11, 12, 13, 14, 17, 27, 32, 37, 43, 58, 66, 72, 82, 94] [11, 12] [(11, _), (12, _)] ?_) | refine RWL.fr ?_ | (refine RWL.cl (hp := by exact pr19number) (h := ?_)) | refine RWL.wt ?_ | refine RWL.re ?_ ?_ | refine RdO.oz | refine RdO.oa ?_ | refine RdO.oe ?_ | refine RdO.on | ((refine WP.cn (fun hc => ?_) (fun hc => ?_)) <;> try exact Bool.noConfusion hc) | (refine WP.skip ?_; try simp only [thenQ_n, blockQ_n]) | (refine WP.exit ?_; try simp only [thenQ_e, blockQ_e, blockQ_o, ne_eq, Nat.reduceEqDiff, not_false_eq_true, reduceCtorEq, thenQ_n, blockQ_n]) | refine WP.block ?_ | (refine WP.ret ?_; (try simp only [thenQ_r, blockQ_r])) | refine ret3 ?_ | refine retCT ?_)
   ·rw [hinv, if_pos hc]
   ·rw [hinv, if_neg (by rw [hc]; exact Bool.false_ne_true)]
theorem pr19Of (c : Cs) (m : Me) (e : Ex) (hcp : c.params.length ≤ 1048576) (ha : m.params.length ≤ 1048576) (hb : m.locals.length ≤ 1048576) (hz : e.sz ≤ 1048576) : DPure Tryz.prog 55 [.r (Cs.at c), .r (Me.at m), .r (Ex.at e)] (.t [.r (Ty.at (oneT c m e).1), .a (.v (.int .i64 (oneT c m e).2))]) := by
 have hq := pr19of c m hcp ha hb _ e (Nat.le_refl _) hz
 unfold oneT
 generalize shT c m e = R at hq
 refine DPure.go Tryz.func55 rfl Tryz.ntmps55 rfl rfl rfl (fun C hro => ?_)
 have fx := trivial
 replace fx := And.intro tyZ trivial
 repeat' (first | refine WP.seq ?_ | (refine WP.rg [0, 1, 2, 3, 4, 5, 6, 7, 10] ?_; simp only [RSr_mk]) | refine RS.fnT ?_ | (refine RS.fn ?_; try simp only [thenQ_n, blockQ_n]) | (refine RS.cl (hp := by first | exact pERight e hz | exact hq) (h := ?_); refine RS.rn ?_; simp only [RSr_mk]) | (refine RS.cL (hp := by first | exact pERight e hz | exact hq) (h := ?_); refine RS.rn ?_; simp only [RSr_mk]) | (refine RS.sE ?_; refine RS.rn ?_; simp only [RSr_mk]) | ((refine WP.cn (fun hc => ?_) (fun hc => ?_)) <;> try exact Bool.noConfusion hc) | (refine WP.skip ?_; try simp only [thenQ_n, blockQ_n]) | (refine WP.ret ?_; (try simp only [thenQ_r, blockQ_r])) | refine ret3 ?_ | refine retCT ?_)
 ·rw [if_neg (by simpa using hc)]
 ·rw [if_pos (by simpa using hc)]
end Go.Proofs.YtibdalkdgjghoaaGreatDoor
namespace Go.Proofs.YtibdalkdgjghoaaGreatDoor
open Go.RowKit
end Go.Proofs.YtibdalkdgjghoaaGreatDoor
namespace Go.Proofs.YtibdalkdgjghoaaGreatDoor
open Go.RowKit
end Go.Proofs.YtibdalkdgjghoaaGreatDoor
namespace Go.Proofs.YtibdalkdgjghoaaGreatDoor
open Go.RowKit
structure Pc.ok (w : Pc) : Prop where
 p : w.p.length ≤ 1048576
 c : w.c.params.length ≤ 1048576
 a : w.m.params.length ≤ 1048576
 b : w.m.locals.length ≤ 1048576
 f : sumOf (fun c => c.fields.length) w.p ≤ 1048576
 z : sumOf Cs.sz w.p ≤ 1048576
def objT (c : Cs) (m : Me) (s : St) : Ty × Int := if (!(typeT c m s.y).2) = true then ((typeT c m s.y).1, 13) else if ((typeT c m s.y).1.kind != 2) = true then ((typeT c m s.y).1, 14) else if (uniqB (typeT c m s.y).1 && s.kind != 4) = true then ((typeT c m s.y).1, 22) else ((typeT c m s.y).1, 0)
theorem pr20object (w : Pc) (s : St) (h : w.ok) : DPure Tryz.prog 50 [.r (Pc.at w), .r (St.at s)] (.t [.r (Ty.at (objT w.c w.m s).1), .a (.v (.int .i64 (objT w.c w.m s).2))]) := by
 have hq := pr18Type w.c w.m s.y h.c h.a h.b
 unfold objT
 generalize typeT w.c w.m s.y = R at hq ⊢
 refine DPure.go Tryz.func50 rfl Tryz.ntmps50 rfl rfl rfl (fun C hro => ?_)
 have fx := trivial
 replace fx := And.intro tyZ trivial
 repeat' (first | refine WP.seq ?_ | (refine WP.rg [0, 1, 2, 3, 4, 5, 6, 7, 19, 23, 31] ?_; simp only [RSr_mk]) | refine RS.fnT ?_ | (refine RS.fn ?_; try simp only [thenQ_n, blockQ_n]) | (refine RS.cl (hp := by first | exact hq | exact prUnique R.1) (h := ?_); refine RS.rn ?_; simp only [RSr_mk]) | (refine RS.cL (hp := by first | exact hq | exact prUnique R.1) (h := ?_); refine RS.rn ?_; simp only [RSr_mk]) | (refine RS.sE ?_; refine RS.rn ?_; simp only [RSr_mk]) | (refine RS.pk ?_; refine RS.rn ?_; simp only [RSr_mk]) | (refine RS.gF ?_; refine RS.rn ?_; simp only [RSr_mk]) | ((refine WP.cn (fun hc => ?_) (fun hc => ?_)) <;> try exact Bool.noConfusion hc) | (refine WP.skip ?_; try simp only [thenQ_n, blockQ_n]) | (refine WP.ret ?_; (try simp only [thenQ_r, blockQ_r])) | refine ret3 ?_ | refine retCT ?_)
 all_goals simp only [*, if_true, Bool.false_eq_true, if_false]
theorem pr20Suits (w : Pc) (e : Ex) (u : Ty) (h : w.ok) (hz : e.sz ≤ 1048576) : DPure Tryz.prog 20 [.r (Pc.at w), .r (Ex.at e), .r (Ty.at u)] (.a (.v (.int .i64 (suitsI w.p w.c w.m e u)))) := by
 have h1 := pr19Of w.c w.m e h.c h.a h.b hz
 have hp := h.p
 unfold suitsI
 generalize oneT w.c w.m e = R at h1 ⊢
 refine DPure.go Tryz.func20 rfl Tryz.ntmps20 rfl rfl rfl (fun C hro => ?_)
 have fx := trivial
 replace fx := And.intro tyZ trivial
 repeat' (first | refine WP.seq ?_ | (refine WP.rg [0, 1, 2, 3, 4, 5, 6, 7, 8, 19, 27] ?_; simp only [RSr_mk]) | refine RS.fnT ?_ | (refine RS.fn ?_; try simp only [thenQ_n, blockQ_n]) | (refine RS.cl (hp := by first | exact h1 | exact prUnique u | exact pr19Gives w.p R.1 u hp | exact pr19Fits w.p R.1 u hp) (h := ?_); refine RS.rn ?_; simp only [RSr_mk]) | (refine RS.cL (hp := by first | exact h1 | exact prUnique u | exact pr19Gives w.p R.1 u hp | exact pr19Fits w.p R.1 u hp) (h := ?_); refine RS.rn ?_; simp only [RSr_mk]) | (refine RS.sE ?_; refine RS.rn ?_; simp only [RSr_mk]) | (refine RS.pk ?_; refine RS.rn ?_; simp only [RSr_mk]) | (refine RS.gF ?_; refine RS.rn ?_; simp only [RSr_mk]) | ((refine WP.cn (fun hc => ?_) (fun hc => ?_)) <;> try exact Bool.noConfusion hc) | (refine WP.skip ?_; try simp only [thenQ_n, blockQ_n]) | (refine WP.ret ?_; (try simp only [thenQ_r, blockQ_r])) | refine ret3 ?_)
 all_goals (refine int_eq ?_; simp_all)
end Go.Proofs.YtibdalkdgjghoaaGreatDoor
namespace Go.Proofs.YtibdalkdgjghoaaGreatDoor
open Go.RowKit
theorem St.arg_sz (s : St) : ∀ e ∈ s.args, e.sz ≤ s.sz := by
 obtain ⟨k, x, y, nm, ty, e, ar, bo, el, at_⟩ := s
 intro e1 he
 have h1 : ∀ (l : List Ex) (e1 : Ex), e1 ∈ l → e1.sz ≤ Ex.szs l := by
  intro l
  induction l with
  | nil => intro e1 h; cases h
  | cons a r ih =>
   intro e1 h
   rw [Ex.szs]
   rcases List.mem_cons.1 h with rfl | h
   ·omega
   ·have := ih e1 h; omega
 have := h1 ar e1 he
 rw [St.sz]; omega
def calM (p : List Cs) (c : Cs) (m : Me) (s : St) : Option Fd := if ((objT c m s).2 != 0 || s.kind != 4) = true then none else findMe p (objT c m s).1.cls s.name
theorem pr20Callee (w : Pc) (s : St) (h : w.ok) : DPure Tryz.prog 18 [.r (Pc.at w), .r (St.at s)] (.t [.r (Fd.at (fdS (calM w.p w.c w.m s)).1), .a (.v (.bool (fdS (calM w.p w.c w.m s)).2))]) := by
 have h2 := pr20object w s h
 have h3 := pr17Find w.p (objT w.c w.m s).1.cls s.name h.z
 have zd := Fd.z0
 unfold calM
 generalize objT w.c w.m s = O at h2 h3 ⊢
 generalize findMe w.p O.1.cls s.name = Z at h3 ⊢
 refine DPure.go Tryz.func18 rfl Tryz.ntmps18 rfl rfl rfl (fun C hro => ?_)
 have fx := trivial
 replace fx := And.intro zd trivial
 repeat' (first | refine WP.seq ?_ | (refine WP.rg [0, 1, 2, 3, 4, 5, 6, 7, 20] ?_; simp only [RSr_mk]) | refine RS.fnT ?_ | (refine RS.fn ?_; try simp only [thenQ_n, blockQ_n]) | (refine RS.cl (hp := by first | exact h2 | exact h3) (h := ?_); refine RS.rn ?_; simp only [RSr_mk]) | (refine RS.cL (hp := by first | exact h2 | exact h3) (h := ?_); refine RS.rn ?_; simp only [RSr_mk]) | (refine RS.sE ?_; refine RS.rn ?_; simp only [RSr_mk]) | (refine RS.pk ?_; refine RS.rn ?_; simp only [RSr_mk]) | (refine RS.gF ?_; refine RS.rn ?_; simp only [RSr_mk]) | ((refine WP.cn (fun hc => ?_) (fun hc => ?_)) <;> try exact Bool.noConfusion hc) | (refine WP.skip ?_; try simp only [thenQ_n, blockQ_n]) | (refine WP.ret ?_; (try simp only [thenQ_r, blockQ_r])) | refine ret3 ?_ | refine retCT ?_)
 ·rw [if_pos hc]; rfl
 ·rw [if_neg (by rw [hc]; exact Bool.false_ne_true)]
end Go.Proofs.YtibdalkdgjghoaaGreatDoor
namespace Go.Proofs.YtibdalkdgjghoaaGreatDoor
open Go.RowKit
end Go.Proofs.YtibdalkdgjghoaaGreatDoor
namespace Go.Proofs.YtibdalkdgjghoaaGreatDoor
open Go.RowKit
mutual
def bigE : Ex → Nat
 | ⟨_, _, _, l⟩ => bigK 1 l
def bigK (n : Nat) : List Ex → Nat
 | [] => n
 | e :: r => if n < 1000 then bigK (n + bigE e) r else n
end
theorem bigE_eq (e : Ex) : bigE e = bigK 1 e.kids := by obtain ⟨k, n, s, l⟩ := e; rw [bigE]
mutual
theorem bigE_le : ∀ e : Ex, bigE e ≤ e.sz
 | ⟨k, n, s, l⟩ => by
  rw [bigE, Ex.sz]
  have := bigK_le l 1
  omega
theorem bigK_le : ∀ (l : List Ex) (n : Nat), bigK n l ≤ n + Ex.szs l
 | [], n => by rw [bigK]; omega
 | e :: r, n => by
  rw [bigK, Ex.szs]
  split
  ·have h1 := bigE_le e
   have h2 := bigK_le r (n + bigE e)
   omega
  ·omega
end
theorem pr06Size : ∀ (n : Nat) (e : Ex), e.sz ≤ n → e.sz ≤ 1048576 → DPure Tryz.prog 47 [.r (Ex.at e)] (.a (.v (.int .i64 (bigE e : Nat))))
 | 0, e, h, _ => by have := e.sz_pos; omega
 | n + 1, e, h, hz => by
  have IH : ∀ k ∈ e.kids, _ := fun k hk => pr06Size n k (by have := Ex.kid_lt hk; omega) (by have := Ex.kid_lt hk; omega)
  have hsz : ∀ k ∈ e.kids, k.sz ≤ 1048576 := fun k hk => by have := Ex.kid_lt hk; omega
  have hlen : e.kids.length ≤ 1048576 := by have := Ex.szs_len e.kids; have := e.sz_eq; omega
  rw [bigE_eq]
  refine DPure.go Tryz.func47 rfl Tryz.ntmps47 rfl rfl rfl (fun C hro => ?_)
  have fx := trivial
  repeat' (first | refine WP.seq ?_ | (refine WP.rg [0, 1, 2, 3, 4, 13] ?_; simp only [RSr_mk]) | refine RS.fnT ?_ | (refine RS.fn ?_; try simp only [thenQ_n, blockQ_n]) | (refine RS.pk ?_; refine RS.rn ?_; simp only [RSr_mk]) | (refine RS.gF ?_; refine RS.rn ?_; simp only [RSr_mk]) | (refine RS.lC ?_; refine RS.rn ?_; simp only [RSr_mk]) | (refine RS.xC ?_; refine RS.rn ?_; simp only [RSr_mk]) | ((refine WP.cn (fun hc => ?_) (fun hc => ?_)) <;> try exact Bool.noConfusion hc) | (refine WP.skip ?_; try simp only [thenQ_n, blockQ_n]) | (refine WP.exit ?_; try simp only [thenQ_e, blockQ_e, blockQ_o, ne_eq, Nat.reduceEqDiff, not_false_eq_true, reduceCtorEq, thenQ_n, blockQ_n]) | refine WP.block ?_ | (refine WP.ret ?_; (try simp only [thenQ_r, blockQ_r])) | refine ret3 ?_)
  refine WP.loopX (α := { y : Nat × Nat // y.1 ≤ e.kids.length ∧ bigK 1 e.kids = bigK y.2 (e.kids.drop y.1) }) (fun y => [(1, .a (.ptr 0 0)), (3, .a (.v (.int .i64 (y.1.2 : Nat)))), (4, .a (.v (.int .i64 (y.1.1 : Nat))))]) (fun _ => [.cell (Ex.at e)]) (fun y => e.kids.length - y.1.1) ⟨(0, 1), by omega, rfl⟩ (by simp only [Agree, go_sem, simprocAttr]; first | done | rfl) rfl ?_
  rintro ⟨⟨k, u⟩, hk, hinv⟩
  dsimp only at hk hinv ⊢
  by_cases hlt : k < e.kids.length
  ·have hlt2 : decide ((k : Int) < ((e.kids.length : Nat) : Int)) = true := decide_eq_true (by omega)
   obtain ⟨z, hz⟩ : ∃ z, e.kids[k]? = some z := ⟨_, List.getElem?_eq_getElem hlt⟩
   have hzm : z ∈ e.kids := List.mem_of_getElem? hz
   have hzt := take_snocA hz
   have hix : ∀ q2, ixD (some 4) q2 (.a (.sl (e.kids.map Ex.at))) (.a (.v (.int .i64 (k : Int)))) = some (.a (.ref (Ex.at z) 0)) := fun q2 => ixD_at rfl (by rw [List.getElem?_map, hz]; rfl) (by simp only [go_sem])
   have hwu := wrap64n (k := k) (by omega)
   have hdr : e.kids.drop k = z :: e.kids.drop (k + 1) := by rw [List.drop_eq_getElem_cons hlt]; congr 1; exact (List.getElem?_eq_some_iff.1 hz).2
   have hbz := Nat.le_trans (bigE_le z) (hsz z hzm)
   have hIz := IH z hzm
   rw [hdr, bigK] at hinv
   generalize bigE z = B at hinv hbz hIz
   clear IH
   by_cases hu : u < 1000
   ·have hu2 : decide ((u : Int) < 1000) = true := decide_eq_true (by omega)
    have hwb : IntKind.i64.wrap ((u : Int) + (B : Int)) = ((u + B : Nat) : Int) := by rw [wrap64 (by omega) (by omega)]; omega
    rw [if_pos hu] at hinv
    replace fx := And.intro hlt2 (And.intro hix (And.intro hwu (And.intro hu2 (And.intro hwb trivial))))
    repeat' (first | refine WP.seq ?_ | (refine WP.rg [0, 1, 2, 3, 4, 13] ?_; simp only [RSr_mk]) | refine RS.fnT ?_ | (refine RS.fn ?_; try simp only [thenQ_n, blockQ_n]) | (refine RS.cl (hp := by exact hIz) (h := ?_); refine RS.rn ?_; simp only [RSr_mk]) | (refine RS.cL (hp := by exact hIz) (h := ?_); refine RS.rn ?_; simp only [RSr_mk]) | (refine RS.pk ?_; refine RS.rn ?_; simp only [RSr_mk]) | (refine RS.gF ?_; refine RS.rn ?_; simp only [RSr_mk]) | (refine RS.lC ?_; refine RS.rn ?_; simp only [RSr_mk]) | (refine RS.xC ?_; refine RS.rn ?_; simp only [RSr_mk]) | ((refine WP.cn (fun hc => ?_) (fun hc => ?_)) <;> try exact Bool.noConfusion hc) | (refine WP.skip ?_; try simp only [thenQ_n, blockQ_n]) | (refine WP.exit ?_; try simp only [thenQ_e, blockQ_e, blockQ_o, ne_eq, Nat.reduceEqDiff, not_false_eq_true, reduceCtorEq, thenQ_n, blockQ_n]) | refine WP.block ?_ | (refine WP.ret ?_; (try simp only [thenQ_r, blockQ_r])) | refine ret3 ?_)
    refine ⟨⟨(k + 1, u + B), by dsimp only; omega, hinv⟩, [], by dsimp only; omega, by simp only [Agree, go_sem, simprocAttr], rfl, by simp only [nrE, nrD, List.all_cons, List.all_nil, go_sem, simprocAttr], by simp only [go_sem, simprocAttr]⟩
   ·have hu2 : decide ((u : Int) < 1000) = false := decide_eq_false (by omega)
    rw [if_neg hu] at hinv
    replace fx := And.intro hlt2 (And.intro hu2 trivial)
    repeat' (first | refine WP.seq ?_ | (refine WP.rg [0, 1, 2, 3, 4, 13] ?_; simp only [RSr_mk]) | refine RS.fnT ?_ | (refine RS.fn ?_; try simp only [thenQ_n, blockQ_n]) | (refine RS.pk ?_; refine RS.rn ?_; simp only [RSr_mk]) | (refine RS.gF ?_; refine RS.rn ?_; simp only [RSr_mk]) | (refine RS.lC ?_; refine RS.rn ?_; simp only [RSr_mk]) | (refine RS.xC ?_; refine RS.rn ?_; simp only [RSr_mk]) | ((refine WP.cn (fun hc => ?_) (fun hc => ?_)) <;> try exact Bool.noConfusion hc) | (refine WP.skip ?_; try simp only [thenQ_n, blockQ_n]) | (refine WP.exit ?_; try simp only [thenQ_e, blockQ_e, blockQ_o, ne_eq, Nat.reduceEqDiff, not_false_eq_true, reduceCtorEq, thenQ_n, blockQ_n]) | refine WP.block ?_ | (refine WP.ret ?_; (try simp only [thenQ_r, blockQ_r])) | refine ret3 ?_)
    rw [hinv]
  ·obtain rfl : k = e.kids.length := by omega
   have hlt2 : decide ((e.kids.length : Int) < (e.kids.length : Int)) = false := decide_eq_false (by omega)
   rw [List.drop_length, bigK] at hinv
   clear IH
   replace fx := And.intro hlt2 trivial
   repeat' (first | refine WP.seq ?_ | (refine WP.rg [0, 1, 2, 3, 4, 13] ?_; simp only [RSr_mk]) | refine RS.fnT ?_ | (refine RS.fn ?_; try simp only [thenQ_n, blockQ_n]) | (refine RS.pk ?_; refine RS.rn ?_; simp only [RSr_mk]) | (refine RS.gF ?_; refine RS.rn ?_; simp only [RSr_mk]) | (refine RS.lC ?_; refine RS.rn ?_; simp only [RSr_mk]) | (refine RS.xC ?_; refine RS.rn ?_; simp only [RSr_mk]) | ((refine WP.cn (fun hc => ?_) (fun hc => ?_)) <;> try exact Bool.noConfusion hc) | (refine WP.skip ?_; try simp only [thenQ_n, blockQ_n]) | (refine WP.exit ?_; try simp only [thenQ_e, blockQ_e, blockQ_o, ne_eq, Nat.reduceEqDiff, not_false_eq_true, reduceCtorEq, thenQ_n, blockQ_n]) | refine WP.block ?_ | (refine WP.ret ?_; (try simp only [thenQ_r, blockQ_r])) | refine ret3 ?_)
   rw [hinv]
def hv1 (e : Ex) : Bool := decide ((bigE e : Int) > 100)
def hvB (s : St) : Bool := s.args.any hv1 || (decide ((s.args.length : Int) > 20) || decide ((bigE s.e : Int) > 100) || decide ((s.body.length : Int) + (s.els.length : Int) > 20) || decide ((s.cnt : Int) > 100))
theorem pl20heavy (s : St) (hs : s.sz ≤ 1048576) : DPure Tryz.prog 15 [.r (St.at s)] (.a (.v (.bool (hvB s)))) := by
 have haz := s.arg_sz
 have hE := pr06Size _ s.e (Nat.le_refl _) (Nat.le_trans (St.e_sz s) hs)
 have hS := pSize _ s (Nat.le_refl _) hs
 have hsq := s.sz_eq
 have hl1 := Ex.szs_len s.args
 have hl2 := St.szs_len s.body
 have hl3 := St.szs_len s.els
 have hwr : IntKind.i64.wrap ((s.body.length : Int) + (s.els.length : Int)) = (s.body.length : Int) + (s.els.length : Int) := wrap64 (by omega) (by omega)
 unfold hvB
 refine DPure.go Tryz.func15 rfl Tryz.ntmps15 rfl rfl rfl (fun C hro => ?_)
 have fx := trivial
 repeat' (first | refine WP.seq ?_ | (refine WP.rg [0, 1, 2, 3, 8, 17] ?_; simp only [RSr_mk]) | refine RS.fnT ?_ | (refine RS.fn ?_; try simp only [thenQ_n, blockQ_n]) | (refine RS.pk ?_; refine RS.rn ?_; simp only [RSr_mk]) | (refine RS.gF ?_; refine RS.rn ?_; simp only [RSr_mk]) | (refine RS.lC ?_; refine RS.rn ?_; simp only [RSr_mk]) | (refine RS.xC ?_; refine RS.rn ?_; simp only [RSr_mk]) | ((refine WP.cn (fun hc => ?_) (fun hc => ?_)) <;> try exact Bool.noConfusion hc) | (refine WP.skip ?_; try simp only [thenQ_n, blockQ_n]) | (refine WP.exit ?_; try simp only [thenQ_e, blockQ_e, blockQ_o, ne_eq, Nat.reduceEqDiff, not_false_eq_true, reduceCtorEq, thenQ_n, blockQ_n]) | refine WP.block ?_ | (refine WP.ret ?_; (try simp only [thenQ_r, blockQ_r])) | refine ret3 ?_)
 refine WP.loopX (α := { k : Nat // k ≤ s.args.length ∧ (s.args.take k).any hv1 = false }) (fun y => [(1, .a (.ptr 0 0)), (3, .a (.v (.int .i64 (y.1 : Nat))))]) (fun _ => [.cell (St.at s)]) (fun y => s.args.length - y.1) ⟨0, by omega, rfl⟩ (by simp only [Agree, go_sem, simprocAttr]; first | done | rfl) rfl ?_
 rintro ⟨k, hk, hinv⟩
 dsimp only
 by_cases hlt : k < s.args.length
 ·have hlt2 : decide ((k : Int) < ((s.args.length : Nat) : Int)) = true := decide_eq_true (by omega)
  obtain ⟨z, hz⟩ : ∃ z, s.args[k]? = some z := ⟨_, List.getElem?_eq_getElem hlt⟩
  have hzm : z ∈ s.args := List.mem_of_getElem? hz
  have hzt := take_snocA hz
  have hix : ∀ q2, ixD (some 4) q2 (.a (.sl (s.args.map Ex.at))) (.a (.v (.int .i64 (k : Int)))) = some (.a (.ref (Ex.at z) 0)) := fun q2 => ixD_at rfl (by rw [List.getElem?_map, hz]; rfl) (by simp only [go_sem])
  have hwu := wrap64n (k := k) (by omega)
  have hIz := pr06Size _ z (Nat.le_refl _) (Nat.le_trans (haz z hzm) hs)
  replace fx := And.intro hlt2 (And.intro hix (And.intro hwu trivial))
  repeat' (first | refine WP.seq ?_ | (refine WP.rg [0, 1, 2, 3, 8, 17] ?_; simp only [RSr_mk]) | refine RS.fnT ?_ | (refine RS.fn ?_; try simp only [thenQ_n, blockQ_n]) | (refine RS.cl (hp := by exact hIz) (h := ?_); refine RS.rn ?_; simp only [RSr_mk]) | (refine RS.cL (hp := by exact hIz) (h := ?_); refine RS.rn ?_; simp only [RSr_mk]) | (refine RS.pk ?_; refine RS.rn ?_; simp only [RSr_mk]) | (refine RS.gF ?_; refine RS.rn ?_; simp only [RSr_mk]) | (refine RS.lC ?_; refine RS.rn ?_; simp only [RSr_mk]) | (refine RS.xC ?_; refine RS.rn ?_; simp only [RSr_mk]) | ((refine WP.cn (fun hc => ?_) (fun hc => ?_)) <;> try exact Bool.noConfusion hc) | (refine WP.skip ?_; try simp only [thenQ_n, blockQ_n]) | (refine WP.exit ?_; try simp only [thenQ_e, blockQ_e, blockQ_o, ne_eq, Nat.reduceEqDiff, not_false_eq_true, reduceCtorEq, thenQ_n, blockQ_n]) | refine WP.block ?_ | (refine WP.ret ?_; (try simp only [thenQ_r, blockQ_r])) | refine ret3 ?_)
  ·have ha : s.args.any hv1 = true := List.any_eq_true.2 ⟨z, hzm, hc⟩
   rw [ha, Bool.true_or]
  ·refine ⟨⟨k + 1, by omega, by rw [hzt, List.any_append, hinv]; simp only [List.any_cons, List.any_nil, Bool.or_false, Bool.false_or]; exact hc⟩, [], by dsimp only; omega, by simp only [Agree, go_sem, simprocAttr], rfl, by simp only [nrE, nrD, List.all_cons, List.all_nil, go_sem, simprocAttr], by simp only [go_sem, simprocAttr]⟩
 obtain rfl : k = s.args.length := by omega
 rw [List.take_length] at hinv
 have hlt2 : decide ((s.args.length : Int) < (s.args.length : Int)) = false := decide_eq_false (by omega)
 replace fx := And.intro hlt2 (And.intro hwr trivial)
 repeat' (first | refine WP.seq ?_ | (refine WP.rg [0, 1, 2, 3, 8, 17] ?_; simp only [RSr_mk]) | refine RS.fnT ?_ | (refine RS.fn ?_; try simp only [thenQ_n, blockQ_n]) | (refine RS.cl (hp := by first | exact hE | exact hS) (h := ?_); refine RS.rn ?_; simp only [RSr_mk]) | (refine RS.cL (hp := by first | exact hE | exact hS) (h := ?_); refine RS.rn ?_; simp only [RSr_mk]) | (refine RS.pk ?_; refine RS.rn ?_; simp only [RSr_mk]) | (refine RS.gF ?_; refine RS.rn ?_; simp only [RSr_mk]) | (refine RS.lC ?_; refine RS.rn ?_; simp only [RSr_mk]) | (refine RS.xC ?_; refine RS.rn ?_; simp only [RSr_mk]) | ((refine WP.cn (fun hc => ?_) (fun hc => ?_)) <;> try exact Bool.noConfusion hc) | (refine WP.skip ?_; try simp only [thenQ_n, blockQ_n]) | (refine WP.exit ?_; try simp only [thenQ_e, blockQ_e, blockQ_o, ne_eq, Nat.reduceEqDiff, not_false_eq_true, reduceCtorEq, thenQ_n, blockQ_n]) | refine WP.block ?_ | (refine WP.ret ?_; (try simp only [thenQ_r, blockQ_r])) | refine ret3 ?_)
 all_goals (rw [hinv, Bool.false_or])
end Go.Proofs.YtibdalkdgjghoaaGreatDoor
