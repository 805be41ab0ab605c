/- slices.EqualFunc and Equal, on plain data. Conditions: at most 2^20 elements. -/
import Derived.Test.YtiokbbjejchfbaaGreatDoorMg10
import Derived.Test.YtiokbbjejchfbaaGreatDoorMg4
import Derived.Test.YtiokbbjejchfbaaGreatDoorMg7
set_option linter.unusedVariables false
set_option linter.unusedSimpArgs false
namespace Go.Proofs.YtiokbbjejchfbaaGreatDoor
open Go.RowKit
set_option maxRecDepth 100000 in
set_option maxHeartbeats 4000000 in
theorem pEqClass (q : Cs → Cs → Bool) (l m : List Cs) (fn : FuncId) (hn : l.length ≤ 1048576) (hf : ∀ k ∈ l, ∀ y, DPure Tryz.prog fn [.r (Cs.at k), .r (Cs.at y)] (.a (.v (.bool (q k y))))) : DPure Tryz.prog 27 [.a (.sl (l.map Cs.at)), .a (.sl (m.map Cs.at)), .a (.fn fn [])] (.a (.v (.bool (l.length == m.length && (l.zip m).all fun p => q p.1 p.2)))) := by
  refine DPure.go Tryz.func27 rfl Tryz.ntmps27 rfl rfl rfl (fun C hro => ?_)
  have fx := trivial
  repeat' (first | refine WP.seq ?_ | (refine WP.rg [0, 1, 2, 6, 7, 8, 9, 14, 15, 16, 17, 18, 30] ?_; simp only [RSr_mk]) | refine RS.fnT ?_ | (refine RS.fn ?_; try simp only [thenQ_n, blockQ_n]) | ((refine WP.cn (fun hc => ?_) (fun hc => ?_)) <;> try exact Bool.noConfusion hc) | (refine WP.skip ?_; try simp only [thenQ_n, blockQ_n]) | (refine WP.exit ?_; try simp only [thenQ_e, blockQ_e, blockQ_o, ne_eq, Nat.reduceEqDiff, not_false_eq_true, reduceCtorEq, thenQ_n, blockQ_n]) | refine WP.block ?_ | (refine WP.ret ?_; (try simp only [thenQ_r, blockQ_r]); refine ret3 ?_))
  · refine bool_eq ?_
    rw [zlen _ (lenB hc)]
  have hl := lenE hc
  have hse := zeql (fun p : Cs × Cs => q p.1 p.2) hl
  refine WP.loopX (α := { k : Nat // k ≤ l.length ∧ ((l.zip m).take k).all (fun p => q p.1 p.2) = true }) (fun y => [(1, .a (.sl (m.map Cs.at))), (2, .a (.fn fn [])), (15, .a (.sl (l.map Cs.at))), (16, .a (.v (.int .i64 (l.length : Nat)))), (17, .a (.v (.int .i64 (y.1 : Nat))))]) (fun _ => []) (fun y => l.length - y.1) ⟨0, by omega, rfl⟩ (by simp only [Agree, go_sem, simprocAttr]; first | done | rfl) rfl ?_
  rintro ⟨k, hk, hinv⟩
  dsimp only
  by_cases hlt : k < l.length
  · have hlt2 : decide ((k : Int) < ((l.length : Nat) : Int)) = true := decide_eq_true (by omega)
    obtain ⟨z, hz⟩ : ∃ z, l[k]? = some z := ⟨_, List.getElem?_eq_getElem hlt⟩
    have hzm : z ∈ l := List.mem_of_getElem? hz
    have hzt := take_snocA hz
    have hix : ∀ q2, ixD (some 7) q2 (.a (.sl (l.map Cs.at))) (.a (.v (.int .i64 (k : Int)))) = some (.a (.ref (Cs.at z) 0)) := fun q2 => ixD_at rfl (by rw [List.getElem?_map, hz]; rfl) (by simp only [go_sem])
    obtain ⟨v, hv⟩ : ∃ z, m[k]? = some z := ⟨_, List.getElem?_eq_getElem (by omega)⟩
    have hvm : v ∈ m := List.mem_of_getElem? hv
    have hiy : ∀ q2, ixD (some 7) q2 (.a (.sl (m.map Cs.at))) (.a (.v (.int .i64 (k : Int)))) = some (.a (.ref (Cs.at v) 0)) := fun q2 => ixD_at rfl (by rw [List.getElem?_map, hv]; rfl) (by simp only [go_sem])
    have hw : k < 9223372036854775807 := by omega
    have hwu := wrap64n (k := k) (by omega)
    have hzv : (l.zip m)[k]? = some (z, v) := by rw [List.getElem?_zip_eq_some]; exact ⟨hz, hv⟩
    replace fx := And.intro hlt2 (And.intro hix (And.intro hiy (And.intro hwu trivial)))
    repeat' (first | refine WP.seq ?_ | (refine WP.rg [0, 1, 2, 6, 7, 8, 9, 14, 15, 16, 17, 18, 30] ?_; simp only [RSr_mk]) | refine RS.fnT ?_ | (refine RS.fn ?_; try simp only [thenQ_n, blockQ_n]) | (refine RS.cL (hp := by exact hf z hzm v) (h := ?_); refine RS.rn ?_; simp only [RSr_mk]) | (refine RS.cV (hp := by exact hf z hzm v) (h := ?_); refine RS.rn ?_; simp only [RSr_mk]) | ((refine WP.cn (fun hc => ?_) (fun hc => ?_)) <;> try exact Bool.noConfusion hc) | (refine WP.skip ?_; try simp only [thenQ_n, blockQ_n]) | (refine WP.exit ?_; try simp only [thenQ_e, blockQ_e, blockQ_o, ne_eq, Nat.reduceEqDiff, not_false_eq_true, reduceCtorEq, thenQ_n, blockQ_n]) | refine WP.block ?_ | (refine WP.ret ?_; (try simp only [thenQ_r, blockQ_r]); refine ret3 ?_))
    · refine bool_eq ?_
      rw [hse, show ((l.zip m).all fun p => q p.1 p.2) = false by rw [List.all_eq_false]; exact ⟨(z, v), List.mem_of_getElem? hzv, by simpa using hc⟩]
    · refine ⟨⟨k + 1, by omega, ?_⟩, [.cell (Cs.at z), .cell (Cs.at v)], by dsimp only; omega, ?_, rfl, rfl, rfl⟩
      · rw [take_snocA hzv, List.all_append, hinv]; simpa using hc
      · simp only [Agree, go_sem, simprocAttr]
  obtain rfl : k = l.length := by omega
  have hlt2 : decide ((l.length : Int) < (l.length : Int)) = false := decide_eq_false (by omega)
  rw [List.take_of_length_le (by rw [List.length_zip]; omega)] at hinv
  replace fx := And.intro hlt2 trivial
  repeat' (first | refine WP.seq ?_ | (refine WP.rg [0, 1, 2, 6, 7, 8, 9, 14, 15, 16, 17, 18, 30] ?_; simp only [RSr_mk]) | refine RS.fnT ?_ | (refine RS.fn ?_; try simp only [thenQ_n, blockQ_n]) | ((refine WP.cn (fun hc => ?_) (fun hc => ?_)) <;> try exact Bool.noConfusion hc) | (refine WP.skip ?_; try simp only [thenQ_n, blockQ_n]) | (refine WP.exit ?_; try simp only [thenQ_e, blockQ_e, blockQ_o, ne_eq, Nat.reduceEqDiff, not_false_eq_true, reduceCtorEq, thenQ_n, blockQ_n]) | refine WP.block ?_ | (refine WP.ret ?_; (try simp only [thenQ_r, blockQ_r]); refine ret3 ?_))
  exact bool_eq (by rw [hse, hinv])
set_option maxRecDepth 100000 in
set_option maxHeartbeats 4000000 in
theorem pEqMeth (q : Me → Me → Bool) (l m : List Me) (fn : FuncId) (hn : l.length ≤ 1048576) (hf : ∀ k ∈ l, ∀ y, DPure Tryz.prog fn [.r (Me.at k), .r (Me.at y)] (.a (.v (.bool (q k y))))) : DPure Tryz.prog 44 [.a (.sl (l.map Me.at)), .a (.sl (m.map Me.at)), .a (.fn fn [])] (.a (.v (.bool (l.length == m.length && (l.zip m).all fun p => q p.1 p.2)))) := by
  refine DPure.go Tryz.func44 rfl Tryz.ntmps44 rfl rfl rfl (fun C hro => ?_)
  have fx := trivial
  repeat' (first | refine WP.seq ?_ | (refine WP.rg [0, 1, 2, 6, 7, 8, 9, 14, 15, 16, 17, 18, 30] ?_; simp only [RSr_mk]) | refine RS.fnT ?_ | (refine RS.fn ?_; try simp only [thenQ_n, blockQ_n]) | ((refine WP.cn (fun hc => ?_) (fun hc => ?_)) <;> try exact Bool.noConfusion hc) | (refine WP.skip ?_; try simp only [thenQ_n, blockQ_n]) | (refine WP.exit ?_; try simp only [thenQ_e, blockQ_e, blockQ_o, ne_eq, Nat.reduceEqDiff, not_false_eq_true, reduceCtorEq, thenQ_n, blockQ_n]) | refine WP.block ?_ | (refine WP.ret ?_; (try simp only [thenQ_r, blockQ_r]); refine ret3 ?_))
  · refine bool_eq ?_
    rw [zlen _ (lenB hc)]
  have hl := lenE hc
  have hse := zeql (fun p : Me × Me => q p.1 p.2) hl
  refine WP.loopX (α := { k : Nat // k ≤ l.length ∧ ((l.zip m).take k).all (fun p => q p.1 p.2) = true }) (fun y => [(1, .a (.sl (m.map Me.at))), (2, .a (.fn fn [])), (15, .a (.sl (l.map Me.at))), (16, .a (.v (.int .i64 (l.length : Nat)))), (17, .a (.v (.int .i64 (y.1 : Nat))))]) (fun _ => []) (fun y => l.length - y.1) ⟨0, by omega, rfl⟩ (by simp only [Agree, go_sem, simprocAttr]; first | done | rfl) rfl ?_
  rintro ⟨k, hk, hinv⟩
  dsimp only
  by_cases hlt : k < l.length
  · have hlt2 : decide ((k : Int) < ((l.length : Nat) : Int)) = true := decide_eq_true (by omega)
    obtain ⟨z, hz⟩ : ∃ z, l[k]? = some z := ⟨_, List.getElem?_eq_getElem hlt⟩
    have hzm : z ∈ l := List.mem_of_getElem? hz
    have hzt := take_snocA hz
    have hix : ∀ q2, ixD (some 17) q2 (.a (.sl (l.map Me.at))) (.a (.v (.int .i64 (k : Int)))) = some (.a (.ref (Me.at z) 0)) := fun q2 => ixD_at rfl (by rw [List.getElem?_map, hz]; rfl) (by simp only [go_sem])
    obtain ⟨v, hv⟩ : ∃ z, m[k]? = some z := ⟨_, List.getElem?_eq_getElem (by omega)⟩
    have hvm : v ∈ m := List.mem_of_getElem? hv
    have hiy : ∀ q2, ixD (some 17) q2 (.a (.sl (m.map Me.at))) (.a (.v (.int .i64 (k : Int)))) = some (.a (.ref (Me.at v) 0)) := fun q2 => ixD_at rfl (by rw [List.getElem?_map, hv]; rfl) (by simp only [go_sem])
    have hw : k < 9223372036854775807 := by omega
    have hwu := wrap64n (k := k) (by omega)
    have hzv : (l.zip m)[k]? = some (z, v) := by rw [List.getElem?_zip_eq_some]; exact ⟨hz, hv⟩
    replace fx := And.intro hlt2 (And.intro hix (And.intro hiy (And.intro hwu trivial)))
    repeat' (first | refine WP.seq ?_ | (refine WP.rg [0, 1, 2, 6, 7, 8, 9, 14, 15, 16, 17, 18, 30] ?_; simp only [RSr_mk]) | refine RS.fnT ?_ | (refine RS.fn ?_; try simp only [thenQ_n, blockQ_n]) | (refine RS.cL (hp := by exact hf z hzm v) (h := ?_); refine RS.rn ?_; simp only [RSr_mk]) | (refine RS.cV (hp := by exact hf z hzm v) (h := ?_); refine RS.rn ?_; simp only [RSr_mk]) | ((refine WP.cn (fun hc => ?_) (fun hc => ?_)) <;> try exact Bool.noConfusion hc) | (refine WP.skip ?_; try simp only [thenQ_n, blockQ_n]) | (refine WP.exit ?_; try simp only [thenQ_e, blockQ_e, blockQ_o, ne_eq, Nat.reduceEqDiff, not_false_eq_true, reduceCtorEq, thenQ_n, blockQ_n]) | refine WP.block ?_ | (refine WP.ret ?_; (try simp only [thenQ_r, blockQ_r]); refine ret3 ?_))
    · refine bool_eq ?_
      rw [hse, show ((l.zip m).all fun p => q p.1 p.2) = false by rw [List.all_eq_false]; exact ⟨(z, v), List.mem_of_getElem? hzv, by simpa using hc⟩]
    · refine ⟨⟨k + 1, by omega, ?_⟩, [.cell (Me.at z), .cell (Me.at v)], by dsimp only; omega, ?_, rfl, rfl, rfl⟩
      · rw [take_snocA hzv, List.all_append, hinv]; simpa using hc
      · simp only [Agree, go_sem, simprocAttr]
  obtain rfl : k = l.length := by omega
  have hlt2 : decide ((l.length : Int) < (l.length : Int)) = false := decide_eq_false (by omega)
  rw [List.take_of_length_le (by rw [List.length_zip]; omega)] at hinv
  replace fx := And.intro hlt2 trivial
  repeat' (first | refine WP.seq ?_ | (refine WP.rg [0, 1, 2, 6, 7, 8, 9, 14, 15, 16, 17, 18, 30] ?_; simp only [RSr_mk]) | refine RS.fnT ?_ | (refine RS.fn ?_; try simp only [thenQ_n, blockQ_n]) | ((refine WP.cn (fun hc => ?_) (fun hc => ?_)) <;> try exact Bool.noConfusion hc) | (refine WP.skip ?_; try simp only [thenQ_n, blockQ_n]) | (refine WP.exit ?_; try simp only [thenQ_e, blockQ_e, blockQ_o, ne_eq, Nat.reduceEqDiff, not_false_eq_true, reduceCtorEq, thenQ_n, blockQ_n]) | refine WP.block ?_ | (refine WP.ret ?_; (try simp only [thenQ_r, blockQ_r]); refine ret3 ?_))
  exact bool_eq (by rw [hse, hinv])
set_option maxRecDepth 100000 in
set_option maxHeartbeats 4000000 in
theorem pEqVar (q : Vr → Vr → Bool) (l m : List Vr) (fn : FuncId) (hn : l.length ≤ 1048576) (hf : ∀ k ∈ l, ∀ y, DPure Tryz.prog fn [.r (Vr.at k), .r (Vr.at y)] (.a (.v (.bool (q k y))))) : DPure Tryz.prog 63 [.a (.sl (l.map Vr.at)), .a (.sl (m.map Vr.at)), .a (.fn fn [])] (.a (.v (.bool (l.length == m.length && (l.zip m).all fun p => q p.1 p.2)))) := by
  refine DPure.go Tryz.func63 rfl Tryz.ntmps63 rfl rfl rfl (fun C hro => ?_)
  have fx := trivial
  repeat' (first | refine WP.seq ?_ | (refine WP.rg [0, 1, 2, 6, 7, 8, 9, 14, 15, 16, 17, 18, 30] ?_; simp only [RSr_mk]) | refine RS.fnT ?_ | (refine RS.fn ?_; try simp only [thenQ_n, blockQ_n]) | ((refine WP.cn (fun hc => ?_) (fun hc => ?_)) <;> try exact Bool.noConfusion hc) | (refine WP.skip ?_; try simp only [thenQ_n, blockQ_n]) | (refine WP.exit ?_; try simp only [thenQ_e, blockQ_e, blockQ_o, ne_eq, Nat.reduceEqDiff, not_false_eq_true, reduceCtorEq, thenQ_n, blockQ_n]) | refine WP.block ?_ | (refine WP.ret ?_; (try simp only [thenQ_r, blockQ_r]); refine ret3 ?_))
  · refine bool_eq ?_
    rw [zlen _ (lenB hc)]
  have hl := lenE hc
  have hse := zeql (fun p : Vr × Vr => q p.1 p.2) hl
  refine WP.loopX (α := { k : Nat // k ≤ l.length ∧ ((l.zip m).take k).all (fun p => q p.1 p.2) = true }) (fun y => [(1, .a (.sl (m.map Vr.at))), (2, .a (.fn fn [])), (15, .a (.sl (l.map Vr.at))), (16, .a (.v (.int .i64 (l.length : Nat)))), (17, .a (.v (.int .i64 (y.1 : Nat))))]) (fun _ => []) (fun y => l.length - y.1) ⟨0, by omega, rfl⟩ (by simp only [Agree, go_sem, simprocAttr]; first | done | rfl) rfl ?_
  rintro ⟨k, hk, hinv⟩
  dsimp only
  by_cases hlt : k < l.length
  · have hlt2 : decide ((k : Int) < ((l.length : Nat) : Int)) = true := decide_eq_true (by omega)
    obtain ⟨z, hz⟩ : ∃ z, l[k]? = some z := ⟨_, List.getElem?_eq_getElem hlt⟩
    have hzm : z ∈ l := List.mem_of_getElem? hz
    have hzt := take_snocA hz
    have hix : ∀ q2, ixD (some 13) q2 (.a (.sl (l.map Vr.at))) (.a (.v (.int .i64 (k : Int)))) = some (.a (.ref (Vr.at z) 0)) := fun q2 => ixD_at rfl (by rw [List.getElem?_map, hz]; rfl) (by simp only [go_sem])
    obtain ⟨v, hv⟩ : ∃ z, m[k]? = some z := ⟨_, List.getElem?_eq_getElem (by omega)⟩
    have hvm : v ∈ m := List.mem_of_getElem? hv
    have hiy : ∀ q2, ixD (some 13) q2 (.a (.sl (m.map Vr.at))) (.a (.v (.int .i64 (k : Int)))) = some (.a (.ref (Vr.at v) 0)) := fun q2 => ixD_at rfl (by rw [List.getElem?_map, hv]; rfl) (by simp only [go_sem])
    have hw : k < 9223372036854775807 := by omega
    have hwu := wrap64n (k := k) (by omega)
    have hzv : (l.zip m)[k]? = some (z, v) := by rw [List.getElem?_zip_eq_some]; exact ⟨hz, hv⟩
    replace fx := And.intro hlt2 (And.intro hix (And.intro hiy (And.intro hwu trivial)))
    repeat' (first | refine WP.seq ?_ | (refine WP.rg [0, 1, 2, 6, 7, 8, 9, 14, 15, 16, 17, 18, 30] ?_; simp only [RSr_mk]) | refine RS.fnT ?_ | (refine RS.fn ?_; try simp only [thenQ_n, blockQ_n]) | (refine RS.cL (hp := by exact hf z hzm v) (h := ?_); refine RS.rn ?_; simp only [RSr_mk]) | (refine RS.cV (hp := by exact hf z hzm v) (h := ?_); refine RS.rn ?_; simp only [RSr_mk]) | ((refine WP.cn (fun hc => ?_) (fun hc => ?_)) <;> try exact Bool.noConfusion hc) | (refine WP.skip ?_; try simp only [thenQ_n, blockQ_n]) | (refine WP.exit ?_; try simp only [thenQ_e, blockQ_e, blockQ_o, ne_eq, Nat.reduceEqDiff, not_false_eq_true, reduceCtorEq, thenQ_n, blockQ_n]) | refine WP.block ?_ | (refine WP.ret ?_; (try simp only [thenQ_r, blockQ_r]); refine ret3 ?_))
    · refine bool_eq ?_
      rw [hse, show ((l.zip m).all fun p => q p.1 p.2) = false by rw [List.all_eq_false]; exact ⟨(z, v), List.mem_of_getElem? hzv, by simpa using hc⟩]
    · refine ⟨⟨k + 1, by omega, ?_⟩, [.cell (Vr.at z), .cell (Vr.at v)], by dsimp only; omega, ?_, rfl, rfl, rfl⟩
      · rw [take_snocA hzv, List.all_append, hinv]; simpa using hc
      · simp only [Agree, go_sem, simprocAttr]
  obtain rfl : k = l.length := by omega
  have hlt2 : decide ((l.length : Int) < (l.length : Int)) = false := decide_eq_false (by omega)
  rw [List.take_of_length_le (by rw [List.length_zip]; omega)] at hinv
  replace fx := And.intro hlt2 trivial
  repeat' (first | refine WP.seq ?_ | (refine WP.rg [0, 1, 2, 6, 7, 8, 9, 14, 15, 16, 17, 18, 30] ?_; simp only [RSr_mk]) | refine RS.fnT ?_ | (refine RS.fn ?_; try simp only [thenQ_n, blockQ_n]) | ((refine WP.cn (fun hc => ?_) (fun hc => ?_)) <;> try exact Bool.noConfusion hc) | (refine WP.skip ?_; try simp only [thenQ_n, blockQ_n]) | (refine WP.exit ?_; try simp only [thenQ_e, blockQ_e, blockQ_o, ne_eq, Nat.reduceEqDiff, not_false_eq_true, reduceCtorEq, thenQ_n, blockQ_n]) | refine WP.block ?_ | (refine WP.ret ?_; (try simp only [thenQ_r, blockQ_r]); refine ret3 ?_))
  exact bool_eq (by rw [hse, hinv])
set_option maxRecDepth 100000 in
set_option maxHeartbeats 4000000 in
theorem pEqStmt (q : St → St → Bool) (l m : List St) (fn : FuncId) (hn : l.length ≤ 1048576) (hf : ∀ k ∈ l, ∀ y, DPure Tryz.prog fn [.r (St.at k), .r (St.at y)] (.a (.v (.bool (q k y))))) : DPure Tryz.prog 65 [.a (.sl (l.map St.at)), .a (.sl (m.map St.at)), .a (.fn fn [])] (.a (.v (.bool (l.length == m.length && (l.zip m).all fun p => q p.1 p.2)))) := by
  refine DPure.go Tryz.func65 rfl Tryz.ntmps65 rfl rfl rfl (fun C hro => ?_)
  have fx := trivial
  repeat' (first | refine WP.seq ?_ | (refine WP.rg [0, 1, 2, 6, 7, 8, 9, 14, 15, 16, 17, 18, 30] ?_; simp only [RSr_mk]) | refine RS.fnT ?_ | (refine RS.fn ?_; try simp only [thenQ_n, blockQ_n]) | ((refine WP.cn (fun hc => ?_) (fun hc => ?_)) <;> try exact Bool.noConfusion hc) | (refine WP.skip ?_; try simp only [thenQ_n, blockQ_n]) | (refine WP.exit ?_; try simp only [thenQ_e, blockQ_e, blockQ_o, ne_eq, Nat.reduceEqDiff, not_false_eq_true, reduceCtorEq, thenQ_n, blockQ_n]) | refine WP.block ?_ | (refine WP.ret ?_; (try simp only [thenQ_r, blockQ_r]); refine ret3 ?_))
  · refine bool_eq ?_
    rw [zlen _ (lenB hc)]
  have hl := lenE hc
  have hse := zeql (fun p : St × St => q p.1 p.2) hl
  refine WP.loopX (α := { k : Nat // k ≤ l.length ∧ ((l.zip m).take k).all (fun p => q p.1 p.2) = true }) (fun y => [(1, .a (.sl (m.map St.at))), (2, .a (.fn fn [])), (15, .a (.sl (l.map St.at))), (16, .a (.v (.int .i64 (l.length : Nat)))), (17, .a (.v (.int .i64 (y.1 : Nat))))]) (fun _ => []) (fun y => l.length - y.1) ⟨0, by omega, rfl⟩ (by simp only [Agree, go_sem, simprocAttr]; first | done | rfl) rfl ?_
  rintro ⟨k, hk, hinv⟩
  dsimp only
  by_cases hlt : k < l.length
  · have hlt2 : decide ((k : Int) < ((l.length : Nat) : Int)) = true := decide_eq_true (by omega)
    obtain ⟨z, hz⟩ : ∃ z, l[k]? = some z := ⟨_, List.getElem?_eq_getElem hlt⟩
    have hzm : z ∈ l := List.mem_of_getElem? hz
    have hzt := take_snocA hz
    have hix : ∀ q2, ixD (some 23) q2 (.a (.sl (l.map St.at))) (.a (.v (.int .i64 (k : Int)))) = some (.a (.ref (St.at z) 0)) := fun q2 => ixD_at rfl (by rw [List.getElem?_map, hz]; rfl) (by simp only [go_sem])
    obtain ⟨v, hv⟩ : ∃ z, m[k]? = some z := ⟨_, List.getElem?_eq_getElem (by omega)⟩
    have hvm : v ∈ m := List.mem_of_getElem? hv
    have hiy : ∀ q2, ixD (some 23) q2 (.a (.sl (m.map St.at))) (.a (.v (.int .i64 (k : Int)))) = some (.a (.ref (St.at v) 0)) := fun q2 => ixD_at rfl (by rw [List.getElem?_map, hv]; rfl) (by simp only [go_sem])
    have hw : k < 9223372036854775807 := by omega
    have hwu := wrap64n (k := k) (by omega)
    have hzv : (l.zip m)[k]? = some (z, v) := by rw [List.getElem?_zip_eq_some]; exact ⟨hz, hv⟩
    replace fx := And.intro hlt2 (And.intro hix (And.intro hiy (And.intro hwu trivial)))
    repeat' (first | refine WP.seq ?_ | (refine WP.rg [0, 1, 2, 6, 7, 8, 9, 14, 15, 16, 17, 18, 30] ?_; simp only [RSr_mk]) | refine RS.fnT ?_ | (refine RS.fn ?_; try simp only [thenQ_n, blockQ_n]) | (refine RS.cL (hp := by exact hf z hzm v) (h := ?_); refine RS.rn ?_; simp only [RSr_mk]) | (refine RS.cV (hp := by exact hf z hzm v) (h := ?_); refine RS.rn ?_; simp only [RSr_mk]) | ((refine WP.cn (fun hc => ?_) (fun hc => ?_)) <;> try exact Bool.noConfusion hc) | (refine WP.skip ?_; try simp only [thenQ_n, blockQ_n]) | (refine WP.exit ?_; try simp only [thenQ_e, blockQ_e, blockQ_o, ne_eq, Nat.reduceEqDiff, not_false_eq_true, reduceCtorEq, thenQ_n, blockQ_n]) | refine WP.block ?_ | (refine WP.ret ?_; (try simp only [thenQ_r, blockQ_r]); refine ret3 ?_))
    · refine bool_eq ?_
      rw [hse, show ((l.zip m).all fun p => q p.1 p.2) = false by rw [List.all_eq_false]; exact ⟨(z, v), List.mem_of_getElem? hzv, by simpa using hc⟩]
    · refine ⟨⟨k + 1, by omega, ?_⟩, [.cell (St.at z), .cell (St.at v)], by dsimp only; omega, ?_, rfl, rfl, rfl⟩
      · rw [take_snocA hzv, List.all_append, hinv]; simpa using hc
      · simp only [Agree, go_sem, simprocAttr]
  obtain rfl : k = l.length := by omega
  have hlt2 : decide ((l.length : Int) < (l.length : Int)) = false := decide_eq_false (by omega)
  rw [List.take_of_length_le (by rw [List.length_zip]; omega)] at hinv
  replace fx := And.intro hlt2 trivial
  repeat' (first | refine WP.seq ?_ | (refine WP.rg [0, 1, 2, 6, 7, 8, 9, 14, 15, 16, 17, 18, 30] ?_; simp only [RSr_mk]) | refine RS.fnT ?_ | (refine RS.fn ?_; try simp only [thenQ_n, blockQ_n]) | ((refine WP.cn (fun hc => ?_) (fun hc => ?_)) <;> try exact Bool.noConfusion hc) | (refine WP.skip ?_; try simp only [thenQ_n, blockQ_n]) | (refine WP.exit ?_; try simp only [thenQ_e, blockQ_e, blockQ_o, ne_eq, Nat.reduceEqDiff, not_false_eq_true, reduceCtorEq, thenQ_n, blockQ_n]) | refine WP.block ?_ | (refine WP.ret ?_; (try simp only [thenQ_r, blockQ_r]); refine ret3 ?_))
  exact bool_eq (by rw [hse, hinv])
set_option maxRecDepth 100000 in
set_option maxHeartbeats 4000000 in
theorem pEqExpr (q : Ex → Ex → Bool) (l m : List Ex) (fn : FuncId) (hn : l.length ≤ 1048576) (hf : ∀ k ∈ l, ∀ y, DPure Tryz.prog fn [.r (Ex.at k), .r (Ex.at y)] (.a (.v (.bool (q k y))))) : DPure Tryz.prog 82 [.a (.sl (l.map Ex.at)), .a (.sl (m.map Ex.at)), .a (.fn fn [])] (.a (.v (.bool (l.length == m.length && (l.zip m).all fun p => q p.1 p.2)))) := by
  refine DPure.go Tryz.func82 rfl Tryz.ntmps82 rfl rfl rfl (fun C hro => ?_)
  have fx := trivial
  repeat' (first | refine WP.seq ?_ | (refine WP.rg [0, 1, 2, 6, 7, 8, 9, 14, 15, 16, 17, 18, 30] ?_; simp only [RSr_mk]) | refine RS.fnT ?_ | (refine RS.fn ?_; try simp only [thenQ_n, blockQ_n]) | ((refine WP.cn (fun hc => ?_) (fun hc => ?_)) <;> try exact Bool.noConfusion hc) | (refine WP.skip ?_; try simp only [thenQ_n, blockQ_n]) | (refine WP.exit ?_; try simp only [thenQ_e, blockQ_e, blockQ_o, ne_eq, Nat.reduceEqDiff, not_false_eq_true, reduceCtorEq, thenQ_n, blockQ_n]) | refine WP.block ?_ | (refine WP.ret ?_; (try simp only [thenQ_r, blockQ_r]); refine ret3 ?_))
  · refine bool_eq ?_
    rw [zlen _ (lenB hc)]
  have hl := lenE hc
  have hse := zeql (fun p : Ex × Ex => q p.1 p.2) hl
  refine WP.loopX (α := { k : Nat // k ≤ l.length ∧ ((l.zip m).take k).all (fun p => q p.1 p.2) = true }) (fun y => [(1, .a (.sl (m.map Ex.at))), (2, .a (.fn fn [])), (15, .a (.sl (l.map Ex.at))), (16, .a (.v (.int .i64 (l.length : Nat)))), (17, .a (.v (.int .i64 (y.1 : Nat))))]) (fun _ => []) (fun y => l.length - y.1) ⟨0, by omega, rfl⟩ (by simp only [Agree, go_sem, simprocAttr]; first | done | rfl) rfl ?_
  rintro ⟨k, hk, hinv⟩
  dsimp only
  by_cases hlt : k < l.length
  · have hlt2 : decide ((k : Int) < ((l.length : Nat) : Int)) = true := decide_eq_true (by omega)
    obtain ⟨z, hz⟩ : ∃ z, l[k]? = some z := ⟨_, List.getElem?_eq_getElem hlt⟩
    have hzm : z ∈ l := List.mem_of_getElem? hz
    have hzt := take_snocA hz
    have hix : ∀ q2, ixD (some 4) q2 (.a (.sl (l.map Ex.at))) (.a (.v (.int .i64 (k : Int)))) = some (.a (.ref (Ex.at z) 0)) := fun q2 => ixD_at rfl (by rw [List.getElem?_map, hz]; rfl) (by simp only [go_sem])
    obtain ⟨v, hv⟩ : ∃ z, m[k]? = some z := ⟨_, List.getElem?_eq_getElem (by omega)⟩
    have hvm : v ∈ m := List.mem_of_getElem? hv
    have hiy : ∀ q2, ixD (some 4) q2 (.a (.sl (m.map Ex.at))) (.a (.v (.int .i64 (k : Int)))) = some (.a (.ref (Ex.at v) 0)) := fun q2 => ixD_at rfl (by rw [List.getElem?_map, hv]; rfl) (by simp only [go_sem])
    have hw : k < 9223372036854775807 := by omega
    have hwu := wrap64n (k := k) (by omega)
    have hzv : (l.zip m)[k]? = some (z, v) := by rw [List.getElem?_zip_eq_some]; exact ⟨hz, hv⟩
    replace fx := And.intro hlt2 (And.intro hix (And.intro hiy (And.intro hwu trivial)))
    repeat' (first | refine WP.seq ?_ | (refine WP.rg [0, 1, 2, 6, 7, 8, 9, 14, 15, 16, 17, 18, 30] ?_; simp only [RSr_mk]) | refine RS.fnT ?_ | (refine RS.fn ?_; try simp only [thenQ_n, blockQ_n]) | (refine RS.cL (hp := by exact hf z hzm v) (h := ?_); refine RS.rn ?_; simp only [RSr_mk]) | (refine RS.cV (hp := by exact hf z hzm v) (h := ?_); refine RS.rn ?_; simp only [RSr_mk]) | ((refine WP.cn (fun hc => ?_) (fun hc => ?_)) <;> try exact Bool.noConfusion hc) | (refine WP.skip ?_; try simp only [thenQ_n, blockQ_n]) | (refine WP.exit ?_; try simp only [thenQ_e, blockQ_e, blockQ_o, ne_eq, Nat.reduceEqDiff, not_false_eq_true, reduceCtorEq, thenQ_n, blockQ_n]) | refine WP.block ?_ | (refine WP.ret ?_; (try simp only [thenQ_r, blockQ_r]); refine ret3 ?_))
    · refine bool_eq ?_
      rw [hse, show ((l.zip m).all fun p => q p.1 p.2) = false by rw [List.all_eq_false]; exact ⟨(z, v), List.mem_of_getElem? hzv, by simpa using hc⟩]
    · refine ⟨⟨k + 1, by omega, ?_⟩, [.cell (Ex.at z), .cell (Ex.at v)], by dsimp only; omega, ?_, rfl, rfl, rfl⟩
      · rw [take_snocA hzv, List.all_append, hinv]; simpa using hc
      · simp only [Agree, go_sem, simprocAttr]
  obtain rfl : k = l.length := by omega
  have hlt2 : decide ((l.length : Int) < (l.length : Int)) = false := decide_eq_false (by omega)
  rw [List.take_of_length_le (by rw [List.length_zip]; omega)] at hinv
  replace fx := And.intro hlt2 trivial
  repeat' (first | refine WP.seq ?_ | (refine WP.rg [0, 1, 2, 6, 7, 8, 9, 14, 15, 16, 17, 18, 30] ?_; simp only [RSr_mk]) | refine RS.fnT ?_ | (refine RS.fn ?_; try simp only [thenQ_n, blockQ_n]) | ((refine WP.cn (fun hc => ?_) (fun hc => ?_)) <;> try exact Bool.noConfusion hc) | (refine WP.skip ?_; try simp only [thenQ_n, blockQ_n]) | (refine WP.exit ?_; try simp only [thenQ_e, blockQ_e, blockQ_o, ne_eq, Nat.reduceEqDiff, not_false_eq_true, reduceCtorEq, thenQ_n, blockQ_n]) | refine WP.block ?_ | (refine WP.ret ?_; (try simp only [thenQ_r, blockQ_r]); refine ret3 ?_))
  exact bool_eq (by rw [hse, hinv])
set_option maxRecDepth 100000 in
set_option maxHeartbeats 4000000 in
theorem pEqlStr (l m : List (List UInt8)) (hn : l.length ≤ 1048576) : DPure Tryz.prog 41 [.a (.sl (l.map strAt)), .a (.sl (m.map strAt))] (.a (.v (.bool (l.length == m.length && (l.zip m).all fun p => p.1 == p.2)))) := by
  refine DPure.go Tryz.func41 rfl Tryz.ntmps41 rfl rfl rfl (fun C hro => ?_)
  have fx := trivial
  repeat' (first | refine WP.seq ?_ | (refine WP.rg [0, 1, 4, 5, 10, 12, 13, 14, 24] ?_; simp only [RSr_mk]) | refine RS.fnT ?_ | (refine RS.fn ?_; try simp only [thenQ_n, blockQ_n]) | ((refine WP.cn (fun hc => ?_) (fun hc => ?_)) <;> try exact Bool.noConfusion hc) | (refine WP.skip ?_; try simp only [thenQ_n, blockQ_n]) | (refine WP.exit ?_; try simp only [thenQ_e, blockQ_e, blockQ_o, ne_eq, Nat.reduceEqDiff, not_false_eq_true, reduceCtorEq, thenQ_n, blockQ_n]) | refine WP.block ?_ | (refine WP.ret ?_; (try simp only [thenQ_r, blockQ_r]); refine ret3 ?_) | ((first | refine WP.dw (id := 6) 9 [0, 1, 4, 5, 10, 12, 13, 14, 24] ?_); simp only [RQr_mk, List.drop_succ_cons, List.drop_zero, List.drop_nil]) | (refine RQ.nil ?_; refine RS.rn ?_; simp only [RSr_mk]))
  · refine bool_eq ?_
    rw [zlen _ (lenB hc)]
  have hl := lenE hc
  have hse := zeql (fun p : (List UInt8) × (List UInt8) => p.1 == p.2) hl
  refine WP.loop (α := { k : Nat // k ≤ l.length ∧ ((l.zip m).take k).all (fun p => p.1 == p.2) = true }) (fun y => [(0, .a (.sl (l.map strAt))), (1, .a (.sl (m.map strAt))), (12, .a (.v (.int .i64 (l.length : Nat)))), (13, .a (.v (.int .i64 (y.1 : Nat))))]) (fun _ => []) (fun y => l.length - y.1) ⟨0, by omega, rfl⟩ (by simp only [Agree, go_sem, simprocAttr]; first | done | rfl) rfl ?_
  rintro ⟨k, hk, hinv⟩
  dsimp only
  by_cases hlt : k < l.length
  · have hlt2 : decide ((k : Int) < ((l.length : Nat) : Int)) = true := decide_eq_true (by omega)
    obtain ⟨z, hz⟩ : ∃ z, l[k]? = some z := ⟨_, List.getElem?_eq_getElem hlt⟩
    have hzm : z ∈ l := List.mem_of_getElem? hz
    have hzt := take_snocA hz
    have hix : ∀ q2, ixD (some 1) q2 (.a (.sl (l.map strAt))) (.a (.v (.int .i64 (k : Int)))) = some (.a (.ref (strAt z) 0)) := fun q2 => ixD_at rfl (by rw [List.getElem?_map, hz]; rfl) (by simp only [go_sem])
    obtain ⟨v, hv⟩ : ∃ z, m[k]? = some z := ⟨_, List.getElem?_eq_getElem (by omega)⟩
    have hvm : v ∈ m := List.mem_of_getElem? hv
    have hiy : ∀ q2, ixD (some 1) q2 (.a (.sl (m.map strAt))) (.a (.v (.int .i64 (k : Int)))) = some (.a (.ref (strAt v) 0)) := fun q2 => ixD_at rfl (by rw [List.getElem?_map, hv]; rfl) (by simp only [go_sem])
    have hw : k < 9223372036854775807 := by omega
    have hwu := wrap64n (k := k) (by omega)
    have hzv : (l.zip m)[k]? = some (z, v) := by rw [List.getElem?_zip_eq_some]; exact ⟨hz, hv⟩
    replace fx := And.intro hlt2 (And.intro hix (And.intro hiy (And.intro hwu trivial)))
    repeat' (first | refine WP.seq ?_ | (refine WP.rg [0, 1, 4, 5, 10, 12, 13, 14, 24] ?_; simp only [RSr_mk]) | refine RS.fnT ?_ | (refine RS.fn ?_; try simp only [thenQ_n, blockQ_n]) | ((refine WP.cn (fun hc => ?_) (fun hc => ?_)) <;> try exact Bool.noConfusion hc) | (refine WP.skip ?_; try simp only [thenQ_n, blockQ_n]) | (refine WP.exit ?_; try simp only [thenQ_e, blockQ_e, blockQ_o, ne_eq, Nat.reduceEqDiff, not_false_eq_true, reduceCtorEq, thenQ_n, blockQ_n]) | refine WP.block ?_ | (refine WP.ret ?_; (try simp only [thenQ_r, blockQ_r]); refine ret3 ?_) | ((first | refine WP.dw (id := 6) 9 [0, 1, 4, 5, 10, 12, 13, 14, 24] ?_); simp only [RQr_mk, List.drop_succ_cons, List.drop_zero, List.drop_nil]) | (refine RQ.nil ?_; refine RS.rn ?_; simp only [RSr_mk]))
    · refine bool_eq ?_
      rw [hse, show ((l.zip m).all fun p => p.1 == p.2) = false by rw [List.all_eq_false]; exact ⟨(z, v), List.mem_of_getElem? hzv, by simpa using hc⟩]
    · refine ⟨⟨k + 1, by omega, ?_⟩, by dsimp only; omega, ?_, rfl⟩
      · rw [take_snocA hzv, List.all_append, hinv]; simpa using hc
      · simp only [Agree, go_sem, simprocAttr]
  obtain rfl : k = l.length := by omega
  have hlt2 : decide ((l.length : Int) < (l.length : Int)) = false := decide_eq_false (by omega)
  rw [List.take_of_length_le (by rw [List.length_zip]; omega)] at hinv
  replace fx := And.intro hlt2 trivial
  repeat' (first | refine WP.seq ?_ | (refine WP.rg [0, 1, 4, 5, 10, 12, 13, 14, 24] ?_; simp only [RSr_mk]) | refine RS.fnT ?_ | (refine RS.fn ?_; try simp only [thenQ_n, blockQ_n]) | ((refine WP.cn (fun hc => ?_) (fun hc => ?_)) <;> try exact Bool.noConfusion hc) | (refine WP.skip ?_; try simp only [thenQ_n, blockQ_n]) | (refine WP.exit ?_; try simp only [thenQ_e, blockQ_e, blockQ_o, ne_eq, Nat.reduceEqDiff, not_false_eq_true, reduceCtorEq, thenQ_n, blockQ_n]) | refine WP.block ?_ | (refine WP.ret ?_; (try simp only [thenQ_r, blockQ_r]); refine ret3 ?_) | ((first | refine WP.dw (id := 6) 9 [0, 1, 4, 5, 10, 12, 13, 14, 24] ?_); simp only [RQr_mk, List.drop_succ_cons, List.drop_zero, List.drop_nil]) | (refine RQ.nil ?_; refine RS.rn ?_; simp only [RSr_mk]))
  exact bool_eq (by rw [hse, hinv])
set_option maxRecDepth 100000 in
set_option maxHeartbeats 4000000 in
theorem pEqlOwn (l m : List (Int × Int)) (hn : l.length ≤ 1048576) : DPure Tryz.prog 42 [.a (.sl (l.map owAt)), .a (.sl (m.map owAt))] (.a (.v (.bool (l.length == m.length && (l.zip m).all fun p => p.1 == p.2)))) := by
  refine DPure.go Tryz.func42 rfl Tryz.ntmps42 rfl rfl rfl (fun C hro => ?_)
  have fx := trivial
  repeat' (first | refine WP.seq ?_ | (refine WP.rg [0, 1, 4, 5, 10, 12, 13, 14, 24] ?_; simp only [RSr_mk]) | refine RS.fnT ?_ | (refine RS.fn ?_; try simp only [thenQ_n, blockQ_n]) | ((refine WP.cn (fun hc => ?_) (fun hc => ?_)) <;> try exact Bool.noConfusion hc) | (refine WP.skip ?_; try simp only [thenQ_n, blockQ_n]) | (refine WP.exit ?_; try simp only [thenQ_e, blockQ_e, blockQ_o, ne_eq, Nat.reduceEqDiff, not_false_eq_true, reduceCtorEq, thenQ_n, blockQ_n]) | refine WP.block ?_ | (refine WP.ret ?_; (try simp only [thenQ_r, blockQ_r]); refine ret3 ?_) | ((first | refine WP.dw (id := 6) 9 [0, 1, 4, 5, 10, 12, 13, 14, 24] ?_); simp only [RQr_mk, List.drop_succ_cons, List.drop_zero, List.drop_nil]) | (refine RQ.nil ?_; refine RS.rn ?_; simp only [RSr_mk]))
  · refine bool_eq ?_
    rw [zlen _ (lenB hc)]
  have hl := lenE hc
  have hse := zeql (fun p : (Int × Int) × (Int × Int) => p.1 == p.2) hl
  refine WP.loop (α := { k : Nat // k ≤ l.length ∧ ((l.zip m).take k).all (fun p => p.1 == p.2) = true }) (fun y => [(0, .a (.sl (l.map owAt))), (1, .a (.sl (m.map owAt))), (12, .a (.v (.int .i64 (l.length : Nat)))), (13, .a (.v (.int .i64 (y.1 : Nat))))]) (fun _ => []) (fun y => l.length - y.1) ⟨0, by omega, rfl⟩ (by simp only [Agree, go_sem, simprocAttr]; first | done | rfl) rfl ?_
  rintro ⟨k, hk, hinv⟩
  dsimp only
  by_cases hlt : k < l.length
  · have hlt2 : decide ((k : Int) < ((l.length : Nat) : Int)) = true := decide_eq_true (by omega)
    obtain ⟨z, hz⟩ : ∃ z, l[k]? = some z := ⟨_, List.getElem?_eq_getElem hlt⟩
    have hzm : z ∈ l := List.mem_of_getElem? hz
    have hzt := take_snocA hz
    have hix : ∀ q2, ixD (some 2) q2 (.a (.sl (l.map owAt))) (.a (.v (.int .i64 (k : Int)))) = some (.a (.ref (owAt z) 0)) := fun q2 => ixD_at rfl (by rw [List.getElem?_map, hz]; rfl) (by simp only [go_sem])
    obtain ⟨v, hv⟩ : ∃ z, m[k]? = some z := ⟨_, List.getElem?_eq_getElem (by omega)⟩
    have hvm : v ∈ m := List.mem_of_getElem? hv
    have hiy : ∀ q2, ixD (some 2) q2 (.a (.sl (m.map owAt))) (.a (.v (.int .i64 (k : Int)))) = some (.a (.ref (owAt v) 0)) := fun q2 => ixD_at rfl (by rw [List.getElem?_map, hv]; rfl) (by simp only [go_sem])
    have hw : k < 9223372036854775807 := by omega
    have hwu := wrap64n (k := k) (by omega)
    have hzv : (l.zip m)[k]? = some (z, v) := by rw [List.getElem?_zip_eq_some]; exact ⟨hz, hv⟩
    replace fx := And.intro hlt2 (And.intro hix (And.intro hiy (And.intro hwu trivial)))
    repeat' (first | refine WP.seq ?_ | (refine WP.rg [0, 1, 4, 5, 10, 12, 13, 14, 24] ?_; simp only [RSr_mk]) | refine RS.fnT ?_ | (refine RS.fn ?_; try simp only [thenQ_n, blockQ_n]) | ((refine WP.cn (fun hc => ?_) (fun hc => ?_)) <;> try exact Bool.noConfusion hc) | (refine WP.skip ?_; try simp only [thenQ_n, blockQ_n]) | (refine WP.exit ?_; try simp only [thenQ_e, blockQ_e, blockQ_o, ne_eq, Nat.reduceEqDiff, not_false_eq_true, reduceCtorEq, thenQ_n, blockQ_n]) | refine WP.block ?_ | (refine WP.ret ?_; (try simp only [thenQ_r, blockQ_r]); refine ret3 ?_) | ((first | refine WP.dw (id := 6) 9 [0, 1, 4, 5, 10, 12, 13, 14, 24] ?_); simp only [RQr_mk, List.drop_succ_cons, List.drop_zero, List.drop_nil]) | (refine RQ.nil ?_; refine RS.rn ?_; simp only [RSr_mk]))
    · refine bool_eq ?_
      rw [hse, show ((l.zip m).all fun p => p.1 == p.2) = false by rw [List.all_eq_false]; exact ⟨(z, v), List.mem_of_getElem? hzv, by simpa using hc⟩]
    · refine ⟨⟨k + 1, by omega, ?_⟩, by dsimp only; omega, ?_, rfl⟩
      · rw [take_snocA hzv, List.all_append, hinv]; simpa using hc
      · simp only [Agree, go_sem, simprocAttr]
  obtain rfl : k = l.length := by omega
  have hlt2 : decide ((l.length : Int) < (l.length : Int)) = false := decide_eq_false (by omega)
  rw [List.take_of_length_le (by rw [List.length_zip]; omega)] at hinv
  replace fx := And.intro hlt2 trivial
  repeat' (first | refine WP.seq ?_ | (refine WP.rg [0, 1, 4, 5, 10, 12, 13, 14, 24] ?_; simp only [RSr_mk]) | refine RS.fnT ?_ | (refine RS.fn ?_; try simp only [thenQ_n, blockQ_n]) | ((refine WP.cn (fun hc => ?_) (fun hc => ?_)) <;> try exact Bool.noConfusion hc) | (refine WP.skip ?_; try simp only [thenQ_n, blockQ_n]) | (refine WP.exit ?_; try simp only [thenQ_e, blockQ_e, blockQ_o, ne_eq, Nat.reduceEqDiff, not_false_eq_true, reduceCtorEq, thenQ_n, blockQ_n]) | refine WP.block ?_ | (refine WP.ret ?_; (try simp only [thenQ_r, blockQ_r]); refine ret3 ?_) | ((first | refine WP.dw (id := 6) 9 [0, 1, 4, 5, 10, 12, 13, 14, 24] ?_); simp only [RQr_mk, List.drop_succ_cons, List.drop_zero, List.drop_nil]) | (refine RQ.nil ?_; refine RS.rn ?_; simp only [RSr_mk]))
  exact bool_eq (by rw [hse, hinv])
end Go.Proofs.YtiokbbjejchfbaaGreatDoor
namespace Go.Proofs.YtiokbbjejchfbaaGreatDoor
open Go.RowKit
theorem samesX (l m : List Ex) : Ex.samesB l m = (l.length == m.length && (l.zip m).all fun p => p.1.sameB p.2) := by
  by_cases h : l.length = m.length
  · rw [Ex.samesB_zip h, zeql _ h]
  · rw [Ex.samesB_len h, zlen _ h]
theorem samesS (l m : List St) : St.samesB l m = (l.length == m.length && (l.zip m).all fun p => p.1.sameB p.2) := by
  by_cases h : l.length = m.length
  · rw [St.samesB_zip h, zeql _ h]
  · rw [St.samesB_len h, zlen _ h]
set_option maxRecDepth 100000 in
set_option maxHeartbeats 4000000 in
theorem peSame : ∀ (m : Nat) (e f : Ex), e.sz ≤ m → e.sz ≤ 1048576 → DPure Tryz.prog 81 [.r (Ex.at e), .r (Ex.at f)] (.a (.v (.bool (e.sameB f))))
  | 0, e, _, h, _ => by have := e.sz_pos; omega
  | m + 1, e, f, h, hz0 => by
    have hlen : e.kids.length ≤ 1048576 := by have := Ex.szs_len e.kids; have := e.sz_eq; omega
    have IH := pEqExpr Ex.sameB e.kids f.kids 81 hlen fun k hk y => peSame m k y (by have := Ex.kid_lt hk; omega) (by have := Ex.kid_lt hk; omega)
    rw [← samesX] at IH
    have hse := e.same_eq f
    refine DPure.go Tryz.func81 rfl Tryz.ntmps81 rfl rfl rfl (fun C hro => ?_)
    have fx := trivial
    repeat' (first | refine WP.seq ?_ | (refine WP.rg [0, 1, 2, 3, 4] ?_; simp only [RSr_mk]) | refine RS.fnT ?_ | (refine RS.fn ?_; try simp only [thenQ_n, blockQ_n]) | (refine RS.cL (hp := by exact IH) (h := ?_); refine RS.rn ?_; simp only [RSr_mk]) | (refine RS.cV (hp := by exact IH) (h := ?_); refine RS.rn ?_; simp only [RSr_mk]) | ((refine WP.cn (fun hc => ?_) (fun hc => ?_)) <;> try exact Bool.noConfusion hc) | (refine WP.skip ?_; try simp only [thenQ_n, blockQ_n]) | (refine WP.exit ?_; try simp only [thenQ_e, blockQ_e, blockQ_o, ne_eq, Nat.reduceEqDiff, not_false_eq_true, reduceCtorEq, thenQ_n, blockQ_n]) | refine WP.block ?_ | (refine WP.ret ?_; (try simp only [thenQ_r, blockQ_r]); refine ret3 ?_))
    refine bool_eq ?_
    rw [hse]
    cases (e.kind == f.kind) <;> cases (e.num == f.num) <;> cases (e.name == f.name) <;> cases Ex.samesB e.kids f.kids <;> rfl
set_option maxRecDepth 100000 in
set_option maxHeartbeats 4000000 in
theorem psSame : ∀ (m : Nat) (s t : St), s.sz ≤ m → s.sz ≤ 1048576 → DPure Tryz.prog 66 [.r (St.at s), .r (St.at t)] (.a (.v (.bool (s.sameB t))))
  | 0, s, _, h, _ => by have := s.sz_pos; omega
  | m + 1, s, t, h, hz0 => by
    have hse := s.sz_eq
    have hl1 := St.szs_len s.body
    have hl2 := St.szs_len s.els
    have hl3 := Ex.szs_len s.args
    have IB := pEqStmt St.sameB s.body t.body 66 (by omega) fun k hk y => psSame m k y (by have := St.body_lt hk; omega) (by have := St.body_lt hk; omega)
    have IE := pEqStmt St.sameB s.els t.els 66 (by omega) fun k hk y => psSame m k y (by have := St.els_lt hk; omega) (by have := St.els_lt hk; omega)
    have IA := pEqExpr Ex.sameB s.args t.args 81 (by omega) fun k hk y => peSame _ k y (Nat.le_refl _) (by have := Ex.szs_mem hk; omega)
    rw [← samesS] at IB IE
    rw [← samesX] at IA
    have hfe := s.same_eq t
    refine DPure.go Tryz.func66 rfl Tryz.ntmps66 rfl rfl rfl (fun C hro => ?_)
    have fx := trivial
    repeat' (first | refine WP.seq ?_ | (refine WP.rg [0, 1, 2, 3, 4, 45] ?_; simp only [RSr_mk]) | refine RS.fnT ?_ | (refine RS.fn ?_; try simp only [thenQ_n, blockQ_n]) | (refine RS.cL (hp := by first | exact IB | exact IE | exact IA | exact peSame _ s.e t.e (Nat.le_refl _) (by omega)) (h := ?_); refine RS.rn ?_; simp only [RSr_mk]) | (refine RS.cV (hp := by first | exact IB | exact IE | exact IA | exact peSame _ s.e t.e (Nat.le_refl _) (by omega)) (h := ?_); refine RS.rn ?_; simp only [RSr_mk]) | ((refine WP.cn (fun hc => ?_) (fun hc => ?_)) <;> try exact Bool.noConfusion hc) | (refine WP.skip ?_; try simp only [thenQ_n, blockQ_n]) | (refine WP.exit ?_; try simp only [thenQ_e, blockQ_e, blockQ_o, ne_eq, Nat.reduceEqDiff, not_false_eq_true, reduceCtorEq, thenQ_n, blockQ_n]) | refine WP.block ?_ | (refine WP.ret ?_; (try simp only [thenQ_r, blockQ_r]); refine ret3 ?_))
    all_goals
      refine bool_eq ?_
      rw [hfe]
      revert hc
      unfold bne
      cases (s.kind == t.kind) <;> cases (s.x == t.x) <;> cases (s.y == t.y) <;> cases (s.name == t.name) <;> cases decide (s.ty = t.ty) <;> cases s.e.sameB t.e <;> simp
    cases Ex.samesB s.args t.args <;> cases St.samesB s.body t.body <;> rfl
set_option maxRecDepth 100000 in
theorem pzVars1 (a b : Vr) : DPure Tryz.prog 64 [.r (Vr.at a), .r (Vr.at b)] (.a (.v (.bool (a.sameB false b)))) := by
  refine DPure.go Tryz.func64 rfl Tryz.ntmps64 rfl rfl rfl (fun C hro => ?_)
  have fx := trivial
  repeat' (first | refine WP.seq ?_ | (refine WP.rg [0, 1, 2, 3, 4] ?_; simp only [RSr_mk]) | refine RS.fnT ?_ | (refine RS.fn ?_; try simp only [thenQ_n, blockQ_n]) | ((refine WP.cn (fun hc => ?_) (fun hc => ?_)) <;> try exact Bool.noConfusion hc) | (refine WP.skip ?_; try simp only [thenQ_n, blockQ_n]) | (refine WP.exit ?_; try simp only [thenQ_e, blockQ_e, blockQ_o, ne_eq, Nat.reduceEqDiff, not_false_eq_true, reduceCtorEq, thenQ_n, blockQ_n]) | refine WP.block ?_ | (refine WP.ret ?_; (try simp only [thenQ_r, blockQ_r]); refine ret3 ?_))
  refine bool_eq ?_
  unfold Vr.sameB
  cases (a.name == b.name) <;> cases decide (a.ty = b.ty) <;> rfl
set_option maxRecDepth 100000 in
theorem pzVars (l m : List Vr) (hn : l.length ≤ 1048576) : DPure Tryz.prog 43 [.a (.sl (l.map Vr.at)), .a (.sl (m.map Vr.at))] (.a (.v (.bool (varsSameB false l m)))) := by
  refine DPure.go Tryz.func43 rfl Tryz.ntmps43 rfl rfl rfl (fun C hro => ?_)
  have fx := trivial
  repeat' (first | refine WP.seq ?_ | (refine WP.rg [0, 1, 4] ?_; simp only [RSr_mk]) | refine RS.fnT ?_ | (refine RS.fn ?_; try simp only [thenQ_n, blockQ_n]) | (refine RS.cL (hp := by exact pEqVar (Vr.sameB false) l m _ hn fun k _ y => pzVars1 k y) (h := ?_); refine RS.rn ?_; simp only [RSr_mk]) | (refine RS.cV (hp := by exact pEqVar (Vr.sameB false) l m _ hn fun k _ y => pzVars1 k y) (h := ?_); refine RS.rn ?_; simp only [RSr_mk]) | ((refine WP.cn (fun hc => ?_) (fun hc => ?_)) <;> try exact Bool.noConfusion hc) | (refine WP.skip ?_; try simp only [thenQ_n, blockQ_n]) | (refine WP.exit ?_; try simp only [thenQ_e, blockQ_e, blockQ_o, ne_eq, Nat.reduceEqDiff, not_false_eq_true, reduceCtorEq, thenQ_n, blockQ_n]) | refine WP.block ?_ | (refine WP.ret ?_; (try simp only [thenQ_r, blockQ_r]); refine ret3 ?_))
  rfl
set_option maxRecDepth 100000 in
set_option maxHeartbeats 4000000 in
theorem pzMethod (a b : Me) (hz : a.sz ≤ 1048576) : DPure Tryz.prog 45 [.r (Me.at a), .r (Me.at b)] (.a (.v (.bool (a.likeB false b)))) := by
  obtain ⟨z1, z2, z3, z4, z5, z6⟩ := Me.szH hz
  have hl1 := St.szs_len a.body
  have IB := pEqStmt St.sameB a.body b.body 66 (by omega) fun k hk y => psSame _ k y (Nat.le_refl _) (by have := St.szs_mem hk; omega)
  rw [← samesS] at IB
  refine DPure.go Tryz.func45 rfl Tryz.ntmps45 rfl rfl rfl (fun C hro => ?_)
  have fx := trivial
  repeat' (first | refine WP.seq ?_ | (refine WP.rg [0, 1, 2, 3, 4] ?_; simp only [RSr_mk]) | refine RS.fnT ?_ | (refine RS.fn ?_; try simp only [thenQ_n, blockQ_n]) | (refine RS.cL (hp := by first | exact IB | exact pzVars _ _ (by omega)) (h := ?_); refine RS.rn ?_; simp only [RSr_mk]) | (refine RS.cV (hp := by first | exact IB | exact pzVars _ _ (by omega)) (h := ?_); refine RS.rn ?_; simp only [RSr_mk]) | ((refine WP.cn (fun hc => ?_) (fun hc => ?_)) <;> try exact Bool.noConfusion hc) | (refine WP.skip ?_; try simp only [thenQ_n, blockQ_n]) | (refine WP.exit ?_; try simp only [thenQ_e, blockQ_e, blockQ_o, ne_eq, Nat.reduceEqDiff, not_false_eq_true, reduceCtorEq, thenQ_n, blockQ_n]) | refine WP.block ?_ | (refine WP.ret ?_; (try simp only [thenQ_r, blockQ_r]); refine ret3 ?_))
  refine bool_eq ?_
  unfold Me.likeB
  cases (a.name == b.name) <;> cases (a.pure_ == b.pure_) <;> cases decide (a.ret = b.ret) <;> cases varsSameB false a.params b.params <;> cases varsSameB false a.locals b.locals <;> cases St.samesB a.body b.body <;> rfl
set_option maxRecDepth 100000 in
set_option maxHeartbeats 4000000 in
theorem pzClass (a b : Cs) (hz : a.sz ≤ 1048576) : DPure Tryz.prog 28 [.r (Cs.at a), .r (Cs.at b)] (.a (.v (.bool (a.oneB false b)))) := by
  obtain ⟨z1, z2, z3, z4, z5, z6, z7, z8, z9⟩ := Cs.szH hz
  have IM := pEqMeth (Me.likeB false) a.methods b.methods 45 (by omega) fun k hk y => pzMethod k y (by have := sumOf_mem (f := Me.sz) hk; omega)
  refine DPure.go Tryz.func28 rfl Tryz.ntmps28 rfl rfl rfl (fun C hro => ?_)
  have fx := trivial
  repeat' (first | refine WP.seq ?_ | (refine WP.rg [0, 1, 2, 3, 4] ?_; simp only [RSr_mk]) | refine RS.fnT ?_ | (refine RS.fn ?_; try simp only [thenQ_n, blockQ_n]) | (refine RS.cL (hp := by first | exact IM | exact pzVars _ _ (by omega) | exact pEqlStr _ _ (by omega) | exact pEqlOwn _ _ (by omega)) (h := ?_); refine RS.rn ?_; simp only [RSr_mk]) | (refine RS.cV (hp := by first | exact IM | exact pzVars _ _ (by omega) | exact pEqlStr _ _ (by omega) | exact pEqlOwn _ _ (by omega)) (h := ?_); refine RS.rn ?_; simp only [RSr_mk]) | ((refine WP.cn (fun hc => ?_) (fun hc => ?_)) <;> try exact Bool.noConfusion hc) | (refine WP.skip ?_; try simp only [thenQ_n, blockQ_n]) | (refine WP.exit ?_; try simp only [thenQ_e, blockQ_e, blockQ_o, ne_eq, Nat.reduceEqDiff, not_false_eq_true, reduceCtorEq, thenQ_n, blockQ_n]) | refine WP.block ?_ | (refine WP.ret ?_; (try simp only [thenQ_r, blockQ_r]); refine ret3 ?_))
  refine bool_eq ?_
  unfold Cs.oneB
  have hc : ∀ x y : Nat, ((x : Int) != (y : Int)) = !(x == y) := fun x y => by
    unfold bne
    rw [show ((x : Int) == (y : Int)) = (x == y) by rw [Bool.eq_iff_iff]; simp; omega]
  rw [hc, hc, hc]
  cases (a.name == b.name) <;> cases (a.super == b.super) <;> cases (a.params.length == b.params.length) <;> cases (a.above.length == b.above.length) <;> cases (a.methods.length == b.methods.length) <;> cases ((a.params.zip b.params).all fun p => p.1 == p.2) <;> cases ((a.above.zip b.above).all fun p => p.1 == p.2) <;> cases ((a.methods.zip b.methods).all fun p => p.1.likeB false p.2) <;> cases varsSameB false a.fields b.fields <;> rfl
set_option maxRecDepth 100000 in
theorem pzSame (l m : List Cs) (hz : sumOf Cs.sz l ≤ 1048576) : DPure Tryz.prog 10 [.a (.sl (l.map Cs.at)), .a (.sl (m.map Cs.at))] (.a (.v (.bool (likeB false l m)))) := by
  have hn := sumOf_len Cs.sz_pos l
  refine DPure.go Tryz.func10 rfl Tryz.ntmps10 rfl rfl rfl (fun C hro => ?_)
  have fx := trivial
  repeat' (first | refine WP.seq ?_ | (refine WP.rg [0, 1, 4] ?_; simp only [RSr_mk]) | refine RS.fnT ?_ | (refine RS.fn ?_; try simp only [thenQ_n, blockQ_n]) | (refine RS.cL (hp := by exact pEqClass (Cs.oneB false) l m _ (by omega) fun k hk y => pzClass k y (by have := sumOf_mem (f := Cs.sz) hk; omega)) (h := ?_); refine RS.rn ?_; simp only [RSr_mk]) | (refine RS.cV (hp := by exact pEqClass (Cs.oneB false) l m _ (by omega) fun k hk y => pzClass k y (by have := sumOf_mem (f := Cs.sz) hk; omega)) (h := ?_); refine RS.rn ?_; simp only [RSr_mk]) | ((refine WP.cn (fun hc => ?_) (fun hc => ?_)) <;> try exact Bool.noConfusion hc) | (refine WP.skip ?_; try simp only [thenQ_n, blockQ_n]) | (refine WP.exit ?_; try simp only [thenQ_e, blockQ_e, blockQ_o, ne_eq, Nat.reduceEqDiff, not_false_eq_true, reduceCtorEq, thenQ_n, blockQ_n]) | refine WP.block ?_ | (refine WP.ret ?_; (try simp only [thenQ_r, blockQ_r]); refine ret3 ?_))
  rfl
end Go.Proofs.YtiokbbjejchfbaaGreatDoor
namespace Go.Proofs.YtiokbbjejchfbaaGreatDoor
open Go.RowKit
theorem pwName (t : List UInt8) (h : t.length ≤ 1000000000) : DPure Tryz.prog 48 [.a (.v (.string (bs t)))] (.a (.v (.bool (nameB t)))) := by
  have := DPure.scal (P := Tryz.prog) (f := 48) (xs := [.string (bs t)]) (z := .bool (nameB t)) (callFunc_of Tryz.func48 rfl rfl) rfl fun w hw => by
    have := wName_any w (bs t) h (hw w (Nat.le_refl _) fun _ _ => rfl)
    rw [bs_data] at this
    exact this
  exact this
set_option maxRecDepth 100000 in
set_option maxHeartbeats 4000000 in
theorem psNone (e : Ex) (hz : e.sz ≤ 1048576) : DPure Tryz.prog 100 [.r (Ex.at e)] (.a (.v (.bool (e.sameB Ex.zero)))) := by
  refine DPure.go Tryz.func100 rfl Tryz.ntmps100 rfl rfl rfl (fun C hro => ?_)
  have fx := trivial
  repeat' (first | refine WP.seq ?_ | (refine WP.rg [0, 1, 2] ?_; simp only [RSr_mk]) | refine RS.fnT ?_ | (refine RS.fn ?_; try simp only [thenQ_n, blockQ_n]) | (refine RS.cL (hp := by exact peSame _ e Ex.zero (Nat.le_refl _) hz) (h := ?_); refine RS.rn ?_; simp only [RSr_mk]) | (refine RS.cV (hp := by exact peSame _ e Ex.zero (Nat.le_refl _) hz) (h := ?_); refine RS.rn ?_; simp only [RSr_mk]) | ((refine WP.cn (fun hc => ?_) (fun hc => ?_)) <;> try exact Bool.noConfusion hc) | (refine WP.skip ?_; try simp only [thenQ_n, blockQ_n]) | (refine WP.exit ?_; try simp only [thenQ_e, blockQ_e, blockQ_o, ne_eq, Nat.reduceEqDiff, not_false_eq_true, reduceCtorEq, thenQ_n, blockQ_n]) | refine WP.block ?_ | (refine WP.ret ?_; (try simp only [thenQ_r, blockQ_r]); refine ret3 ?_))
  rfl
theorem deep_kids (e : Ex) (left : Int) (h : 0 < left) : (!e.kids.any fun k => !decide ((k.deep : Int) ≤ left - 1)) = decide ((e.deep : Int) ≤ left) := by
  have hd := e.deep_eq
  have up : ∀ l : List Ex, (∀ x ∈ l, (x.deep : Int) ≤ left - 1) → (Ex.deeps l : Int) ≤ left - 1 := by
    intro l
    induction l with
    | nil => intro _; rw [Ex.deeps]; omega
    | cons x r ih => intro hx; rw [Ex.deeps]; have := hx x (by simp); have := ih fun y hy => hx y (by simp [hy]); omega
  have dn : ∀ (l : List Ex) (x : Ex), x ∈ l → x.deep ≤ Ex.deeps l := by
    intro l x
    induction l with
    | nil => intro h; simp at h
    | cons y r ih =>
      intro h; rw [Ex.deeps]
      rcases List.mem_cons.1 h with rfl | h
      · omega
      · have := ih h; omega
  by_cases hk : (e.deep : Int) ≤ left
  · rw [decide_eq_true hk, Bool.not_eq_true', List.any_eq_false]
    intro x hx
    have := dn _ _ hx
    rw [decide_eq_true (by omega)]; simp
  · rw [decide_eq_false hk, Bool.not_eq_false', List.any_eq_true]
    apply Classical.byContradiction
    intro hn
    refine hk ?_
    have := up e.kids fun x hx => Classical.byContradiction fun hx2 => hn ⟨x, hx, by rw [decide_eq_false hx2]; rfl⟩
    omega
@[go_sem] theorem clA_val (x : Value) : clA (.v x) = true := rfl
@[go_sem] theorem ldRow_one (y : A) : ldRow none [y] 0 = some (.a y) := rfl
set_option maxRecDepth 100000 in
set_option maxHeartbeats 4000000 in
theorem peDeep : ∀ (m : Nat) (e : Ex) (left : Int), e.sz ≤ m → e.sz ≤ 1048576 → 0 ≤ left → left ≤ 1048576 → DPure Tryz.prog 107 [.r (Ex.at e), .a (.v (.int .i64 left))] (.a (.v (.bool (decide ((e.deep : Int) ≤ left)))))
  | 0, e, _, h, _, _, _ => by have := e.sz_pos; omega
  | m + 1, e, left, h, hz0, h0, h1 => by
    have hlen : e.kids.length ≤ 1048576 := by have := Ex.szs_len e.kids; have := e.sz_eq; omega
    have hd := e.deep_eq
    by_cases hl : left = 0
    · subst hl
      refine DPure.go Tryz.func107 rfl Tryz.ntmps107 rfl rfl rfl (fun C hro => ?_)
      have fx := trivial
      repeat' (first | refine WP.seq ?_ | (refine WP.reg [0, 1, 2, 3, 4, 6] (by kernel_rfl) (by kernel_rfl) ?_; refine RS.run2 (by simp only [go_sem, simprocAttr, thenQ_n, beq_self_eq_true]; first | done | rfl) ?_; simp only [RSr_mk]) | (first | refine RS.finT (by simp only [go_sem, simprocAttr]; first | done | rfl) ?_ | refine RS.fin (by simp only [go_sem, simprocAttr]; first | done | rfl) ?_; (try simp only [thenQ_n, blockQ_n])) | (refine RS.callL (by simp only [go_sem, simprocAttr, thenQ_n, beq_self_eq_true]; first | done | rfl) (by simp only [go_sem, simprocAttr, List.all_cons, List.all_nil, Bool.and_true, thenQ_n, beq_self_eq_true]) (by fail) ?_; refine RS.run2 (by simp only [go_sem, simprocAttr, thenQ_n, beq_self_eq_true]; first | done | rfl) ?_; simp only [RSr_mk]) | (refine RS.callvL (by simp only [go_sem, simprocAttr, thenQ_n, beq_self_eq_true]; first | done | rfl) (by simp only [go_sem, simprocAttr, thenQ_n, beq_self_eq_true]; first | done | rfl) (by simp only [go_sem, simprocAttr, List.all_cons, List.all_nil, Bool.and_true, thenQ_n, beq_self_eq_true]) (by fail) ?_; refine RS.run2 (by simp only [go_sem, simprocAttr, thenQ_n, beq_self_eq_true]; first | done | rfl) ?_; simp only [RSr_mk]) | ((refine WP.cond rfl (by simp only [go_sem, simprocAttr, thenQ_n, beq_self_eq_true]; first | done | rfl) (fun hc => ?_) (fun hc => ?_)) <;> try exact Bool.noConfusion hc) | (refine WP.skip ?_; (try simp only [thenQ_n, blockQ_n])) | (refine WP.exit ?_; (try simp only [thenQ_e, blockQ_e, blockQ_o, ne_eq, Nat.reduceEqDiff, not_false_eq_true, reduceCtorEq, thenQ_n, blockQ_n])) | refine WP.block ?_ | (refine WP.ret ?_; (try simp only [thenQ_r, blockQ_r]); refine ret1 rfl (by simp only [go_sem, simprocAttr, thenQ_n, beq_self_eq_true]; first | done | rfl) (by simp only [go_sem, thenQ_n, beq_self_eq_true]) ?_) | (fail; simp only [List.take_succ_cons, List.take_zero, List.drop_succ_cons, List.drop_zero, List.take_nil, List.drop_nil]; refine RQ.run2 (by simp only [go_sem, simprocAttr, thenQ_n, beq_self_eq_true]; first | done | rfl) ?_; simp only [RQr_mk]) | (refine RQ.nil ?_; refine RS.run2 (by simp only [go_sem, simprocAttr, thenQ_n, beq_self_eq_true]; first | done | rfl) ?_; simp only [RSr_mk]) | (refine RQ.callL (by simp only [go_sem, simprocAttr, thenQ_n, beq_self_eq_true]; first | done | rfl) (by simp only [go_sem, simprocAttr, List.all_cons, List.all_nil, Bool.and_true, thenQ_n, beq_self_eq_true]) (by fail) ?_; refine RQ.run2 (by simp only [go_sem, simprocAttr, thenQ_n, beq_self_eq_true]; first | done | rfl) ?_; simp only [RQr_mk]) | (refine RQ.callvL (by simp only [go_sem, simprocAttr, thenQ_n, beq_self_eq_true]; first | done | rfl) (by simp only [go_sem, simprocAttr, thenQ_n, beq_self_eq_true]; first | done | rfl) (by simp only [go_sem, simprocAttr, List.all_cons, List.all_nil, Bool.and_true, thenQ_n, beq_self_eq_true]) (by fail) ?_; refine RQ.run2 (by simp only [go_sem, simprocAttr, thenQ_n, beq_self_eq_true]; first | done | rfl) ?_; simp only [RQr_mk]))
      refine bool_eq ?_
      rw [eq_comm, decide_eq_false_iff_not]; omega
    · have hlb : (left == 0) = false := by simpa using hl
      have hwl : IntKind.i64.wrap (left - 1) = left - 1 := wrap64 (by omega) (by omega)
      have IH : ∀ k ∈ e.kids, DPure Tryz.prog 107 [.r (Ex.at k), .a (.v (.int .i64 (left - 1)))] (.a (.v (.bool (decide ((k.deep : Int) ≤ left - 1))))) := fun k hk => peDeep m k _ (by have := Ex.kid_lt hk; omega) (by have := Ex.kid_lt hk; omega) (by omega) (by omega)
      have I1 : ∀ k ∈ e.kids, DPure Tryz.prog 112 [.r (Ex.at k), .a (.ref [.v (.int .i64 left)] 0)] (.a (.v (.bool (!decide ((k.deep : Int) ≤ left - 1))))) := fun k hk => by
        have := IH k hk
        refine DPure.go Tryz.func112 rfl Tryz.ntmps112 rfl rfl rfl (fun C hro => ?_)
        have fx := trivial
        replace fx := And.intro hwl trivial
        repeat' (first | refine WP.seq ?_ | (refine WP.rg [0, 1, 2, 3] ?_; simp only [RSr_mk]) | refine RS.fnT ?_ | (refine RS.fn ?_; try simp only [thenQ_n, blockQ_n]) | (refine RS.cL (hp := by exact this) (h := ?_); refine RS.rn ?_; simp only [RSr_mk]) | (refine RS.cV (hp := by exact this) (h := ?_); refine RS.rn ?_; simp only [RSr_mk]) | ((refine WP.cn (fun hc => ?_) (fun hc => ?_)) <;> try exact Bool.noConfusion hc) | (refine WP.skip ?_; try simp only [thenQ_n, blockQ_n]) | (refine WP.exit ?_; try simp only [thenQ_e, blockQ_e, blockQ_o, ne_eq, Nat.reduceEqDiff, not_false_eq_true, reduceCtorEq, thenQ_n, blockQ_n]) | refine WP.block ?_ | (refine WP.ret ?_; (try simp only [thenQ_r, blockQ_r]); refine ret3 ?_))
        rfl
      refine DPure.go Tryz.func107 rfl Tryz.ntmps107 rfl rfl rfl (fun C hro => ?_)
      have fx := trivial
      replace fx := And.intro hlb trivial
      repeat' (first | refine WP.seq ?_ | (refine WP.rg [0, 1, 2, 3, 4, 6] ?_; simp only [RSr_mk]) | refine RS.fnT ?_ | (refine RS.fn ?_; try simp only [thenQ_n, blockQ_n]) | (refine RS.cL (hp := by exact pCfExpr (fun k => !decide ((k.deep : Int) ≤ left - 1)) e.kids 112 [.ref [.v (.int .i64 left)] 0] rfl hlen I1) (h := ?_); refine RS.rn ?_; simp only [RSr_mk]) | (refine RS.cV (hp := by exact pCfExpr (fun k => !decide ((k.deep : Int) ≤ left - 1)) e.kids 112 [.ref [.v (.int .i64 left)] 0] rfl hlen I1) (h := ?_); refine RS.rn ?_; simp only [RSr_mk]) | ((refine WP.cn (fun hc => ?_) (fun hc => ?_)) <;> try exact Bool.noConfusion hc) | (refine WP.skip ?_; try simp only [thenQ_n, blockQ_n]) | (refine WP.exit ?_; try simp only [thenQ_e, blockQ_e, blockQ_o, ne_eq, Nat.reduceEqDiff, not_false_eq_true, reduceCtorEq, thenQ_n, blockQ_n]) | refine WP.block ?_ | (refine WP.ret ?_; (try simp only [thenQ_r, blockQ_r]); refine ret3 ?_))
      exact bool_eq (deep_kids e left (by omega))
end Go.Proofs.YtiokbbjejchfbaaGreatDoor
namespace Go.Proofs.YtiokbbjejchfbaaGreatDoor
open Go.RowKit
/-- expr.kids: how many a kind has. -/
def kidsP (k : Int) : Int := if k = 1 ∨ k = 2 ∨ k = 3 ∨ k = 4 ∨ k = 5 then 0 else if k = 12 ∨ k = 13 then 1 else if k = 6 ∨ k = 7 ∨ k = 8 ∨ k = 9 ∨ k = 10 ∨ k = 11 ∨ k = 14 then 2 else -1
set_option maxRecDepth 100000 in
set_option maxHeartbeats 4000000 in
theorem peKids (k : Int) : DPure Tryz.prog 115 [.a (.v (.int .i64 k))] (.a (.v (.int .i64 (kidsP k)))) := by
  by_cases hin : 1 ≤ k ∧ k ≤ 14
  · have : k = 1 ∨ k = 2 ∨ k = 3 ∨ k = 4 ∨ k = 5 ∨ k = 6 ∨ k = 7 ∨ k = 8 ∨ k = 9 ∨ k = 10 ∨ k = 11 ∨ k = 12 ∨ k = 13 ∨ k = 14 := by omega
    clear hin
    rcases this with rfl | rfl | rfl | rfl | rfl | rfl | rfl | rfl | rfl | rfl | rfl | rfl | rfl | rfl
    all_goals
      refine DPure.go Tryz.func115 rfl Tryz.ntmps115 rfl rfl rfl (fun C hro => ?_)
      have fx := trivial
      repeat' (first | refine WP.seq ?_ | (refine WP.rg [0, 2, 3, 4, 10, 13] ?_; simp only [RSr_mk]) | refine RS.fnT ?_ | (refine RS.fn ?_; try simp only [thenQ_n, blockQ_n]) | ((refine WP.cn (fun hc => ?_) (fun hc => ?_)) <;> try exact Bool.noConfusion hc) | (refine WP.skip ?_; try simp only [thenQ_n, blockQ_n]) | (refine WP.exit ?_; try simp only [thenQ_e, blockQ_e, blockQ_o, ne_eq, Nat.reduceEqDiff, not_false_eq_true, reduceCtorEq, thenQ_n, blockQ_n]) | refine WP.block ?_ | (refine WP.ret ?_; (try simp only [thenQ_r, blockQ_r]); refine ret3 ?_))
      rfl
  · have h1 := beqF (show k ≠ 1 by omega)
    have h2 := beqF (show k ≠ 2 by omega)
    have h3 := beqF (show k ≠ 3 by omega)
    have h4 := beqF (show k ≠ 4 by omega)
    have h5 := beqF (show k ≠ 5 by omega)
    have h6 := beqF (show k ≠ 6 by omega)
    have h7 := beqF (show k ≠ 7 by omega)
    have h8 := beqF (show k ≠ 8 by omega)
    have h9 := beqF (show k ≠ 9 by omega)
    have h10 := beqF (show k ≠ 10 by omega)
    have h11 := beqF (show k ≠ 11 by omega)
    have h12 := beqF (show k ≠ 12 by omega)
    have h13 := beqF (show k ≠ 13 by omega)
    have h14 := beqF (show k ≠ 14 by omega)
    refine DPure.go Tryz.func115 rfl Tryz.ntmps115 rfl rfl rfl (fun C hro => ?_)
    have fx := trivial
    replace fx := And.intro h1 (And.intro h2 (And.intro h3 (And.intro h4 (And.intro h5 (And.intro h6 (And.intro h7 (And.intro h8 (And.intro h9 (And.intro h10 (And.intro h11 (And.intro h12 (And.intro h13 (And.intro h14 trivial)))))))))))))
    repeat' (first | refine WP.seq ?_ | (refine WP.rg [0, 2, 3, 4, 10, 13] ?_; simp only [RSr_mk]) | refine RS.fnT ?_ | (refine RS.fn ?_; try simp only [thenQ_n, blockQ_n]) | ((refine WP.cn (fun hc => ?_) (fun hc => ?_)) <;> try exact Bool.noConfusion hc) | (refine WP.skip ?_; try simp only [thenQ_n, blockQ_n]) | (refine WP.exit ?_; try simp only [thenQ_e, blockQ_e, blockQ_o, ne_eq, Nat.reduceEqDiff, not_false_eq_true, reduceCtorEq, thenQ_n, blockQ_n]) | refine WP.block ?_ | (refine WP.ret ?_; (try simp only [thenQ_r, blockQ_r]); refine ret3 ?_))
    refine int_eq ?_
    unfold kidsP
    rw [if_neg (by omega), if_neg (by omega), if_neg (by omega)]
end Go.Proofs.YtiokbbjejchfbaaGreatDoor
