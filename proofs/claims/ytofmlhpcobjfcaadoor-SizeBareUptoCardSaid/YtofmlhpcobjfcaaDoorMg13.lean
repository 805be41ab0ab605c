/- The document's expressions on plain data: how deep, whether they may be. Conditions: at most 2^20 of anything. -/
import Derived.Test.YtofmlhpcobjfcaaDoorMg12
set_option linter.unusedVariables false
set_option linter.unusedSimpArgs false
namespace Go.Proofs.YtofmlhpcobjfcaaDoor
open Go.RowKit
set_option maxRecDepth 100000 in
set_option maxHeartbeats 4000000 in
theorem pESame : ∀ (m : Nat) (e f : Ex), e.sz ≤ m → e.sz ≤ 1048576 → DPure Tryd.prog 106 [.r (Ex.at e), .r (Ex.at f)] (.a (.v (.bool (e.sameB f))))
  | 0, e, _, h, _ => by have := e.sz_pos; omega
  | m + 1, e, f, h, hz0 => by
    have IH : ∀ k ∈ e.kids, ∀ q, DPure Tryd.prog 106 [.r (Ex.at k), .r (Ex.at q)] (.a (.v (.bool (k.sameB q)))) := fun k hk q => pESame m k q (by have := Ex.kid_lt hk; omega) (by have := Ex.kid_lt hk; omega)
    have hlen : e.kids.length ≤ 1048576 := by have := Ex.szs_len e.kids; have := e.sz_eq; omega
    have hse := e.same_eq f
    refine DPure.go Tryd.func106 rfl Tryd.ntmps106 rfl rfl rfl (fun C hro => ?_)
    have fx := trivial
    repeat' (first | refine WP.seq ?_ | (refine WP.rg [0, 1, 2, 3, 4, 5, 33, 38, 52] ?_; simp only [RSr_mk]) | refine RS.fnT ?_ | (refine RS.fn ?_; try simp only [thenQ_n, blockQ_n]) | ((refine WP.cn (fun hc => ?_) (fun hc => ?_)) <;> try exact Bool.noConfusion hc) | (refine WP.skip ?_; try simp only [thenQ_n, blockQ_n]) | (refine WP.exit ?_; try simp only [thenQ_e, blockQ_e, blockQ_o, ne_eq, Nat.reduceEqDiff, not_false_eq_true, reduceCtorEq, thenQ_n, blockQ_n]) | refine WP.block ?_ | (refine WP.ret ?_; (try simp only [thenQ_r, blockQ_r]); refine ret3 ?_) | ((first | refine WP.dw (id := 6) 12 [0, 1, 2, 3, 4, 5, 33, 38, 52] ?_); simp only [RQr_mk, List.drop_succ_cons, List.drop_zero, List.drop_nil]) | (refine RQ.nil ?_; refine RS.rn ?_; simp only [RSr_mk]))
    · refine bool_eq ?_
      rw [hse]
      by_cases hl : e.kids.length = f.kids.length
      · have h4 : ((e.kids.length : Int) != (f.kids.length : Int)) = false := by simp [hl]
        rw [h4, Bool.or_false] at hc
        cases h1 : (e.kind == f.kind) <;> cases h2 : (e.num == f.num) <;> cases h3 : (e.name == f.name) <;> simp_all [bne]
      · rw [Ex.samesB_len hl]; simp
    have hl : e.kids.length = f.kids.length := by
      simp only [Bool.or_eq_false_iff, bne_eq_false_iff_eq] at hc; omega
    have hse : e.sameB f = (e.kids.zip f.kids).all fun p => p.1.sameB p.2 := by
      rw [hse, Ex.samesB_zip hl]
      simp only [Bool.or_eq_false_iff, bne_eq_false_iff_eq, Bool.not_eq_false'] at hc
      simp [hc.1.1.1, hc.1.1.2, hc.1.2]
    refine WP.loop (α := { k : Nat // k ≤ e.kids.length ∧ ((e.kids.zip f.kids).take k).all (fun p => p.1.sameB p.2) = true }) (fun y => [(2, .a (.ptr 0 0)), (3, .a (.ptr 1 0)), (5, .a (.v (.int .i64 y.1)))]) (fun _ => [.cell (Ex.at e), .cell (Ex.at f)]) (fun y => e.kids.length - y.1) ⟨0, by omega, rfl⟩ (by simp only [Agree, go_sem, simprocAttr]) rfl ?_
    rintro ⟨k, hk, hinv⟩
    dsimp only
    by_cases hlt : k < e.kids.length
    · have hlt2 : decide ((k : Int) < ((e.kids.length : Nat) : Int)) = true := decide_eq_true (by omega)
      obtain ⟨z, hz⟩ : ∃ z, e.kids[k]? = some z := ⟨_, List.getElem?_eq_getElem hlt⟩
      have hzm : z ∈ e.kids := List.mem_of_getElem? hz
      have hzt := take_snocA hz
      have hix : ∀ q2, ixD (some 4) q2 (.a (.sl (e.kids.map Ex.at))) (.a (.v (.int .i64 (k : Int)))) = some (.a (.ref (Ex.at z) 0)) := fun q2 => ixD_at rfl (by rw [List.getElem?_map, hz]; rfl) (by simp only [go_sem])
      obtain ⟨v, hv⟩ : ∃ z, f.kids[k]? = some z := ⟨_, List.getElem?_eq_getElem (by omega)⟩
      have hvm : v ∈ f.kids := List.mem_of_getElem? hv
      have hiy : ∀ q2, ixD (some 4) q2 (.a (.sl (f.kids.map Ex.at))) (.a (.v (.int .i64 (k : Int)))) = some (.a (.ref (Ex.at v) 0)) := fun q2 => ixD_at rfl (by rw [List.getElem?_map, hv]; rfl) (by simp only [go_sem])
      have hw : k < 9223372036854775807 := by omega
      have hzv : (e.kids.zip f.kids)[k]? = some (z, v) := by rw [List.getElem?_zip_eq_some]; exact ⟨hz, hv⟩
      replace fx := And.intro hlt2 (And.intro hix (And.intro hiy (And.intro hw trivial)))
      repeat' (first | refine WP.seq ?_ | (refine WP.rg [0, 1, 2, 3, 4, 5, 33, 38, 52] ?_; simp only [RSr_mk]) | refine RS.fnT ?_ | (refine RS.fn ?_; try simp only [thenQ_n, blockQ_n]) | (refine RS.cl (hp := by exact IH _ hzm _) (h := ?_); refine RS.rn ?_; simp only [RSr_mk]) | ((refine WP.cn (fun hc => ?_) (fun hc => ?_)) <;> try exact Bool.noConfusion hc) | (refine WP.skip ?_; try simp only [thenQ_n, blockQ_n]) | (refine WP.exit ?_; try simp only [thenQ_e, blockQ_e, blockQ_o, ne_eq, Nat.reduceEqDiff, not_false_eq_true, reduceCtorEq, thenQ_n, blockQ_n]) | refine WP.block ?_ | (refine WP.ret ?_; (try simp only [thenQ_r, blockQ_r]); refine ret3 ?_) | ((first | refine WP.dw (id := 6) 12 [0, 1, 2, 3, 4, 5, 33, 38, 52] ?_); simp only [RQr_mk, List.drop_succ_cons, List.drop_zero, List.drop_nil]) | (refine RQ.nil ?_; refine RS.rn ?_; simp only [RSr_mk]) | (refine RQ.cl (hp := by exact IH _ hzm _) (h := ?_); refine RQ.rn ?_; simp only [RQr_mk]))
      · refine bool_eq ?_
        rw [hse, eq_comm, List.all_eq_false]
        exact ⟨(z, v), List.mem_of_getElem? hzv, by simpa using hc⟩
      · refine ⟨⟨k + 1, by omega, ?_⟩, by dsimp only; omega, ?_, rfl⟩
        · rw [take_snocA hzv, List.all_append, hinv]; simpa using hc
        · simp only [Agree, go_sem, simprocAttr]
    · obtain rfl : k = e.kids.length := by omega
      have hlt2 : decide ((e.kids.length : Int) < (e.kids.length : Int)) = false := decide_eq_false (by omega)
      replace fx := And.intro hlt2 trivial
      repeat' (first | refine WP.seq ?_ | (refine WP.rg [0, 1, 2, 3, 4, 5, 33, 38, 52] ?_; simp only [RSr_mk]) | refine RS.fnT ?_ | (refine RS.fn ?_; try simp only [thenQ_n, blockQ_n]) | ((refine WP.cn (fun hc => ?_) (fun hc => ?_)) <;> try exact Bool.noConfusion hc) | (refine WP.skip ?_; try simp only [thenQ_n, blockQ_n]) | (refine WP.exit ?_; try simp only [thenQ_e, blockQ_e, blockQ_o, ne_eq, Nat.reduceEqDiff, not_false_eq_true, reduceCtorEq, thenQ_n, blockQ_n]) | refine WP.block ?_ | (refine WP.ret ?_; (try simp only [thenQ_r, blockQ_r]); refine ret3 ?_) | ((first | refine WP.dw (id := 6) 12 [0, 1, 2, 3, 4, 5, 33, 38, 52] ?_); simp only [RQr_mk, List.drop_succ_cons, List.drop_zero, List.drop_nil]) | (refine RQ.nil ?_; refine RS.rn ?_; simp only [RSr_mk]))
      rw [List.take_of_length_le (by rw [List.length_zip]; omega)] at hinv
      exact bool_eq (by rw [hse, hinv])
end Go.Proofs.YtofmlhpcobjfcaaDoor
namespace Go.Proofs.YtofmlhpcobjfcaaDoor
open Go.RowKit
namespace St
def rightB (s : St) (p : Int) : Bool := formB p s && decide (s.deep ≤ 20)
end St
end Go.Proofs.YtofmlhpcobjfcaaDoor
