/- The document's statements on plain data. Conditions: at most 2^20 of anything. -/
import Derived.Test.YtofmlhpcobjfcaaDoorMg13
import Derived.Test.YtofmlhpcobjfcaaDoorMg14
set_option linter.unusedVariables false
set_option linter.unusedSimpArgs false
namespace Go.Proofs.YtofmlhpcobjfcaaDoor
open Go.RowKit
set_option maxRecDepth 100000 in
set_option maxHeartbeats 4000000 in
theorem pSize : ∀ (m : Nat) (s : St), s.sz ≤ m → s.sz ≤ 1048576 → DPure Tryd.prog 22 [.r (St.at s)] (.a (.v (.int .i64 s.cnt)))
  | 0, s, h, _ => by have := s.sz_pos; omega
  | m + 1, s, h, hz0 => by
    have IB : ∀ k ∈ s.body, DPure Tryd.prog 22 [.r (St.at k)] (.a (.v (.int .i64 k.cnt))) := fun k hk => pSize m k (by have := St.body_lt hk; omega) (by have := St.body_lt hk; omega)
    have IE : ∀ k ∈ s.els, DPure Tryd.prog 22 [.r (St.at k)] (.a (.v (.int .i64 k.cnt))) := fun k hk => pSize m k (by have := St.els_lt hk; omega) (by have := St.els_lt hk; omega)
    have hse := s.sz_eq
    have hl1 := St.szs_len s.body
    have hl2 := St.szs_len s.els
    have hce := s.cnt_eq
    have hcl := (St.deep_le s.sz s (Nat.le_refl _)).2
    refine DPure.go Tryd.func22 rfl Tryd.ntmps22 rfl rfl rfl (fun C hro => ?_)
    have fx := trivial
    repeat' (first | refine WP.seq ?_ | (refine WP.rg [0, 1, 2, 3, 4, 5, 10, 25] ?_; simp only [RSr_mk]) | refine RS.fnT ?_ | (refine RS.fn ?_; try simp only [thenQ_n, blockQ_n]) | ((refine WP.cn (fun hc => ?_) (fun hc => ?_)) <;> try exact Bool.noConfusion hc) | (refine WP.skip ?_; try simp only [thenQ_n, blockQ_n]) | (refine WP.exit ?_; try simp only [thenQ_e, blockQ_e, blockQ_o, ne_eq, Nat.reduceEqDiff, not_false_eq_true, reduceCtorEq, thenQ_n, blockQ_n]) | refine WP.block ?_ | (refine WP.ret ?_; (try simp only [thenQ_r, blockQ_r]); refine ret3 ?_))
    refine WP.loop (α := { k : Nat // k ≤ (s.body).length }) (fun y => [(1, .a (.ptr 0 0)), (3, .a (.v (.int .i64 (1 + St.cnts (s.body.take y.1) : Nat)))), (4, .a (.v (.int .i64 y.1)))]) (fun _ => [.cell (St.at s)]) (fun y => (s.body).length - y.1) ⟨0, by omega⟩ (by simp only [Agree, go_sem, simprocAttr, List.take_zero, St.cnts, St.cnts_app, St.cnts_one]; first | done | (refine congrArg (fun q : Int => D.a (.v (.int .i64 q))) (by omega))) rfl ?_
    rintro ⟨k, hk⟩
    dsimp only
    by_cases hlt : k < (s.body).length
    · have hlt2 : decide ((k : Int) < (((s.body).length : Nat) : Int)) = true := decide_eq_true (by omega)
      obtain ⟨z, hz⟩ : ∃ z, (s.body)[k]? = some z := ⟨_, List.getElem?_eq_getElem hlt⟩
      have hzm : z ∈ (s.body) := List.mem_of_getElem? hz
      have hzt := take_snocA hz
      have hix : ∀ q2, ixD (some 23) q2 (.a (.sl ((s.body).map St.at))) (.a (.v (.int .i64 (k : Int)))) = some (.a (.ref (St.at z) 0)) := fun q2 => ixD_at rfl (by rw [List.getElem?_map, hz]; rfl) (by simp only [go_sem])
      have hw : k < 9223372036854775807 := by omega
      have hT := St.cnts_take s.body (k + 1)
      rw [hzt, St.cnts_app, St.cnts_one] at hT
      have hwS : IntKind.i64.wrap (((1 + St.cnts (s.body.take k) : Nat) : Int) + (z.cnt : Int)) = ((1 + (St.cnts (s.body.take k) + z.cnt) : Nat) : Int) := by rw [wrap64 (by omega) (by omega)]; omega
      replace fx := And.intro hlt2 (And.intro hix (And.intro hw (And.intro hwS trivial)))
      repeat' (first | refine WP.seq ?_ | (refine WP.rg [0, 1, 2, 3, 4, 5, 10, 25] ?_; simp only [RSr_mk]) | refine RS.fnT ?_ | (refine RS.fn ?_; try simp only [thenQ_n, blockQ_n]) | (refine RS.cl (hp := by exact IB _ hzm) (h := ?_); refine RS.rn ?_; simp only [RSr_mk]) | ((refine WP.cn (fun hc => ?_) (fun hc => ?_)) <;> try exact Bool.noConfusion hc) | (refine WP.skip ?_; try simp only [thenQ_n, blockQ_n]) | (refine WP.exit ?_; try simp only [thenQ_e, blockQ_e, blockQ_o, ne_eq, Nat.reduceEqDiff, not_false_eq_true, reduceCtorEq, thenQ_n, blockQ_n]) | refine WP.block ?_ | (refine WP.ret ?_; (try simp only [thenQ_r, blockQ_r]); refine ret3 ?_))
      refine ⟨⟨k + 1, by omega⟩, by dsimp only; omega, ?_, rfl⟩
      simp only [Agree, go_sem, simprocAttr, hzt, St.cnts, St.cnts_app, St.cnts_one]
      first | done | (refine congrArg (fun q : Int => D.a (.v (.int .i64 q))) (by omega))
    obtain rfl : k = (s.body).length := by omega
    have hlt2 : decide (((s.body).length : Int) < ((s.body).length : Int)) = false := decide_eq_false (by omega)
    repeat' (first | refine WP.seq ?_ | (refine WP.reg [0, 1, 2, 3, 4, 5, 10, 25] (by kernel_rfl) (by kernel_rfl) ?_; refine RS.run2 (by simp only [go_sem, simprocAttr, hlt2, List.take_length]; first | done | rfl) ?_; simp only [RSr_mk]) | (first | refine RS.finT (by simp only [go_sem, simprocAttr]; first | done | rfl) ?_ | refine RS.fin (by simp only [go_sem, simprocAttr]; first | done | rfl) ?_; (try simp only [thenQ_n, blockQ_n])) | (refine RS.call (by simp only [go_sem, simprocAttr, hlt2, List.take_length]; first | done | rfl) (by simp only [go_sem, List.all_cons, List.all_nil, Bool.and_true, hlt2, List.take_length]) (by fail) ?_; refine RS.run2 (by simp only [go_sem, simprocAttr, hlt2, List.take_length]; first | done | rfl) ?_; simp only [RSr_mk]) | ((refine WP.cond rfl (by simp only [go_sem, simprocAttr, hlt2, List.take_length]; first | done | rfl) (fun hc => ?_) (fun hc => ?_)) <;> try exact Bool.noConfusion hc) | (refine WP.skip ?_; (try simp only [thenQ_n, blockQ_n])) | (refine WP.exit ?_; (try simp only [thenQ_e, blockQ_e, blockQ_o, ne_eq, Nat.reduceEqDiff, not_false_eq_true, reduceCtorEq, thenQ_n, blockQ_n])) | refine WP.block ?_ | (refine WP.ret ?_; (try simp only [thenQ_r, blockQ_r]); refine ret1 rfl (by simp only [go_sem, simprocAttr, hlt2, List.take_length]; first | done | rfl) (by simp only [go_sem, hlt2, List.take_length]) ?_) | (fail; simp only [List.take_succ_cons, List.take_zero, List.drop_succ_cons, List.drop_zero, List.take_nil, List.drop_nil]; refine RQ.run2 (by simp only [go_sem, simprocAttr, hlt2, List.take_length]; first | done | rfl) ?_; simp only [RQr_mk]) | (refine RQ.nil ?_; refine RS.run2 (by simp only [go_sem, simprocAttr, hlt2, List.take_length]; first | done | rfl) ?_; simp only [RSr_mk]) | (refine RQ.call (by simp only [go_sem, simprocAttr, hlt2, List.take_length]; first | done | rfl) (by simp only [go_sem, List.all_cons, List.all_nil, Bool.and_true, hlt2, List.take_length]) (by fail) ?_; refine RQ.run2 (by simp only [go_sem, simprocAttr, hlt2, List.take_length]; first | done | rfl) ?_; simp only [RQr_mk]))
    refine WP.loop (α := { k : Nat // k ≤ (s.els).length }) (fun y => [(1, .a (.ptr 0 0)), (3, .a (.v (.int .i64 (1 + St.cnts s.body + St.cnts (s.els.take y.1) : Nat)))), (5, .a (.v (.int .i64 y.1)))]) (fun _ => [.cell (St.at s)]) (fun y => (s.els).length - y.1) ⟨0, by omega⟩ (by simp only [Agree, go_sem, simprocAttr, List.take_zero, St.cnts, St.cnts_app, St.cnts_one]; first | done | (refine congrArg (fun q : Int => D.a (.v (.int .i64 q))) (by omega))) rfl ?_
    rintro ⟨k, hk⟩
    dsimp only
    by_cases hlt : k < (s.els).length
    · have hlt2 : decide ((k : Int) < (((s.els).length : Nat) : Int)) = true := decide_eq_true (by omega)
      obtain ⟨z, hz⟩ : ∃ z, (s.els)[k]? = some z := ⟨_, List.getElem?_eq_getElem hlt⟩
      have hzm : z ∈ (s.els) := List.mem_of_getElem? hz
      have hzt := take_snocA hz
      have hix : ∀ q2, ixD (some 23) q2 (.a (.sl ((s.els).map St.at))) (.a (.v (.int .i64 (k : Int)))) = some (.a (.ref (St.at z) 0)) := fun q2 => ixD_at rfl (by rw [List.getElem?_map, hz]; rfl) (by simp only [go_sem])
      have hw : k < 9223372036854775807 := by omega
      have hT := St.cnts_take s.els (k + 1)
      rw [hzt, St.cnts_app, St.cnts_one] at hT
      have hwS : IntKind.i64.wrap (((1 + St.cnts s.body + St.cnts (s.els.take k) : Nat) : Int) + (z.cnt : Int)) = ((1 + St.cnts s.body + (St.cnts (s.els.take k) + z.cnt) : Nat) : Int) := by rw [wrap64 (by omega) (by omega)]; omega
      replace fx := And.intro hlt2 (And.intro hix (And.intro hw (And.intro hwS trivial)))
      repeat' (first | refine WP.seq ?_ | (refine WP.rg [0, 1, 2, 3, 4, 5, 10, 25] ?_; simp only [RSr_mk]) | refine RS.fnT ?_ | (refine RS.fn ?_; try simp only [thenQ_n, blockQ_n]) | (refine RS.cl (hp := by exact IE _ hzm) (h := ?_); refine RS.rn ?_; simp only [RSr_mk]) | ((refine WP.cn (fun hc => ?_) (fun hc => ?_)) <;> try exact Bool.noConfusion hc) | (refine WP.skip ?_; try simp only [thenQ_n, blockQ_n]) | (refine WP.exit ?_; try simp only [thenQ_e, blockQ_e, blockQ_o, ne_eq, Nat.reduceEqDiff, not_false_eq_true, reduceCtorEq, thenQ_n, blockQ_n]) | refine WP.block ?_ | (refine WP.ret ?_; (try simp only [thenQ_r, blockQ_r]); refine ret3 ?_))
      refine ⟨⟨k + 1, by omega⟩, by dsimp only; omega, ?_, rfl⟩
      simp only [Agree, go_sem, simprocAttr, hzt, St.cnts, St.cnts_app, St.cnts_one]
      first | done | (refine congrArg (fun q : Int => D.a (.v (.int .i64 q))) (by omega))
    obtain rfl : k = (s.els).length := by omega
    have hlt2 : decide (((s.els).length : Int) < ((s.els).length : Int)) = false := decide_eq_false (by omega)
    repeat' (first | refine WP.seq ?_ | (refine WP.reg [0, 1, 2, 3, 4, 5, 10, 25] (by kernel_rfl) (by kernel_rfl) ?_; refine RS.run2 (by simp only [go_sem, simprocAttr, hlt2, List.take_length]; first | done | rfl) ?_; simp only [RSr_mk]) | (first | refine RS.finT (by simp only [go_sem, simprocAttr]; first | done | rfl) ?_ | refine RS.fin (by simp only [go_sem, simprocAttr]; first | done | rfl) ?_; (try simp only [thenQ_n, blockQ_n])) | (refine RS.call (by simp only [go_sem, simprocAttr, hlt2, List.take_length]; first | done | rfl) (by simp only [go_sem, List.all_cons, List.all_nil, Bool.and_true, hlt2, List.take_length]) (by fail) ?_; refine RS.run2 (by simp only [go_sem, simprocAttr, hlt2, List.take_length]; first | done | rfl) ?_; simp only [RSr_mk]) | ((refine WP.cond rfl (by simp only [go_sem, simprocAttr, hlt2, List.take_length]; first | done | rfl) (fun hc => ?_) (fun hc => ?_)) <;> try exact Bool.noConfusion hc) | (refine WP.skip ?_; (try simp only [thenQ_n, blockQ_n])) | (refine WP.exit ?_; (try simp only [thenQ_e, blockQ_e, blockQ_o, ne_eq, Nat.reduceEqDiff, not_false_eq_true, reduceCtorEq, thenQ_n, blockQ_n])) | refine WP.block ?_ | (refine WP.ret ?_; (try simp only [thenQ_r, blockQ_r]); refine ret1 rfl (by simp only [go_sem, simprocAttr, hlt2, List.take_length]; first | done | rfl) (by simp only [go_sem, hlt2, List.take_length]) ?_) | (fail; simp only [List.take_succ_cons, List.take_zero, List.drop_succ_cons, List.drop_zero, List.take_nil, List.drop_nil]; refine RQ.run2 (by simp only [go_sem, simprocAttr, hlt2, List.take_length]; first | done | rfl) ?_; simp only [RQr_mk]) | (refine RQ.nil ?_; refine RS.run2 (by simp only [go_sem, simprocAttr, hlt2, List.take_length]; first | done | rfl) ?_; simp only [RSr_mk]) | (refine RQ.call (by simp only [go_sem, simprocAttr, hlt2, List.take_length]; first | done | rfl) (by simp only [go_sem, List.all_cons, List.all_nil, Bool.and_true, hlt2, List.take_length]) (by fail) ?_; refine RQ.run2 (by simp only [go_sem, simprocAttr, hlt2, List.take_length]; first | done | rfl) ?_; simp only [RQr_mk]))
    exact int_eq (by omega)
theorem beqF {k c : Int} (h : k ≠ c) : (k == c) = false := by simpa using h
end Go.Proofs.YtofmlhpcobjfcaaDoor
namespace Go.Proofs.YtofmlhpcobjfcaaDoor
open Go.RowKit
end Go.Proofs.YtofmlhpcobjfcaaDoor
namespace Go.Proofs.YtofmlhpcobjfcaaDoor
open Go.RowKit
set_option maxRecDepth 100000 in
set_option maxHeartbeats 4000000 in
theorem pStList (l m : List St) (hn : l.length ≤ 1048576) (IH : ∀ k ∈ l, ∀ q, DPure Tryd.prog 92 [.r (St.at k), .r (St.at q)] (.a (.v (.bool (k.sameB q))))) : DPure Tryd.prog 76 [.a (.sl (l.map St.at)), .a (.sl (m.map St.at))] (.a (.v (.bool (St.samesB l m)))) := by
  refine DPure.go Tryd.func76 rfl Tryd.ntmps76 rfl rfl rfl (fun C hro => ?_)
  have fx := trivial
  repeat' (first | refine WP.seq ?_ | (refine WP.rg [0, 1, 4, 5, 10, 14, 26] ?_; simp only [RSr_mk]) | refine RS.fnT ?_ | (refine RS.fn ?_; try simp only [thenQ_n, blockQ_n]) | ((refine WP.cn (fun hc => ?_) (fun hc => ?_)) <;> try exact Bool.noConfusion hc) | (refine WP.skip ?_; try simp only [thenQ_n, blockQ_n]) | (refine WP.exit ?_; try simp only [thenQ_e, blockQ_e, blockQ_o, ne_eq, Nat.reduceEqDiff, not_false_eq_true, reduceCtorEq, thenQ_n, blockQ_n]) | refine WP.block ?_ | (refine WP.ret ?_; (try simp only [thenQ_r, blockQ_r]); refine ret3 ?_) | ((first | refine WP.dw (id := 6) 10 [0, 1, 4, 5, 10, 14, 26] ?_); simp only [RQr_mk, List.drop_succ_cons, List.drop_zero, List.drop_nil]) | (refine RQ.nil ?_; refine RS.rn ?_; simp only [RSr_mk]))
  · refine bool_eq ?_
    rw [St.samesB_len (by intro h; rw [h] at hc; simp at hc)]
  have hl : l.length = m.length := by simp only [bne_eq_false_iff_eq] at hc; omega
  have hse := St.samesB_zip hl
  refine WP.loop (α := { k : Nat // k ≤ (l).length ∧ (((l).zip m).take k).all (fun p => p.1.sameB p.2) = true }) (fun y => [(0, .a (.sl (l.map St.at))), (1, .a (.sl (m.map St.at))), (5, .a (.v (.int .i64 y.1)))]) (fun _ => []) (fun y => (l).length - y.1) ⟨0, by omega, rfl⟩ (by simp only [Agree, go_sem, simprocAttr]) rfl ?_
  rintro ⟨k, hk, hinv⟩
  dsimp only
  by_cases hlt : k < (l).length
  · have hlt2 : decide ((k : Int) < (((l).length : Nat) : Int)) = true := decide_eq_true (by omega)
    obtain ⟨z, hz⟩ : ∃ z, (l)[k]? = some z := ⟨_, List.getElem?_eq_getElem hlt⟩
    have hzm : z ∈ (l) := List.mem_of_getElem? hz
    have hzt := take_snocA hz
    have hix : ∀ q2, ixD (some 23) q2 (.a (.sl ((l).map St.at))) (.a (.v (.int .i64 (k : Int)))) = some (.a (.ref (St.at z) 0)) := fun q2 => ixD_at rfl (by rw [List.getElem?_map, hz]; rfl) (by simp only [go_sem])
    obtain ⟨v, hv⟩ : ∃ z, (m)[k]? = some z := ⟨_, List.getElem?_eq_getElem (by omega)⟩
    have hvm : v ∈ (m) := List.mem_of_getElem? hv
    have hiy : ∀ q2, ixD (some 23) q2 (.a (.sl ((m).map St.at))) (.a (.v (.int .i64 (k : Int)))) = some (.a (.ref (St.at v) 0)) := fun q2 => ixD_at rfl (by rw [List.getElem?_map, hv]; rfl) (by simp only [go_sem])
    have hw : k < 9223372036854775807 := by omega
    have hzv : ((l).zip m)[k]? = some (z, v) := by rw [List.getElem?_zip_eq_some]; exact ⟨hz, hv⟩
    skip
    replace fx := And.intro hlt2 (And.intro hix (And.intro hiy (And.intro hw trivial)))
    repeat' (first | refine WP.seq ?_ | (refine WP.rg [0, 1, 4, 5, 10, 14, 26] ?_; simp only [RSr_mk]) | refine RS.fnT ?_ | (refine RS.fn ?_; try simp only [thenQ_n, blockQ_n]) | (refine RS.cl (hp := by exact IH _ hzm _) (h := ?_); refine RS.rn ?_; simp only [RSr_mk]) | ((refine WP.cn (fun hc => ?_) (fun hc => ?_)) <;> try exact Bool.noConfusion hc) | (refine WP.skip ?_; try simp only [thenQ_n, blockQ_n]) | (refine WP.exit ?_; try simp only [thenQ_e, blockQ_e, blockQ_o, ne_eq, Nat.reduceEqDiff, not_false_eq_true, reduceCtorEq, thenQ_n, blockQ_n]) | refine WP.block ?_ | (refine WP.ret ?_; (try simp only [thenQ_r, blockQ_r]); refine ret3 ?_) | ((first | refine WP.dw (id := 6) 10 [0, 1, 4, 5, 10, 14, 26] ?_); simp only [RQr_mk, List.drop_succ_cons, List.drop_zero, List.drop_nil]) | (refine RQ.nil ?_; refine RS.rn ?_; simp only [RSr_mk]) | (refine RQ.cl (hp := by exact IH _ hzm _) (h := ?_); refine RQ.rn ?_; simp only [RQr_mk]))
    · refine bool_eq ?_
      rw [hse, show (((l).zip m).all fun p => p.1.sameB p.2) = false by rw [List.all_eq_false]; exact ⟨(z, v), List.mem_of_getElem? hzv, by simpa using hc⟩]
    · refine ⟨⟨k + 1, by omega, ?_⟩, by dsimp only; omega, ?_, rfl⟩
      · rw [take_snocA hzv, List.all_append, hinv]; simpa using hc
      · simp only [Agree, go_sem, simprocAttr]
  obtain rfl : k = (l).length := by omega
  have hlt2 : decide (((l).length : Int) < ((l).length : Int)) = false := decide_eq_false (by omega)
  rw [List.take_of_length_le (by rw [List.length_zip]; omega)] at hinv
  replace fx := And.intro hlt2 trivial
  repeat' (first | refine WP.seq ?_ | (refine WP.rg [0, 1, 4, 5, 10, 14, 26] ?_; simp only [RSr_mk]) | refine RS.fnT ?_ | (refine RS.fn ?_; try simp only [thenQ_n, blockQ_n]) | ((refine WP.cn (fun hc => ?_) (fun hc => ?_)) <;> try exact Bool.noConfusion hc) | (refine WP.skip ?_; try simp only [thenQ_n, blockQ_n]) | (refine WP.exit ?_; try simp only [thenQ_e, blockQ_e, blockQ_o, ne_eq, Nat.reduceEqDiff, not_false_eq_true, reduceCtorEq, thenQ_n, blockQ_n]) | refine WP.block ?_ | (refine WP.ret ?_; (try simp only [thenQ_r, blockQ_r]); refine ret3 ?_) | ((first | refine WP.dw (id := 6) 10 [0, 1, 4, 5, 10, 14, 26] ?_); simp only [RQr_mk, List.drop_succ_cons, List.drop_zero, List.drop_nil]) | (refine RQ.nil ?_; refine RS.rn ?_; simp only [RSr_mk]))
  exact bool_eq (by rw [hse, hinv])
set_option maxRecDepth 100000 in
set_option maxHeartbeats 4000000 in
theorem pStSame : ∀ (m : Nat) (s t : St), s.sz ≤ m → s.sz ≤ 1048576 → DPure Tryd.prog 92 [.r (St.at s), .r (St.at t)] (.a (.v (.bool (s.sameB t))))
  | 0, s, _, h, _ => by have := s.sz_pos; omega
  | m + 1, s, t, h, hz0 => by
    have hse := s.sz_eq
    have hl1 := St.szs_len s.body
    have hl2 := St.szs_len s.els
    have hl3 := Ex.szs_len s.args
    have IB : DPure Tryd.prog 76 [.a (.sl (s.body.map St.at)), .a (.sl (t.body.map St.at))] (.a (.v (.bool (St.samesB s.body t.body)))) := pStList _ _ (by omega) fun k hk q => pStSame m k q (by have := St.body_lt hk; omega) (by have := St.body_lt hk; omega)
    have IE : DPure Tryd.prog 76 [.a (.sl (s.els.map St.at)), .a (.sl (t.els.map St.at))] (.a (.v (.bool (St.samesB s.els t.els)))) := pStList _ _ (by omega) fun k hk q => pStSame m k q (by have := St.els_lt hk; omega) (by have := St.els_lt hk; omega)
    have hfe := s.same_eq t
    refine DPure.go Tryd.func92 rfl Tryd.ntmps92 rfl rfl rfl (fun C hro => ?_)
    have fx := trivial
    repeat' (first | refine WP.seq ?_ | (refine WP.rg [0, 1, 2, 3, 4, 5, 55, 60, 74] ?_; simp only [RSr_mk]) | refine RS.fnT ?_ | (refine RS.fn ?_; try simp only [thenQ_n, blockQ_n]) | (refine RS.cl (hp := by exact pESame _ s.e t.e (Nat.le_refl _) (by omega)) (h := ?_); refine RS.rn ?_; simp only [RSr_mk]) | ((refine WP.cn (fun hc => ?_) (fun hc => ?_)) <;> try exact Bool.noConfusion hc) | (refine WP.skip ?_; try simp only [thenQ_n, blockQ_n]) | (refine WP.exit ?_; try simp only [thenQ_e, blockQ_e, blockQ_o, ne_eq, Nat.reduceEqDiff, not_false_eq_true, reduceCtorEq, thenQ_n, blockQ_n]) | refine WP.block ?_ | (refine WP.ret ?_; (try simp only [thenQ_r, blockQ_r]); refine ret3 ?_) | ((first | refine WP.dw (id := 6) 12 [0, 1, 2, 3, 4, 5, 55, 60, 74] ?_); simp only [RQr_mk, List.drop_succ_cons, List.drop_zero, List.drop_nil]) | (refine RQ.nil ?_; refine RS.rn ?_; simp only [RSr_mk]) | (refine RQ.cl (hp := by exact pESame _ s.e t.e (Nat.le_refl _) (by omega)) (h := ?_); refine RQ.rn ?_; simp only [RQr_mk]))
    · refine bool_eq ?_
      rw [hfe]
      by_cases hl : s.args.length = t.args.length
      · have h4 : ((s.args.length : Int) != (t.args.length : Int)) = false := by simp [hl]
        rw [h4, Bool.or_false] at hc
        rw [eq_comm]
        cases h1 : (s.kind == t.kind) <;> cases h2 : (s.x == t.x) <;> cases h3 : (s.y == t.y) <;> cases h5 : (s.name == t.name) <;> cases h6 : decide (s.ty = t.ty) <;> cases h7 : s.e.sameB t.e <;> simp_all [bne]
      · rw [Ex.samesB_len hl]; simp
    have hl : s.args.length = t.args.length := by
      simp only [Bool.or_eq_false_iff, bne_eq_false_iff_eq] at hc; omega
    have hfe : s.sameB t = ((s.args.zip t.args).all (fun p => p.1.sameB p.2) && (St.samesB s.body t.body && St.samesB s.els t.els)) := by
      rw [hfe, Ex.samesB_zip hl]
      simp only [Bool.or_eq_false_iff, bne_eq_false_iff_eq, Bool.not_eq_false'] at hc
      obtain ⟨⟨⟨⟨⟨⟨h1, h2⟩, h3⟩, h4⟩, h5⟩, h6⟩, _⟩ := hc
      rw [h2, h3, h4, h5, h6, h1]
      simp only [BEq.rfl, Bool.true_and]
    refine WP.loop (α := { k : Nat // k ≤ (s.args).length ∧ (((s.args).zip t.args).take k).all (fun p => p.1.sameB p.2) = true }) (fun y => [(2, .a (.ptr 0 0)), (3, .a (.ptr 1 0)), (5, .a (.v (.int .i64 y.1)))]) (fun _ => [.cell (St.at s), .cell (St.at t)]) (fun y => (s.args).length - y.1) ⟨0, by omega, rfl⟩ (by simp only [Agree, go_sem, simprocAttr]) rfl ?_
    rintro ⟨k, hk, hinv⟩
    dsimp only
    by_cases hlt : k < (s.args).length
    · have hlt2 : decide ((k : Int) < (((s.args).length : Nat) : Int)) = true := decide_eq_true (by omega)
      obtain ⟨z, hz⟩ : ∃ z, (s.args)[k]? = some z := ⟨_, List.getElem?_eq_getElem hlt⟩
      have hzm : z ∈ (s.args) := List.mem_of_getElem? hz
      have hzt := take_snocA hz
      have hix : ∀ q2, ixD (some 4) q2 (.a (.sl ((s.args).map Ex.at))) (.a (.v (.int .i64 (k : Int)))) = some (.a (.ref (Ex.at z) 0)) := fun q2 => ixD_at rfl (by rw [List.getElem?_map, hz]; rfl) (by simp only [go_sem])
      obtain ⟨v, hv⟩ : ∃ z, (t.args)[k]? = some z := ⟨_, List.getElem?_eq_getElem (by omega)⟩
      have hvm : v ∈ (t.args) := List.mem_of_getElem? hv
      have hiy : ∀ q2, ixD (some 4) q2 (.a (.sl ((t.args).map Ex.at))) (.a (.v (.int .i64 (k : Int)))) = some (.a (.ref (Ex.at v) 0)) := fun q2 => ixD_at rfl (by rw [List.getElem?_map, hv]; rfl) (by simp only [go_sem])
      have hw : k < 9223372036854775807 := by omega
      have hzv : ((s.args).zip t.args)[k]? = some (z, v) := by rw [List.getElem?_zip_eq_some]; exact ⟨hz, hv⟩
      skip
      replace fx := And.intro hlt2 (And.intro hix (And.intro hiy (And.intro hw trivial)))
      repeat' (first | refine WP.seq ?_ | (refine WP.rg [0, 1, 2, 3, 4, 5, 55, 60, 74] ?_; simp only [RSr_mk]) | refine RS.fnT ?_ | (refine RS.fn ?_; try simp only [thenQ_n, blockQ_n]) | (refine RS.cl (hp := by exact pESame _ z v (Nat.le_refl _) (by have := Ex.szs_mem hzm; omega)) (h := ?_); refine RS.rn ?_; simp only [RSr_mk]) | ((refine WP.cn (fun hc => ?_) (fun hc => ?_)) <;> try exact Bool.noConfusion hc) | (refine WP.skip ?_; try simp only [thenQ_n, blockQ_n]) | (refine WP.exit ?_; try simp only [thenQ_e, blockQ_e, blockQ_o, ne_eq, Nat.reduceEqDiff, not_false_eq_true, reduceCtorEq, thenQ_n, blockQ_n]) | refine WP.block ?_ | (refine WP.ret ?_; (try simp only [thenQ_r, blockQ_r]); refine ret3 ?_) | ((first | refine WP.dw (id := 6) 12 [0, 1, 2, 3, 4, 5, 55, 60, 74] ?_); simp only [RQr_mk, List.drop_succ_cons, List.drop_zero, List.drop_nil]) | (refine RQ.nil ?_; refine RS.rn ?_; simp only [RSr_mk]) | (refine RQ.cl (hp := by exact pESame _ z v (Nat.le_refl _) (by have := Ex.szs_mem hzm; omega)) (h := ?_); refine RQ.rn ?_; simp only [RQr_mk]))
      · refine bool_eq ?_
        rw [hfe, show (((s.args).zip t.args).all fun p => p.1.sameB p.2) = false by rw [List.all_eq_false]; exact ⟨(z, v), List.mem_of_getElem? hzv, by simpa using hc⟩]; rfl
      · refine ⟨⟨k + 1, by omega, ?_⟩, by dsimp only; omega, ?_, rfl⟩
        · rw [take_snocA hzv, List.all_append, hinv]; simpa using hc
        · simp only [Agree, go_sem, simprocAttr]
    obtain rfl : k = (s.args).length := by omega
    have hlt2 : decide (((s.args).length : Int) < ((s.args).length : Int)) = false := decide_eq_false (by omega)
    rw [List.take_of_length_le (by rw [List.length_zip]; omega)] at hinv
    rw [hinv, Bool.true_and] at hfe
    replace fx := And.intro hlt2 trivial
    repeat' (first | refine WP.seq ?_ | (refine WP.rg [0, 1, 2, 3, 4, 5, 55, 60, 74] ?_; simp only [RSr_mk]) | refine RS.fnT ?_ | (refine RS.fn ?_; try simp only [thenQ_n, blockQ_n]) | (refine RS.cl (hp := by first | exact IB | exact IE) (h := ?_); refine RS.rn ?_; simp only [RSr_mk]) | ((refine WP.cn (fun hc => ?_) (fun hc => ?_)) <;> try exact Bool.noConfusion hc) | (refine WP.skip ?_; try simp only [thenQ_n, blockQ_n]) | (refine WP.exit ?_; try simp only [thenQ_e, blockQ_e, blockQ_o, ne_eq, Nat.reduceEqDiff, not_false_eq_true, reduceCtorEq, thenQ_n, blockQ_n]) | refine WP.block ?_ | (refine WP.ret ?_; (try simp only [thenQ_r, blockQ_r]); refine ret3 ?_) | ((first | refine WP.dw (id := 6) 12 [0, 1, 2, 3, 4, 5, 55, 60, 74] ?_); simp only [RQr_mk, List.drop_succ_cons, List.drop_zero, List.drop_nil]) | (refine RQ.nil ?_; refine RS.rn ?_; simp only [RSr_mk]) | (refine RQ.cl (hp := by first | exact IB | exact IE) (h := ?_); refine RQ.rn ?_; simp only [RQr_mk]))
    exact bool_eq (by rw [hfe])
end Go.Proofs.YtofmlhpcobjfcaaDoor
namespace Go.Proofs.YtofmlhpcobjfcaaDoor
open Go.RowKit
theorem zlen {α : Type} {l m : List α} (q : α × α → Bool) (h : l.length ≠ m.length) : (l.length == m.length && (l.zip m).all q) = false := by
  rw [show (l.length == m.length) = false by simpa using h]; rfl
theorem zeql {α : Type} {l m : List α} (q : α × α → Bool) (h : l.length = m.length) : (l.length == m.length && (l.zip m).all q) = (l.zip m).all q := by
  rw [show (l.length == m.length) = true by simpa using h]; rfl
theorem lenB {a b : Nat} (hc : ((a : Int) != (b : Int)) = true) : a ≠ b := by rintro rfl; simp at hc
theorem lenE {a b : Nat} (hc : ((a : Int) != (b : Int)) = false) : a = b := by simp only [bne_eq_false_iff_eq] at hc; omega
set_option maxRecDepth 100000 in
set_option maxHeartbeats 4000000 in
theorem pVars (l m : List Vr) (q : Bool) (hn : l.length ≤ 1048576) : DPure Tryd.prog 58 [.a (.sl (l.map Vr.at)), .a (.sl (m.map Vr.at)), .a (.v (.bool q))] (.a (.v (.bool (varsSameB q l m)))) := by
  refine DPure.go Tryd.func58 rfl Tryd.ntmps58 rfl rfl rfl (fun C hro => ?_)
  have fx := trivial
  repeat' (first | refine WP.seq ?_ | (refine WP.rg [0, 1, 2, 6, 7, 12, 16, 58] ?_; simp only [RSr_mk]) | refine RS.fnT ?_ | (refine RS.fn ?_; try simp only [thenQ_n, blockQ_n]) | ((refine WP.cn (fun hc => ?_) (fun hc => ?_)) <;> try exact Bool.noConfusion hc) | (refine WP.skip ?_; try simp only [thenQ_n, blockQ_n]) | (refine WP.exit ?_; try simp only [thenQ_e, blockQ_e, blockQ_o, ne_eq, Nat.reduceEqDiff, not_false_eq_true, reduceCtorEq, thenQ_n, blockQ_n]) | refine WP.block ?_ | (refine WP.ret ?_; (try simp only [thenQ_r, blockQ_r]); refine ret3 ?_) | ((first | refine WP.dw (id := 6) 40 [0, 1, 2, 6, 7, 12, 16, 58] ?_); simp only [RQr_mk, List.drop_succ_cons, List.drop_zero, List.drop_nil]) | (refine RQ.nil ?_; refine RS.rn ?_; simp only [RSr_mk]))
  · refine bool_eq ?_
    unfold varsSameB
    rw [zlen _ (lenB hc)]
  have hl := lenE hc
  have hse : varsSameB q l m = (l.zip m).all (fun p => p.1.sameB q p.2) := zeql _ hl
  refine WP.loop (α := { k : Nat // k ≤ (l).length ∧ (((l).zip m).take k).all (fun p => p.1.sameB q p.2) = true }) (fun y => [(0, .a (.sl (l.map Vr.at))), (1, .a (.sl (m.map Vr.at))), (2, .a (.v (.bool q))), (7, .a (.v (.int .i64 y.1)))]) (fun _ => []) (fun y => (l).length - y.1) ⟨0, by omega, rfl⟩ (by simp only [Agree, go_sem, simprocAttr]) rfl ?_
  rintro ⟨k, hk, hinv⟩
  dsimp only
  by_cases hlt : k < (l).length
  · have hlt2 : decide ((k : Int) < (((l).length : Nat) : Int)) = true := decide_eq_true (by omega)
    obtain ⟨z, hz⟩ : ∃ z, (l)[k]? = some z := ⟨_, List.getElem?_eq_getElem hlt⟩
    have hzm : z ∈ (l) := List.mem_of_getElem? hz
    have hzt := take_snocA hz
    have hix : ∀ q2, ixD (some 13) q2 (.a (.sl ((l).map Vr.at))) (.a (.v (.int .i64 (k : Int)))) = some (.a (.ref (Vr.at z) 0)) := fun q2 => ixD_at rfl (by rw [List.getElem?_map, hz]; rfl) (by simp only [go_sem])
    obtain ⟨v, hv⟩ : ∃ z, (m)[k]? = some z := ⟨_, List.getElem?_eq_getElem (by omega)⟩
    have hvm : v ∈ (m) := List.mem_of_getElem? hv
    have hiy : ∀ q2, ixD (some 13) q2 (.a (.sl ((m).map Vr.at))) (.a (.v (.int .i64 (k : Int)))) = some (.a (.ref (Vr.at v) 0)) := fun q2 => ixD_at rfl (by rw [List.getElem?_map, hv]; rfl) (by simp only [go_sem])
    have hw : k < 9223372036854775807 := by omega
    have hzv : ((l).zip m)[k]? = some (z, v) := by rw [List.getElem?_zip_eq_some]; exact ⟨hz, hv⟩
    skip
    replace fx := And.intro hlt2 (And.intro hix (And.intro hiy (And.intro hw trivial)))
    repeat' (first | refine WP.seq ?_ | (refine WP.rg [0, 1, 2, 6, 7, 12, 16, 58] ?_; simp only [RSr_mk]) | refine RS.fnT ?_ | (refine RS.fn ?_; try simp only [thenQ_n, blockQ_n]) | ((refine WP.cn (fun hc => ?_) (fun hc => ?_)) <;> try exact Bool.noConfusion hc) | (refine WP.skip ?_; try simp only [thenQ_n, blockQ_n]) | (refine WP.exit ?_; try simp only [thenQ_e, blockQ_e, blockQ_o, ne_eq, Nat.reduceEqDiff, not_false_eq_true, reduceCtorEq, thenQ_n, blockQ_n]) | refine WP.block ?_ | (refine WP.ret ?_; (try simp only [thenQ_r, blockQ_r]); refine ret3 ?_) | ((first | refine WP.dw (id := 6) 40 [0, 1, 2, 6, 7, 12, 16, 58] ?_); simp only [RQr_mk, List.drop_succ_cons, List.drop_zero, List.drop_nil]) | (refine RQ.nil ?_; refine RS.rn ?_; simp only [RSr_mk]))
    · refine bool_eq ?_
      rw [hse, show (((l).zip m).all fun p => p.1.sameB q p.2) = false by rw [List.all_eq_false]; exact ⟨(z, v), List.mem_of_getElem? hzv, by simp only [Vr.sameB, List.all_cons, List.all_nil, Bool.and_true, Bool.true_and]; revert hc; cases (z.name == v.name) <;> cases decide (z.ty = v.ty) <;> cases q <;> cases (z.at_ != v.at_) <;> simp⟩]
    · refine ⟨⟨k + 1, by omega, ?_⟩, by dsimp only; omega, ?_, rfl⟩
      · rw [take_snocA hzv, List.all_append, hinv]; simp only [Vr.sameB, List.all_cons, List.all_nil, Bool.and_true, Bool.true_and]; revert hc; cases (z.name == v.name) <;> cases decide (z.ty = v.ty) <;> cases q <;> cases (z.at_ != v.at_) <;> simp
      · simp only [Agree, go_sem, simprocAttr]
  obtain rfl : k = (l).length := by omega
  have hlt2 : decide (((l).length : Int) < ((l).length : Int)) = false := decide_eq_false (by omega)
  rw [List.take_of_length_le (by rw [List.length_zip]; omega)] at hinv
  replace fx := And.intro hlt2 trivial
  repeat' (first | refine WP.seq ?_ | (refine WP.rg [0, 1, 2, 6, 7, 12, 16, 58] ?_; simp only [RSr_mk]) | refine RS.fnT ?_ | (refine RS.fn ?_; try simp only [thenQ_n, blockQ_n]) | ((refine WP.cn (fun hc => ?_) (fun hc => ?_)) <;> try exact Bool.noConfusion hc) | (refine WP.skip ?_; try simp only [thenQ_n, blockQ_n]) | (refine WP.exit ?_; try simp only [thenQ_e, blockQ_e, blockQ_o, ne_eq, Nat.reduceEqDiff, not_false_eq_true, reduceCtorEq, thenQ_n, blockQ_n]) | refine WP.block ?_ | (refine WP.ret ?_; (try simp only [thenQ_r, blockQ_r]); refine ret3 ?_) | ((first | refine WP.dw (id := 6) 40 [0, 1, 2, 6, 7, 12, 16, 58] ?_); simp only [RQr_mk, List.drop_succ_cons, List.drop_zero, List.drop_nil]) | (refine RQ.nil ?_; refine RS.rn ?_; simp only [RSr_mk]))
  exact bool_eq (by rw [hse, hinv])
set_option maxRecDepth 100000 in
set_option maxHeartbeats 4000000 in
theorem pAts (l m : List St) (hz0 : St.szs l ≤ 1048576) : DPure Tryd.prog 75 [.a (.sl (l.map St.at)), .a (.sl (m.map St.at))] (.a (.v (.bool (St.atsB l m)))) := by
    have hll := St.szs_len l
    have IH : ∀ k ∈ l, ∀ q, DPure Tryd.prog 75 [.a (.sl (k.body.map St.at)), .a (.sl (List.map St.at q))] (.a (.v (.bool (St.atsB k.body q)))) := fun k hk q => pAts k.body q (by have := St.szs_mem hk; have := k.sz_eq; omega)
    have IE : ∀ k ∈ l, ∀ q, DPure Tryd.prog 75 [.a (.sl (k.els.map St.at)), .a (.sl (List.map St.at q))] (.a (.v (.bool (St.atsB k.els q)))) := fun k hk q => pAts k.els q (by have := St.szs_mem hk; have := k.sz_eq; omega)
    refine DPure.go Tryd.func75 rfl Tryd.ntmps75 rfl rfl rfl (fun C hro => ?_)
    have fx := trivial
    repeat' (first | refine WP.seq ?_ | (refine WP.rg [0, 1, 4, 5, 10, 14, 55] ?_; simp only [RSr_mk]) | refine RS.fnT ?_ | (refine RS.fn ?_; try simp only [thenQ_n, blockQ_n]) | ((refine WP.cn (fun hc => ?_) (fun hc => ?_)) <;> try exact Bool.noConfusion hc) | (refine WP.skip ?_; try simp only [thenQ_n, blockQ_n]) | (refine WP.exit ?_; try simp only [thenQ_e, blockQ_e, blockQ_o, ne_eq, Nat.reduceEqDiff, not_false_eq_true, reduceCtorEq, thenQ_n, blockQ_n]) | refine WP.block ?_ | (refine WP.ret ?_; (try simp only [thenQ_r, blockQ_r]); refine ret3 ?_) | ((first | refine WP.dw (id := 6) 39 [0, 1, 4, 5, 10, 14, 55] ?_); simp only [RQr_mk, List.drop_succ_cons, List.drop_zero, List.drop_nil]) | (refine RQ.nil ?_; refine RS.rn ?_; simp only [RSr_mk]))
    · refine bool_eq ?_
      rw [St.atsB_len (lenB hc)]
    have hl := lenE hc
    have hse := St.atsB_zip hl
    refine WP.loop (α := { k : Nat // k ≤ (l).length ∧ (((l).zip m).take k).all (fun p => p.1.atB p.2) = true }) (fun y => [(0, .a (.sl (l.map St.at))), (1, .a (.sl (m.map St.at))), (5, .a (.v (.int .i64 y.1)))]) (fun _ => []) (fun y => (l).length - y.1) ⟨0, by omega, rfl⟩ (by simp only [Agree, go_sem, simprocAttr]) rfl ?_
    rintro ⟨k, hk, hinv⟩
    dsimp only
    by_cases hlt : k < (l).length
    · have hlt2 : decide ((k : Int) < (((l).length : Nat) : Int)) = true := decide_eq_true (by omega)
      obtain ⟨z, hz⟩ : ∃ z, (l)[k]? = some z := ⟨_, List.getElem?_eq_getElem hlt⟩
      have hzm : z ∈ (l) := List.mem_of_getElem? hz
      have hzt := take_snocA hz
      have hix : ∀ q2, ixD (some 23) q2 (.a (.sl ((l).map St.at))) (.a (.v (.int .i64 (k : Int)))) = some (.a (.ref (St.at z) 0)) := fun q2 => ixD_at rfl (by rw [List.getElem?_map, hz]; rfl) (by simp only [go_sem])
      obtain ⟨v, hv⟩ : ∃ z, (m)[k]? = some z := ⟨_, List.getElem?_eq_getElem (by omega)⟩
      have hvm : v ∈ (m) := List.mem_of_getElem? hv
      have hiy : ∀ q2, ixD (some 23) q2 (.a (.sl ((m).map St.at))) (.a (.v (.int .i64 (k : Int)))) = some (.a (.ref (St.at v) 0)) := fun q2 => ixD_at rfl (by rw [List.getElem?_map, hv]; rfl) (by simp only [go_sem])
      have hw : k < 9223372036854775807 := by omega
      have hzv : ((l).zip m)[k]? = some (z, v) := by rw [List.getElem?_zip_eq_some]; exact ⟨hz, hv⟩
      skip
      replace fx := And.intro hlt2 (And.intro hix (And.intro hiy (And.intro hw trivial)))
      repeat' (first | refine WP.seq ?_ | (refine WP.rg [0, 1, 4, 5, 10, 14, 55] ?_; simp only [RSr_mk]) | refine RS.fnT ?_ | (refine RS.fn ?_; try simp only [thenQ_n, blockQ_n]) | (refine RS.cl (hp := by first | exact IH _ hzm _ | exact IE _ hzm _) (h := ?_); refine RS.rn ?_; simp only [RSr_mk]) | ((refine WP.cn (fun hc => ?_) (fun hc => ?_)) <;> try exact Bool.noConfusion hc) | (refine WP.skip ?_; try simp only [thenQ_n, blockQ_n]) | (refine WP.exit ?_; try simp only [thenQ_e, blockQ_e, blockQ_o, ne_eq, Nat.reduceEqDiff, not_false_eq_true, reduceCtorEq, thenQ_n, blockQ_n]) | refine WP.block ?_ | (refine WP.ret ?_; (try simp only [thenQ_r, blockQ_r]); refine ret3 ?_) | ((first | refine WP.dw (id := 6) 39 [0, 1, 4, 5, 10, 14, 55] ?_); simp only [RQr_mk, List.drop_succ_cons, List.drop_zero, List.drop_nil]) | (refine RQ.nil ?_; refine RS.rn ?_; simp only [RSr_mk]) | (refine RQ.cl (hp := by first | exact IH _ hzm _ | exact IE _ hzm _) (h := ?_); refine RQ.rn ?_; simp only [RQr_mk]))
      · refine bool_eq ?_
        rw [hse, show (((l).zip m).all fun p => p.1.atB p.2) = false by rw [List.all_eq_false]; exact ⟨(z, v), List.mem_of_getElem? hzv, by simp only [St.at_eq, List.all_cons, List.all_nil, Bool.and_true, Bool.true_and]; unfold bne at hc; revert hc; cases (z.at_ == v.at_) <;> cases St.atsB z.body v.body <;> cases St.atsB z.els v.els <;> simp⟩]
      · refine ⟨⟨k + 1, by omega, ?_⟩, by dsimp only; omega, ?_, rfl⟩
        · rw [take_snocA hzv, List.all_append, hinv]; simp only [St.at_eq, List.all_cons, List.all_nil, Bool.and_true, Bool.true_and]; unfold bne at hc; revert hc; cases (z.at_ == v.at_) <;> cases St.atsB z.body v.body <;> cases St.atsB z.els v.els <;> simp
        · simp only [Agree, go_sem, simprocAttr]
    obtain rfl : k = (l).length := by omega
    have hlt2 : decide (((l).length : Int) < ((l).length : Int)) = false := decide_eq_false (by omega)
    rw [List.take_of_length_le (by rw [List.length_zip]; omega)] at hinv
    replace fx := And.intro hlt2 trivial
    repeat' (first | refine WP.seq ?_ | (refine WP.rg [0, 1, 4, 5, 10, 14, 55] ?_; simp only [RSr_mk]) | refine RS.fnT ?_ | (refine RS.fn ?_; try simp only [thenQ_n, blockQ_n]) | ((refine WP.cn (fun hc => ?_) (fun hc => ?_)) <;> try exact Bool.noConfusion hc) | (refine WP.skip ?_; try simp only [thenQ_n, blockQ_n]) | (refine WP.exit ?_; try simp only [thenQ_e, blockQ_e, blockQ_o, ne_eq, Nat.reduceEqDiff, not_false_eq_true, reduceCtorEq, thenQ_n, blockQ_n]) | refine WP.block ?_ | (refine WP.ret ?_; (try simp only [thenQ_r, blockQ_r]); refine ret3 ?_) | ((first | refine WP.dw (id := 6) 39 [0, 1, 4, 5, 10, 14, 55] ?_); simp only [RQr_mk, List.drop_succ_cons, List.drop_zero, List.drop_nil]) | (refine RQ.nil ?_; refine RS.rn ?_; simp only [RSr_mk]))
    exact bool_eq (by rw [hse, hinv])
  termination_by St.szs l
  decreasing_by all_goals (have := St.szs_mem hk; have := k.sz_eq; omega)
set_option maxRecDepth 100000 in
set_option maxHeartbeats 4000000 in
theorem pLike (a b : Me) (q : Bool) (hz : a.sz ≤ 1048576) : DPure Tryd.prog 57 [.r (Me.at a), .r (Me.at b), .a (.v (.bool q))] (.a (.v (.bool (a.likeB q b)))) := by
  obtain ⟨z1, z2, z3, z4, z5, z6⟩ := Me.szH hz
  have hl1 := St.szs_len a.body
  refine DPure.go Tryd.func57 rfl Tryd.ntmps57 rfl rfl rfl (fun C hro => ?_)
  have fx := trivial
  repeat' (first | refine WP.seq ?_ | (refine WP.rg [0, 1, 2, 3, 4, 6, 43] ?_; simp only [RSr_mk]) | refine RS.fnT ?_ | (refine RS.fn ?_; try simp only [thenQ_n, blockQ_n]) | (refine RS.cl (hp := by first | exact pAts _ _ z5 | exact pVars _ _ _ (by omega) | exact pStList _ _ (by omega) fun k hk q => pStSame _ k q (Nat.le_refl _) (by have := St.szs_mem hk; omega)) (h := ?_); refine RS.rn ?_; simp only [RSr_mk]) | ((refine WP.cn (fun hc => ?_) (fun hc => ?_)) <;> try exact Bool.noConfusion hc) | (refine WP.skip ?_; try simp only [thenQ_n, blockQ_n]) | (refine WP.exit ?_; try simp only [thenQ_e, blockQ_e, blockQ_o, ne_eq, Nat.reduceEqDiff, not_false_eq_true, reduceCtorEq, thenQ_n, blockQ_n]) | refine WP.block ?_ | (refine WP.ret ?_; (try simp only [thenQ_r, blockQ_r]); refine ret3 ?_))
  all_goals
    refine bool_eq ?_
    unfold Me.likeB
    rw [hc]; rfl
set_option maxRecDepth 100000 in
set_option maxHeartbeats 4000000 in
theorem pOne (a b : Cs) (q : Bool) (hz : a.sz ≤ 1048576) : DPure Tryd.prog 28 [.r (Cs.at a), .r (Cs.at b), .a (.v (.bool q))] (.a (.v (.bool (a.oneB q b)))) := by
  obtain ⟨z1, z2, z3, z4, z5, z6, z7, z8, z9⟩ := Cs.szH hz
  refine DPure.go Tryd.func28 rfl Tryd.ntmps28 rfl rfl rfl (fun C hro => ?_)
  have fx := trivial
  repeat' (first | refine WP.seq ?_ | (refine WP.rg [0, 1, 2, 3, 4, 6, 7, 8, 9, 58, 63, 76, 81, 94, 99, 114] ?_; simp only [RSr_mk]) | refine RS.fnT ?_ | (refine RS.fn ?_; try simp only [thenQ_n, blockQ_n]) | ((refine WP.cn (fun hc => ?_) (fun hc => ?_)) <;> try exact Bool.noConfusion hc) | (refine WP.skip ?_; try simp only [thenQ_n, blockQ_n]) | (refine WP.exit ?_; try simp only [thenQ_e, blockQ_e, blockQ_o, ne_eq, Nat.reduceEqDiff, not_false_eq_true, reduceCtorEq, thenQ_n, blockQ_n]) | refine WP.block ?_ | (refine WP.ret ?_; (try simp only [thenQ_r, blockQ_r]); refine ret3 ?_) | ((first | refine WP.dw (id := 6) 11 [0, 1, 2, 3, 4, 6, 7, 8, 9, 58, 63, 76, 81, 94, 99, 114] ?_ | refine WP.dw (id := 11) 11 [0, 1, 2, 3, 4, 6, 7, 8, 9, 58, 63, 76, 81, 94, 99, 114] ?_ | refine WP.dw (id := 16) 13 [0, 1, 2, 3, 4, 6, 7, 8, 9, 58, 63, 76, 81, 94, 99, 114] ?_); simp only [RQr_mk, List.drop_succ_cons, List.drop_zero, List.drop_nil]) | (refine RQ.nil ?_; refine RS.rn ?_; simp only [RSr_mk]))
  · refine bool_eq ?_
    unfold Cs.oneB
    rw [hc]; rfl
  have hse : a.oneB q b = ((a.params.zip b.params).all (fun p => p.1 == p.2) && ((a.above.zip b.above).all (fun p => p.1 == p.2) && ((a.methods.zip b.methods).all (fun p => p.1.likeB q p.2) && varsSameB q a.fields b.fields))) := by
    unfold Cs.oneB
    rw [hc]; rfl
  simp only [Bool.or_eq_false_iff] at hc
  have la := lenE hc.1.1.1.2
  have lb := lenE hc.1.1.2
  have lc := lenE hc.1.2
  refine WP.loop (α := { k : Nat // k ≤ (a.params).length ∧ (((a.params).zip b.params).take k).all (fun p => p.1 == p.2) = true }) (fun y => [(2, .a (.v (.bool q))), (3, .a (.ptr 0 0)), (4, .a (.ptr 1 0)), (7, .a (.v (.int .i64 y.1)))]) (fun _ => [.cell (Cs.at a), .cell (Cs.at b)]) (fun y => (a.params).length - y.1) ⟨0, by omega, rfl⟩ (by simp only [Agree, go_sem, simprocAttr]) rfl ?_
  rintro ⟨k, hk, hinv⟩
  dsimp only
  by_cases hlt : k < (a.params).length
  · have hlt2 : decide ((k : Int) < (((a.params).length : Nat) : Int)) = true := decide_eq_true (by omega)
    obtain ⟨z, hz⟩ : ∃ z, (a.params)[k]? = some z := ⟨_, List.getElem?_eq_getElem hlt⟩
    have hzm : z ∈ (a.params) := List.mem_of_getElem? hz
    have hzt := take_snocA hz
    have hix : ∀ q2, ixD (some 1) q2 (.a (.sl ((a.params).map strAt))) (.a (.v (.int .i64 (k : Int)))) = some (.a (.ref (strAt z) 0)) := fun q2 => ixD_at rfl (by rw [List.getElem?_map, hz]; rfl) (by simp only [go_sem])
    obtain ⟨v, hv⟩ : ∃ z, (b.params)[k]? = some z := ⟨_, List.getElem?_eq_getElem (by omega)⟩
    have hvm : v ∈ (b.params) := List.mem_of_getElem? hv
    have hiy : ∀ q2, ixD (some 1) q2 (.a (.sl ((b.params).map strAt))) (.a (.v (.int .i64 (k : Int)))) = some (.a (.ref (strAt v) 0)) := fun q2 => ixD_at rfl (by rw [List.getElem?_map, hv]; rfl) (by simp only [go_sem])
    have hw : k < 9223372036854775807 := by omega
    have hzv : ((a.params).zip b.params)[k]? = some (z, v) := by rw [List.getElem?_zip_eq_some]; exact ⟨hz, hv⟩
    skip
    replace fx := And.intro hlt2 (And.intro hix (And.intro hiy (And.intro hw trivial)))
    repeat' (first | refine WP.seq ?_ | (refine WP.rg [0, 1, 2, 3, 4, 6, 7, 8, 9, 58, 63, 76, 81, 94, 99, 114] ?_; simp only [RSr_mk]) | refine RS.fnT ?_ | (refine RS.fn ?_; try simp only [thenQ_n, blockQ_n]) | ((refine WP.cn (fun hc => ?_) (fun hc => ?_)) <;> try exact Bool.noConfusion hc) | (refine WP.skip ?_; try simp only [thenQ_n, blockQ_n]) | (refine WP.exit ?_; try simp only [thenQ_e, blockQ_e, blockQ_o, ne_eq, Nat.reduceEqDiff, not_false_eq_true, reduceCtorEq, thenQ_n, blockQ_n]) | refine WP.block ?_ | (refine WP.ret ?_; (try simp only [thenQ_r, blockQ_r]); refine ret3 ?_) | ((first | refine WP.dw (id := 6) 11 [0, 1, 2, 3, 4, 6, 7, 8, 9, 58, 63, 76, 81, 94, 99, 114] ?_ | refine WP.dw (id := 11) 11 [0, 1, 2, 3, 4, 6, 7, 8, 9, 58, 63, 76, 81, 94, 99, 114] ?_ | refine WP.dw (id := 16) 13 [0, 1, 2, 3, 4, 6, 7, 8, 9, 58, 63, 76, 81, 94, 99, 114] ?_); simp only [RQr_mk, List.drop_succ_cons, List.drop_zero, List.drop_nil]) | (refine RQ.nil ?_; refine RS.rn ?_; simp only [RSr_mk]))
    · refine bool_eq ?_
      rw [hse, show (((a.params).zip b.params).all fun p => p.1 == p.2) = false by rw [List.all_eq_false]; exact ⟨(z, v), List.mem_of_getElem? hzv, by simpa using hc⟩]; rfl
    · refine ⟨⟨k + 1, by omega, ?_⟩, by dsimp only; omega, ?_, rfl⟩
      · rw [take_snocA hzv, List.all_append, hinv]; simpa using hc
      · simp only [Agree, go_sem, simprocAttr]
  obtain rfl : k = (a.params).length := by omega
  have hlt2 : decide (((a.params).length : Int) < ((a.params).length : Int)) = false := decide_eq_false (by omega)
  rw [List.take_of_length_le (by rw [List.length_zip]; omega)] at hinv
  rw [hinv, Bool.true_and] at hse
  replace fx := And.intro hlt2 trivial
  repeat' (first | refine WP.seq ?_ | (refine WP.rg [0, 1, 2, 3, 4, 6, 7, 8, 9, 58, 63, 76, 81, 94, 99, 114] ?_; simp only [RSr_mk]) | refine RS.fnT ?_ | (refine RS.fn ?_; try simp only [thenQ_n, blockQ_n]) | ((refine WP.cn (fun hc => ?_) (fun hc => ?_)) <;> try exact Bool.noConfusion hc) | (refine WP.skip ?_; try simp only [thenQ_n, blockQ_n]) | (refine WP.exit ?_; try simp only [thenQ_e, blockQ_e, blockQ_o, ne_eq, Nat.reduceEqDiff, not_false_eq_true, reduceCtorEq, thenQ_n, blockQ_n]) | refine WP.block ?_ | (refine WP.ret ?_; (try simp only [thenQ_r, blockQ_r]); refine ret3 ?_) | ((first | refine WP.dw (id := 6) 11 [0, 1, 2, 3, 4, 6, 7, 8, 9, 58, 63, 76, 81, 94, 99, 114] ?_ | refine WP.dw (id := 11) 11 [0, 1, 2, 3, 4, 6, 7, 8, 9, 58, 63, 76, 81, 94, 99, 114] ?_ | refine WP.dw (id := 16) 13 [0, 1, 2, 3, 4, 6, 7, 8, 9, 58, 63, 76, 81, 94, 99, 114] ?_); simp only [RQr_mk, List.drop_succ_cons, List.drop_zero, List.drop_nil]) | (refine RQ.nil ?_; refine RS.rn ?_; simp only [RSr_mk]))
  refine WP.loop (α := { k : Nat // k ≤ (a.above).length ∧ (((a.above).zip b.above).take k).all (fun p => p.1 == p.2) = true }) (fun y => [(2, .a (.v (.bool q))), (3, .a (.ptr 0 0)), (4, .a (.ptr 1 0)), (8, .a (.v (.int .i64 y.1)))]) (fun _ => [.cell (Cs.at a), .cell (Cs.at b)]) (fun y => (a.above).length - y.1) ⟨0, by omega, rfl⟩ (by simp only [Agree, go_sem, simprocAttr]) rfl ?_
  rintro ⟨k, hk, hinv⟩
  dsimp only
  by_cases hlt : k < (a.above).length
  · have hlt2 : decide ((k : Int) < (((a.above).length : Nat) : Int)) = true := decide_eq_true (by omega)
    obtain ⟨z, hz⟩ : ∃ z, (a.above)[k]? = some z := ⟨_, List.getElem?_eq_getElem hlt⟩
    have hzm : z ∈ (a.above) := List.mem_of_getElem? hz
    have hzt := take_snocA hz
    have hix : ∀ q2, ixD (some 2) q2 (.a (.sl ((a.above).map owAt))) (.a (.v (.int .i64 (k : Int)))) = some (.a (.ref (owAt z) 0)) := fun q2 => ixD_at rfl (by rw [List.getElem?_map, hz]; rfl) (by simp only [go_sem])
    obtain ⟨v, hv⟩ : ∃ z, (b.above)[k]? = some z := ⟨_, List.getElem?_eq_getElem (by omega)⟩
    have hvm : v ∈ (b.above) := List.mem_of_getElem? hv
    have hiy : ∀ q2, ixD (some 2) q2 (.a (.sl ((b.above).map owAt))) (.a (.v (.int .i64 (k : Int)))) = some (.a (.ref (owAt v) 0)) := fun q2 => ixD_at rfl (by rw [List.getElem?_map, hv]; rfl) (by simp only [go_sem])
    have hw : k < 9223372036854775807 := by omega
    have hzv : ((a.above).zip b.above)[k]? = some (z, v) := by rw [List.getElem?_zip_eq_some]; exact ⟨hz, hv⟩
    skip
    replace fx := And.intro hlt2 (And.intro hix (And.intro hiy (And.intro hw trivial)))
    repeat' (first | refine WP.seq ?_ | (refine WP.rg [0, 1, 2, 3, 4, 6, 7, 8, 9, 58, 63, 76, 81, 94, 99, 114] ?_; simp only [RSr_mk]) | refine RS.fnT ?_ | (refine RS.fn ?_; try simp only [thenQ_n, blockQ_n]) | ((refine WP.cn (fun hc => ?_) (fun hc => ?_)) <;> try exact Bool.noConfusion hc) | (refine WP.skip ?_; try simp only [thenQ_n, blockQ_n]) | (refine WP.exit ?_; try simp only [thenQ_e, blockQ_e, blockQ_o, ne_eq, Nat.reduceEqDiff, not_false_eq_true, reduceCtorEq, thenQ_n, blockQ_n]) | refine WP.block ?_ | (refine WP.ret ?_; (try simp only [thenQ_r, blockQ_r]); refine ret3 ?_) | ((first | refine WP.dw (id := 6) 11 [0, 1, 2, 3, 4, 6, 7, 8, 9, 58, 63, 76, 81, 94, 99, 114] ?_ | refine WP.dw (id := 11) 11 [0, 1, 2, 3, 4, 6, 7, 8, 9, 58, 63, 76, 81, 94, 99, 114] ?_ | refine WP.dw (id := 16) 13 [0, 1, 2, 3, 4, 6, 7, 8, 9, 58, 63, 76, 81, 94, 99, 114] ?_); simp only [RQr_mk, List.drop_succ_cons, List.drop_zero, List.drop_nil]) | (refine RQ.nil ?_; refine RS.rn ?_; simp only [RSr_mk]))
    · refine bool_eq ?_
      rw [hse, show (((a.above).zip b.above).all fun p => p.1 == p.2) = false by rw [List.all_eq_false]; exact ⟨(z, v), List.mem_of_getElem? hzv, by simpa using hc⟩]; rfl
    · refine ⟨⟨k + 1, by omega, ?_⟩, by dsimp only; omega, ?_, rfl⟩
      · rw [take_snocA hzv, List.all_append, hinv]; simpa using hc
      · simp only [Agree, go_sem, simprocAttr]
  obtain rfl : k = (a.above).length := by omega
  have hlt2 : decide (((a.above).length : Int) < ((a.above).length : Int)) = false := decide_eq_false (by omega)
  rw [List.take_of_length_le (by rw [List.length_zip]; omega)] at hinv
  rw [hinv, Bool.true_and] at hse
  replace fx := And.intro hlt2 trivial
  repeat' (first | refine WP.seq ?_ | (refine WP.rg [0, 1, 2, 3, 4, 6, 7, 8, 9, 58, 63, 76, 81, 94, 99, 114] ?_; simp only [RSr_mk]) | refine RS.fnT ?_ | (refine RS.fn ?_; try simp only [thenQ_n, blockQ_n]) | ((refine WP.cn (fun hc => ?_) (fun hc => ?_)) <;> try exact Bool.noConfusion hc) | (refine WP.skip ?_; try simp only [thenQ_n, blockQ_n]) | (refine WP.exit ?_; try simp only [thenQ_e, blockQ_e, blockQ_o, ne_eq, Nat.reduceEqDiff, not_false_eq_true, reduceCtorEq, thenQ_n, blockQ_n]) | refine WP.block ?_ | (refine WP.ret ?_; (try simp only [thenQ_r, blockQ_r]); refine ret3 ?_) | ((first | refine WP.dw (id := 6) 11 [0, 1, 2, 3, 4, 6, 7, 8, 9, 58, 63, 76, 81, 94, 99, 114] ?_ | refine WP.dw (id := 11) 11 [0, 1, 2, 3, 4, 6, 7, 8, 9, 58, 63, 76, 81, 94, 99, 114] ?_ | refine WP.dw (id := 16) 13 [0, 1, 2, 3, 4, 6, 7, 8, 9, 58, 63, 76, 81, 94, 99, 114] ?_); simp only [RQr_mk, List.drop_succ_cons, List.drop_zero, List.drop_nil]) | (refine RQ.nil ?_; refine RS.rn ?_; simp only [RSr_mk]))
  refine WP.loop (α := { k : Nat // k ≤ (a.methods).length ∧ (((a.methods).zip b.methods).take k).all (fun p => p.1.likeB q p.2) = true }) (fun y => [(2, .a (.v (.bool q))), (3, .a (.ptr 0 0)), (4, .a (.ptr 1 0)), (9, .a (.v (.int .i64 y.1)))]) (fun _ => [.cell (Cs.at a), .cell (Cs.at b)]) (fun y => (a.methods).length - y.1) ⟨0, by omega, rfl⟩ (by simp only [Agree, go_sem, simprocAttr]) rfl ?_
  rintro ⟨k, hk, hinv⟩
  dsimp only
  by_cases hlt : k < (a.methods).length
  · have hlt2 : decide ((k : Int) < (((a.methods).length : Nat) : Int)) = true := decide_eq_true (by omega)
    obtain ⟨z, hz⟩ : ∃ z, (a.methods)[k]? = some z := ⟨_, List.getElem?_eq_getElem hlt⟩
    have hzm : z ∈ (a.methods) := List.mem_of_getElem? hz
    have hzt := take_snocA hz
    have hix : ∀ q2, ixD (some 17) q2 (.a (.sl ((a.methods).map Me.at))) (.a (.v (.int .i64 (k : Int)))) = some (.a (.ref (Me.at z) 0)) := fun q2 => ixD_at rfl (by rw [List.getElem?_map, hz]; rfl) (by simp only [go_sem])
    obtain ⟨v, hv⟩ : ∃ z, (b.methods)[k]? = some z := ⟨_, List.getElem?_eq_getElem (by omega)⟩
    have hvm : v ∈ (b.methods) := List.mem_of_getElem? hv
    have hiy : ∀ q2, ixD (some 17) q2 (.a (.sl ((b.methods).map Me.at))) (.a (.v (.int .i64 (k : Int)))) = some (.a (.ref (Me.at v) 0)) := fun q2 => ixD_at rfl (by rw [List.getElem?_map, hv]; rfl) (by simp only [go_sem])
    have hw : k < 9223372036854775807 := by omega
    have hzv : ((a.methods).zip b.methods)[k]? = some (z, v) := by rw [List.getElem?_zip_eq_some]; exact ⟨hz, hv⟩
    skip
    replace fx := And.intro hlt2 (And.intro hix (And.intro hiy (And.intro hw trivial)))
    repeat' (first | refine WP.seq ?_ | (refine WP.rg [0, 1, 2, 3, 4, 6, 7, 8, 9, 58, 63, 76, 81, 94, 99, 114] ?_; simp only [RSr_mk]) | refine RS.fnT ?_ | (refine RS.fn ?_; try simp only [thenQ_n, blockQ_n]) | (refine RS.cl (hp := by exact pLike z v q (by have := sumOf_mem (f := Me.sz) hzm; omega)) (h := ?_); refine RS.rn ?_; simp only [RSr_mk]) | ((refine WP.cn (fun hc => ?_) (fun hc => ?_)) <;> try exact Bool.noConfusion hc) | (refine WP.skip ?_; try simp only [thenQ_n, blockQ_n]) | (refine WP.exit ?_; try simp only [thenQ_e, blockQ_e, blockQ_o, ne_eq, Nat.reduceEqDiff, not_false_eq_true, reduceCtorEq, thenQ_n, blockQ_n]) | refine WP.block ?_ | (refine WP.ret ?_; (try simp only [thenQ_r, blockQ_r]); refine ret3 ?_) | ((first | refine WP.dw (id := 6) 11 [0, 1, 2, 3, 4, 6, 7, 8, 9, 58, 63, 76, 81, 94, 99, 114] ?_ | refine WP.dw (id := 11) 11 [0, 1, 2, 3, 4, 6, 7, 8, 9, 58, 63, 76, 81, 94, 99, 114] ?_ | refine WP.dw (id := 16) 13 [0, 1, 2, 3, 4, 6, 7, 8, 9, 58, 63, 76, 81, 94, 99, 114] ?_); simp only [RQr_mk, List.drop_succ_cons, List.drop_zero, List.drop_nil]) | (refine RQ.nil ?_; refine RS.rn ?_; simp only [RSr_mk]) | (refine RQ.cl (hp := by exact pLike z v q (by have := sumOf_mem (f := Me.sz) hzm; omega)) (h := ?_); refine RQ.rn ?_; simp only [RQr_mk]))
    · refine bool_eq ?_
      rw [hse, show (((a.methods).zip b.methods).all fun p => p.1.likeB q p.2) = false by rw [List.all_eq_false]; exact ⟨(z, v), List.mem_of_getElem? hzv, by simpa using hc⟩]; rfl
    · refine ⟨⟨k + 1, by omega, ?_⟩, by dsimp only; omega, ?_, rfl⟩
      · rw [take_snocA hzv, List.all_append, hinv]; simpa using hc
      · simp only [Agree, go_sem, simprocAttr]
  obtain rfl : k = (a.methods).length := by omega
  have hlt2 : decide (((a.methods).length : Int) < ((a.methods).length : Int)) = false := decide_eq_false (by omega)
  rw [List.take_of_length_le (by rw [List.length_zip]; omega)] at hinv
  rw [hinv, Bool.true_and] at hse
  replace fx := And.intro hlt2 trivial
  repeat' (first | refine WP.seq ?_ | (refine WP.rg [0, 1, 2, 3, 4, 6, 7, 8, 9, 58, 63, 76, 81, 94, 99, 114] ?_; simp only [RSr_mk]) | refine RS.fnT ?_ | (refine RS.fn ?_; try simp only [thenQ_n, blockQ_n]) | (refine RS.cl (hp := by exact pVars _ _ _ (by omega)) (h := ?_); refine RS.rn ?_; simp only [RSr_mk]) | ((refine WP.cn (fun hc => ?_) (fun hc => ?_)) <;> try exact Bool.noConfusion hc) | (refine WP.skip ?_; try simp only [thenQ_n, blockQ_n]) | (refine WP.exit ?_; try simp only [thenQ_e, blockQ_e, blockQ_o, ne_eq, Nat.reduceEqDiff, not_false_eq_true, reduceCtorEq, thenQ_n, blockQ_n]) | refine WP.block ?_ | (refine WP.ret ?_; (try simp only [thenQ_r, blockQ_r]); refine ret3 ?_) | ((first | refine WP.dw (id := 6) 11 [0, 1, 2, 3, 4, 6, 7, 8, 9, 58, 63, 76, 81, 94, 99, 114] ?_ | refine WP.dw (id := 11) 11 [0, 1, 2, 3, 4, 6, 7, 8, 9, 58, 63, 76, 81, 94, 99, 114] ?_ | refine WP.dw (id := 16) 13 [0, 1, 2, 3, 4, 6, 7, 8, 9, 58, 63, 76, 81, 94, 99, 114] ?_); simp only [RQr_mk, List.drop_succ_cons, List.drop_zero, List.drop_nil]) | (refine RQ.nil ?_; refine RS.rn ?_; simp only [RSr_mk]) | (refine RQ.cl (hp := by exact pVars _ _ _ (by omega)) (h := ?_); refine RQ.rn ?_; simp only [RQr_mk]))
  exact bool_eq (by rw [hse])
set_option maxRecDepth 100000 in
set_option maxHeartbeats 4000000 in
theorem pLikes (l m : List Cs) (q : Bool) (hz : sumOf Cs.sz l ≤ 1048576) : DPure Tryd.prog 10 [.a (.sl (l.map Cs.at)), .a (.sl (m.map Cs.at)), .a (.v (.bool q))] (.a (.v (.bool (likeB q l m)))) := by
  have hn := sumOf_len Cs.sz_pos l
  refine DPure.go Tryd.func10 rfl Tryd.ntmps10 rfl rfl rfl (fun C hro => ?_)
  have fx := trivial
  repeat' (first | refine WP.seq ?_ | (refine WP.rg [0, 1, 2, 6, 7, 12, 16, 29] ?_; simp only [RSr_mk]) | refine RS.fnT ?_ | (refine RS.fn ?_; try simp only [thenQ_n, blockQ_n]) | ((refine WP.cn (fun hc => ?_) (fun hc => ?_)) <;> try exact Bool.noConfusion hc) | (refine WP.skip ?_; try simp only [thenQ_n, blockQ_n]) | (refine WP.exit ?_; try simp only [thenQ_e, blockQ_e, blockQ_o, ne_eq, Nat.reduceEqDiff, not_false_eq_true, reduceCtorEq, thenQ_n, blockQ_n]) | refine WP.block ?_ | (refine WP.ret ?_; (try simp only [thenQ_r, blockQ_r]); refine ret3 ?_) | ((first | refine WP.dw (id := 6) 11 [0, 1, 2, 6, 7, 12, 16, 29] ?_); simp only [RQr_mk, List.drop_succ_cons, List.drop_zero, List.drop_nil]) | (refine RQ.nil ?_; refine RS.rn ?_; simp only [RSr_mk]))
  · refine bool_eq ?_
    unfold likeB
    rw [zlen _ (lenB hc)]
  have hl := lenE hc
  have hse : likeB q l m = (l.zip m).all (fun p => p.1.oneB q p.2) := zeql _ hl
  refine WP.loop (α := { k : Nat // k ≤ (l).length ∧ (((l).zip m).take k).all (fun p => p.1.oneB q p.2) = true }) (fun y => [(0, .a (.sl (l.map Cs.at))), (1, .a (.sl (m.map Cs.at))), (2, .a (.v (.bool q))), (7, .a (.v (.int .i64 y.1)))]) (fun _ => []) (fun y => (l).length - y.1) ⟨0, by omega, rfl⟩ (by simp only [Agree, go_sem, simprocAttr]) rfl ?_
  rintro ⟨k, hk, hinv⟩
  dsimp only
  by_cases hlt : k < (l).length
  · have hlt2 : decide ((k : Int) < (((l).length : Nat) : Int)) = true := decide_eq_true (by omega)
    obtain ⟨z, hz⟩ : ∃ z, (l)[k]? = some z := ⟨_, List.getElem?_eq_getElem hlt⟩
    have hzm : z ∈ (l) := List.mem_of_getElem? hz
    have hzt := take_snocA hz
    have hix : ∀ q2, ixD (some 7) q2 (.a (.sl ((l).map Cs.at))) (.a (.v (.int .i64 (k : Int)))) = some (.a (.ref (Cs.at z) 0)) := fun q2 => ixD_at rfl (by rw [List.getElem?_map, hz]; rfl) (by simp only [go_sem])
    obtain ⟨v, hv⟩ : ∃ z, (m)[k]? = some z := ⟨_, List.getElem?_eq_getElem (by omega)⟩
    have hvm : v ∈ (m) := List.mem_of_getElem? hv
    have hiy : ∀ q2, ixD (some 7) q2 (.a (.sl ((m).map Cs.at))) (.a (.v (.int .i64 (k : Int)))) = some (.a (.ref (Cs.at v) 0)) := fun q2 => ixD_at rfl (by rw [List.getElem?_map, hv]; rfl) (by simp only [go_sem])
    have hw : k < 9223372036854775807 := by omega
    have hzv : ((l).zip m)[k]? = some (z, v) := by rw [List.getElem?_zip_eq_some]; exact ⟨hz, hv⟩
    skip
    replace fx := And.intro hlt2 (And.intro hix (And.intro hiy (And.intro hw trivial)))
    repeat' (first | refine WP.seq ?_ | (refine WP.rg [0, 1, 2, 6, 7, 12, 16, 29] ?_; simp only [RSr_mk]) | refine RS.fnT ?_ | (refine RS.fn ?_; try simp only [thenQ_n, blockQ_n]) | (refine RS.cl (hp := by exact pOne z v q (by have := sumOf_mem (f := Cs.sz) hzm; omega)) (h := ?_); refine RS.rn ?_; simp only [RSr_mk]) | ((refine WP.cn (fun hc => ?_) (fun hc => ?_)) <;> try exact Bool.noConfusion hc) | (refine WP.skip ?_; try simp only [thenQ_n, blockQ_n]) | (refine WP.exit ?_; try simp only [thenQ_e, blockQ_e, blockQ_o, ne_eq, Nat.reduceEqDiff, not_false_eq_true, reduceCtorEq, thenQ_n, blockQ_n]) | refine WP.block ?_ | (refine WP.ret ?_; (try simp only [thenQ_r, blockQ_r]); refine ret3 ?_) | ((first | refine WP.dw (id := 6) 11 [0, 1, 2, 6, 7, 12, 16, 29] ?_); simp only [RQr_mk, List.drop_succ_cons, List.drop_zero, List.drop_nil]) | (refine RQ.nil ?_; refine RS.rn ?_; simp only [RSr_mk]) | (refine RQ.cl (hp := by exact pOne z v q (by have := sumOf_mem (f := Cs.sz) hzm; omega)) (h := ?_); refine RQ.rn ?_; simp only [RQr_mk]))
    · refine bool_eq ?_
      rw [hse, show (((l).zip m).all fun p => p.1.oneB q p.2) = false by rw [List.all_eq_false]; exact ⟨(z, v), List.mem_of_getElem? hzv, by simpa using hc⟩]
    · refine ⟨⟨k + 1, by omega, ?_⟩, by dsimp only; omega, ?_, rfl⟩
      · rw [take_snocA hzv, List.all_append, hinv]; simpa using hc
      · simp only [Agree, go_sem, simprocAttr]
  obtain rfl : k = (l).length := by omega
  have hlt2 : decide (((l).length : Int) < ((l).length : Int)) = false := decide_eq_false (by omega)
  rw [List.take_of_length_le (by rw [List.length_zip]; omega)] at hinv
  replace fx := And.intro hlt2 trivial
  repeat' (first | refine WP.seq ?_ | (refine WP.rg [0, 1, 2, 6, 7, 12, 16, 29] ?_; simp only [RSr_mk]) | refine RS.fnT ?_ | (refine RS.fn ?_; try simp only [thenQ_n, blockQ_n]) | ((refine WP.cn (fun hc => ?_) (fun hc => ?_)) <;> try exact Bool.noConfusion hc) | (refine WP.skip ?_; try simp only [thenQ_n, blockQ_n]) | (refine WP.exit ?_; try simp only [thenQ_e, blockQ_e, blockQ_o, ne_eq, Nat.reduceEqDiff, not_false_eq_true, reduceCtorEq, thenQ_n, blockQ_n]) | refine WP.block ?_ | (refine WP.ret ?_; (try simp only [thenQ_r, blockQ_r]); refine ret3 ?_) | ((first | refine WP.dw (id := 6) 11 [0, 1, 2, 6, 7, 12, 16, 29] ?_); simp only [RQr_mk, List.drop_succ_cons, List.drop_zero, List.drop_nil]) | (refine RQ.nil ?_; refine RS.rn ?_; simp only [RSr_mk]))
  exact bool_eq (by rw [hse, hinv])
end Go.Proofs.YtofmlhpcobjfcaaDoor
