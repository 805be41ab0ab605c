/- The document's programs on plain data: whether they may be. Conditions: at most 2^20 of anything. -/
import Derived.Test.YtiokbbjejchfbaaGreatDoorMg10
set_option linter.unusedVariables false
set_option linter.unusedSimpArgs false
namespace Go.Proofs.YtiokbbjejchfbaaGreatDoor
open Go.RowKit
/-- A type's four owners. -/
def o4At (t : Ty) : List A := [.v (.int .i64 t.o0.1), .v (.int .i64 t.o0.2), .v (.int .i64 t.o1.1), .v (.int .i64 t.o1.2), .v (.int .i64 t.o2.1), .v (.int .i64 t.o2.2), .v (.int .i64 t.o3.1), .v (.int .i64 t.o3.2)]
@[go_sem] theorem o4_ld (t : Ty) : ldRow (some 8) (Ty.at t) 3 = some (.r (o4At t)) := by obtain ⟨k, cls, n, ⟨a0, b0⟩, ⟨a1, b1⟩, ⟨a2, b2⟩, ⟨a3, b3⟩⟩ := t; rfl
@[go_sem] theorem o4_len (t : Ty) : (o4At t).length = 8 := rfl
@[go_sem] theorem o4_cl (t : Ty) : (o4At t).all clA = true := rfl
@[go_sem] theorem o4_see (t : Ty) (st : List Bx) : (o4At t).map (seeA st) = o4At t := rfl
@[go_sem] theorem o4_w (t : Ty) : ldRow (some 8) (o4At t) 0 = some (.r (o4At t)) := rfl
@[go_sem] theorem o4_z (t : Ty) (a b c d e f g h : A) : putRow [a, b, c, d, e, f, g, h] 0 (o4At t) = o4At t := rfl
@[go_sem] theorem o4_0 (t : Ty) : ldRow none (o4At t) 0 = some (.a (.v (.int .i64 t.o0.1))) := rfl
@[go_sem] theorem o4_1 (t : Ty) : ldRow none (o4At t) 1 = some (.a (.v (.int .i64 t.o0.2))) := rfl
@[go_sem] theorem o4_2 (t : Ty) : ldRow none (o4At t) 2 = some (.a (.v (.int .i64 t.o1.1))) := rfl
@[go_sem] theorem o4_4 (t : Ty) : ldRow none (o4At t) 4 = some (.a (.v (.int .i64 t.o2.1))) := rfl
@[go_sem] theorem o4_6 (t : Ty) : ldRow none (o4At t) 6 = some (.a (.v (.int .i64 t.o3.1))) := rfl
set_option maxRecDepth 100000 in
theorem pHole (t : Ty) : DPure Tryz.prog 20 [.r (Ty.at t)] (.a (.v (.int .i64 t.hole))) := by
  refine DPure.go Tryz.func20 rfl Tryz.ntmps20 rfl rfl rfl (fun C hro => ?_)
  have fx := trivial
  repeat' (first | refine WP.seq ?_ | (refine WP.rg [0, 1, 2, 12] ?_; simp only [RSr_mk]) | refine RS.fnT ?_ | (refine RS.fn ?_; try simp only [thenQ_n, blockQ_n]) | ((refine WP.cn (fun hc => ?_) (fun hc => ?_)) <;> try exact Bool.noConfusion hc) | (refine WP.skip ?_; try simp only [thenQ_n, blockQ_n]) | (refine WP.exit ?_; try simp only [thenQ_e, blockQ_e, blockQ_o, ne_eq, Nat.reduceEqDiff, not_false_eq_true, reduceCtorEq, thenQ_n, blockQ_n]) | refine WP.block ?_ | (refine WP.ret ?_; (try simp only [thenQ_r, blockQ_r]); refine ret3 ?_))
  all_goals
    refine int_eq ?_
    unfold Ty.hole
    rw [hc]; rfl
set_option maxRecDepth 100000 in
theorem pWritten (t : Ty) (p : Int) (hz : t.cls.length ≤ 1048576) : DPure Tryz.prog 61 [.r (Ty.at t), .a (.v (.int .i64 p))] (.a (.v (.bool (wrB t p)))) := by
  refine DPure.go Tryz.func61 rfl Tryz.ntmps61 rfl rfl rfl (fun C hro => ?_)
  have fx := trivial
  repeat' (first | refine WP.seq ?_ | (refine WP.rg [0, 1, 2, 4, 5] ?_; simp only [RSr_mk]) | refine RS.fnT ?_ | (refine RS.fn ?_; try simp only [thenQ_n, blockQ_n]) | (refine RS.cl (hp := by exact pTyRight t p (by omega)) (h := ?_); refine RS.rn ?_; simp only [RSr_mk]) | ((refine WP.cn (fun hc => ?_) (fun hc => ?_)) <;> try exact Bool.noConfusion hc) | (refine WP.skip ?_; try simp only [thenQ_n, blockQ_n]) | (refine WP.exit ?_; try simp only [thenQ_e, blockQ_e, blockQ_o, ne_eq, Nat.reduceEqDiff, not_false_eq_true, reduceCtorEq, thenQ_n, blockQ_n]) | refine WP.block ?_ | (refine WP.ret ?_; (try simp only [thenQ_r, blockQ_r]); refine ret3 ?_))
  refine bool_eq ?_
  rfl
set_option maxRecDepth 100000 in
set_option maxHeartbeats 4000000 in
theorem pHoles (l : List Vr) (hn : l.length ≤ 1048576) : DPure Tryz.prog 19 [.a (.sl (l.map Vr.at))] (.a (.v (.int .i64 (holesN l)))) := by
  refine DPure.go Tryz.func19 rfl Tryz.ntmps19 rfl rfl rfl (fun C hro => ?_)
  have fx := trivial
  repeat' (first | refine WP.seq ?_ | (refine WP.rg [0, 2, 3, 4, 8] ?_; simp only [RSr_mk]) | refine RS.fnT ?_ | (refine RS.fn ?_; try simp only [thenQ_n, blockQ_n]) | ((refine WP.cn (fun hc => ?_) (fun hc => ?_)) <;> try exact Bool.noConfusion hc) | (refine WP.skip ?_; try simp only [thenQ_n, blockQ_n]) | (refine WP.exit ?_; try simp only [thenQ_e, blockQ_e, blockQ_o, ne_eq, Nat.reduceEqDiff, not_false_eq_true, reduceCtorEq, thenQ_n, blockQ_n]) | refine WP.block ?_ | (refine WP.ret ?_; (try simp only [thenQ_r, blockQ_r]); refine ret3 ?_))
  refine WP.loop (α := { k : Nat // k ≤ (l).length }) (fun y => [(0, .a (.sl (l.map Vr.at))), (3, .a (.v (.int .i64 (sumOf vHole (l.take y.1) : Nat)))), (4, .a (.v (.int .i64 y.1)))]) (fun _ => []) (fun y => (l).length - y.1) ⟨0, by omega⟩ (by simp only [Agree, go_sem, simprocAttr, List.take_zero, sumOf, sumOf_app, sumOf_one, vHole]; first | done | (refine congrArg (fun q : Int => D.a (.v (.int .i64 q))) (by omega))) rfl ?_
  rintro ⟨k, hk⟩
  dsimp only
  by_cases hlt : k < (l).length
  · have hlt2 : decide ((k : Int) < (((l).length : Nat) : Int)) = true := decide_eq_true (by omega)
    obtain ⟨z, hz⟩ : ∃ z, (l)[k]? = some z := ⟨_, List.getElem?_eq_getElem hlt⟩
    have hzm : z ∈ (l) := List.mem_of_getElem? hz
    have hzt := take_snocA hz
    have hix : ∀ q2, ixD (some 13) q2 (.a (.sl ((l).map Vr.at))) (.a (.v (.int .i64 (k : Int)))) = some (.a (.ref (Vr.at z) 0)) := fun q2 => ixD_at rfl (by rw [List.getElem?_map, hz]; rfl) (by simp only [go_sem])
    have hw : k < 9223372036854775807 := by omega
    have hT := holesN_le (l.take k)
    unfold holesN at hT
    rw [List.length_take] at hT
    have hh := z.ty.hole_le
    have hwS : IntKind.i64.wrap (((sumOf vHole (l.take k) : Nat) : Int) + (z.ty.hole : Int)) = ((sumOf vHole (l.take k) + z.ty.hole : Nat) : Int) := by rw [wrap64 (by omega) (by omega)]; omega
    replace fx := And.intro hlt2 (And.intro hix (And.intro hw (And.intro hwS trivial)))
    repeat' (first | refine WP.seq ?_ | (refine WP.rg [0, 2, 3, 4, 8] ?_; simp only [RSr_mk]) | refine RS.fnT ?_ | (refine RS.fn ?_; try simp only [thenQ_n, blockQ_n]) | (refine RS.cl (hp := by exact pHole _) (h := ?_); refine RS.rn ?_; simp only [RSr_mk]) | ((refine WP.cn (fun hc => ?_) (fun hc => ?_)) <;> try exact Bool.noConfusion hc) | (refine WP.skip ?_; try simp only [thenQ_n, blockQ_n]) | (refine WP.exit ?_; try simp only [thenQ_e, blockQ_e, blockQ_o, ne_eq, Nat.reduceEqDiff, not_false_eq_true, reduceCtorEq, thenQ_n, blockQ_n]) | refine WP.block ?_ | (refine WP.ret ?_; (try simp only [thenQ_r, blockQ_r]); refine ret3 ?_))
    refine ⟨⟨k + 1, by omega⟩, by dsimp only; omega, ?_, rfl⟩
    simp only [Agree, go_sem, simprocAttr, hzt, sumOf, sumOf_app, sumOf_one, vHole]
    first | done | (refine congrArg (fun q : Int => D.a (.v (.int .i64 q))) (by omega))
  obtain rfl : k = (l).length := by omega
  have hlt2 : decide (((l).length : Int) < ((l).length : Int)) = false := decide_eq_false (by omega)
  repeat' (first | refine WP.seq ?_ | (refine WP.reg [0, 2, 3, 4, 8] (by kernel_rfl) (by kernel_rfl) ?_; refine RS.run2 (by simp only [go_sem, simprocAttr, hlt2, List.take_length]; first | done | rfl) ?_; simp only [RSr_mk]) | (first | refine RS.finT (by simp only [go_sem, simprocAttr]; first | done | rfl) ?_ | refine RS.fin (by simp only [go_sem, simprocAttr]; first | done | rfl) ?_; (try simp only [thenQ_n, blockQ_n])) | (refine RS.call (by simp only [go_sem, simprocAttr, hlt2, List.take_length]; first | done | rfl) (by simp only [go_sem, List.all_cons, List.all_nil, Bool.and_true, hlt2, List.take_length]) (by fail) ?_; refine RS.run2 (by simp only [go_sem, simprocAttr, hlt2, List.take_length]; first | done | rfl) ?_; simp only [RSr_mk]) | ((refine WP.cond rfl (by simp only [go_sem, simprocAttr, hlt2, List.take_length]; first | done | rfl) (fun hc => ?_) (fun hc => ?_)) <;> try exact Bool.noConfusion hc) | (refine WP.skip ?_; (try simp only [thenQ_n, blockQ_n])) | (refine WP.exit ?_; (try simp only [thenQ_e, blockQ_e, blockQ_o, ne_eq, Nat.reduceEqDiff, not_false_eq_true, reduceCtorEq, thenQ_n, blockQ_n])) | refine WP.block ?_ | (refine WP.ret ?_; (try simp only [thenQ_r, blockQ_r]); refine ret1 rfl (by simp only [go_sem, simprocAttr, hlt2, List.take_length]; first | done | rfl) (by simp only [go_sem, hlt2, List.take_length]) ?_) | (fail; simp only [List.take_succ_cons, List.take_zero, List.drop_succ_cons, List.drop_zero, List.take_nil, List.drop_nil]; refine RQ.run2 (by simp only [go_sem, simprocAttr, hlt2, List.take_length]; first | done | rfl) ?_; simp only [RQr_mk]) | (refine RQ.nil ?_; refine RS.run2 (by simp only [go_sem, simprocAttr, hlt2, List.take_length]; first | done | rfl) ?_; simp only [RSr_mk]) | (refine RQ.call (by simp only [go_sem, simprocAttr, hlt2, List.take_length]; first | done | rfl) (by simp only [go_sem, List.all_cons, List.all_nil, Bool.and_true, hlt2, List.take_length]) (by fail) ?_; refine RQ.run2 (by simp only [go_sem, simprocAttr, hlt2, List.take_length]; first | done | rfl) ?_; simp only [RQr_mk]))
  rfl
set_option maxRecDepth 100000 in
set_option maxHeartbeats 4000000 in
theorem pInner (l : List St) (hz : St.szs l ≤ 1048576) : DPure Tryz.prog 21 [.a (.sl (l.map St.at))] (.a (.v (.int .i64 (St.inns l)))) := by
  have hll := St.szs_len l
  have IB : ∀ k ∈ l, DPure Tryz.prog 21 [.a (.sl (k.body.map St.at))] (.a (.v (.int .i64 (St.inns k.body)))) := fun k hk => pInner k.body (by have := St.szs_mem hk; have := k.sz_eq; omega)
  have IE : ∀ k ∈ l, DPure Tryz.prog 21 [.a (.sl (k.els.map St.at))] (.a (.v (.int .i64 (St.inns k.els)))) := fun k hk => pInner k.els (by have := St.szs_mem hk; have := k.sz_eq; omega)
  refine DPure.go Tryz.func21 rfl Tryz.ntmps21 rfl rfl rfl (fun C hro => ?_)
  have fx := trivial
  repeat' (first | refine WP.seq ?_ | (refine WP.rg [0, 2, 3, 4, 8] ?_; simp only [RSr_mk]) | refine RS.fnT ?_ | (refine RS.fn ?_; try simp only [thenQ_n, blockQ_n]) | ((refine WP.cn (fun hc => ?_) (fun hc => ?_)) <;> try exact Bool.noConfusion hc) | (refine WP.skip ?_; try simp only [thenQ_n, blockQ_n]) | (refine WP.exit ?_; try simp only [thenQ_e, blockQ_e, blockQ_o, ne_eq, Nat.reduceEqDiff, not_false_eq_true, reduceCtorEq, thenQ_n, blockQ_n]) | refine WP.block ?_ | (refine WP.ret ?_; (try simp only [thenQ_r, blockQ_r]); refine ret3 ?_) | ((first | refine WP.dw (id := 5) 23 [0, 2, 3, 4, 8] ?_); simp only [RQr_mk, List.drop_succ_cons, List.drop_zero, List.drop_nil]) | (refine RQ.nil ?_; refine RS.rn ?_; simp only [RSr_mk]))
  refine WP.loop (α := { k : Nat // k ≤ (l).length }) (fun y => [(0, .a (.sl (l.map St.at))), (3, .a (.v (.int .i64 (sumOf St.inn (l.take y.1) : Nat)))), (4, .a (.v (.int .i64 y.1)))]) (fun _ => []) (fun y => (l).length - y.1) ⟨0, by omega⟩ (by simp only [Agree, go_sem, simprocAttr, List.take_zero, sumOf, sumOf_app, sumOf_one, St.inn_eq]; first | done | (refine congrArg (fun q : Int => D.a (.v (.int .i64 q))) (by omega))) rfl ?_
  rintro ⟨k, hk⟩
  dsimp only
  by_cases hlt : k < (l).length
  · have hlt2 : decide ((k : Int) < (((l).length : Nat) : Int)) = true := decide_eq_true (by omega)
    obtain ⟨z, hz⟩ : ∃ z, (l)[k]? = some z := ⟨_, List.getElem?_eq_getElem hlt⟩
    have hzm : z ∈ (l) := List.mem_of_getElem? hz
    have hzt := take_snocA hz
    have hix : ∀ q2, ixD (some 23) q2 (.a (.sl ((l).map St.at))) (.a (.v (.int .i64 (k : Int)))) = some (.a (.ref (St.at z) 0)) := fun q2 => ixD_at rfl (by rw [List.getElem?_map, hz]; rfl) (by simp only [go_sem])
    have hw : k < 9223372036854775807 := by omega
    have hT := St.inns_le l
    have hT2 := sumOf_take St.inn l (k + 1)
    rw [hzt, sumOf_app, sumOf_one, ← St.inns_sum l, z.inn_eq] at hT2
    have w1 : IntKind.i64.wrap ((z.ty.hole : Int) + (St.inns z.body : Int)) = ((z.ty.hole + St.inns z.body : Nat) : Int) := by rw [wrap64 (by omega) (by omega)]; omega
    have w2 : IntKind.i64.wrap (((z.ty.hole + St.inns z.body : Nat) : Int) + (St.inns z.els : Int)) = ((z.ty.hole + St.inns z.body + St.inns z.els : Nat) : Int) := by rw [wrap64 (by omega) (by omega)]; omega
    have w3 : IntKind.i64.wrap (((sumOf St.inn (l.take k) : Nat) : Int) + ((z.ty.hole + St.inns z.body + St.inns z.els : Nat) : Int)) = ((sumOf St.inn (l.take k) + (z.ty.hole + St.inns z.body + St.inns z.els) : Nat) : Int) := by rw [wrap64 (by omega) (by omega)]; omega
    replace fx := And.intro hlt2 (And.intro hix (And.intro hw (And.intro w1 (And.intro w2 (And.intro w3 trivial)))))
    repeat' (first | refine WP.seq ?_ | (refine WP.rg [0, 2, 3, 4, 8] ?_; simp only [RSr_mk]) | refine RS.fnT ?_ | (refine RS.fn ?_; try simp only [thenQ_n, blockQ_n]) | (refine RS.cl (hp := by first | exact pHole _ | exact IB _ hzm | exact IE _ hzm) (h := ?_); refine RS.rn ?_; simp only [RSr_mk]) | ((refine WP.cn (fun hc => ?_) (fun hc => ?_)) <;> try exact Bool.noConfusion hc) | (refine WP.skip ?_; try simp only [thenQ_n, blockQ_n]) | (refine WP.exit ?_; try simp only [thenQ_e, blockQ_e, blockQ_o, ne_eq, Nat.reduceEqDiff, not_false_eq_true, reduceCtorEq, thenQ_n, blockQ_n]) | refine WP.block ?_ | (refine WP.ret ?_; (try simp only [thenQ_r, blockQ_r]); refine ret3 ?_) | ((first | refine WP.dw (id := 5) 23 [0, 2, 3, 4, 8] ?_); simp only [RQr_mk, List.drop_succ_cons, List.drop_zero, List.drop_nil]) | (refine RQ.nil ?_; refine RS.rn ?_; simp only [RSr_mk]) | (refine RQ.cl (hp := by first | exact pHole _ | exact IB _ hzm | exact IE _ hzm) (h := ?_); refine RQ.rn ?_; simp only [RQr_mk]))
    refine ⟨⟨k + 1, by omega⟩, by dsimp only; omega, ?_, rfl⟩
    simp only [Agree, go_sem, simprocAttr, hzt, sumOf, sumOf_app, sumOf_one, St.inn_eq]
    first | done | (refine congrArg (fun q : Int => D.a (.v (.int .i64 q))) (by omega))
  obtain rfl : k = (l).length := by omega
  have hlt2 : decide (((l).length : Int) < ((l).length : Int)) = false := decide_eq_false (by omega)
  repeat' (first | refine WP.seq ?_ | (refine WP.reg [0, 2, 3, 4, 8] (by kernel_rfl) (by kernel_rfl) ?_; refine RS.run2 (by simp only [go_sem, simprocAttr, hlt2, List.take_length]; first | done | rfl) ?_; simp only [RSr_mk]) | (first | refine RS.finT (by simp only [go_sem, simprocAttr]; first | done | rfl) ?_ | refine RS.fin (by simp only [go_sem, simprocAttr]; first | done | rfl) ?_; (try simp only [thenQ_n, blockQ_n])) | (refine RS.call (by simp only [go_sem, simprocAttr, hlt2, List.take_length]; first | done | rfl) (by simp only [go_sem, List.all_cons, List.all_nil, Bool.and_true, hlt2, List.take_length]) (by fail) ?_; refine RS.run2 (by simp only [go_sem, simprocAttr, hlt2, List.take_length]; first | done | rfl) ?_; simp only [RSr_mk]) | ((refine WP.cond rfl (by simp only [go_sem, simprocAttr, hlt2, List.take_length]; first | done | rfl) (fun hc => ?_) (fun hc => ?_)) <;> try exact Bool.noConfusion hc) | (refine WP.skip ?_; (try simp only [thenQ_n, blockQ_n])) | (refine WP.exit ?_; (try simp only [thenQ_e, blockQ_e, blockQ_o, ne_eq, Nat.reduceEqDiff, not_false_eq_true, reduceCtorEq, thenQ_n, blockQ_n])) | refine WP.block ?_ | (refine WP.ret ?_; (try simp only [thenQ_r, blockQ_r]); refine ret1 rfl (by simp only [go_sem, simprocAttr, hlt2, List.take_length]; first | done | rfl) (by simp only [go_sem, hlt2, List.take_length]) ?_) | ((first | refine WP.drw (id := 5) 23 [0, 2, 3, 4, 8] (by kernel_rfl) rfl (by kernel_rfl) tb_mix ?_); simp only [List.take_succ_cons, List.take_zero, List.drop_succ_cons, List.drop_zero, List.take_nil, List.drop_nil]; refine RQ.run2 (by simp only [go_sem, simprocAttr, hlt2, List.take_length]; first | done | rfl) ?_; simp only [RQr_mk]) | (refine RQ.nil ?_; refine RS.run2 (by simp only [go_sem, simprocAttr, hlt2, List.take_length]; first | done | rfl) ?_; simp only [RSr_mk]) | (refine RQ.call (by simp only [go_sem, simprocAttr, hlt2, List.take_length]; first | done | rfl) (by simp only [go_sem, List.all_cons, List.all_nil, Bool.and_true, hlt2, List.take_length]) (by fail) ?_; refine RQ.run2 (by simp only [go_sem, simprocAttr, hlt2, List.take_length]; first | done | rfl) ?_; simp only [RQr_mk]))
  rw [St.inns_sum]
  termination_by St.szs l
  decreasing_by all_goals (have := St.szs_mem hk; have := k.sz_eq; omega)
set_option maxRecDepth 100000 in
set_option maxHeartbeats 4000000 in
theorem pVarsR (l : List Vr) (most : Nat) (p : Int) (hz : sumOf Vr.sz l ≤ 1048576) : DPure Tryz.prog 40 [.a (.sl (l.map Vr.at)), .a (.v (.int .i64 (most : Int))), .a (.v (.int .i64 p))] (.a (.v (.bool (vrsB l most p)))) := by
  obtain ⟨hn, hv⟩ := Vr.szM hz
  have hse : vrsB l most p = (l.all (vrB p) && decide ((l.length : Int) ≤ (most : Int))) := by
    unfold vrsB
    rw [Bool.and_comm]
    congr 1
    rw [Bool.eq_iff_iff]; simp
  refine DPure.go Tryz.func40 rfl Tryz.ntmps40 rfl rfl rfl (fun C hro => ?_)
  have fx := trivial
  repeat' (first | refine WP.seq ?_ | (refine WP.rg [0, 1, 2, 6, 7, 11, 39] ?_; simp only [RSr_mk]) | refine RS.fnT ?_ | (refine RS.fn ?_; try simp only [thenQ_n, blockQ_n]) | ((refine WP.cn (fun hc => ?_) (fun hc => ?_)) <;> try exact Bool.noConfusion hc) | (refine WP.skip ?_; try simp only [thenQ_n, blockQ_n]) | (refine WP.exit ?_; try simp only [thenQ_e, blockQ_e, blockQ_o, ne_eq, Nat.reduceEqDiff, not_false_eq_true, reduceCtorEq, thenQ_n, blockQ_n]) | refine WP.block ?_ | (refine WP.ret ?_; (try simp only [thenQ_r, blockQ_r]); refine ret3 ?_))
  refine WP.loop (α := { k : Nat // k ≤ (l).length ∧ ((l).take k).all (vrB p) = true }) (fun y => [(0, .a (.sl (l.map Vr.at))), (1, .a (.v (.int .i64 (most : Int)))), (2, .a (.v (.int .i64 p))), (7, .a (.v (.int .i64 y.1)))]) (fun _ => []) (fun y => (l).length - y.1) ⟨0, by omega, rfl⟩ (by simp only [Agree, go_sem, simprocAttr]) rfl ?_
  rintro ⟨k, hk, hinv⟩
  dsimp only
  by_cases hlt : k < (l).length
  · have hlt2 : decide ((k : Int) < (((l).length : Nat) : Int)) = true := decide_eq_true (by omega)
    obtain ⟨z, hz⟩ : ∃ z, (l)[k]? = some z := ⟨_, List.getElem?_eq_getElem hlt⟩
    have hzm : z ∈ (l) := List.mem_of_getElem? hz
    have hzt := take_snocA hz
    have hix : ∀ q2, ixD (some 13) q2 (.a (.sl ((l).map Vr.at))) (.a (.v (.int .i64 (k : Int)))) = some (.a (.ref (Vr.at z) 0)) := fun q2 => ixD_at rfl (by rw [List.getElem?_map, hz]; rfl) (by simp only [go_sem])
    have hw : k < 9223372036854775807 := by omega
    skip
    replace fx := And.intro hlt2 (And.intro hix (And.intro hw trivial))
    repeat' (first | refine WP.seq ?_ | (refine WP.rg [0, 1, 2, 6, 7, 11, 39] ?_; simp only [RSr_mk]) | refine RS.fnT ?_ | (refine RS.fn ?_; try simp only [thenQ_n, blockQ_n]) | (refine RS.cl (hp := by first | exact pName z.name (by have := (hv z hzm).1; omega) | exact pWritten z.ty p (hv z hzm).2) (h := ?_); refine RS.rn ?_; simp only [RSr_mk]) | ((refine WP.cn (fun hc => ?_) (fun hc => ?_)) <;> try exact Bool.noConfusion hc) | (refine WP.skip ?_; try simp only [thenQ_n, blockQ_n]) | (refine WP.exit ?_; try simp only [thenQ_e, blockQ_e, blockQ_o, ne_eq, Nat.reduceEqDiff, not_false_eq_true, reduceCtorEq, thenQ_n, blockQ_n]) | refine WP.block ?_ | (refine WP.ret ?_; (try simp only [thenQ_r, blockQ_r]); refine ret3 ?_))
    · refine bool_eq ?_
      rw [hse, show (l).all (vrB p) = false by rw [List.all_eq_false]; exact ⟨z, hzm, by simp only [vrB, List.all_cons, List.all_nil, Bool.and_true, Bool.true_and]; unfold bne; revert hc; cases (z.ty.kind == 0) <;> cases nameB z.name <;> cases wrB z.ty p <;> simp⟩]; rfl
    · refine ⟨⟨k + 1, by omega, by rw [hzt, List.all_append, hinv]; simp only [vrB, List.all_cons, List.all_nil, Bool.and_true, Bool.true_and]; unfold bne; revert hc; cases (z.ty.kind == 0) <;> cases nameB z.name <;> cases wrB z.ty p <;> simp⟩, by dsimp only; omega, ?_, rfl⟩
      simp only [Agree, go_sem, simprocAttr]
  obtain rfl : k = (l).length := by omega
  rw [List.take_length] at hinv
  have hlt2 : decide (((l).length : Int) < ((l).length : Int)) = false := decide_eq_false (by omega)
  replace fx := And.intro hlt2 trivial
  repeat' (first | refine WP.seq ?_ | (refine WP.rg [0, 1, 2, 6, 7, 11, 39] ?_; simp only [RSr_mk]) | refine RS.fnT ?_ | (refine RS.fn ?_; try simp only [thenQ_n, blockQ_n]) | ((refine WP.cn (fun hc => ?_) (fun hc => ?_)) <;> try exact Bool.noConfusion hc) | (refine WP.skip ?_; try simp only [thenQ_n, blockQ_n]) | (refine WP.exit ?_; try simp only [thenQ_e, blockQ_e, blockQ_o, ne_eq, Nat.reduceEqDiff, not_false_eq_true, reduceCtorEq, thenQ_n, blockQ_n]) | refine WP.block ?_ | (refine WP.ret ?_; (try simp only [thenQ_r, blockQ_r]); refine ret3 ?_))
  exact bool_eq (by rw [hse, hinv]; rfl)
set_option maxRecDepth 100000 in
set_option maxHeartbeats 4000000 in
theorem pOpen (l : List St) (p : Int) (hz : St.szs l ≤ 1048576) : DPure Tryz.prog 62 [.a (.sl (l.map St.at)), .a (.v (.int .i64 p))] (.a (.v (.bool (St.opensB p l)))) := by
  have hll := St.szs_len l
  have IB : ∀ k ∈ l, DPure Tryz.prog 62 [.a (.sl (k.body.map St.at)), .a (.v (.int .i64 p))] (.a (.v (.bool (St.opensB p k.body)))) := fun k hk => pOpen k.body p (by have := St.szs_mem hk; have := k.sz_eq; omega)
  have IE : ∀ k ∈ l, DPure Tryz.prog 62 [.a (.sl (k.els.map St.at)), .a (.v (.int .i64 p))] (.a (.v (.bool (St.opensB p k.els)))) := fun k hk => pOpen k.els p (by have := St.szs_mem hk; have := k.sz_eq; omega)
  have hse := St.opensB_all p l
  refine DPure.go Tryz.func62 rfl Tryz.ntmps62 rfl rfl rfl (fun C hro => ?_)
  have fx := trivial
  repeat' (first | refine WP.seq ?_ | (refine WP.rg [0, 1, 4, 5, 9, 48] ?_; simp only [RSr_mk]) | refine RS.fnT ?_ | (refine RS.fn ?_; try simp only [thenQ_n, blockQ_n]) | ((refine WP.cn (fun hc => ?_) (fun hc => ?_)) <;> try exact Bool.noConfusion hc) | (refine WP.skip ?_; try simp only [thenQ_n, blockQ_n]) | (refine WP.exit ?_; try simp only [thenQ_e, blockQ_e, blockQ_o, ne_eq, Nat.reduceEqDiff, not_false_eq_true, reduceCtorEq, thenQ_n, blockQ_n]) | refine WP.block ?_ | (refine WP.ret ?_; (try simp only [thenQ_r, blockQ_r]); refine ret3 ?_))
  refine WP.loop (α := { k : Nat // k ≤ (l).length ∧ ((l).take k).all (St.openB p) = true }) (fun y => [(0, .a (.sl (l.map St.at))), (1, .a (.v (.int .i64 p))), (5, .a (.v (.int .i64 y.1)))]) (fun _ => []) (fun y => (l).length - y.1) ⟨0, by omega, rfl⟩ (by simp only [Agree, go_sem, simprocAttr]) rfl ?_
  rintro ⟨k, hk, hinv⟩
  dsimp only
  by_cases hlt : k < (l).length
  · have hlt2 : decide ((k : Int) < (((l).length : Nat) : Int)) = true := decide_eq_true (by omega)
    obtain ⟨z, hz⟩ : ∃ z, (l)[k]? = some z := ⟨_, List.getElem?_eq_getElem hlt⟩
    have hzm : z ∈ (l) := List.mem_of_getElem? hz
    have hzt := take_snocA hz
    have hix : ∀ q2, ixD (some 23) q2 (.a (.sl ((l).map St.at))) (.a (.v (.int .i64 (k : Int)))) = some (.a (.ref (St.at z) 0)) := fun q2 => ixD_at rfl (by rw [List.getElem?_map, hz]; rfl) (by simp only [go_sem])
    have hw : k < 9223372036854775807 := by omega
    skip
    replace fx := And.intro hlt2 (And.intro hix (And.intro hw trivial))
    repeat' (first | refine WP.seq ?_ | (refine WP.rg [0, 1, 4, 5, 9, 48] ?_; simp only [RSr_mk]) | refine RS.fnT ?_ | (refine RS.fn ?_; try simp only [thenQ_n, blockQ_n]) | (refine RS.cl (hp := by first | exact IB _ hzm | exact IE _ hzm | exact pWritten z.ty p (by have := St.szs_mem hzm; have := z.sz_eq; omega)) (h := ?_); refine RS.rn ?_; simp only [RSr_mk]) | ((refine WP.cn (fun hc => ?_) (fun hc => ?_)) <;> try exact Bool.noConfusion hc) | (refine WP.skip ?_; try simp only [thenQ_n, blockQ_n]) | (refine WP.exit ?_; try simp only [thenQ_e, blockQ_e, blockQ_o, ne_eq, Nat.reduceEqDiff, not_false_eq_true, reduceCtorEq, thenQ_n, blockQ_n]) | refine WP.block ?_ | (refine WP.ret ?_; (try simp only [thenQ_r, blockQ_r]); refine ret3 ?_))
    · refine bool_eq ?_
      rw [hse, show (l).all (St.openB p) = false by rw [List.all_eq_false]; exact ⟨z, hzm, by simp only [St.open_eq, List.all_cons, List.all_nil, Bool.and_true, Bool.true_and]; revert hc; cases (z.ty.kind == 2) <;> cases wrB z.ty p <;> cases St.opensB p z.body <;> cases St.opensB p z.els <;> simp⟩]
    · refine ⟨⟨k + 1, by omega, by rw [hzt, List.all_append, hinv]; simp only [St.open_eq, List.all_cons, List.all_nil, Bool.and_true, Bool.true_and]; revert hc; cases (z.ty.kind == 2) <;> cases wrB z.ty p <;> cases St.opensB p z.body <;> cases St.opensB p z.els <;> simp⟩, by dsimp only; omega, ?_, rfl⟩
      simp only [Agree, go_sem, simprocAttr]
  obtain rfl : k = (l).length := by omega
  rw [List.take_length] at hinv
  have hlt2 : decide (((l).length : Int) < ((l).length : Int)) = false := decide_eq_false (by omega)
  replace fx := And.intro hlt2 trivial
  repeat' (first | refine WP.seq ?_ | (refine WP.rg [0, 1, 4, 5, 9, 48] ?_; simp only [RSr_mk]) | refine RS.fnT ?_ | (refine RS.fn ?_; try simp only [thenQ_n, blockQ_n]) | ((refine WP.cn (fun hc => ?_) (fun hc => ?_)) <;> try exact Bool.noConfusion hc) | (refine WP.skip ?_; try simp only [thenQ_n, blockQ_n]) | (refine WP.exit ?_; try simp only [thenQ_e, blockQ_e, blockQ_o, ne_eq, Nat.reduceEqDiff, not_false_eq_true, reduceCtorEq, thenQ_n, blockQ_n]) | refine WP.block ?_ | (refine WP.ret ?_; (try simp only [thenQ_r, blockQ_r]); refine ret3 ?_))
  exact bool_eq (by rw [hse, hinv])
  termination_by St.szs l
  decreasing_by all_goals (have := St.szs_mem hk; have := k.sz_eq; omega)
set_option maxRecDepth 100000 in
set_option maxHeartbeats 4000000 in
theorem pMethod (m : Me) (p : Int) (hz : m.sz ≤ 1048576) : DPure Tryz.prog 39 [.r (Me.at m), .a (.v (.int .i64 p))] (.a (.v (.bool (m.rightB p)))) := by
  obtain ⟨z1, z2, z3, z4, z5, z6⟩ := Me.szH hz
  have hll := St.szs_len m.body
  have hse : m.rightB p = (m.body.all (St.rightB · p) && (nameB m.name && wrB m.ret p && vrsB m.params 5 p && vrsB m.locals 12 p && St.opensB p m.body)) := rfl
  refine DPure.go Tryz.func39 rfl Tryz.ntmps39 rfl rfl rfl (fun C hro => ?_)
  have fx := trivial
  repeat' (first | refine WP.seq ?_ | (refine WP.rg [0, 1, 2, 4, 5, 10, 20] ?_; simp only [RSr_mk]) | refine RS.fnT ?_ | (refine RS.fn ?_; try simp only [thenQ_n, blockQ_n]) | ((refine WP.cn (fun hc => ?_) (fun hc => ?_)) <;> try exact Bool.noConfusion hc) | (refine WP.skip ?_; try simp only [thenQ_n, blockQ_n]) | (refine WP.exit ?_; try simp only [thenQ_e, blockQ_e, blockQ_o, ne_eq, Nat.reduceEqDiff, not_false_eq_true, reduceCtorEq, thenQ_n, blockQ_n]) | refine WP.block ?_ | (refine WP.ret ?_; (try simp only [thenQ_r, blockQ_r]); refine ret3 ?_))
  refine WP.loop (α := { k : Nat // k ≤ (m.body).length ∧ ((m.body).take k).all ((St.rightB · p)) = true }) (fun y => [(1, .a (.v (.int .i64 p))), (2, .a (.ptr 0 0)), (5, .a (.v (.int .i64 y.1)))]) (fun _ => [.cell (Me.at m)]) (fun y => (m.body).length - y.1) ⟨0, by omega, rfl⟩ (by simp only [Agree, go_sem, simprocAttr]) rfl ?_
  rintro ⟨k, hk, hinv⟩
  dsimp only
  by_cases hlt : k < (m.body).length
  · have hlt2 : decide ((k : Int) < (((m.body).length : Nat) : Int)) = true := decide_eq_true (by omega)
    obtain ⟨z, hz⟩ : ∃ z, (m.body)[k]? = some z := ⟨_, List.getElem?_eq_getElem hlt⟩
    have hzm : z ∈ (m.body) := List.mem_of_getElem? hz
    have hzt := take_snocA hz
    have hix : ∀ q2, ixD (some 23) q2 (.a (.sl ((m.body).map St.at))) (.a (.v (.int .i64 (k : Int)))) = some (.a (.ref (St.at z) 0)) := fun q2 => ixD_at rfl (by rw [List.getElem?_map, hz]; rfl) (by simp only [go_sem])
    have hw : k < 9223372036854775807 := by omega
    skip
    replace fx := And.intro hlt2 (And.intro hix (And.intro hw trivial))
    repeat' (first | refine WP.seq ?_ | (refine WP.rg [0, 1, 2, 4, 5, 10, 20] ?_; simp only [RSr_mk]) | refine RS.fnT ?_ | (refine RS.fn ?_; try simp only [thenQ_n, blockQ_n]) | (refine RS.cl (hp := by exact pStRight z p (by have := St.szs_mem hzm; omega)) (h := ?_); refine RS.rn ?_; simp only [RSr_mk]) | ((refine WP.cn (fun hc => ?_) (fun hc => ?_)) <;> try exact Bool.noConfusion hc) | (refine WP.skip ?_; try simp only [thenQ_n, blockQ_n]) | (refine WP.exit ?_; try simp only [thenQ_e, blockQ_e, blockQ_o, ne_eq, Nat.reduceEqDiff, not_false_eq_true, reduceCtorEq, thenQ_n, blockQ_n]) | refine WP.block ?_ | (refine WP.ret ?_; (try simp only [thenQ_r, blockQ_r]); refine ret3 ?_))
    · refine bool_eq ?_
      rw [hse, show (m.body).all ((St.rightB · p)) = false by rw [List.all_eq_false]; exact ⟨z, hzm, by simpa using hc⟩]; rfl
    · refine ⟨⟨k + 1, by omega, by rw [hzt, List.all_append, hinv]; simpa using hc⟩, by dsimp only; omega, ?_, rfl⟩
      simp only [Agree, go_sem, simprocAttr]
  obtain rfl : k = (m.body).length := by omega
  rw [List.take_length] at hinv
  have hlt2 : decide (((m.body).length : Int) < ((m.body).length : Int)) = false := decide_eq_false (by omega)
  rw [hinv, Bool.true_and] at hse
  replace fx := And.intro hlt2 trivial
  repeat' (first | refine WP.seq ?_ | (refine WP.rg [0, 1, 2, 4, 5, 10, 20] ?_; simp only [RSr_mk]) | refine RS.fnT ?_ | (refine RS.fn ?_; try simp only [thenQ_n, blockQ_n]) | (refine RS.cl (hp := by first | exact pName _ (by omega) | exact pWritten _ p (by omega) | exact pVarsR m.params 5 p z3 | exact pVarsR m.locals 12 p z4 | exact pOpen _ p z5) (h := ?_); refine RS.rn ?_; simp only [RSr_mk]) | ((refine WP.cn (fun hc => ?_) (fun hc => ?_)) <;> try exact Bool.noConfusion hc) | (refine WP.skip ?_; try simp only [thenQ_n, blockQ_n]) | (refine WP.exit ?_; try simp only [thenQ_e, blockQ_e, blockQ_o, ne_eq, Nat.reduceEqDiff, not_false_eq_true, reduceCtorEq, thenQ_n, blockQ_n]) | refine WP.block ?_ | (refine WP.ret ?_; (try simp only [thenQ_r, blockQ_r]); refine ret3 ?_))
  exact bool_eq (by rw [hse])
end Go.Proofs.YtiokbbjejchfbaaGreatDoor
