/- The program's statements: their names, on plain data. Conditions: at most 2^20 of anything. -/
import Derived.Test.YtibdalkdgjghoaaGreatDoorMg31
import Derived.Test.YtibdalkdgjghoaaGreatDoorMg32
import Derived.Test.YtibdalkdgjghoaaGreatDoorMg25
import Derived.Test.YtibdalkdgjghoaaGreatDoorMg29
import Derived.Test.YtibdalkdgjghoaaGreatDoorMg30
import Derived.Test.YtibdalkdgjghoaaGreatDoorMg33
set_option linter.unusedVariables false
set_option linter.unusedSimpArgs false
namespace Go.Proofs.YtibdalkdgjghoaaGreatDoor
open Go.RowKit
@[go_sem] theorem evBin_and {b : Bool} {x y : Int} : evBin b .and (.int .i64 x) (.int .i64 y) = some (.int .i64 (bitP x y)) := rfl
def bitOf (h : Int) (m : Nat) : Bool := (h.toNat / m) % 2 == 1
def namedQ (b1 b2 b4 b8 b512 : Bool) (s : St) : Bool :=
  (bif (!b1 || (b512 && s.x == [])) then s.x == [] else nameB s.x) && ((bif !b2 then s.y == [] else (nameB s.y || (b4 && s.y == [116, 104, 105, 115]))) && (bif !b8 then s.name == [] else nameB s.name))
def namedP (h : Int) (s : St) : Bool := namedQ (bitOf h 1) (bitOf h 2) (bitOf h 4) (bitOf h 8) (bitOf h 512) s
end Go.Proofs.YtibdalkdgjghoaaGreatDoor
namespace Go.Proofs.YtibdalkdgjghoaaGreatDoor
open Go.RowKit
theorem not_any_not {α : Type} (l : List α) (f : α → Bool) : (!l.any fun k => !f k) = l.all f := by
  induction l with
  | nil => rfl
  | cons x r ih => rw [List.any_cons, List.all_cons, ← ih]; cases f x <;> simp
def toldQ (b16 b32 b64 : Bool) (s : St) (p : Int) : Bool :=
  (bif b16 then s.ty.kind == 2 && tyB s.ty p else decide (s.ty = Ty.zero)) &&
  ((bif (!b32 || (s.kind == 11 && s.e.sameB Ex.zero)) then s.e.sameB Ex.zero else s.e.rightB && !(s.kind == 6 && s.e.kind != 2 && s.e.kind != 3 && s.e.kind != 4)) &&
  (bif !b64 then (s.args.length : Int) == 0 else decide ((s.args.length : Int) ≤ 5) && s.args.all Ex.rightB))
def toldP (h : Int) (s : St) (p : Int) : Bool := toldQ (bitOf h 16) (bitOf h 32) (bitOf h 64) s p
set_option maxRecDepth 100000 in
set_option maxHeartbeats 4000000 in
theorem psTold1 (e : Ex) (hz : e.sz ≤ 1048576) : DPure Tryz.prog 227 [.r (Ex.at e)] (.a (.v (.bool (!e.rightB)))) := by
  refine DPure.go Tryz.func227 rfl Tryz.ntmps227 rfl rfl rfl (fun C hro => ?_)
  have fx := trivial
  repeat' (first | refine WP.seq ?_ | (refine WP.rg [0, 1, 2] ?_; simp only [RSr_mk]) | refine RS.fnT ?_ | (refine RS.fn ?_; try simp only [thenQ_n, blockQ_n]) | (refine RS.cL (hp := by exact peRight e hz) (h := ?_); refine RS.rn ?_; simp only [RSr_mk]) | (refine WP.ret ?_; (try simp only [thenQ_r, blockQ_r]); refine ret3 ?_))
  rfl
set_option maxRecDepth 100000 in
set_option maxHeartbeats 8000000 in
theorem psTold (s : St) (h p : Int) (b16 b32 b64 : Bool) (e16 : (bitP h 16 == 0) = !b16) (e32 : (bitP h 32 == 0) = !b32) (e64 : (bitP h 64 == 0) = !b64) (hz : s.sz ≤ 1048576) : DPure Tryz.prog 174 [.r (St.at s), .a (.v (.int .i64 h)), .a (.v (.int .i64 p))] (.a (.v (.bool (toldQ b16 b32 b64 s p)))) := by
  have hse := s.sz_eq
  have f16 : (bitP h 16 != 0) = b16 := by unfold bne; rw [e16, Bool.not_not]
  have hasz : ∀ k ∈ s.args, k.sz ≤ 1048576 := fun k hk => by have := Ex.szs_mem hk; omega
  have hal : s.args.length ≤ 1048576 := by have := Ex.szs_len s.args; omega
  refine DPure.go Tryz.func174 rfl Tryz.ntmps174 rfl rfl rfl (fun C hro => ?_)
  have fx := trivial
  replace fx := And.intro e16 (And.intro f16 (And.intro e32 (And.intro e64 trivial)))
  repeat' (first | refine WP.seq ?_ | (refine WP.rg [0, 1, 2, 3, 6, 33, 34, 51, 52, 57, 81] ?_; simp only [RSr_mk]) | refine RS.fnT ?_ | (refine RS.fn ?_; try simp only [thenQ_n, blockQ_n]) | (refine RS.cL (hp := by first | exact pkRight s.ty p (by omega) | exact psNone s.e (by omega) | exact peRight s.e (by omega) | exact pCfExpr (fun k => !k.rightB) s.args 227 [] rfl hal fun k hk => psTold1 k (hasz k hk)) (h := ?_); refine RS.rn ?_; simp only [RSr_mk]) | ((refine WP.cn (fun hc => ?_) (fun hc => ?_)) <;> try exact Bool.noConfusion hc) | (refine WP.skip ?_; try simp only [thenQ_n, blockQ_n]) | refine WP.block ?_ | (refine WP.ret ?_; (try simp only [thenQ_r, blockQ_r]); refine ret3 ?_))
  all_goals
    refine bool_eq ?_
    unfold toldQ
    clear e16 e32 e64 f16
    try rw [not_any_not]
    cases b16 <;> cases b32 <;> cases b64 <;> simp_all <;> first | (intros; omega) | (rcases ‹¬s.ty.kind = 2 ∨ tyB s.ty p = false› with h | h <;> intro h1 h2 <;> simp_all)
end Go.Proofs.YtibdalkdgjghoaaGreatDoor
namespace Go.Proofs.YtibdalkdgjghoaaGreatDoor
/-- Has a statement all that its kind has, and no more? -/
def nodeP (s : St) (p : Int) : Bool :=
  hasP s.kind != 0 && (namedP (hasP s.kind) s && (toldP (hasP s.kind) s p && ((bitOf (hasP s.kind) 128 || (s.body.length : Int) == 0) && (bitOf (hasP s.kind) 256 || (s.els.length : Int) == 0))))
theorem len0 {α : Type} (l : List α) : ((l.length : Int) == 0) = l.isEmpty := by cases l <;> simp; omega
theorem add0 (a b c : Nat) : (((a + b + c : Nat) : Int) == 0) = ((a : Int) == 0 && ((b : Int) == 0 && (c : Int) == 0)) := by
  rw [Bool.eq_iff_iff]; simp; omega
theorem sum3 {α β γ : Type} (l : List α) (m : List β) (n : List γ) : ((l.length : Int) + (m.length : Int) + (n.length : Int) == 0) = (l.isEmpty && (m.isEmpty && n.isEmpty)) := by
  rw [← len0, ← len0, ← len0, Bool.eq_iff_iff]; simp only [beq_iff_eq, Bool.and_eq_true]; omega
theorem sum2 {α β : Type} (l : List α) (m : List β) : ((l.length : Int) + (m.length : Int) == 0) = (l.isEmpty && m.isEmpty) := by
  rw [← len0, ← len0, Bool.eq_iff_iff]; simp only [beq_iff_eq, Bool.and_eq_true]; omega
theorem n5 (m : Int) : (!decide (5 < m)) = decide (m ≤ 5) := by
  rw [Bool.eq_iff_iff]; simp
theorem zz : Ex.zero.sameB Ex.zero = true := by decide
theorem node_law (s : St) (p : Int) : nodeP s p = !(!St.onlyB s || !St.namesB s p || !St.tellsB s) := by
  obtain ⟨k, x, y, n, t, e, args, body, els, a⟩ := s
  by_cases hin : 1 ≤ k ∧ k ≤ 11
  · have : k = 1 ∨ k = 2 ∨ k = 3 ∨ k = 4 ∨ k = 5 ∨ k = 6 ∨ k = 7 ∨ k = 8 ∨ k = 9 ∨ k = 10 ∨ k = 11 := by omega
    clear hin
    rcases this with rfl | rfl | rfl | rfl | rfl | rfl | rfl | rfl | rfl | rfl | rfl
    all_goals
      simp [nodeP, hasP, namedP, namedQ, toldP, toldQ, bitOf, St.onlyB, St.blank, St.namesB, St.tellsB, St.noneB, zz, len0, add0]
      simp only [sum3, sum2, n5]
      first | (cases args <;> simp [Bool.and_assoc, Bool.and_comm, Bool.and_left_comm, Bool.or_comm]; done) | skip
  · have h0 : hasP k = 0 := by unfold hasP; repeat' (first | omega | (rw [if_neg (by omega)]) | rfl)
    have h1 : nodeP ⟨k, x, y, n, t, e, args, body, els, a⟩ p = false := by unfold nodeP; dsimp only; rw [h0]; rfl
    have h2 : St.onlyB ⟨k, x, y, n, t, e, args, body, els, a⟩ = false := by
      have : (decide (k ≥ 1) && decide (k ≤ 11)) = false := by
        rw [Bool.and_eq_false_iff, decide_eq_false_iff_not, decide_eq_false_iff_not]; omega
      unfold St.onlyB
      dsimp only
      rw [this]; rfl
    rw [h1, h2]; rfl
end Go.Proofs.YtibdalkdgjghoaaGreatDoor
namespace Go.Proofs.YtibdalkdgjghoaaGreatDoor
open Go.RowKit
set_option maxRecDepth 100000 in
set_option maxHeartbeats 8000000 in
theorem psNamedG (s : St) (h : Int) (b1 b2 b4 b8 b512 : Bool) (e1 : (bitP h 1 == 0) = !b1) (e2 : (bitP h 2 == 0) = !b2) (e4 : (bitP h 4 == 0) = !b4) (e8 : (bitP h 8 == 0) = !b8) (e512 : (bitP h 512 == 0) = !b512) (hz : s.sz ≤ 1048576) : DPure Tryz.prog 173 [.r (St.at s), .a (.v (.int .i64 h))] (.a (.v (.bool (namedQ b1 b2 b4 b8 b512 s)))) := by
  have hse := s.sz_eq
  have f1 : (bitP h 1 != 0) = b1 := by unfold bne; rw [e1, Bool.not_not]
  have f2 : (bitP h 2 != 0) = b2 := by unfold bne; rw [e2, Bool.not_not]
  have f4 : (bitP h 4 != 0) = b4 := by unfold bne; rw [e4, Bool.not_not]
  have f8 : (bitP h 8 != 0) = b8 := by unfold bne; rw [e8, Bool.not_not]
  have f512 : (bitP h 512 != 0) = b512 := by unfold bne; rw [e512, Bool.not_not]
  refine DPure.go Tryz.func173 rfl Tryz.ntmps173 rfl rfl rfl (fun C hro => ?_)
  have fx := trivial
  replace fx := And.intro e1 (And.intro e2 (And.intro e4 (And.intro e8 (And.intro e512 (And.intro f1 (And.intro f2 (And.intro f4 (And.intro f8 (And.intro f512 trivial)))))))))
  repeat' (first | refine WP.seq ?_ | (refine WP.rg [0, 1, 2, 4, 5, 21, 22, 27, 33, 34, 51] ?_; simp only [RSr_mk]) | refine RS.fnT ?_ | (refine RS.fn ?_; try simp only [thenQ_n, blockQ_n]) | (refine RS.cL (hp := by first | exact pwName s.x (by omega) | exact pwName s.y (by omega) | exact pwName s.name (by omega)) (h := ?_); refine RS.rn ?_; simp only [RSr_mk]) | ((refine WP.cn (fun hc => ?_) (fun hc => ?_)) <;> try exact Bool.noConfusion hc) | (refine WP.skip ?_; try simp only [thenQ_n, blockQ_n]) | refine WP.block ?_ | (refine WP.ret ?_; (try simp only [thenQ_r, blockQ_r]); refine ret3 ?_))
  all_goals
    refine bool_eq ?_
    unfold namedQ
    clear e1 e2 e4 e8 e512 f1 f2 f4 f8 f512
    cases hny : nameB s.y <;> cases b1 <;> cases b2 <;> cases b4 <;> cases b8 <;> cases b512 <;> simp_all
theorem hasP_bits (k : Int) : ((bitP (hasP k) 1 == 0) = !bitOf (hasP k) 1) ∧ ((bitP (hasP k) 2 == 0) = !bitOf (hasP k) 2) ∧ ((bitP (hasP k) 4 == 0) = !bitOf (hasP k) 4) ∧ ((bitP (hasP k) 8 == 0) = !bitOf (hasP k) 8) ∧ ((bitP (hasP k) 16 == 0) = !bitOf (hasP k) 16) ∧ ((bitP (hasP k) 32 == 0) = !bitOf (hasP k) 32) ∧ ((bitP (hasP k) 64 == 0) = !bitOf (hasP k) 64) ∧ ((bitP (hasP k) 128 == 0) = !bitOf (hasP k) 128) ∧ ((bitP (hasP k) 256 == 0) = !bitOf (hasP k) 256) ∧ ((bitP (hasP k) 512 == 0) = !bitOf (hasP k) 512) := by
  have key : ∀ h ∈ ([33, 15, 46, 591, 17, 49, 3, 2, 416, 160, 32, 0] : List Int), ((bitP h 1 == 0) = !bitOf h 1) ∧ ((bitP h 2 == 0) = !bitOf h 2) ∧ ((bitP h 4 == 0) = !bitOf h 4) ∧ ((bitP h 8 == 0) = !bitOf h 8) ∧ ((bitP h 16 == 0) = !bitOf h 16) ∧ ((bitP h 32 == 0) = !bitOf h 32) ∧ ((bitP h 64 == 0) = !bitOf h 64) ∧ ((bitP h 128 == 0) = !bitOf h 128) ∧ ((bitP h 256 == 0) = !bitOf h 256) ∧ ((bitP h 512 == 0) = !bitOf h 512) := by decide
  refine key _ ?_
  unfold hasP
  repeat' (first | (simp; done) | split)
theorem gt0 {α : Type} (l : List α) : decide ((l.length : Int) > 0) = !((l.length : Int) == 0) := by
  cases l <;> simp; omega
theorem all_deep (p most : Int) (l : List St) (h0 : 0 ≤ most) : (l.all fun k => St.formB p k && decide ((k.deep : Int) ≤ most)) = (St.formsB p l && decide ((St.deeps l : Int) ≤ most)) := by
  induction l with
  | nil => rw [List.all_nil, St.formsB, St.deeps, decide_eq_true (show ((0 : Nat) : Int) ≤ most by omega)]; rfl
  | cons x r ih =>
    rw [List.all_cons, ih, St.formsB, St.deeps]
    have : decide (((max x.deep (St.deeps r) : Nat) : Int) ≤ most) = (decide ((x.deep : Int) ≤ most) && decide ((St.deeps r : Int) ≤ most)) := by
      rw [Bool.eq_iff_iff, Bool.and_eq_true, decide_eq_true_iff, decide_eq_true_iff, decide_eq_true_iff]; omega
    rw [this]
    cases St.formB p x <;> cases St.formsB p r <;> simp
set_option maxRecDepth 100000 in
set_option maxHeartbeats 8000000 in
theorem psR (p : Int) : ∀ (m : Nat) (s : St) (most : Int), s.sz ≤ m → s.sz ≤ 1048576 → 0 ≤ most → most ≤ 1048576 → DPure Tryz.prog 116 [.r (St.at s), .a (.v (.int .i64 p)), .a (.v (.int .i64 most))] (.a (.v (.bool (St.formB p s && decide ((s.deep : Int) ≤ most)))))
  | 0, s, _, h, _, _, _ => by have := s.sz_pos; omega
  | m + 1, s, most, h, hz, h0, h1 => by
    have hse := s.sz_eq
    have hbl : s.body.length ≤ 1048576 := by have := St.szs_len s.body; omega
    have hel : s.els.length ≤ 1048576 := by have := St.szs_len s.els; omega
    obtain ⟨e1, e2, e4, e8, e16, e32, e64, e128, e256, e512⟩ := hasP_bits s.kind
    have hw : IntKind.i64.wrap (most - 1) = if most = 0 then -1 else most - 1 := by
      by_cases hm : most = 0
      · subst hm; rfl
      · rw [if_neg hm]; exact wrap64 (by omega) (by omega)
    by_cases hm : most = 0
    · have hmb : (most == 0) = true := beq_iff_eq.2 hm
      refine DPure.go Tryz.func116 rfl Tryz.ntmps116 rfl rfl rfl (fun C hro => ?_)
      have fx := trivial
      repeat' (first | refine WP.seq ?_ | (refine WP.reg [0, 1, 2, 3, 4, 5, 6, 7, 8, 52] (by kernel_rfl) (by kernel_rfl) ?_; refine RS.run2 (by simp only [go_sem, simprocAttr, hmb, thenQ_n, Bool.true_or, e128, e256]; first | done | rfl) ?_; simp only [RSr_mk]) | (first | refine RS.finT (by simp only [go_sem, simprocAttr]; first | done | rfl) ?_ | refine RS.fin (by simp only [go_sem, simprocAttr]; first | done | rfl) ?_; (try simp only [thenQ_n, blockQ_n])) | (refine RS.callL (by simp only [go_sem, simprocAttr, hmb, thenQ_n, Bool.true_or, e128, e256]; first | done | rfl) (by simp only [go_sem, simprocAttr, List.all_cons, List.all_nil, Bool.and_true, hmb, thenQ_n, Bool.true_or, e128, e256]) (by first | exact psHas _ | exact psNamedG s _ _ _ _ _ _ e1 e2 e4 e8 e512 hz | exact psTold s _ p _ _ _ e16 e32 e64 hz) ?_; refine RS.run2 (by simp only [go_sem, simprocAttr, hmb, thenQ_n, Bool.true_or, e128, e256]; first | done | rfl) ?_; simp only [RSr_mk]) | (refine RS.callvL (by simp only [go_sem, simprocAttr, hmb, thenQ_n, Bool.true_or, e128, e256]; first | done | rfl) (by simp only [go_sem, simprocAttr, hmb, thenQ_n, Bool.true_or, e128, e256]; first | done | rfl) (by simp only [go_sem, simprocAttr, List.all_cons, List.all_nil, Bool.and_true, hmb, thenQ_n, Bool.true_or, e128, e256]) (by first | exact psHas _ | exact psNamedG s _ _ _ _ _ _ e1 e2 e4 e8 e512 hz | exact psTold s _ p _ _ _ e16 e32 e64 hz) ?_; refine RS.run2 (by simp only [go_sem, simprocAttr, hmb, thenQ_n, Bool.true_or, e128, e256]; first | done | rfl) ?_; simp only [RSr_mk]) | ((refine WP.cond rfl (by simp only [go_sem, simprocAttr, hmb, thenQ_n, Bool.true_or, e128, e256]; first | done | rfl) (fun hc => ?_) (fun hc => ?_)) <;> try exact Bool.noConfusion hc) | (refine WP.skip ?_; (try simp only [thenQ_n, blockQ_n])) | (refine WP.exit ?_; (try simp only [thenQ_e, blockQ_e, blockQ_o, ne_eq, Nat.reduceEqDiff, not_false_eq_true, reduceCtorEq, thenQ_n, blockQ_n])) | refine WP.block ?_ | (refine WP.ret ?_; (try simp only [thenQ_r, blockQ_r]); refine ret1 rfl (by simp only [go_sem, simprocAttr, hmb, thenQ_n, Bool.true_or, e128, e256]; first | done | rfl) (by simp only [go_sem, hmb, thenQ_n, Bool.true_or, e128, e256]) ?_) | (fail; simp only [List.take_succ_cons, List.take_zero, List.drop_succ_cons, List.drop_zero, List.take_nil, List.drop_nil]; refine RQ.run2 (by simp only [go_sem, simprocAttr, hmb, thenQ_n, Bool.true_or, e128, e256]; first | done | rfl) ?_; simp only [RQr_mk]) | (refine RQ.nil ?_; refine RS.run2 (by simp only [go_sem, simprocAttr, hmb, thenQ_n, Bool.true_or, e128, e256]; first | done | rfl) ?_; simp only [RSr_mk]) | (refine RQ.callL (by simp only [go_sem, simprocAttr, hmb, thenQ_n, Bool.true_or, e128, e256]; first | done | rfl) (by simp only [go_sem, simprocAttr, List.all_cons, List.all_nil, Bool.and_true, hmb, thenQ_n, Bool.true_or, e128, e256]) (by first | exact psHas _ | exact psNamedG s _ _ _ _ _ _ e1 e2 e4 e8 e512 hz | exact psTold s _ p _ _ _ e16 e32 e64 hz) ?_; refine RQ.run2 (by simp only [go_sem, simprocAttr, hmb, thenQ_n, Bool.true_or, e128, e256]; first | done | rfl) ?_; simp only [RQr_mk]) | (refine RQ.callvL (by simp only [go_sem, simprocAttr, hmb, thenQ_n, Bool.true_or, e128, e256]; first | done | rfl) (by simp only [go_sem, simprocAttr, hmb, thenQ_n, Bool.true_or, e128, e256]; first | done | rfl) (by simp only [go_sem, simprocAttr, List.all_cons, List.all_nil, Bool.and_true, hmb, thenQ_n, Bool.true_or, e128, e256]) (by first | exact psHas _ | exact psNamedG s _ _ _ _ _ _ e1 e2 e4 e8 e512 hz | exact psTold s _ p _ _ _ e16 e32 e64 hz) ?_; refine RQ.run2 (by simp only [go_sem, simprocAttr, hmb, thenQ_n, Bool.true_or, e128, e256]; first | done | rfl) ?_; simp only [RQr_mk]))
      exact bool_eq (by rw [decide_eq_false (show ¬ (s.deep : Int) ≤ most by rw [St.deep_eq]; omega), Bool.and_false])
    · have hmb : (most == 0) = false := by simpa using hm
      have hwl : IntKind.i64.wrap (most - 1) = most - 1 := wrap64 (by omega) (by omega)
      have I0 : ∀ k ∈ s.body ++ s.els, DPure Tryz.prog 116 [.r (St.at k), .a (.v (.int .i64 p)), .a (.v (.int .i64 (most - 1)))] (.a (.v (.bool (St.formB p k && decide ((k.deep : Int) ≤ most - 1))))) := fun k hk => by
        have : k.sz < s.sz := (List.mem_append.1 hk).elim St.body_lt St.els_lt
        exact psR p m k _ (by omega) (by omega) (by omega) (by omega)
      have I1 : ∀ k ∈ s.body ++ s.els, DPure Tryz.prog 175 [.r (St.at k), .a (.ref [.v (.int .i64 p)] 0), .a (.ref [.v (.int .i64 most)] 0)] (.a (.v (.bool (!(St.formB p k && decide ((k.deep : Int) ≤ most - 1)))))) := fun k hk => by
        have := I0 k hk
        refine DPure.go Tryz.func175 rfl Tryz.ntmps175 rfl rfl rfl (fun C hro => ?_)
        have fx := trivial
        replace fx := And.intro hwl trivial
        repeat' (first | refine WP.seq ?_ | (refine WP.rg [0, 1, 2, 3, 4] ?_; simp only [RSr_mk]) | refine RS.fnT ?_ | (refine RS.fn ?_; try simp only [thenQ_n, blockQ_n]) | (refine RS.cL (hp := by exact this) (h := ?_); refine RS.rn ?_; simp only [RSr_mk]) | (refine WP.ret ?_; (try simp only [thenQ_r, blockQ_r]); refine ret3 ?_))
        rfl
      refine DPure.go Tryz.func116 rfl Tryz.ntmps116 rfl rfl rfl (fun C hro => ?_)
      have fx := trivial
      repeat' (first | refine WP.seq ?_ | (refine WP.reg [0, 1, 2, 3, 4, 5, 6, 7, 8, 52] (by kernel_rfl) (by kernel_rfl) ?_; refine RS.run2 (by simp only [go_sem, simprocAttr, hmb, thenQ_n, Bool.false_or, e128, e256]; first | done | rfl) ?_; simp only [RSr_mk]) | (first | refine RS.finT (by simp only [go_sem, simprocAttr]; first | done | rfl) ?_ | refine RS.fin (by simp only [go_sem, simprocAttr]; first | done | rfl) ?_; (try simp only [thenQ_n, blockQ_n])) | (refine RS.callL (by simp only [go_sem, simprocAttr, hmb, thenQ_n, Bool.false_or, e128, e256]; first | done | rfl) (by simp only [go_sem, simprocAttr, List.all_cons, List.all_nil, Bool.and_true, hmb, thenQ_n, Bool.false_or, e128, e256]) (by first | exact psHas _ | exact psNamedG s _ _ _ _ _ _ e1 e2 e4 e8 e512 hz | exact psTold s _ p _ _ _ e16 e32 e64 hz | exact pCfStmt (fun k => !(St.formB p k && decide ((k.deep : Int) ≤ most - 1))) s.body 175 [.ref [.v (.int .i64 p)] 0, .ref [.v (.int .i64 most)] 0] rfl hbl fun k hk => I1 k (List.mem_append.2 (.inl hk)) | exact pCfStmt (fun k => !(St.formB p k && decide ((k.deep : Int) ≤ most - 1))) s.els 175 [.ref [.v (.int .i64 p)] 0, .ref [.v (.int .i64 most)] 0] rfl hel fun k hk => I1 k (List.mem_append.2 (.inr hk))) ?_; refine RS.run2 (by simp only [go_sem, simprocAttr, hmb, thenQ_n, Bool.false_or, e128, e256]; first | done | rfl) ?_; simp only [RSr_mk]) | (refine RS.callvL (by simp only [go_sem, simprocAttr, hmb, thenQ_n, Bool.false_or, e128, e256]; first | done | rfl) (by simp only [go_sem, simprocAttr, hmb, thenQ_n, Bool.false_or, e128, e256]; first | done | rfl) (by simp only [go_sem, simprocAttr, List.all_cons, List.all_nil, Bool.and_true, hmb, thenQ_n, Bool.false_or, e128, e256]) (by first | exact psHas _ | exact psNamedG s _ _ _ _ _ _ e1 e2 e4 e8 e512 hz | exact psTold s _ p _ _ _ e16 e32 e64 hz | exact pCfStmt (fun k => !(St.formB p k && decide ((k.deep : Int) ≤ most - 1))) s.body 175 [.ref [.v (.int .i64 p)] 0, .ref [.v (.int .i64 most)] 0] rfl hbl fun k hk => I1 k (List.mem_append.2 (.inl hk)) | exact pCfStmt (fun k => !(St.formB p k && decide ((k.deep : Int) ≤ most - 1))) s.els 175 [.ref [.v (.int .i64 p)] 0, .ref [.v (.int .i64 most)] 0] rfl hel fun k hk => I1 k (List.mem_append.2 (.inr hk))) ?_; refine RS.run2 (by simp only [go_sem, simprocAttr, hmb, thenQ_n, Bool.false_or, e128, e256]; first | done | rfl) ?_; simp only [RSr_mk]) | ((refine WP.cond rfl (by simp only [go_sem, simprocAttr, hmb, thenQ_n, Bool.false_or, e128, e256]; first | done | rfl) (fun hc => ?_) (fun hc => ?_)) <;> try exact Bool.noConfusion hc) | (refine WP.skip ?_; (try simp only [thenQ_n, blockQ_n])) | (refine WP.exit ?_; (try simp only [thenQ_e, blockQ_e, blockQ_o, ne_eq, Nat.reduceEqDiff, not_false_eq_true, reduceCtorEq, thenQ_n, blockQ_n])) | refine WP.block ?_ | (refine WP.ret ?_; (try simp only [thenQ_r, blockQ_r]); refine ret1 rfl (by simp only [go_sem, simprocAttr, hmb, thenQ_n, Bool.false_or, e128, e256]; first | done | rfl) (by simp only [go_sem, hmb, thenQ_n, Bool.false_or, e128, e256]) ?_) | (fail; simp only [List.take_succ_cons, List.take_zero, List.drop_succ_cons, List.drop_zero, List.take_nil, List.drop_nil]; refine RQ.run2 (by simp only [go_sem, simprocAttr, hmb, thenQ_n, Bool.false_or, e128, e256]; first | done | rfl) ?_; simp only [RQr_mk]) | (refine RQ.nil ?_; refine RS.run2 (by simp only [go_sem, simprocAttr, hmb, thenQ_n, Bool.false_or, e128, e256]; first | done | rfl) ?_; simp only [RSr_mk]) | (refine RQ.callL (by simp only [go_sem, simprocAttr, hmb, thenQ_n, Bool.false_or, e128, e256]; first | done | rfl) (by simp only [go_sem, simprocAttr, List.all_cons, List.all_nil, Bool.and_true, hmb, thenQ_n, Bool.false_or, e128, e256]) (by first | exact psHas _ | exact psNamedG s _ _ _ _ _ _ e1 e2 e4 e8 e512 hz | exact psTold s _ p _ _ _ e16 e32 e64 hz | exact pCfStmt (fun k => !(St.formB p k && decide ((k.deep : Int) ≤ most - 1))) s.body 175 [.ref [.v (.int .i64 p)] 0, .ref [.v (.int .i64 most)] 0] rfl hbl fun k hk => I1 k (List.mem_append.2 (.inl hk)) | exact pCfStmt (fun k => !(St.formB p k && decide ((k.deep : Int) ≤ most - 1))) s.els 175 [.ref [.v (.int .i64 p)] 0, .ref [.v (.int .i64 most)] 0] rfl hel fun k hk => I1 k (List.mem_append.2 (.inr hk))) ?_; refine RQ.run2 (by simp only [go_sem, simprocAttr, hmb, thenQ_n, Bool.false_or, e128, e256]; first | done | rfl) ?_; simp only [RQr_mk]) | (refine RQ.callvL (by simp only [go_sem, simprocAttr, hmb, thenQ_n, Bool.false_or, e128, e256]; first | done | rfl) (by simp only [go_sem, simprocAttr, hmb, thenQ_n, Bool.false_or, e128, e256]; first | done | rfl) (by simp only [go_sem, simprocAttr, List.all_cons, List.all_nil, Bool.and_true, hmb, thenQ_n, Bool.false_or, e128, e256]) (by first | exact psHas _ | exact psNamedG s _ _ _ _ _ _ e1 e2 e4 e8 e512 hz | exact psTold s _ p _ _ _ e16 e32 e64 hz | exact pCfStmt (fun k => !(St.formB p k && decide ((k.deep : Int) ≤ most - 1))) s.body 175 [.ref [.v (.int .i64 p)] 0, .ref [.v (.int .i64 most)] 0] rfl hbl fun k hk => I1 k (List.mem_append.2 (.inl hk)) | exact pCfStmt (fun k => !(St.formB p k && decide ((k.deep : Int) ≤ most - 1))) s.els 175 [.ref [.v (.int .i64 p)] 0, .ref [.v (.int .i64 most)] 0] rfl hel fun k hk => I1 k (List.mem_append.2 (.inr hk))) ?_; refine RQ.run2 (by simp only [go_sem, simprocAttr, hmb, thenQ_n, Bool.false_or, e128, e256]; first | done | rfl) ?_; simp only [RQr_mk]))
      · refine bool_eq ?_
        have hn : nodeP s p = false := by
          revert hc
          unfold nodeP namedP toldP
          rw [gt0, gt0]
          unfold bne
          generalize (hasP s.kind == 0) = g1
          generalize namedQ _ _ _ _ _ s = g2
          generalize toldQ _ _ _ s p = g3
          generalize bitOf (hasP s.kind) 128 = g4
          generalize bitOf (hasP s.kind) 256 = g5
          generalize ((s.body.length : Int) == 0) = g6
          generalize ((s.els.length : Int) == 0) = g7
          revert g1 g2 g3 g4 g5 g6 g7
          decide
        rw [St.form_eq, ← node_law, hn]; rfl
      · refine bool_eq ?_
        have hn : nodeP s p = true := by
          revert hc
          unfold nodeP namedP toldP
          rw [gt0, gt0]
          unfold bne
          generalize (hasP s.kind == 0) = g1
          generalize namedQ _ _ _ _ _ s = g2
          generalize toldQ _ _ _ s p = g3
          generalize bitOf (hasP s.kind) 128 = g4
          generalize bitOf (hasP s.kind) 256 = g5
          generalize ((s.body.length : Int) == 0) = g6
          generalize ((s.els.length : Int) == 0) = g7
          revert g1 g2 g3 g4 g5 g6 g7
          decide
        rw [St.form_eq, ← node_law, hn, not_any_not, not_any_not, all_deep _ _ _ (by omega), all_deep _ _ _ (by omega), St.deep_eq]
        have : decide (((max (St.deeps s.body) (St.deeps s.els) + 1 : Nat) : Int) ≤ most) = (decide ((St.deeps s.body : Int) ≤ most - 1) && decide ((St.deeps s.els : Int) ≤ most - 1)) := by
          rw [Bool.eq_iff_iff, Bool.and_eq_true, decide_eq_true_iff, decide_eq_true_iff, decide_eq_true_iff]; omega
        rw [this]
        cases St.formsB p s.body <;> cases St.formsB p s.els <;> simp
set_option maxRecDepth 100000 in
set_option maxHeartbeats 4000000 in
theorem psRight (s : St) (p : Int) (hz : s.sz ≤ 1048576) : DPure Tryz.prog 59 [.r (St.at s), .a (.v (.int .i64 p))] (.a (.v (.bool (s.rightB p)))) := by
  refine DPure.go Tryz.func59 rfl Tryz.ntmps59 rfl rfl rfl (fun C hro => ?_)
  have fx := trivial
  repeat' (first | refine WP.seq ?_ | (refine WP.rg [0, 1, 2, 4] ?_; simp only [RSr_mk]) | refine RS.fnT ?_ | (refine RS.fn ?_; try simp only [thenQ_n, blockQ_n]) | (refine RS.cL (hp := by exact psR p _ s 20 (Nat.le_refl _) hz (by decide) (by decide)) (h := ?_); refine RS.rn ?_; simp only [RSr_mk]) | (refine WP.ret ?_; (try simp only [thenQ_r, blockQ_r]); refine ret3 ?_))
  refine bool_eq ?_
  unfold St.rightB
  congr 1
  rw [Bool.eq_iff_iff, decide_eq_true_iff, decide_eq_true_iff]; omega
end Go.Proofs.YtibdalkdgjghoaaGreatDoor
namespace Go.Proofs.YtibdalkdgjghoaaGreatDoor
open Go.RowKit
def stmI (c : Cs) (s : St) (z : Int) : Int := if s.rightB (c.params.length : Int) = true then z else 28
set_option maxRecDepth 100000 in
set_option maxHeartbeats 4000000 in
theorem pgStmt (p : List Cs) (c : Cs) (m : Me) (s : St) (z : Int) (b : Ak) (hz : s.sz ≤ 1048576) (h : DM Tryz.prog 60 [.a (.ptr 0 0)] [.cell (Ak.at ⟨p, c, m, s, Ty.zero, Ty.zero⟩)] (.a (.v (.int .i64 z))) [.cell (Ak.at b)]) : DPure Tryz.prog 21 [.a (.sl (p.map Cs.at)), .r (Cs.at c), .r (Me.at m), .r (St.at s)] (.a (.v (.int .i64 (stmI c s z)))) := by
  unfold stmI
  refine DPure.go Tryz.func21 rfl Tryz.ntmps21 rfl rfl rfl (fun C hro => ?_)
  have fx := trivial
  have haz := Ak.z0
  replace fx := And.intro haz trivial
  repeat' (first | refine WP.seq ?_ | (refine WP.rg [0, 1, 2, 3, 5, 6, 7, 8, 9, 15] ?_; simp only [RSr_mk]) | refine RS.fnT ?_ | (refine RS.fn ?_; try simp only [thenQ_n, blockQ_n]) | (refine RS.cl (hp := by exact psRight s _ hz) (h := ?_); refine RS.rn ?_; simp only [RSr_mk]) | (refine RS.cL (hp := by exact psRight s _ hz) (h := ?_); refine RS.rn ?_; simp only [RSr_mk]) | (refine RS.cM [3] (hp := by exact h) (h := ?_); refine RS.rn ?_; simp only [RSr_mk]) | (refine RS.lC ?_; refine RS.rn ?_; simp only [RSr_mk]) | ((refine WP.cn (fun hc => ?_) (fun hc => ?_)) <;> try exact Bool.noConfusion hc) | (refine WP.skip ?_; try simp only [thenQ_n, blockQ_n]) | (refine WP.ret ?_; (try simp only [thenQ_r, blockQ_r])) | refine ret3 ?_)
  · exact int_eq (by rw [if_neg (by simpa using hc)])
  · exact int_eq (by rw [if_pos (by simpa using hc)])
end Go.Proofs.YtibdalkdgjghoaaGreatDoor
namespace Go.Proofs.YtibdalkdgjghoaaGreatDoor
open Go.RowKit
/-- The class and the method that stand at a place. -/
def fnd (p : List Cs) (i j : Int) : Option (Cs × Me) := if 0 ≤ i ∧ 0 ≤ j then (p[i.toNat]?).bind fun c => (c.methods[j.toNat]?).map fun m => (c, m) else none
theorem fnd_some {p : List Cs} {i j : Int} {q : Cs × Me} (h : fnd p i j = some q) : ∃ k l : Nat, i = (k : Int) ∧ j = (l : Int) ∧ p[k]? = some q.1 ∧ q.1.methods[l]? = some q.2 := by
  unfold fnd at h
  split at h
  · rename_i hc
    rw [Option.bind_eq_some_iff] at h
    obtain ⟨c, h1, h2⟩ := h
    rw [Option.map_eq_some_iff] at h2
    obtain ⟨m, h3, rfl⟩ := h2
    exact ⟨i.toNat, j.toNat, by omega, by omega, h1, h3⟩
  · cases h
theorem fnd_at {p : List Cs} {k l : Nat} {c : Cs} {m : Me} (h1 : p[k]? = some c) (h2 : c.methods[l]? = some m) : fnd p (k : Int) (l : Int) = some (c, m) := by
  unfold fnd; rw [if_pos ⟨by omega, by omega⟩, Int.toNat_natCast, Int.toNat_natCast, h1, Option.bind_some, h2]; rfl
def atP (p : List Cs) (i j : Int) : Option (Cs × Me) := if heavyB p = true then none else fnd p i j
def atR (p : List Cs) : Option (Cs × Me) → D
  | some q => .t [.r (Pc.at ⟨p, q.1, q.2⟩), .a (.v (.bool true))]
  | none => .t [.r (Pc.at Pc.zero), .a (.v (.bool false))]
set_option maxRecDepth 100000 in
set_option maxHeartbeats 8000000 in
theorem pl20At (p : List Cs) (i j : Int) (hzz : sumOf Cs.sz p ≤ 1048576) : DPure Tryz.prog 14 [.a (.sl (p.map Cs.at)), .r [.v (.int .i64 i), .v (.int .i64 j)]] (atR p (atP p i j)) := by
  have hpz := Pc.z0
  have hlen := sumOf_len Cs.sz_pos p
  refine DPure.go Tryz.func14 rfl Tryz.ntmps14 rfl rfl rfl (fun C hro => ?_)
  have fx := trivial
  replace fx := And.intro hpz trivial
  repeat' (first | refine WP.seq ?_ | (refine WP.rg [0, 1, 3, 4, 5, 6, 7, 11, 15, 24, 36] ?_; simp only [RSr_mk]) | refine RS.fnT ?_ | (refine RS.fn ?_; try simp only [thenQ_n, blockQ_n]) | (refine RS.sE ?_; refine RS.rn ?_; simp only [RSr_mk]) | (refine RS.pk ?_; refine RS.rn ?_; simp only [RSr_mk]) | (refine RS.gF ?_; refine RS.rn ?_; simp only [RSr_mk]) | (refine RS.lC ?_; refine RS.rn ?_; simp only [RSr_mk]) | (refine RS.xC ?_; refine RS.rn ?_; simp only [RSr_mk]) | ((refine WP.cn (fun hc => ?_) (fun hc => ?_)) <;> try exact Bool.noConfusion hc) | (refine WP.skip ?_; try simp only [thenQ_n, blockQ_n]) | (refine WP.exit ?_; try simp only [thenQ_e, blockQ_e, blockQ_o, ne_eq, Nat.reduceEqDiff, not_false_eq_true, reduceCtorEq, thenQ_n, blockQ_n]) | refine WP.block ?_ | (refine WP.ret ?_; (try simp only [thenQ_r, blockQ_r])) | refine ret3 ?_ | refine retCT ?_ | ((first | refine WP.dw (id := 10) 14 [0, 1, 3, 4, 5, 6, 7, 11, 15, 24, 36] ?_); simp only [RQr_mk, List.drop_succ_cons, List.drop_zero, List.drop_nil]) | (refine RQ.nil ?_; refine RS.rn ?_; simp only [RSr_mk]))
  refine WP.loopX (α := { k : Nat // k ≤ p.length ∧ (0 < k → heavyB p = false) ∧ (fnd p i j ≠ none → (k : Int) ≤ i) }) (fun y => [(0, .a (.sl (p.map Cs.at))), (3, .a (.ptr 0 0)), (4, .a (.ptr 1 0)), (6, .a (.v (.int .i64 (y.1 : Nat))))]) (fun y => [.cell [.v (.int .i64 i), .v (.int .i64 j)], .cell (Pc.at Pc.zero)]) (fun y => p.length - y.1) ⟨0, by omega, by omega, fun h => by
    cases hf : fnd p i j with
    | none => exact absurd hf h
    | some q => obtain ⟨a, b, h1, _⟩ := fnd_some hf; omega⟩ (by simp only [Agree, go_sem, simprocAttr]; first | done | rfl) rfl ?_
  rintro ⟨k, hk, hv, hinv⟩
  dsimp only
  by_cases hlt : k < p.length
  · have hlt2 : decide ((k : Int) < ((p.length : Nat) : Int)) = true := decide_eq_true (by omega)
    obtain ⟨z, hz⟩ : ∃ z, p[k]? = some z := ⟨_, List.getElem?_eq_getElem hlt⟩
    have hzm : z ∈ p := List.mem_of_getElem? hz
    have hzt := take_snocA hz
    have hix : ∀ q2, ixD (some 7) q2 (.a (.sl (p.map Cs.at))) (.a (.v (.int .i64 (k : Int)))) = some (.a (.ref (Cs.at z) 0)) := fun q2 => ixD_at rfl (by rw [List.getElem?_map, hz]; rfl) (by simp only [go_sem])
    have hwu := wrap64n (k := k) (by omega)
    replace fx := And.intro hlt2 (And.intro hix (And.intro hwu (And.intro hpz trivial)))
    repeat' (first | refine WP.seq ?_ | (refine WP.rg [0, 1, 3, 4, 5, 6, 7, 11, 15, 24, 36] ?_; simp only [RSr_mk]) | refine RS.fnT ?_ | (refine RS.fn ?_; try simp only [thenQ_n, blockQ_n]) | (refine RS.cl (hp := by exact pHeavy p hzz) (h := ?_); refine RS.rn ?_; simp only [RSr_mk]) | (refine RS.cL (hp := by exact pHeavy p hzz) (h := ?_); refine RS.rn ?_; simp only [RSr_mk]) | (refine RS.sE ?_; refine RS.rn ?_; simp only [RSr_mk]) | (refine RS.pk ?_; refine RS.rn ?_; simp only [RSr_mk]) | (refine RS.gF ?_; refine RS.rn ?_; simp only [RSr_mk]) | (refine RS.lC ?_; refine RS.rn ?_; simp only [RSr_mk]) | (refine RS.xC ?_; refine RS.rn ?_; simp only [RSr_mk]) | ((refine WP.cn (fun hc => ?_) (fun hc => ?_)) <;> try exact Bool.noConfusion hc) | (refine WP.skip ?_; try simp only [thenQ_n, blockQ_n]) | (refine WP.exit ?_; try simp only [thenQ_e, blockQ_e, blockQ_o, ne_eq, Nat.reduceEqDiff, not_false_eq_true, reduceCtorEq, thenQ_n, blockQ_n]) | refine WP.block ?_ | (refine WP.ret ?_; (try simp only [thenQ_r, blockQ_r])) | refine ret3 ?_ | refine retCT ?_ | ((first | refine WP.dw (id := 10) 14 [0, 1, 3, 4, 5, 6, 7, 11, 15, 24, 36] ?_); simp only [RQr_mk, List.drop_succ_cons, List.drop_zero, List.drop_nil]) | (refine RQ.nil ?_; refine RS.rn ?_; simp only [RSr_mk]) | (refine RQ.cl (hp := by exact pHeavy p hzz) (h := ?_); refine RQ.rn ?_; simp only [RQr_mk]) | (refine RQ.cL (hp := by exact pHeavy p hzz) (h := ?_); refine RQ.rn ?_; simp only [RQr_mk]))
    · rw [atP, if_pos hc]; rfl
    have hv : heavyB p = false := hc
    refine WP.loopX (α := { l : Nat // l ≤ z.methods.length ∧ (fnd p i j ≠ none → (k : Int) ≤ i ∧ (i = (k : Int) → (l : Int) ≤ j)) }) (fun y => [(0, .a (.sl (p.map Cs.at))), (3, .a (.ptr 0 0)), (4, .a (.ptr 1 0)), (6, .a (.v (.int .i64 (k : Nat)))), (7, .a (.v (.int .i64 (y.1 : Nat))))]) (fun y => [.cell [.v (.int .i64 i), .v (.int .i64 j)], .cell (Pc.at Pc.zero)]) (fun y => z.methods.length - y.1) ⟨0, by omega, fun h => by
      have h2 := hinv h
      cases hf : fnd p i j with
      | none => exact absurd hf h
      | some q => obtain ⟨a, b, h1, h3, _⟩ := fnd_some hf; exact ⟨h2, by omega⟩⟩ (by simp only [Agree, go_sem, simprocAttr]; first | done | rfl) rfl ?_
    rintro ⟨l, hl, hinl⟩
    dsimp only
    by_cases hll : l < z.methods.length
    · have hlt3 : decide ((l : Int) < ((z.methods.length : Nat) : Int)) = true := decide_eq_true (by omega)
      obtain ⟨m, hm⟩ : ∃ m, z.methods[l]? = some m := ⟨_, List.getElem?_eq_getElem hll⟩
      have hiz : ∀ q2, ixD (some 17) q2 (.a (.sl (z.methods.map Me.at))) (.a (.v (.int .i64 (l : Int)))) = some (.a (.ref (Me.at m) 0)) := fun q2 => ixD_at rfl (by rw [List.getElem?_map, hm]; rfl) (by simp only [go_sem])
      have hzs : z.sz ≤ 1048576 := by have := sumOf_mem (f := Cs.sz) hzm; omega
      obtain ⟨y1, y2, y3, y4, y5, y6, y7, y8, y9⟩ := Cs.szH hzs
      have hwv := wrap64n (k := l) (by omega)
      replace fx := And.intro hlt3 (And.intro hix (And.intro hiz (And.intro hwu (And.intro hwv (And.intro hpz trivial)))))
      repeat' (first | refine WP.seq ?_ | (refine WP.rg [0, 1, 3, 4, 5, 6, 7, 11, 15, 24, 36] ?_; simp only [RSr_mk]) | refine RS.fnT ?_ | (refine RS.fn ?_; try simp only [thenQ_n, blockQ_n]) | (refine RS.sE ?_; refine RS.rn ?_; simp only [RSr_mk]) | (refine RS.pk ?_; refine RS.rn ?_; simp only [RSr_mk]) | (refine RS.gF ?_; refine RS.rn ?_; simp only [RSr_mk]) | (refine RS.lC ?_; refine RS.rn ?_; simp only [RSr_mk]) | (refine RS.xC ?_; refine RS.rn ?_; simp only [RSr_mk]) | ((refine WP.cn (fun hc => ?_) (fun hc => ?_)) <;> try exact Bool.noConfusion hc) | (refine WP.skip ?_; try simp only [thenQ_n, blockQ_n]) | (refine WP.exit ?_; try simp only [thenQ_e, blockQ_e, blockQ_o, ne_eq, Nat.reduceEqDiff, not_false_eq_true, reduceCtorEq, thenQ_n, blockQ_n]) | refine WP.block ?_ | (refine WP.ret ?_; (try simp only [thenQ_r, blockQ_r])) | refine ret3 ?_ | refine retCT ?_ | ((first | refine WP.dw (id := 10) 14 [0, 1, 3, 4, 5, 6, 7, 11, 15, 24, 36] ?_); simp only [RQr_mk, List.drop_succ_cons, List.drop_zero, List.drop_nil]) | (refine RQ.nil ?_; refine RS.rn ?_; simp only [RSr_mk]))
      · rw [Bool.and_eq_true, beq_iff_eq, beq_iff_eq] at hc
        rw [atP, if_neg (by rw [hv]; exact Bool.false_ne_true), ← hc.1, ← hc.2, fnd_at hz hm]; rfl
      · refine ⟨⟨l + 1, by omega, fun h => ?_⟩, [], by dsimp only; omega, by simp only [Agree, go_sem, simprocAttr], rfl, by simp only [nrE, nrD, List.all_cons, List.all_nil, go_sem, simprocAttr], by simp only [go_sem, simprocAttr, Pc.nr]⟩
        obtain ⟨h1, h2⟩ := hinl h
        refine ⟨h1, fun e => ?_⟩
        have h3 := h2 e
        rw [Bool.and_eq_false_iff, beq_eq_false_iff_ne, beq_eq_false_iff_ne] at hc
        rcases hc with hc | hc <;> omega
    · obtain rfl : l = z.methods.length := by omega
      have hlt3 : decide ((z.methods.length : Int) < (z.methods.length : Int)) = false := decide_eq_false (by omega)
      replace fx := And.intro hlt3 (And.intro hix (And.intro hwu (And.intro hpz trivial)))
      repeat' (first | refine WP.seq ?_ | (refine WP.rg [0, 1, 3, 4, 5, 6, 7, 11, 15, 24, 36] ?_; simp only [RSr_mk]) | refine RS.fnT ?_ | (refine RS.fn ?_; try simp only [thenQ_n, blockQ_n]) | (refine RS.sE ?_; refine RS.rn ?_; simp only [RSr_mk]) | (refine RS.pk ?_; refine RS.rn ?_; simp only [RSr_mk]) | (refine RS.gF ?_; refine RS.rn ?_; simp only [RSr_mk]) | (refine RS.lC ?_; refine RS.rn ?_; simp only [RSr_mk]) | (refine RS.xC ?_; refine RS.rn ?_; simp only [RSr_mk]) | ((refine WP.cn (fun hc => ?_) (fun hc => ?_)) <;> try exact Bool.noConfusion hc) | (refine WP.skip ?_; try simp only [thenQ_n, blockQ_n]) | (refine WP.exit ?_; try simp only [thenQ_e, blockQ_e, blockQ_o, ne_eq, Nat.reduceEqDiff, not_false_eq_true, reduceCtorEq, thenQ_n, blockQ_n]) | refine WP.block ?_ | (refine WP.ret ?_; (try simp only [thenQ_r, blockQ_r])) | refine ret3 ?_ | refine retCT ?_ | ((first | refine WP.dw (id := 10) 14 [0, 1, 3, 4, 5, 6, 7, 11, 15, 24, 36] ?_); simp only [RQr_mk, List.drop_succ_cons, List.drop_zero, List.drop_nil]) | (refine RQ.nil ?_; refine RS.rn ?_; simp only [RSr_mk]))
      refine ⟨⟨k + 1, by omega, fun _ => hv, fun h => ?_⟩, [], by dsimp only; omega, by simp only [Agree, go_sem, simprocAttr], rfl, by simp only [nrE, nrD, List.all_cons, List.all_nil, go_sem, simprocAttr], by simp only [go_sem, simprocAttr, Pc.nr]⟩
      obtain ⟨h1, h2⟩ := hinl h
      cases hf : fnd p i j with
      | none => exact absurd hf h
      | some q =>
        obtain ⟨a, b, rfl, rfl, h3, h4⟩ := fnd_some hf
        have hak : a ≠ k := fun e => by
          subst e
          rw [hz] at h3; injection h3 with h3
          have h5 := h2 rfl
          have h6 := (List.getElem?_eq_some_iff.1 h4).1
          rw [← h3] at h6; omega
        omega
  · obtain rfl : k = p.length := by omega
    have hlt2 : decide ((p.length : Int) < (p.length : Int)) = false := decide_eq_false (by omega)
    replace fx := And.intro hlt2 (And.intro hpz trivial)
    repeat' (first | refine WP.seq ?_ | (refine WP.rg [0, 1, 3, 4, 5, 6, 7, 11, 15, 24, 36] ?_; simp only [RSr_mk]) | refine RS.fnT ?_ | (refine RS.fn ?_; try simp only [thenQ_n, blockQ_n]) | (refine RS.sE ?_; refine RS.rn ?_; simp only [RSr_mk]) | (refine RS.pk ?_; refine RS.rn ?_; simp only [RSr_mk]) | (refine RS.gF ?_; refine RS.rn ?_; simp only [RSr_mk]) | (refine RS.lC ?_; refine RS.rn ?_; simp only [RSr_mk]) | (refine RS.xC ?_; refine RS.rn ?_; simp only [RSr_mk]) | ((refine WP.cn (fun hc => ?_) (fun hc => ?_)) <;> try exact Bool.noConfusion hc) | (refine WP.skip ?_; try simp only [thenQ_n, blockQ_n]) | (refine WP.exit ?_; try simp only [thenQ_e, blockQ_e, blockQ_o, ne_eq, Nat.reduceEqDiff, not_false_eq_true, reduceCtorEq, thenQ_n, blockQ_n]) | refine WP.block ?_ | (refine WP.ret ?_; (try simp only [thenQ_r, blockQ_r])) | refine ret3 ?_ | refine retCT ?_ | ((first | refine WP.dw (id := 10) 14 [0, 1, 3, 4, 5, 6, 7, 11, 15, 24, 36] ?_); simp only [RQr_mk, List.drop_succ_cons, List.drop_zero, List.drop_nil]) | (refine RQ.nil ?_; refine RS.rn ?_; simp only [RSr_mk]))
    have hno : fnd p i j = none := by
      cases hf : fnd p i j with
      | none => rfl
      | some q =>
        obtain ⟨a, b, rfl, rfl, h3, h4⟩ := fnd_some hf
        have := hinv (by rw [hf]; exact Option.some_ne_none _)
        have := (List.getElem?_eq_some_iff.1 h3).1
        omega
    have : atP p i j = none := by unfold atP; split <;> first | rfl | exact hno
    rw [this]; rfl
end Go.Proofs.YtibdalkdgjghoaaGreatDoor
namespace Go.Proofs.YtibdalkdgjghoaaGreatDoor
open Go.RowKit
def awC : Cs := ⟨[65], [], [], [], [], [], 0⟩
def awM : Me := ⟨[], false, Ty.zero, [⟨[120], ⟨2, [65], 0, (2, 0), (0, 0), (0, 0), (0, 0)⟩, 0⟩], [], [], 0⟩
def awS1 : St := ⟨8, [], [120], [], Ty.zero, Ex.zero, [], [], [], 0⟩
def awS2 : St := ⟨1, [120], [], [], Ty.zero, ⟨4, 0, [], []⟩, [], [], [], 0⟩
theorem aw_ok (s : St) (h : s.sz ≤ 1048576) : Ak.ok ⟨[awC], awC, awM, s, Ty.zero, Ty.zero⟩ := ⟨by simp, by simp [awC], by simp [awM], by simp [awM], h⟩
theorem awStmt1 : DPure Tryz.prog 21 [.a (.sl ([awC].map Cs.at)), .r (Cs.at awC), .r (Me.at awM), .r (St.at awS1)] (.a (.v (.int .i64 22))) := by
  have h := pgStmt [awC] awC awM awS1 _ _ (by decide) (pAskDel _ (aw_ok awS1 (by decide)) rfl)
  rw [show stmI awC awS1 (delI ⟨[awC], awC, awM, awS1, Ty.zero, Ty.zero⟩).1 = 22 by decide] at h
  exact h
theorem awStmt2 : DPure Tryz.prog 21 [.a (.sl ([awC].map Cs.at)), .r (Cs.at awC), .r (Me.at awM), .r (St.at awS2)] (.a (.v (.int .i64 0))) := by
  have h := pgStmt [awC] awC awM awS2 _ _ (by decide) (pAskSet _ (aw_ok awS2 (by decide)) rfl)
  rw [show stmI awC awS2 (setI ⟨[awC], awC, awM, awS2, Ty.zero, Ty.zero⟩).1 = 0 by decide] at h
  exact h
set_option maxRecDepth 100000 in
set_option maxHeartbeats 4000000 in
theorem pAwake20 : DPure Tryz.prog 16 [] (.a (.v (.bool true))) := by
  refine DPure.go Tryz.func16 rfl Tryz.ntmps16 rfl rfl rfl (fun C hro => ?_)
  have fx := trivial
  have z1 := zrTy
  have z2 := zrEx
  have z3 := zrSt
  have z4 := zrVr
  have z5 := zrMe
  have z6 := zrCs
  have z7 := zrOw
  replace fx := And.intro z1 (And.intro z2 (And.intro z3 (And.intro z4 (And.intro z5 (And.intro z6 (And.intro z7 trivial))))))
  repeat' (first | refine WP.seq ?_ | (refine WP.rg [0, 1, 2] ?_; simp only [RSr_mk]) | refine RS.fnT ?_ | (refine RS.fn ?_; try simp only [thenQ_n, blockQ_n]) | (refine RS.cl (hp := by first | exact awStmt1 | exact awStmt2) (h := ?_); refine RS.rn ?_; simp only [RSr_mk]) | (refine RS.cL (hp := by first | exact awStmt1 | exact awStmt2) (h := ?_); refine RS.rn ?_; simp only [RSr_mk]) | (refine RS.ls ?_; refine RS.rn ?_; simp only [RSr_mk]) | (refine RS.sE ?_; refine RS.rn ?_; simp only [RSr_mk]) | (refine RS.pk ?_; refine RS.rn ?_; simp only [RSr_mk]) | (refine RS.gF ?_; refine RS.rn ?_; simp only [RSr_mk]) | (refine RS.bC ?_; refine RS.rn ?_; simp only [RSr_mk]) | (refine WP.ret ?_; (try simp only [thenQ_r, blockQ_r])) | refine ret3 ?_)
  rfl
end Go.Proofs.YtibdalkdgjghoaaGreatDoor
namespace Go.Proofs.YtibdalkdgjghoaaGreatDoor
open Go.RowKit
/-- The first of some variables of a name, from a place on. -/
def scan (s : List UInt8) : List Vr → Nat → Int × Ty → Int × Ty
  | [], _, d => d
  | v :: r, k, d => if (v.name == s) = true then ((k : Int), v.ty) else scan s r (k + 1) d
theorem scan_no (s : List UInt8) : ∀ (l : List Vr) (k : Nat) (d : Int × Ty), ixOf (fun v : Vr => v.name == s) l k = -1 → scan s l k d = d
  | [], _, _, _ => rfl
  | v :: r, k, d, h => by
    rw [ixOf] at h
    split at h
    · omega
    · rename_i hq
      rw [scan, if_neg hq]; exact scan_no s r (k + 1) d h
theorem scan_yes (s : List UInt8) : ∀ (l : List Vr) (k j : Nat) (z : Vr) (d : Int × Ty), l[j]? = some z → ixOf (fun v : Vr => v.name == s) l k = ((k + j : Nat) : Int) → scan s l k d = (((k + j : Nat) : Int), z.ty)
  | [], _, _, _, _, h, _ => by simp at h
  | v :: r, k, j, z, d, hz, h => by
    rw [ixOf] at h
    split at h
    · rename_i hq
      have : j = 0 := by omega
      subst this
      simp at hz; subst hz
      rw [scan, if_pos hq]; rfl
    · rename_i hq
      rw [scan, if_neg hq]
      cases j with
      | zero =>
        exfalso
        rcases ixOf_get (fun v : Vr => v.name == s) r (k + 1) with h1 | ⟨a, b, _, _, h1⟩ <;> omega
      | succ j =>
        rw [show k + (j + 1) = k + 1 + j by omega]
        exact scan_yes s r (k + 1) j z d (by simpa using hz) (by rw [h]; congr 1; omega)
def sN (s : List UInt8) : St := ⟨1, s, [], [], Ty.zero, ⟨1, 7, [], []⟩, [], [], [], 0⟩
def sL (s : List UInt8) : St := ⟨1, s, [], [], Ty.zero, ⟨4, 0, [], []⟩, [], [], [], 0⟩
def sE : St := ⟨11, [], [], [], Ty.zero, Ex.zero, [], [], [], 0⟩
theorem sN_right (s : List UInt8) (n : Int) : (sN s).rightB n = nameB s := by
  have h1 : (sN s).onlyB = true := by
    have : (sN s).blank = ⟨1, [], [], [], Ty.zero, Ex.zero, [], [], [], 0⟩ := by simp [St.blank, sN]
    unfold St.onlyB; rw [this]; rfl
  have h2 : (sN s).namesB n = nameB s := by simp [St.namesB, sN]
  have h3 : (sN s).tellsB = true := by rfl
  have h4 : (sN s).deep = 1 := by rw [St.deep_eq]; rfl
  unfold St.rightB
  rw [St.form_eq, h1, h2, h3, h4]
  simp [sN, St.formsB]
theorem sL_right (s : List UInt8) (n : Int) : (sL s).rightB n = nameB s := by
  have h1 : (sL s).onlyB = true := by
    have : (sL s).blank = ⟨1, [], [], [], Ty.zero, Ex.zero, [], [], [], 0⟩ := by simp [St.blank, sL]
    unfold St.onlyB; rw [this]; rfl
  have h2 : (sL s).namesB n = nameB s := by simp [St.namesB, sL]
  have h3 : (sL s).tellsB = true := by rfl
  have h4 : (sL s).deep = 1 := by rw [St.deep_eq]; rfl
  unfold St.rightB
  rw [St.form_eq, h1, h2, h3, h4]
  simp [sL, St.formsB]
theorem sE_right (n : Int) : sE.rightB n = true := by
  have h2 : sE.namesB n = true := by simp [St.namesB, sE]
  unfold St.rightB
  rw [St.form_eq, h2]; rfl
theorem name_this : nameB thisS = false := by decide
/-- What comes of the three questions. -/
def qN (p : List Cs) (c : Cs) (m : Me) (s : List UInt8) : Int := stmI c (sN s) (setI ⟨p, c, m, sN s, Ty.zero, Ty.zero⟩).1
def qL (p : List Cs) (c : Cs) (m : Me) (s : List UInt8) : Int := stmI c (sL s) (setI ⟨p, c, m, sL s, Ty.zero, Ty.zero⟩).1
def qE (p : List Cs) (c : Cs) (m : Me) : Int := stmI c sE (retI ⟨p, c, m, sE, Ty.zero, Ty.zero⟩)
theorem qE_law (p : List Cs) (c : Cs) (m : Me) : (qE p c m == 0) = (m.ret.kind == 0) := by
  have h0 : (sE.e.kind == 0) = true := rfl
  unfold qE stmI
  rw [if_pos (sE_right _)]
  unfold retI
  dsimp only
  rw [h0]
  cases h : m.ret.kind == 0 <;> rfl
def scR (m : Me) (s : List UInt8) : Int × Ty := scan s m.params 0 (scan s m.locals 0 (-1, Ty.zero))
theorem scR_law (c : Cs) (m : Me) (s : List UInt8) (hs : (s == thisS) = false) : (placeI m s < 0 ∧ scR m s = (-1, Ty.zero)) ∨ (¬ placeI m s < 0 ∧ 0 ≤ (scR m s).1 ∧ (typeT c m s).1 = (scR m s).2) := by
  unfold scR
  rcases varI_get m.params s with hp | ⟨j, z, hz, _, hp⟩
  · rw [scan_no s m.params 0 _ hp]
    rcases varI_get m.locals s with hl | ⟨j, z, hz, _, hl⟩
    · left
      rw [scan_no s m.locals 0 _ hl]
      exact ⟨by unfold placeI; rw [if_neg (by omega), if_pos (by omega)]; decide, rfl⟩
    · right
      have hsc := scan_yes s m.locals 0 j z (-1, Ty.zero) hz (by rw [Nat.zero_add]; exact hl)
      rw [hsc]
      have hpl : placeI m s = ((m.params.length + j : Nat) : Int) := by unfold placeI; rw [if_neg (by omega), if_neg (by omega), hl]; omega
      refine ⟨by omega, by dsimp only; omega, ?_⟩
      unfold typeT
      rw [if_neg (by rw [hs]; exact Bool.false_ne_true), if_neg (by omega), hpl, Int.toNat_natCast, List.getElem?_append_right (by omega), Nat.add_sub_cancel_left, hz]; rfl
  · right
    have hsc := scan_yes s m.params 0 j z (scan s m.locals 0 (-1, Ty.zero)) hz (by rw [Nat.zero_add]; exact hp)
    rw [hsc]
    have hpl : placeI m s = (j : Int) := by unfold placeI; rw [if_pos (by omega), hp]
    refine ⟨by omega, by dsimp only; omega, ?_⟩
    unfold typeT
    rw [if_neg (by rw [hs]; exact Bool.false_ne_true), if_neg (by omega), hpl, Int.toNat_natCast, List.getElem?_append_left (List.getElem?_eq_some_iff.1 hz).1, hz]; rfl
theorem fits_int (p : List Cs) (t : Ty) : fitsI p (tyK 1) t = if (t.kind == 1) = true then 0 else 14 := by
  unfold fitsI
  cases h1 : t.kind == 1
  · cases h2 : t.kind != 2 <;> simp [tyK, h1, h2]
  · simp [tyK]
theorem fits_null (p : List Cs) (t : Ty) : fitsI p (tyK 3) t = if (t.kind == 2) = true then 0 else 14 := by
  unfold fitsI
  cases h2 : t.kind == 2
  · have : (t.kind != 2) = true := by rw [bne, h2]; rfl
    simp [tyK, this]
  · have : (t.kind != 2) = false := by rw [bne, h2]; rfl
    simp [tyK, this]
theorem tgt_no (a : Ak) (h : placeI a.m a.s.x < 0) : tgt a = (13, a) := if_pos h
theorem tgt_yes (a : Ak) (h : ¬ placeI a.m a.s.x < 0) : tgt a = (0, { a with x := (typeT a.c a.m a.s.x).1 }) := if_neg h
theorem set_yes (a b : Ak) (t : Ty) (h : tgt a = (0, b)) (h1 : oneT a.c a.m a.s.e = (t, 0)) : (setI a).1 = fitsI a.p t b.x := by
  unfold setI; rw [h, h1]; rfl
theorem only_law (p : List Cs) (c : Cs) (m : Me) (s : List UInt8) : (nameB s = false ∧ qN p c m s = 28 ∧ qL p c m s = 28) ∨ ((scR m s).1 < 0 ∧ qN p c m s = 13 ∧ qL p c m s = 13) ∨
    (0 ≤ (scR m s).1 ∧ qN p c m s = (if ((scR m s).2.kind == 1) = true then 0 else 14) ∧ qL p c m s = (if ((scR m s).2.kind == 2) = true then 0 else 14)) := by
  unfold qN qL stmI
  rw [sN_right, sL_right]
  cases hn : nameB s with
  | false => exact .inl ⟨rfl, rfl, rfl⟩
  | true =>
    have hs : (s == thisS) = false := by
      cases h : s == thisS with
      | false => rfl
      | true => rw [beq_iff_eq] at h; rw [h, name_this] at hn; cases hn
    rw [if_pos rfl, if_pos rfl]
    right
    rcases scR_law c m s hs with ⟨hp, hr⟩ | ⟨hp, hr, ht⟩
    · left
      rw [hr]
      refine ⟨by decide, ?_, ?_⟩
      · unfold setI; rw [tgt_no ⟨p, c, m, sN s, Ty.zero, Ty.zero⟩ hp]; rfl
      · unfold setI; rw [tgt_no ⟨p, c, m, sL s, Ty.zero, Ty.zero⟩ hp]; rfl
    · right
      refine ⟨hr, ?_, ?_⟩
      · have h1 : oneT c m ⟨1, 7, [], []⟩ = (tyK 1, 0) := by
          unfold oneT
          rw [if_pos (by decide), shT, shsT]; rfl
        rw [set_yes ⟨p, c, m, sN s, Ty.zero, Ty.zero⟩ _ (tyK 1) (tgt_yes ⟨p, c, m, sN s, Ty.zero, Ty.zero⟩ hp) h1, ← ht, ← fits_int p]; rfl
      · have h1 : oneT c m ⟨4, 0, [], []⟩ = (tyK 3, 0) := by
          unfold oneT
          rw [if_pos (by decide), shT]; rfl
        rw [set_yes ⟨p, c, m, sL s, Ty.zero, Ty.zero⟩ _ (tyK 3) (tgt_yes ⟨p, c, m, sL s, Ty.zero, Ty.zero⟩ hp) h1, ← ht, ← fits_null p]; rfl
end Go.Proofs.YtibdalkdgjghoaaGreatDoor
namespace Go.Proofs.YtibdalkdgjghoaaGreatDoor
open Go.RowKit
theorem ak_ok {p : List Cs} {c : Cs} {m : Me} (hp : sumOf Cs.sz p ≤ 1048576) (hc : c ∈ p) (hm : m ∈ c.methods) (s : St) (h : s.sz ≤ 1048576) (x o : Ty) : Ak.ok ⟨p, c, m, s, x, o⟩ := by
  have hl := sumOf_len Cs.sz_pos p
  have hcs : c.sz ≤ 1048576 := by have := sumOf_mem (f := Cs.sz) hc; omega
  obtain ⟨y1, y2, y3, y4, y5, y6, y7, y8, y9⟩ := Cs.szH hcs
  have hms : m.sz ≤ 1048576 := by have := sumOf_mem (f := Me.sz) hm; omega
  obtain ⟨u1, u2, u3, u4, u5, u6⟩ := Me.szH hms
  exact ⟨by dsimp only; omega, y3, by dsimp only; omega, by dsimp only; omega, h⟩
set_option maxRecDepth 100000 in
set_option maxHeartbeats 8000000 in
theorem pLaw20Only (p : List Cs) (i j : Int) (s : List UInt8) (hs : sumOf Cs.sz p + s.length + 5 ≤ 1048576) : DPure Tryz.prog 6 [.a (.sl (p.map Cs.at)), .r [.v (.int .i64 i), .v (.int .i64 j)], .a (.v (.string (bs s)))] (.a (.v (.bool true))) := by
  have hsz : sumOf Cs.sz p ≤ 1048576 := by omega
  have hat := pl20At p i j hsz
  cases hq : atP p i j with
  | none =>
    rw [hq] at hat
    unfold atR at hat
    refine DPure.go Tryz.func6 rfl Tryz.ntmps6 rfl rfl rfl (fun C hro => ?_)
    have fx := trivial
    repeat' (first | refine WP.seq ?_ | (refine WP.rg [0, 1, 2, 4, 6, 7, 8, 9, 10, 11, 12, 13, 14, 15, 23, 31, 42, 57, 68, 109, 111, 127] ?_; simp only [RSr_mk]) | refine RS.fnT ?_ | (refine RS.fn ?_; try simp only [thenQ_n, blockQ_n]) | (refine RS.cl (hp := by first | exact hat | exact pAwake20) (h := ?_); refine RS.rn ?_; simp only [RSr_mk]) | (refine RS.cL (hp := by first | exact hat | exact pAwake20) (h := ?_); refine RS.rn ?_; simp only [RSr_mk]) | (refine RS.sE ?_; refine RS.rn ?_; simp only [RSr_mk]) | (refine RS.pk ?_; refine RS.rn ?_; simp only [RSr_mk]) | (refine RS.gF ?_; refine RS.rn ?_; simp only [RSr_mk]) | (refine RS.lC ?_; refine RS.rn ?_; simp only [RSr_mk]) | (refine RS.xC ?_; refine RS.rn ?_; simp only [RSr_mk]) | ((refine WP.cn (fun hc => ?_) (fun hc => ?_)) <;> try exact Bool.noConfusion hc) | (refine WP.skip ?_; try simp only [thenQ_n, blockQ_n]) | (refine WP.exit ?_; try simp only [thenQ_e, blockQ_e, blockQ_o, ne_eq, Nat.reduceEqDiff, not_false_eq_true, reduceCtorEq, thenQ_n, blockQ_n]) | refine WP.block ?_ | (refine WP.ret ?_; (try simp only [thenQ_r, blockQ_r])) | refine ret3 ?_)
    rfl
  | some q =>
    rw [hq] at hat
    unfold atR at hat
    dsimp only at hat
    obtain ⟨c, m⟩ := q
    have hf : fnd p i j = some (c, m) := by unfold atP at hq; split at hq <;> first | cases hq; done | exact hq
    obtain ⟨a, b, rfl, rfl, h3, h4⟩ := fnd_some hf
    dsimp only at h3 h4 hat
    have hcm := List.mem_of_getElem? h3
    have hmm := List.mem_of_getElem? h4
    have hms : m.locals.length ≤ 1048576 ∧ m.params.length ≤ 1048576 := ⟨(ak_ok hsz hcm hmm sE (by decide) Ty.zero Ty.zero).nl, (ak_ok hsz hcm hmm sE (by decide) Ty.zero Ty.zero).na⟩
    have zN : (sN s).sz ≤ 1048576 := by show 1 + s.length + 0 + 0 + 0 + (1 + 0 + 0) + 0 + 0 + 0 ≤ 1048576; omega
    have zL : (sL s).sz ≤ 1048576 := by show 1 + s.length + 0 + 0 + 0 + (1 + 0 + 0) + 0 + 0 + 0 ≤ 1048576; omega
    have hN := pgStmt p c m (sN s) _ _ zN (pAskSet _ (ak_ok hsz hcm hmm (sN s) zN Ty.zero Ty.zero) rfl)
    have hL := pgStmt p c m (sL s) _ _ zL (pAskSet _ (ak_ok hsz hcm hmm (sL s) zL Ty.zero Ty.zero) rfl)
    have hE := pgStmt p c m sE _ _ (by decide) (pAskRet _ (ak_ok hsz hcm hmm sE (by decide) Ty.zero Ty.zero) rfl)
    have z0 := Pc.z0
    have hw1 : IntKind.i64.wrap ((m.locals.length : Nat) - 1 : Int) = (m.locals.length : Int) - 1 := wrap64 (by omega) (by omega)
    have hw2 : IntKind.i64.wrap ((m.params.length : Nat) - 1 : Int) = (m.params.length : Int) - 1 := wrap64 (by omega) (by omega)
    refine DPure.go Tryz.func6 rfl Tryz.ntmps6 rfl rfl rfl (fun C hro => ?_)
    have fx := trivial
    replace fx := And.intro z0 (And.intro hw1 trivial)
    repeat' (first | refine WP.seq ?_ | (refine WP.rg [0, 1, 2, 4, 6, 7, 8, 9, 10, 11, 12, 13, 14, 15, 23, 31, 42, 57, 68, 109, 111, 127] ?_; simp only [RSr_mk]) | refine RS.fnT ?_ | (refine RS.fn ?_; try simp only [thenQ_n, blockQ_n]) | (refine RS.cl (hp := by first | exact hat | exact pAwake20) (h := ?_); refine RS.rn ?_; simp only [RSr_mk]) | (refine RS.cL (hp := by first | exact hat | exact pAwake20) (h := ?_); refine RS.rn ?_; simp only [RSr_mk]) | (refine RS.sE ?_; refine RS.rn ?_; simp only [RSr_mk]) | (refine RS.pk ?_; refine RS.rn ?_; simp only [RSr_mk]) | (refine RS.gF ?_; refine RS.rn ?_; simp only [RSr_mk]) | (refine RS.lC ?_; refine RS.rn ?_; simp only [RSr_mk]) | (refine RS.xC ?_; refine RS.rn ?_; simp only [RSr_mk]) | ((refine WP.cn (fun hc => ?_) (fun hc => ?_)) <;> try exact Bool.noConfusion hc) | (refine WP.skip ?_; try simp only [thenQ_n, blockQ_n]) | (refine WP.exit ?_; try simp only [thenQ_e, blockQ_e, blockQ_o, ne_eq, Nat.reduceEqDiff, not_false_eq_true, reduceCtorEq, thenQ_n, blockQ_n]) | refine WP.block ?_ | (refine WP.ret ?_; (try simp only [thenQ_r, blockQ_r])) | refine ret3 ?_)
    refine WP.loopX (α := { k : Nat // k ≤ m.locals.length }) (fun y => [(0, .a (.sl (p.map Cs.at))), (2, .a (.v (.string (bs s)))), (7, .a (.ptr 1 0)), (9, .a (.v (.int .i64 (scan s (m.locals.drop y.1) y.1 (-1, Ty.zero)).1))), (10, .a (.ptr 2 0)), (11, .a (.v (.int .i64 ((y.1 : Nat) - 1 : Int))))]) (fun y => [.cell [.v (.int .i64 (a : Nat)), .v (.int .i64 (b : Nat))], .cell (Pc.at ⟨p, c, m⟩), .cell (Ty.at (scan s (m.locals.drop y.1) y.1 (-1, Ty.zero)).2)]) (fun y => y.1) ⟨m.locals.length, Nat.le_refl _⟩ (by rw [List.drop_length]; simp only [Agree, go_sem, simprocAttr, scan]; first | done | rfl) (by rw [List.drop_length]; rfl) ?_
    rintro ⟨k, hk⟩
    dsimp only
    cases k with
    | succ k =>
      have hlt : k < m.locals.length := by omega
      obtain ⟨v, hv⟩ : ∃ v, m.locals[k]? = some v := ⟨_, List.getElem?_eq_getElem hlt⟩
      have hdr : m.locals.drop k = v :: m.locals.drop (k + 1) := by rw [List.drop_eq_getElem_cons hlt]; congr 1; exact (List.getElem?_eq_some_iff.1 hv).2
      have e1 : ((k + 1 : Nat) : Int) - 1 = (k : Int) := by omega
      have hge : decide ((k : Int) ≥ 0) = true := decide_eq_true (by omega)
      have hix : ∀ q2, ixD (some 13) q2 (.a (.sl (m.locals.map Vr.at))) (.a (.v (.int .i64 (k : Int)))) = some (.a (.ref (Vr.at v) 0)) := fun q2 => ixD_at rfl (by rw [List.getElem?_map, hv]; rfl) (by simp only [go_sem])
      have hw3 : IntKind.i64.wrap ((k : Int) - 1) = (k : Int) - 1 := wrap64 (by omega) (by omega)
      have hsc : scan s (m.locals.drop k) k (-1, Ty.zero) = if (v.name == s) = true then ((k : Int), v.ty) else scan s (m.locals.drop (k + 1)) (k + 1) (-1, Ty.zero) := by rw [hdr, scan]
      generalize scan s (m.locals.drop (k + 1)) (k + 1) (-1, Ty.zero) = R at hsc ⊢
      rw [e1]
      replace fx := And.intro hge (And.intro hix (And.intro hw3 trivial))
      repeat' (first | refine WP.seq ?_ | (refine WP.rg [0, 1, 2, 4, 6, 7, 8, 9, 10, 11, 12, 13, 14, 15, 23, 31, 42, 57, 68, 109, 111, 127] ?_; simp only [RSr_mk]) | refine RS.fnT ?_ | (refine RS.fn ?_; try simp only [thenQ_n, blockQ_n]) | (refine RS.sE ?_; refine RS.rn ?_; simp only [RSr_mk]) | (refine RS.pk ?_; refine RS.rn ?_; simp only [RSr_mk]) | (refine RS.gF ?_; refine RS.rn ?_; simp only [RSr_mk]) | (refine RS.lC ?_; refine RS.rn ?_; simp only [RSr_mk]) | (refine RS.xC ?_; refine RS.rn ?_; simp only [RSr_mk]) | ((refine WP.cn (fun hc => ?_) (fun hc => ?_)) <;> try exact Bool.noConfusion hc) | (refine WP.skip ?_; try simp only [thenQ_n, blockQ_n]) | (refine WP.exit ?_; try simp only [thenQ_e, blockQ_e, blockQ_o, ne_eq, Nat.reduceEqDiff, not_false_eq_true, reduceCtorEq, thenQ_n, blockQ_n]) | refine WP.block ?_ | (refine WP.ret ?_; (try simp only [thenQ_r, blockQ_r])) | refine ret3 ?_)
      · rw [if_pos hc] at hsc
        refine ⟨⟨k, by omega⟩, [], by dsimp only; omega, ?_, by dsimp only; rw [hsc]; rfl, by simp only [nrE, nrD, List.all_cons, List.all_nil, go_sem, simprocAttr], by simp only [go_sem, simprocAttr, Pc.nr]⟩
        dsimp only
        rw [hsc]
        simp only [Agree, go_sem, simprocAttr]
      · rw [if_neg (by rw [hc]; exact Bool.false_ne_true)] at hsc
        refine ⟨⟨k, by omega⟩, [], by dsimp only; omega, ?_, by dsimp only; rw [hsc]; rfl, by simp only [nrE, nrD, List.all_cons, List.all_nil, go_sem, simprocAttr], by simp only [go_sem, simprocAttr, Pc.nr]⟩
        dsimp only
        rw [hsc]
        simp only [Agree, go_sem, simprocAttr]
    | zero =>
      have e0 : ((0 : Nat) : Int) - 1 = -1 := by decide
      have hge : decide ((-1 : Int) ≥ 0) = false := by decide
      rw [e0, List.drop_zero]
      obtain ⟨d, hd⟩ : ∃ d, d = scan s m.locals 0 (-1, Ty.zero) := ⟨_, rfl⟩
      rw [← hd]
      replace fx := And.intro hge (And.intro hw2 trivial)
      repeat' (first | refine WP.seq ?_ | (refine WP.rg [0, 1, 2, 4, 6, 7, 8, 9, 10, 11, 12, 13, 14, 15, 23, 31, 42, 57, 68, 109, 111, 127] ?_; simp only [RSr_mk]) | refine RS.fnT ?_ | (refine RS.fn ?_; try simp only [thenQ_n, blockQ_n]) | (refine RS.sE ?_; refine RS.rn ?_; simp only [RSr_mk]) | (refine RS.pk ?_; refine RS.rn ?_; simp only [RSr_mk]) | (refine RS.gF ?_; refine RS.rn ?_; simp only [RSr_mk]) | (refine RS.lC ?_; refine RS.rn ?_; simp only [RSr_mk]) | (refine RS.xC ?_; refine RS.rn ?_; simp only [RSr_mk]) | ((refine WP.cn (fun hc => ?_) (fun hc => ?_)) <;> try exact Bool.noConfusion hc) | (refine WP.skip ?_; try simp only [thenQ_n, blockQ_n]) | (refine WP.exit ?_; try simp only [thenQ_e, blockQ_e, blockQ_o, ne_eq, Nat.reduceEqDiff, not_false_eq_true, reduceCtorEq, thenQ_n, blockQ_n]) | refine WP.block ?_ | (refine WP.ret ?_; (try simp only [thenQ_r, blockQ_r])) | refine ret3 ?_)
      have hR : ∀ k, scan s (m.params.drop k) k d = scan s (m.params.drop k) k d := fun _ => rfl
      refine WP.loopX (α := { k : Nat // k ≤ m.params.length }) (fun y => [(0, .a (.sl (p.map Cs.at))), (2, .a (.v (.string (bs s)))), (7, .a (.ptr 1 0)), (9, .a (.v (.int .i64 (scan s (m.params.drop y.1) y.1 d).1))), (10, .a (.ptr 2 0)), (12, .a (.v (.int .i64 ((y.1 : Nat) - 1 : Int))))]) (fun y => [.cell [.v (.int .i64 (a : Nat)), .v (.int .i64 (b : Nat))], .cell (Pc.at ⟨p, c, m⟩), .cell (Ty.at (scan s (m.params.drop y.1) y.1 d).2)]) (fun y => y.1) ⟨m.params.length, Nat.le_refl _⟩ (by rw [List.drop_length]; simp only [Agree, go_sem, simprocAttr, scan]; first | done | rfl) (by rw [List.drop_length]; rfl) ?_
      rintro ⟨k, hk⟩
      dsimp only
      cases k with
      | succ k =>
        have hlt : k < m.params.length := by omega
        obtain ⟨v, hv⟩ : ∃ v, m.params[k]? = some v := ⟨_, List.getElem?_eq_getElem hlt⟩
        have hdr : m.params.drop k = v :: m.params.drop (k + 1) := by rw [List.drop_eq_getElem_cons hlt]; congr 1; exact (List.getElem?_eq_some_iff.1 hv).2
        have e1 : ((k + 1 : Nat) : Int) - 1 = (k : Int) := by omega
        have hge : decide ((k : Int) ≥ 0) = true := decide_eq_true (by omega)
        have hix : ∀ q2, ixD (some 13) q2 (.a (.sl (m.params.map Vr.at))) (.a (.v (.int .i64 (k : Int)))) = some (.a (.ref (Vr.at v) 0)) := fun q2 => ixD_at rfl (by rw [List.getElem?_map, hv]; rfl) (by simp only [go_sem])
        have hw3 : IntKind.i64.wrap ((k : Int) - 1) = (k : Int) - 1 := wrap64 (by omega) (by omega)
        have hsc : scan s (m.params.drop k) k d = if (v.name == s) = true then ((k : Int), v.ty) else scan s (m.params.drop (k + 1)) (k + 1) d := by rw [hdr, scan]
        generalize scan s (m.params.drop (k + 1)) (k + 1) d = R at hsc ⊢
        rw [e1]
        replace fx := And.intro hge (And.intro hix (And.intro hw3 trivial))
        repeat' (first | refine WP.seq ?_ | (refine WP.rg [0, 1, 2, 4, 6, 7, 8, 9, 10, 11, 12, 13, 14, 15, 23, 31, 42, 57, 68, 109, 111, 127] ?_; simp only [RSr_mk]) | refine RS.fnT ?_ | (refine RS.fn ?_; try simp only [thenQ_n, blockQ_n]) | (refine RS.sE ?_; refine RS.rn ?_; simp only [RSr_mk]) | (refine RS.pk ?_; refine RS.rn ?_; simp only [RSr_mk]) | (refine RS.gF ?_; refine RS.rn ?_; simp only [RSr_mk]) | (refine RS.lC ?_; refine RS.rn ?_; simp only [RSr_mk]) | (refine RS.xC ?_; refine RS.rn ?_; simp only [RSr_mk]) | ((refine WP.cn (fun hc => ?_) (fun hc => ?_)) <;> try exact Bool.noConfusion hc) | (refine WP.skip ?_; try simp only [thenQ_n, blockQ_n]) | (refine WP.exit ?_; try simp only [thenQ_e, blockQ_e, blockQ_o, ne_eq, Nat.reduceEqDiff, not_false_eq_true, reduceCtorEq, thenQ_n, blockQ_n]) | refine WP.block ?_ | (refine WP.ret ?_; (try simp only [thenQ_r, blockQ_r])) | refine ret3 ?_)
        · rw [if_pos hc] at hsc
          refine ⟨⟨k, by omega⟩, [], by dsimp only; omega, ?_, by dsimp only; rw [hsc]; rfl, by simp only [nrE, nrD, List.all_cons, List.all_nil, go_sem, simprocAttr], by simp only [go_sem, simprocAttr, Pc.nr]⟩
          dsimp only
          rw [hsc]
          simp only [Agree, go_sem, simprocAttr]
        · rw [if_neg (by rw [hc]; exact Bool.false_ne_true)] at hsc
          refine ⟨⟨k, by omega⟩, [], by dsimp only; omega, ?_, by dsimp only; rw [hsc]; rfl, by simp only [nrE, nrD, List.all_cons, List.all_nil, go_sem, simprocAttr], by simp only [go_sem, simprocAttr, Pc.nr]⟩
          dsimp only
          rw [hsc]
          simp only [Agree, go_sem, simprocAttr]
      | zero =>
        rw [e0, List.drop_zero]
        have hlaw := only_law p c m s
        have hle := qE_law p c m
        unfold scR at hlaw
        rw [← hd] at hlaw
        change DPure Tryz.prog 21 _ (.a (.v (.int .i64 (qN p c m s)))) at hN
        change DPure Tryz.prog 21 _ (.a (.v (.int .i64 (qL p c m s)))) at hL
        change DPure Tryz.prog 21 _ (.a (.v (.int .i64 (qE p c m)))) at hE
        generalize scan s m.params 0 d = R at hlaw ⊢
        generalize qN p c m s = N at hlaw hN
        generalize qL p c m s = L at hlaw hL
        generalize qE p c m = E at hle hE
        clear hR hd
        replace fx := And.intro hge trivial
        repeat' (first | refine WP.seq ?_ | (refine WP.rg [0, 1, 2, 4, 6, 7, 8, 9, 10, 11, 12, 13, 14, 15, 23, 31, 42, 57, 68, 109, 111, 127] ?_; simp only [RSr_mk]) | refine RS.fnT ?_ | (refine RS.fn ?_; try simp only [thenQ_n, blockQ_n]) | (refine RS.cl (hp := by first | exact hN | exact hL | exact hE | exact pAwake20) (h := ?_); refine RS.rn ?_; simp only [RSr_mk]) | (refine RS.cL (hp := by first | exact hN | exact hL | exact hE | exact pAwake20) (h := ?_); refine RS.rn ?_; simp only [RSr_mk]) | (refine RS.sE ?_; refine RS.rn ?_; simp only [RSr_mk]) | (refine RS.pk ?_; refine RS.rn ?_; simp only [RSr_mk]) | (refine RS.gF ?_; refine RS.rn ?_; simp only [RSr_mk]) | (refine RS.lC ?_; refine RS.rn ?_; simp only [RSr_mk]) | (refine RS.xC ?_; refine RS.rn ?_; simp only [RSr_mk]) | ((refine WP.cn (fun hc => ?_) (fun hc => ?_)) <;> try exact Bool.noConfusion hc) | (refine WP.skip ?_; try simp only [thenQ_n, blockQ_n]) | (refine WP.exit ?_; try simp only [thenQ_e, blockQ_e, blockQ_o, ne_eq, Nat.reduceEqDiff, not_false_eq_true, reduceCtorEq, thenQ_n, blockQ_n]) | refine WP.block ?_ | (refine WP.ret ?_; (try simp only [thenQ_r, blockQ_r])) | refine ret3 ?_)
        · rw [hle] at hc; simp at hc
        · have hc := of_decide_eq_true hc
          rcases hlaw with ⟨_, h1, h2⟩ | ⟨_, h1, h2⟩ | ⟨h0, _, _⟩
          · rw [h1, h2]; rfl
          · rw [h1, h2]; rfl
          · omega
        · rename_i _ h9
          have hc := eq_of_beq hc
          have h9 := of_decide_eq_false h9
          rcases hlaw with ⟨_, h1, h2⟩ | ⟨h0, h1, h2⟩ | ⟨h0, h1, _⟩
          · rw [h2]; rfl
          · omega
          · rw [h1] at hc; split at hc <;> omega
        · rename_i _ h9
          have hc := beq_eq_false_iff_ne.1 hc
          have h9 := of_decide_eq_false h9
          rcases hlaw with ⟨_, h1, h2⟩ | ⟨h0, h1, h2⟩ | ⟨h0, h1, h2⟩
          · exact absurd h1 hc
          · omega
          · rw [h1, h2]
            cases R.2.kind == 1 <;> cases R.2.kind == 2 <;> rfl
end Go.Proofs.YtibdalkdgjghoaaGreatDoor
