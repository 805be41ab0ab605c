/- How great a program is: plain answers. No program in sight. Conditions: none. -/
import Derived.Test.YtiokbbjejchfbaaGreatDoorMg19
set_option linter.unusedVariables false
set_option linter.unusedSimpArgs false
namespace Go.Proofs.YtiokbbjejchfbaaGreatDoor
open Go.RowKit
/-- The greatest over a list. -/
def maxOf {α : Type} (f : α → Nat) : List α → Nat
  | [] => 0
  | x :: r => max (f x) (maxOf f r)
theorem maxOf_app {α : Type} (f : α → Nat) : ∀ (l m : List α), maxOf f (l ++ m) = max (maxOf f l) (maxOf f m)
  | [], m => by rw [List.nil_append, maxOf]; omega
  | e :: r, m => by rw [List.cons_append, maxOf, maxOf, maxOf_app f r m]; omega
theorem maxOf_one {α : Type} (f : α → Nat) (x : α) : maxOf f [x] = f x := by rw [maxOf, maxOf]; omega
def Me.vars (m : Me) : Nat := m.params.length + m.locals.length
def Me.holes (m : Me) : Nat := m.ret.hole + holesN m.params + holesN m.locals + St.inns m.body
def Me.deep (m : Me) : Nat := St.deeps m.body
def Cs.nf (c : Cs) : Nat := c.fields.length
def Cs.nm (c : Cs) : Nat := c.methods.length
def Cs.nv (c : Cs) : Nat := sumOf Me.vars c.methods
def Cs.nh (c : Cs) : Nat := holesN c.fields + sumOf Me.holes c.methods
def Cs.deep (c : Cs) : Nat := maxOf Me.deep c.methods
theorem Me.vars_le (m : Me) : m.vars ≤ m.sz := by
  have := sumOf_len Vr.sz_pos m.params
  have := sumOf_len Vr.sz_pos m.locals
  unfold Me.vars Me.sz; omega
theorem Me.holes_le (m : Me) : m.holes ≤ m.sz := by
  have := sumOf_len Vr.sz_pos m.params
  have := sumOf_len Vr.sz_pos m.locals
  have := holesN_le m.params
  have := holesN_le m.locals
  have := m.ret.hole_le
  have := St.inns_le m.body
  unfold Me.holes Me.sz; omega
theorem Cs.nf_le (c : Cs) : c.nf ≤ c.sz := by have := (Cs.szH (Nat.le_refl c.sz)); unfold Cs.nf; omega
theorem Cs.nm_le (c : Cs) : c.nm ≤ c.sz := by have := (Cs.szH (Nat.le_refl c.sz)); unfold Cs.nm; omega
theorem Cs.nv_le (c : Cs) : c.nv ≤ c.sz := by
  have : c.nv ≤ sumOf Me.sz c.methods := sumOf_le _ fun m _ => m.vars_le
  unfold Cs.sz; omega
theorem Cs.nh_le (c : Cs) : c.nh ≤ c.sz := by
  have : sumOf Me.holes c.methods ≤ sumOf Me.sz c.methods := sumOf_le _ fun m _ => m.holes_le
  have := holesN_le c.fields
  have := sumOf_len Vr.sz_pos c.fields
  unfold Cs.nh Cs.sz; omega
/-- How great: so many classes, and what these have. -/
def ofT (n : Nat) (l : List Cs) : Cn := ⟨n, (sumOf Cs.nf l : Nat), (sumOf Cs.nm l : Nat), (sumOf Cs.nv l : Nat), (sumOf Cs.stmts l : Nat), (maxOf Cs.deep l : Nat), (sumOf Cs.nh l : Nat)⟩
def ofP (l : List Cs) : Cn := ofT l.length l
/-! Too great to be looked at? -/
mutual
def Ex.kidsB (left : Int) : Ex → Bool
  | ⟨_, _, _, l⟩ => (decide (left < 0) || decide ((l.length : Int) > 4)) || Ex.kidssB (left - 1) l
def Ex.kidssB (left : Int) : List Ex → Bool
  | [] => false
  | e :: r => e.kidsB left || Ex.kidssB left r
end
theorem Ex.kids_eq (left : Int) (e : Ex) : e.kidsB left = ((decide (left < 0) || decide ((e.kids.length : Int) > 4)) || Ex.kidssB (left - 1) e.kids) := by cases e; rfl
theorem Ex.kidssB_any (left : Int) (l : List Ex) : Ex.kidssB left l = l.any (Ex.kidsB left) := by
  induction l with
  | nil => rw [kidssB]; rfl
  | cons e r ih => rw [kidssB, ih]; rfl
mutual
def St.muchB (left : Int) : St → Bool
  | ⟨_, _, _, _, _, e, args, body, els, _⟩ => (decide (left < 0) || decide ((body.length : Int) > 500) || decide ((els.length : Int) > 500) || decide ((args.length : Int) > 20) || e.kidsB 25) || (args.any (Ex.kidsB 25) || (St.muchsB (left - 1) body || St.muchsB (left - 1) els))
def St.muchsB (left : Int) : List St → Bool
  | [] => false
  | e :: r => e.muchB left || St.muchsB left r
end
theorem St.much_eq (left : Int) (s : St) : s.muchB left = ((decide (left < 0) || decide ((s.body.length : Int) > 500) || decide ((s.els.length : Int) > 500) || decide ((s.args.length : Int) > 20) || s.e.kidsB 25) || (s.args.any (Ex.kidsB 25) || (St.muchsB (left - 1) s.body || St.muchsB (left - 1) s.els))) := by cases s; rfl
theorem St.muchsB_any (left : Int) (l : List St) : St.muchsB left l = l.any (St.muchB left) := by
  induction l with
  | nil => rw [muchsB]; rfl
  | cons e r ih => rw [muchsB, ih]; rfl
def uniq (v : Vr) : Nat := if v.ty.o0.1 == 6 then 1 else 0
def Me.uniques (m : Me) : Nat := sumOf uniq m.params + sumOf uniq m.locals
theorem uniq_le (l : List Vr) : sumOf uniq l ≤ l.length := by
  induction l with
  | nil => exact Nat.le_refl _
  | cons e r ih => rw [sumOf, List.length_cons]; have : uniq e ≤ 1 := by unfold uniq; split <;> omega
                   omega
/-- Heavy's sums: none where it answers at once. -/
def hvBody (n : Nat) : List St → Option Nat
  | [] => some n
  | s :: r => bif decide ((n : Int) > 500) || s.muchB 25 then none else hvBody (n + s.cnt) r
def hvMe (n : Nat) : List Me → Option Nat
  | [] => some n
  | m :: r => bif decide ((m.params.length : Int) > 40) || decide ((m.locals.length : Int) > 40) || decide ((m.body.length : Int) > 500) || decide ((m.uniques : Int) > 8) then none else (hvBody n m.body).bind fun k => hvMe k r
def hvCs (top : Nat) (n : Nat) : List Cs → Option Nat
  | [] => some n
  | c :: r => bif decide ((top : Int) > 30) || decide ((c.params.length : Int) > 20) || decide ((c.above.length : Int) > 20) || decide ((c.fields.length : Int) > 40) || decide ((c.methods.length : Int) > 40) then none else (hvMe n c.methods).bind fun k => hvCs top k r
def heavyB (l : List Cs) : Bool := match hvCs l.length 0 l with
  | none => true
  | some n => decide ((n : Int) > 500)
theorem hvBody_app : ∀ (l : List St) (n : Nat) (m : List St), hvBody n (l ++ m) = (hvBody n l).bind fun k => hvBody k m
  | [], n, m => rfl
  | s :: r, n, m => by
    rw [List.cons_append, hvBody, hvBody]
    cases decide ((n : Int) > 500) || s.muchB 25
    · simp only [cond_false]; exact hvBody_app r _ m
    · rfl
theorem hvMe_app : ∀ (l : List Me) (n : Nat) (m : List Me), hvMe n (l ++ m) = (hvMe n l).bind fun k => hvMe k m
  | [], n, m => rfl
  | s :: r, n, m => by
    rw [List.cons_append, hvMe, hvMe]
    cases decide ((s.params.length : Int) > 40) || decide ((s.locals.length : Int) > 40) || decide ((s.body.length : Int) > 500) || decide ((s.uniques : Int) > 8)
    · simp only [cond_false]
      cases hvBody n s.body with
      | none => rfl
      | some k => exact hvMe_app r k m
    · rfl
theorem hvCs_app (t : Nat) : ∀ (l : List Cs) (n : Nat) (m : List Cs), hvCs t n (l ++ m) = (hvCs t n l).bind fun k => hvCs t k m
  | [], n, m => rfl
  | s :: r, n, m => by
    rw [List.cons_append, hvCs, hvCs]
    cases decide ((t : Int) > 30) || decide ((s.params.length : Int) > 20) || decide ((s.above.length : Int) > 20) || decide ((s.fields.length : Int) > 40) || decide ((s.methods.length : Int) > 40)
    · simp only [cond_false]
      cases hvMe n s.methods with
      | none => rfl
      | some k => exact hvCs_app t r k m
    · rfl
theorem hvBody_le : ∀ (l : List St) (n k : Nat), hvBody n l = some k → k = n + St.cnts l
  | [], n, k, h => by injection h with h; rw [St.cnts]; omega
  | s :: r, n, k, h => by
    rw [hvBody] at h
    cases hc : decide ((n : Int) > 500) || s.muchB 25 <;> rw [hc] at h
    · have := hvBody_le r _ _ h; rw [St.cnts]; omega
    · cases h
theorem hvMe_le : ∀ (l : List Me) (n k : Nat), hvMe n l = some k → k = n + sumOf (fun m : Me => St.cnts m.body) l
  | [], n, k, h => by injection h with h; rw [sumOf]; omega
  | s :: r, n, k, h => by
    rw [hvMe] at h
    cases hc : decide ((s.params.length : Int) > 40) || decide ((s.locals.length : Int) > 40) || decide ((s.body.length : Int) > 500) || decide ((s.uniques : Int) > 8) <;> rw [hc] at h
    · simp only [cond_false, Option.bind_eq_some_iff] at h
      obtain ⟨k1, h1, h2⟩ := h
      have := hvBody_le _ _ _ h1; have := hvMe_le r _ _ h2; rw [sumOf]; omega
    · cases h
theorem hvCs_le (t : Nat) : ∀ (l : List Cs) (n k : Nat), hvCs t n l = some k → k = n + sumOf Cs.stmts l
  | [], n, k, h => by injection h with h; rw [sumOf]; omega
  | s :: r, n, k, h => by
    rw [hvCs] at h
    cases hc : decide ((t : Int) > 30) || decide ((s.params.length : Int) > 20) || decide ((s.above.length : Int) > 20) || decide ((s.fields.length : Int) > 40) || decide ((s.methods.length : Int) > 40) <;> rw [hc] at h
    · simp only [cond_false, Option.bind_eq_some_iff] at h
      obtain ⟨k1, h1, h2⟩ := h
      have h3 := hvMe_le _ _ _ h1; have := hvCs_le t r _ _ h2; rw [sumOf]; unfold Cs.stmts; unfold Cs.stmts at this; omega
    · cases h
end Go.Proofs.YtiokbbjejchfbaaGreatDoor
namespace Go.Proofs.YtiokbbjejchfbaaGreatDoor
open Go.RowKit
theorem w64 {a b c : Nat} (h : a + b = c) (hc : c ≤ 4000000) : IntKind.i64.wrap ((a : Int) + (b : Int)) = (c : Int) := by rw [wrap64 (by omega) (by omega)]; omega
set_option maxRecDepth 100000 in
set_option maxHeartbeats 8000000 in
theorem pOf (l : List Cs) (hz : sumOf Cs.sz l ≤ 1048576) : DPure Tryz.prog 7 [.a (.sl (l.map Cs.at))] (.r (Cn.at (ofP l))) := by
  have hll := sumOf_len Cs.sz_pos l
  have b1 : sumOf Cs.nf l ≤ sumOf Cs.sz l := sumOf_le _ fun c _ => c.nf_le
  have b2 : sumOf Cs.nm l ≤ sumOf Cs.sz l := sumOf_le _ fun c _ => c.nm_le
  have b3 : sumOf Cs.nv l ≤ sumOf Cs.sz l := sumOf_le _ fun c _ => c.nv_le
  have b4 : sumOf Cs.stmts l ≤ sumOf Cs.sz l := sumOf_le _ fun c _ => c.stmts_le
  have b5 : sumOf Cs.nh l ≤ sumOf Cs.sz l := sumOf_le _ fun c _ => c.nh_le
  refine DPure.go Tryz.func7 rfl Tryz.ntmps7 rfl rfl rfl (fun C hro => ?_)
  have fx := trivial
  repeat' (first | refine WP.seq ?_ | (refine WP.rg [0, 2, 3, 4, 5, 6, 7, 8, 15, 53, 95] ?_; simp only [RSr_mk]) | refine RS.fnT ?_ | (refine RS.fn ?_; try simp only [thenQ_n, blockQ_n]) | ((refine WP.cn (fun hc => ?_) (fun hc => ?_)) <;> try exact Bool.noConfusion hc) | (refine WP.skip ?_; try simp only [thenQ_n, blockQ_n]) | (refine WP.exit ?_; try simp only [thenQ_e, blockQ_e, blockQ_o, ne_eq, Nat.reduceEqDiff, not_false_eq_true, reduceCtorEq, thenQ_n, blockQ_n]) | refine WP.block ?_ | (refine WP.ret ?_; (try simp only [thenQ_r, blockQ_r]); refine retC3 ?_) | ((first | refine WP.dw (id := 9) 6 [0, 2, 3, 4, 5, 6, 7, 8, 15, 53, 95] ?_ | refine WP.dw (id := 10) 7 [0, 2, 3, 4, 5, 6, 7, 8, 15, 53, 95] ?_ | refine WP.dw (id := 16) 19 [0, 2, 3, 4, 5, 6, 7, 8, 15, 53, 95] ?_ | refine WP.dw (id := 20) 10 [0, 2, 3, 4, 5, 6, 7, 8, 15, 53, 95] ?_); simp only [RQr_mk, List.drop_succ_cons, List.drop_zero, List.drop_nil]) | (refine RQ.nil ?_; refine RS.rn ?_; simp only [RSr_mk]))
  refine WP.loopX (α := { k : Nat // k ≤ l.length }) (fun y => [(0, .a (.sl (l.map Cs.at))), (2, .a (.ptr 0 0)), (3, .a (.ptr 1 0)), (4, .a (.v (.int .i64 y.1)))]) (fun y => [.cell (Cn.at Cn.zero), .cell (Cn.at (ofT l.length (l.take y.1)))]) (fun y => l.length - y.1) ⟨0, by omega⟩ (by simp only [Agree, go_sem, simprocAttr]) rfl ?_
  rintro ⟨k, hk⟩
  dsimp only
  by_cases hlt : k < l.length
  · have hlt2 : decide ((k : Int) < ((l.length : Nat) : Int)) = true := decide_eq_true (by omega)
    obtain ⟨z, hz⟩ : ∃ z, l[k]? = some z := ⟨_, List.getElem?_eq_getElem hlt⟩
    have hzm : z ∈ l := List.mem_of_getElem? hz
    have hzt := take_snocA hz
    have hix : ∀ q2, ixD (some 7) q2 (.a (.sl (l.map Cs.at))) (.a (.v (.int .i64 (k : Int)))) = some (.a (.ref (Cs.at z) 0)) := fun q2 => ixD_at rfl (by rw [List.getElem?_map, hz]; rfl) (by simp only [go_sem])
    have hw : k < 9223372036854775807 := by omega
    have hzz : z.sz ≤ 1048576 := by have := sumOf_mem (f := Cs.sz) hzm; omega
    obtain ⟨y1, y2, y3, y4, y5, y6, y7, y8, y9⟩ := Cs.szH hzz
    have t1 := sumOf_take Cs.nf l (k + 1)
    have t2 := sumOf_take Cs.nm l (k + 1)
    have t3 := sumOf_take Cs.nv l (k + 1)
    have t4 := sumOf_take Cs.stmts l (k + 1)
    have t5 := sumOf_take Cs.nh l (k + 1)
    rw [hzt, sumOf_app, sumOf_one] at t1 t2 t3 t4 t5
    have d1 : z.nf = z.fields.length := rfl
    have d2 : z.nm = z.methods.length := rfl
    have d5 : z.nh = holesN z.fields + sumOf Me.holes z.methods := rfl
    have w1 := w64 (a := sumOf Cs.nf (l.take k)) (b := z.fields.length) rfl (by omega)
    have w2 := w64 (a := sumOf Cs.nm (l.take k)) (b := z.methods.length) rfl (by omega)
    have w4 := w64 (a := sumOf Cs.stmts (l.take k)) (b := z.stmts) rfl (by omega)
    have w5 := w64 (a := sumOf Cs.nh (l.take k)) (b := holesN z.fields) rfl (by omega)
    unfold ofT
    replace fx := And.intro hlt2 (And.intro hix (And.intro hw (And.intro w1 (And.intro w2 (And.intro w4 (And.intro w5 trivial))))))
    repeat' (first | refine WP.seq ?_ | (refine WP.rg [0, 2, 3, 4, 5, 6, 7, 8, 15, 53, 95] ?_; simp only [RSr_mk]) | refine RS.fnT ?_ | (refine RS.fn ?_; try simp only [thenQ_n, blockQ_n]) | (refine RS.cl (hp := by first | exact pStmts z hzz | exact pHoles _ (by omega)) (h := ?_); refine RS.rn ?_; simp only [RSr_mk]) | ((refine WP.cn (fun hc => ?_) (fun hc => ?_)) <;> try exact Bool.noConfusion hc) | (refine WP.skip ?_; try simp only [thenQ_n, blockQ_n]) | (refine WP.exit ?_; try simp only [thenQ_e, blockQ_e, blockQ_o, ne_eq, Nat.reduceEqDiff, not_false_eq_true, reduceCtorEq, thenQ_n, blockQ_n]) | refine WP.block ?_ | (refine WP.ret ?_; (try simp only [thenQ_r, blockQ_r]); refine retC3 ?_) | ((first | refine WP.dw (id := 9) 6 [0, 2, 3, 4, 5, 6, 7, 8, 15, 53, 95] ?_ | refine WP.dw (id := 10) 7 [0, 2, 3, 4, 5, 6, 7, 8, 15, 53, 95] ?_ | refine WP.dw (id := 16) 19 [0, 2, 3, 4, 5, 6, 7, 8, 15, 53, 95] ?_ | refine WP.dw (id := 20) 10 [0, 2, 3, 4, 5, 6, 7, 8, 15, 53, 95] ?_); simp only [RQr_mk, List.drop_succ_cons, List.drop_zero, List.drop_nil]) | (refine RQ.nil ?_; refine RS.rn ?_; simp only [RSr_mk]) | (refine RQ.cl (hp := by first | exact pStmts z hzz | exact pHoles _ (by omega)) (h := ?_); refine RQ.rn ?_; simp only [RQr_mk]))
    refine WP.loopX (α := { j : Nat // j ≤ z.methods.length }) (fun y => [(0, .a (.sl (l.map Cs.at))), (2, .a (.ptr 0 0)), (3, .a (.ptr 1 0)), (4, .a (.v (.int .i64 k))), (5, .a (.ptr 2 0)), (6, .a (.v (.int .i64 y.1)))]) (fun y => [.cell (Cn.at Cn.zero), .cell (Cn.at ⟨l.length, ((sumOf Cs.nf (l.take k) + z.fields.length : Nat) : Int), ((sumOf Cs.nm (l.take k) + z.methods.length : Nat) : Int), ((sumOf Cs.nv (l.take k) + sumOf Me.vars (z.methods.take y.1) : Nat) : Int), ((sumOf Cs.stmts (l.take k) + z.stmts : Nat) : Int), ((max (maxOf Cs.deep (l.take k)) (maxOf Me.deep (z.methods.take y.1)) : Nat) : Int), ((sumOf Cs.nh (l.take k) + holesN z.fields + sumOf Me.holes (z.methods.take y.1) : Nat) : Int)⟩), .cell (Cs.at z)]) (fun y => z.methods.length - y.1) ⟨0, by omega⟩ (by simp only [Agree, go_sem, simprocAttr]) (by simp only [List.take_zero, sumOf, maxOf, Nat.add_zero, Nat.max_zero]) ?_
    rintro ⟨j, hj⟩
    dsimp only
    by_cases hlj : j < z.methods.length
    · have hlt3 : decide ((j : Int) < ((z.methods.length : Nat) : Int)) = true := decide_eq_true (by omega)
      obtain ⟨m, hm⟩ : ∃ m, z.methods[j]? = some m := ⟨_, List.getElem?_eq_getElem hlj⟩
      have hmm : m ∈ z.methods := List.mem_of_getElem? hm
      have hmt := take_snocA hm
      have hiz : ∀ q2, ixD (some 17) q2 (.a (.sl (z.methods.map Me.at))) (.a (.v (.int .i64 (j : Int)))) = some (.a (.ref (Me.at m) 0)) := fun q2 => ixD_at rfl (by rw [List.getElem?_map, hm]; rfl) (by simp only [go_sem])
      have hw2 : j < 9223372036854775807 := by omega
      have hmz : m.sz ≤ 1048576 := by have := sumOf_mem (f := Me.sz) hmm; omega
      obtain ⟨u1, u2, u3, u4, u5, u6⟩ := Me.szH hmz
      have q3 := sumOf_take Me.vars z.methods (j + 1)
      have q5 := sumOf_take Me.holes z.methods (j + 1)
      rw [hmt, sumOf_app, sumOf_one] at q3 q5
      have e3 : z.nv = sumOf Me.vars z.methods := rfl
      have e1 : m.vars = m.params.length + m.locals.length := rfl
      have e2 : m.holes = m.ret.hole + holesN m.params + holesN m.locals + St.inns m.body := rfl
      have hbl := St.szs_len m.body
      have v1 := w64 (a := m.params.length) (b := m.locals.length) rfl (by omega)
      have v2 := w64 (a := sumOf Cs.nv (l.take k) + sumOf Me.vars (z.methods.take j)) (b := m.params.length + m.locals.length) rfl (by omega)
      have v3 := w64 (a := m.ret.hole) (b := holesN m.params) rfl (by omega)
      have v4 := w64 (a := m.ret.hole + holesN m.params) (b := holesN m.locals) rfl (by omega)
      have v5 := w64 (a := m.ret.hole + holesN m.params + holesN m.locals) (b := St.inns m.body) rfl (by omega)
      have v6 := w64 (a := sumOf Cs.nh (l.take k) + holesN z.fields + sumOf Me.holes (z.methods.take j)) (b := m.ret.hole + holesN m.params + holesN m.locals + St.inns m.body) rfl (by omega)
      replace fx := And.intro hlt3 (And.intro hix (And.intro hiz (And.intro hw2 (And.intro v1 (And.intro v2 (And.intro v3 (And.intro v4 (And.intro v5 (And.intro v6 trivial)))))))))
      repeat' (first | refine WP.seq ?_ | (refine WP.rg [0, 2, 3, 4, 5, 6, 7, 8, 15, 53, 95] ?_; simp only [RSr_mk]) | refine RS.fnT ?_ | (refine RS.fn ?_; try simp only [thenQ_n, blockQ_n]) | (refine RS.cl (hp := by first | exact pHole _ | exact pHoles _ (by omega) | exact pInner _ u5) (h := ?_); refine RS.rn ?_; simp only [RSr_mk]) | ((refine WP.cn (fun hc => ?_) (fun hc => ?_)) <;> try exact Bool.noConfusion hc) | (refine WP.skip ?_; try simp only [thenQ_n, blockQ_n]) | (refine WP.exit ?_; try simp only [thenQ_e, blockQ_e, blockQ_o, ne_eq, Nat.reduceEqDiff, not_false_eq_true, reduceCtorEq, thenQ_n, blockQ_n]) | refine WP.block ?_ | (refine WP.ret ?_; (try simp only [thenQ_r, blockQ_r]); refine retC3 ?_) | ((first | refine WP.dw (id := 9) 6 [0, 2, 3, 4, 5, 6, 7, 8, 15, 53, 95] ?_ | refine WP.dw (id := 10) 7 [0, 2, 3, 4, 5, 6, 7, 8, 15, 53, 95] ?_ | refine WP.dw (id := 16) 19 [0, 2, 3, 4, 5, 6, 7, 8, 15, 53, 95] ?_ | refine WP.dw (id := 20) 10 [0, 2, 3, 4, 5, 6, 7, 8, 15, 53, 95] ?_); simp only [RQr_mk, List.drop_succ_cons, List.drop_zero, List.drop_nil]) | (refine RQ.nil ?_; refine RS.rn ?_; simp only [RSr_mk]) | (refine RQ.cl (hp := by first | exact pHole _ | exact pHoles _ (by omega) | exact pInner _ u5) (h := ?_); refine RQ.rn ?_; simp only [RQr_mk]))
      refine WP.loop (α := { i : Nat // i ≤ m.body.length }) (fun y => [(0, .a (.sl (l.map Cs.at))), (2, .a (.ptr 0 0)), (3, .a (.ptr 1 0)), (4, .a (.v (.int .i64 k))), (5, .a (.ptr 2 0)), (6, .a (.v (.int .i64 j))), (7, .a (.ptr 3 0)), (8, .a (.v (.int .i64 y.1)))]) (fun y => [.cell (Cn.at Cn.zero), .cell (Cn.at ⟨l.length, ((sumOf Cs.nf (l.take k) + z.fields.length : Nat) : Int), ((sumOf Cs.nm (l.take k) + z.methods.length : Nat) : Int), ((sumOf Cs.nv (l.take k) + sumOf Me.vars (z.methods.take j) + (m.params.length + m.locals.length) : Nat) : Int), ((sumOf Cs.stmts (l.take k) + z.stmts : Nat) : Int), ((max (max (maxOf Cs.deep (l.take k)) (maxOf Me.deep (z.methods.take j))) (St.deeps (m.body.take y.1)) : Nat) : Int), ((sumOf Cs.nh (l.take k) + holesN z.fields + sumOf Me.holes (z.methods.take j) + (m.ret.hole + holesN m.params + holesN m.locals + St.inns m.body) : Nat) : Int)⟩), .cell (Cs.at z), .cell (Me.at m)]) (fun y => m.body.length - y.1) ⟨0, by omega⟩ (by simp only [Agree, go_sem, simprocAttr]) (by simp only [List.take_zero, St.deeps, Nat.add_zero, Nat.max_zero]) ?_
      rintro ⟨i, hi⟩
      dsimp only
      by_cases hli : i < m.body.length
      · have hlt4 : decide ((i : Int) < ((m.body.length : Nat) : Int)) = true := decide_eq_true (by omega)
        obtain ⟨s, hs⟩ : ∃ s, m.body[i]? = some s := ⟨_, List.getElem?_eq_getElem hli⟩
        have hsm : s ∈ m.body := List.mem_of_getElem? hs
        have hst := take_snocA hs
        have his : ∀ q2, ixD (some 23) q2 (.a (.sl (m.body.map St.at))) (.a (.v (.int .i64 (i : Int)))) = some (.a (.ref (St.at s) 0)) := fun q2 => ixD_at rfl (by rw [List.getElem?_map, hs]; rfl) (by simp only [go_sem])
        have hw3 : i < 9223372036854775807 := by omega
        have hmx : ∀ a b : Nat, max (a : Int) (b : Int) = ((max a b : Nat) : Int) := fun a b => by omega
        replace fx := And.intro hlt4 (And.intro his (And.intro hw3 (And.intro hmx trivial)))
        repeat' (first | refine WP.seq ?_ | (refine WP.rg [0, 2, 3, 4, 5, 6, 7, 8, 15, 53, 95] ?_; simp only [RSr_mk]) | refine RS.fnT ?_ | (refine RS.fn ?_; try simp only [thenQ_n, blockQ_n]) | (refine RS.cl (hp := by exact pStDeep _ s (Nat.le_refl _) (by have := St.szs_mem hsm; omega)) (h := ?_); refine RS.rn ?_; simp only [RSr_mk]) | ((refine WP.cn (fun hc => ?_) (fun hc => ?_)) <;> try exact Bool.noConfusion hc) | (refine WP.skip ?_; try simp only [thenQ_n, blockQ_n]) | (refine WP.exit ?_; try simp only [thenQ_e, blockQ_e, blockQ_o, ne_eq, Nat.reduceEqDiff, not_false_eq_true, reduceCtorEq, thenQ_n, blockQ_n]) | refine WP.block ?_ | (refine WP.ret ?_; (try simp only [thenQ_r, blockQ_r]); refine retC3 ?_) | ((first | refine WP.dw (id := 9) 6 [0, 2, 3, 4, 5, 6, 7, 8, 15, 53, 95] ?_ | refine WP.dw (id := 10) 7 [0, 2, 3, 4, 5, 6, 7, 8, 15, 53, 95] ?_ | refine WP.dw (id := 16) 19 [0, 2, 3, 4, 5, 6, 7, 8, 15, 53, 95] ?_ | refine WP.dw (id := 20) 10 [0, 2, 3, 4, 5, 6, 7, 8, 15, 53, 95] ?_); simp only [RQr_mk, List.drop_succ_cons, List.drop_zero, List.drop_nil]) | (refine RQ.nil ?_; refine RS.rn ?_; simp only [RSr_mk]) | (refine RQ.cl (hp := by exact pStDeep _ s (Nat.le_refl _) (by have := St.szs_mem hsm; omega)) (h := ?_); refine RQ.rn ?_; simp only [RQr_mk]))
        refine ⟨⟨i + 1, by omega⟩, by dsimp only; omega, ?_, ?_⟩
        · simp only [Agree, go_sem, simprocAttr]
        · simp only [hst, St.deeps_app, St.deeps_one, Nat.max_assoc]
      obtain rfl : i = m.body.length := by omega
      have hlt4 : decide (((m.body.length : Nat) : Int) < ((m.body.length : Nat) : Int)) = false := decide_eq_false (by omega)
      replace fx := And.intro hlt4 (And.intro hw2 trivial)
      repeat' (first | refine WP.seq ?_ | (refine WP.rg [0, 2, 3, 4, 5, 6, 7, 8, 15, 53, 95] ?_; simp only [RSr_mk]) | refine RS.fnT ?_ | (refine RS.fn ?_; try simp only [thenQ_n, blockQ_n]) | ((refine WP.cn (fun hc => ?_) (fun hc => ?_)) <;> try exact Bool.noConfusion hc) | (refine WP.skip ?_; try simp only [thenQ_n, blockQ_n]) | (refine WP.exit ?_; try simp only [thenQ_e, blockQ_e, blockQ_o, ne_eq, Nat.reduceEqDiff, not_false_eq_true, reduceCtorEq, thenQ_n, blockQ_n]) | refine WP.block ?_ | (refine WP.ret ?_; (try simp only [thenQ_r, blockQ_r]); refine retC3 ?_) | ((first | refine WP.dw (id := 9) 6 [0, 2, 3, 4, 5, 6, 7, 8, 15, 53, 95] ?_ | refine WP.dw (id := 10) 7 [0, 2, 3, 4, 5, 6, 7, 8, 15, 53, 95] ?_ | refine WP.dw (id := 16) 19 [0, 2, 3, 4, 5, 6, 7, 8, 15, 53, 95] ?_ | refine WP.dw (id := 20) 10 [0, 2, 3, 4, 5, 6, 7, 8, 15, 53, 95] ?_); simp only [RQr_mk, List.drop_succ_cons, List.drop_zero, List.drop_nil]) | (refine RQ.nil ?_; refine RS.rn ?_; simp only [RSr_mk]))
      refine ⟨⟨j + 1, by omega⟩, [.cell (Me.at m)], by dsimp only; omega, ?_, ?_, ?_, ?_⟩
      · simp only [Agree, go_sem, simprocAttr]
      · simp only [hmt, sumOf_app, sumOf_one, maxOf_app, maxOf_one, List.take_length, e1, e2, Me.deep, Nat.max_assoc, Nat.add_assoc, List.cons_append, List.nil_append]
      · rfl
      · simp only [nrS, go_sem, Bool.and_true]
    obtain rfl : j = z.methods.length := by omega
    have hlt3 : decide (((z.methods.length : Nat) : Int) < ((z.methods.length : Nat) : Int)) = false := decide_eq_false (by omega)
    replace fx := And.intro hlt3 (And.intro hw trivial)
    repeat' (first | refine WP.seq ?_ | (refine WP.rg [0, 2, 3, 4, 5, 6, 7, 8, 15, 53, 95] ?_; simp only [RSr_mk]) | refine RS.fnT ?_ | (refine RS.fn ?_; try simp only [thenQ_n, blockQ_n]) | ((refine WP.cn (fun hc => ?_) (fun hc => ?_)) <;> try exact Bool.noConfusion hc) | (refine WP.skip ?_; try simp only [thenQ_n, blockQ_n]) | (refine WP.exit ?_; try simp only [thenQ_e, blockQ_e, blockQ_o, ne_eq, Nat.reduceEqDiff, not_false_eq_true, reduceCtorEq, thenQ_n, blockQ_n]) | refine WP.block ?_ | (refine WP.ret ?_; (try simp only [thenQ_r, blockQ_r]); refine retC3 ?_) | ((first | refine WP.dw (id := 9) 6 [0, 2, 3, 4, 5, 6, 7, 8, 15, 53, 95] ?_ | refine WP.dw (id := 10) 7 [0, 2, 3, 4, 5, 6, 7, 8, 15, 53, 95] ?_ | refine WP.dw (id := 16) 19 [0, 2, 3, 4, 5, 6, 7, 8, 15, 53, 95] ?_ | refine WP.dw (id := 20) 10 [0, 2, 3, 4, 5, 6, 7, 8, 15, 53, 95] ?_); simp only [RQr_mk, List.drop_succ_cons, List.drop_zero, List.drop_nil]) | (refine RQ.nil ?_; refine RS.rn ?_; simp only [RSr_mk]))
    refine ⟨⟨k + 1, by omega⟩, [.cell (Cs.at z)], by dsimp only; omega, ?_, ?_, ?_, ?_⟩
    · simp only [Agree, go_sem, simprocAttr]
    · simp only [hzt, sumOf_app, sumOf_one, maxOf_app, maxOf_one, List.take_length, Cs.nf, Cs.nm, Cs.nv, Cs.nh, Cs.deep, Nat.max_assoc, Nat.add_assoc, List.cons_append, List.nil_append]
    · rfl
    · simp only [nrS, go_sem, Bool.and_true]
  obtain rfl : k = l.length := by omega
  have hlt2 : decide ((l.length : Int) < (l.length : Int)) = false := decide_eq_false (by omega)
  unfold ofT
  repeat' (first | refine WP.seq ?_ | (refine WP.reg [0, 2, 3, 4, 5, 6, 7, 8, 15, 53, 95] (by kernel_rfl) (by kernel_rfl) ?_; refine RS.run2 (by simp only [go_sem, simprocAttr, hlt2, List.take_length]; first | done | rfl) ?_; simp only [RSr_mk]) | (first | refine RS.finT (by simp only [go_sem, simprocAttr]; first | done | rfl) ?_ | refine RS.fin (by simp only [go_sem, simprocAttr]; first | done | rfl) ?_; (try simp only [thenQ_n, blockQ_n])) | (refine RS.call (by simp only [go_sem, simprocAttr, hlt2, List.take_length]; first | done | rfl) (by simp only [go_sem, List.all_cons, List.all_nil, Bool.and_true, hlt2, List.take_length]) (by fail) ?_; refine RS.run2 (by simp only [go_sem, simprocAttr, hlt2, List.take_length]; first | done | rfl) ?_; simp only [RSr_mk]) | ((refine WP.cond rfl (by simp only [go_sem, simprocAttr, hlt2, List.take_length]; first | done | rfl) (fun hc => ?_) (fun hc => ?_)) <;> try exact Bool.noConfusion hc) | (refine WP.skip ?_; (try simp only [thenQ_n, blockQ_n])) | (refine WP.exit ?_; (try simp only [thenQ_e, blockQ_e, blockQ_o, ne_eq, Nat.reduceEqDiff, not_false_eq_true, reduceCtorEq, thenQ_n, blockQ_n])) | refine WP.block ?_ | (refine WP.ret ?_; (try simp only [thenQ_r, blockQ_r]); refine retC rfl (by simp only [go_sem, simprocAttr, hlt2, List.take_length]; first | done | rfl) (by simp only [go_sem, simprocAttr, hlt2, List.take_length]; first | done | rfl) (by simp only [go_sem]; first | done | rfl) (by simp only [go_sem, simprocAttr, hlt2, List.take_length]; first | done | rfl) (by simp only [go_sem, simprocAttr, hlt2, List.take_length]; first | done | rfl) (by simp only [go_sem, hlt2, List.take_length]) ?_) | ((first | refine WP.drw (id := 9) 6 [0, 2, 3, 4, 5, 6, 7, 8, 15, 53, 95] (by kernel_rfl) rfl (by kernel_rfl) tb_mix ?_ | refine WP.drw (id := 10) 7 [0, 2, 3, 4, 5, 6, 7, 8, 15, 53, 95] (by kernel_rfl) rfl (by kernel_rfl) tb_mix ?_ | refine WP.drw (id := 16) 19 [0, 2, 3, 4, 5, 6, 7, 8, 15, 53, 95] (by kernel_rfl) rfl (by kernel_rfl) tb_mix ?_ | refine WP.drw (id := 20) 10 [0, 2, 3, 4, 5, 6, 7, 8, 15, 53, 95] (by kernel_rfl) rfl (by kernel_rfl) tb_mix ?_); simp only [List.take_succ_cons, List.take_zero, List.drop_succ_cons, List.drop_zero, List.take_nil, List.drop_nil]; refine RQ.run2 (by simp only [go_sem, simprocAttr, hlt2, List.take_length]; first | done | rfl) ?_; simp only [RQr_mk]) | (refine RQ.nil ?_; refine RS.run2 (by simp only [go_sem, simprocAttr, hlt2, List.take_length]; first | done | rfl) ?_; simp only [RSr_mk]) | (refine RQ.call (by simp only [go_sem, simprocAttr, hlt2, List.take_length]; first | done | rfl) (by simp only [go_sem, List.all_cons, List.all_nil, Bool.and_true, hlt2, List.take_length]) (by fail) ?_; refine RQ.run2 (by simp only [go_sem, simprocAttr, hlt2, List.take_length]; first | done | rfl) ?_; simp only [RQr_mk]))
  rfl
end Go.Proofs.YtiokbbjejchfbaaGreatDoor
