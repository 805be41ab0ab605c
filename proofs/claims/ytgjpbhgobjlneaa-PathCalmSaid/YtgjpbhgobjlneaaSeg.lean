/- A region that draws its order, whose operations only read but for its calls, and whose calls come up one at a time: one walk, call by call. Plain law, no program in sight. Conditions: none. -/
import Derived.Test.YtgjpbhgobjlneaaLib3
import Derived.OrdersHeld
import Derived.Deep.RegionHeld3
import Derived.BigQuiet
namespace Go.Proofs.Ytgjpbhgobjlneaa
open Go.RowKit
/-- w' is w, with new blocks and draws. -/
def Up (w w' : World) : Prop := ∃ x : HD, w' = wext w x.h x.d
theorem Up.refl (w : World) : Up w w := ⟨⟨#[], w.drawn⟩, by unfold wext; rw [Array.append_empty]⟩
theorem Up.trans {a b c : World} : Up a b → Up b c → Up a c := fun ⟨x, hx⟩ ⟨y, hy⟩ => ⟨⟨x.h ++ y.h, y.d⟩, by rw [hy, hx, wext_wext]⟩
theorem Up.grw {a b : World} : Up a b → Grw a b := fun ⟨x, hx⟩ => ⟨x.h, x.d, hx⟩
theorem Grw.up {a b : World} : Grw a b → Up a b := fun ⟨h, d, hx⟩ => ⟨⟨h, d⟩, hx⟩
section
variable {P : Program} {ops : Array Oper} {Q : Exit → Act → World → Prop} {md : Region.Mode}
def upAny (P : Program) (md : Region.Mode) (ops : Array Oper) (Q : Exit → Act → World → Prop) : Nat → Array Bool → Act → World → Prop
  | 0, listed, a, w0 => Region.ready md ops listed = [] ∧ ∀ w, Up w0 w → Q .normal a w
  | fuel + 1, listed, a, w0 => ∀ w, Up w0 w → (Region.ready md ops listed = [] → Q .normal a w) ∧
    ∀ i ∈ Region.ready md ops listed, wpOp P ops Q i (fun a' w' => Up w w' ∧ upAny P md ops Q fuel (listed.setIfInBounds i true) a' w') a w
theorem upAny.any : ∀ (fuel : Nat) (listed : Array Bool) (a : Act) (w : World), upAny P md ops Q fuel listed a w → wpAny P md ops Q fuel listed a w
  | 0, _, _, w, h => ⟨h.1, h.2 w (Up.refl w)⟩
  | fuel + 1, _, _, w, h => ⟨(h w (Up.refl w)).1, fun i hi => wpOp_mono (fun a' w' h' => upAny.any fuel _ a' w' h'.2) ((h w (Up.refl w)).2 i hi)⟩
theorem upAny.mono {w w1 : World} (hw : Up w w1) : ∀ (fuel : Nat) (listed : Array Bool) (a : Act), upAny P md ops Q fuel listed a w → upAny P md ops Q fuel listed a w1
  | 0, _, _, h => ⟨h.1, fun w2 h2 => h.2 w2 (hw.trans h2)⟩
  | _ + 1, _, _, h => fun w2 h2 => h w2 (hw.trans h2)
theorem upAny.done {listed : Array Bool} {a : Act} {w : World} (hr : Region.ready md ops listed = []) (h : ∀ w', Up w w' → Q .normal a w') : ∀ fuel, upAny P md ops Q fuel listed a w
  | 0 => ⟨hr, h⟩
  | _ + 1 => fun w' h' => ⟨fun _ => h w' h', by rw [hr]; simp⟩
theorem upAny.first {i : Nat} {oi : Oper} {v : Value} (hi : ops[i]? = some oi) (hsel : ∀ (j : Nat) (o : Oper) cs b, ops[j]? = some o → o.op ≠ .select cs b)
    (hQ : ∀ c a w, Q (.panic c) (a.put oi.dst v) w → Q (.panic c) a w) :
    ∀ (fuel : Nat) (listed : Array Bool) (a : Act) (w : World),
      (∀ j oj, ops[j]? = some oj → j ≠ i → listed.getD j true = false → (∀ e ∈ oj.after, Region.binds md e = true → e.on ≠ i) → oi.apart ops oj = true) →
      i ∈ Region.ready md ops listed → YieldsIf P ops (Up w) oi v a →
      upAny P md ops Q fuel (listed.setIfInBounds i true) (a.put oi.dst v) w → upAny P md ops Q (fuel + 1) listed a w := by
  intro fuel
  induction fuel with
  | zero =>
    intro listed a w _ hr hy H w1 hw1
    refine ⟨fun h => (by rw [h] at hr; cases hr), fun j hj => ?_⟩
    by_cases hji : j = i
    · subst hji; exact hy.wpOp hi hw1 ⟨Up.refl _, upAny.mono hw1 0 _ _ H⟩
    · have := ready_mono hj hji
      rw [H.1] at this
      cases this
  | succ fuel ih =>
    intro listed a w hfree hr hy H w1 hw1
    refine ⟨fun h => (by rw [h] at hr; cases hr), fun j hj => ?_⟩
    by_cases hji : j = i
    · subst hji; exact hy.wpOp hi hw1 ⟨Up.refl _, upAny.mono hw1 (fuel + 1) _ _ H⟩
    · have h1 := (H w1 hw1).2 j (ready_mono hj hji)
      obtain ⟨hjun, oj, hoj, hall⟩ := mem_ready.1 hj
      have hnot : ∀ e ∈ oj.after, Region.binds md e = true → e.on ≠ i := fun e he hb heq => by
        have h1 := hall e he hb
        have h0 := (mem_ready.1 hr).1
        rw [heq] at h1
        rcases Nat.lt_or_ge i listed.size with h' | h'
        · simp [h'] at h0 h1; rw [h0] at h1; cases h1
        · simp [Array.getElem?_eq_none h'] at h1
      have h2 := wpOp_putIf hoj (hfree j oj hoj hji hjun hnot) (fun cs b => hsel i oi cs b hi) (fun cs b => hsel j oj cs b hoj) hQ hy h1
      have hfree' : ∀ k ok, ops[k]? = some ok → k ≠ i → (listed.setIfInBounds j true).getD k true = false →
          (∀ e ∈ ok.after, Region.binds md e = true → e.on ≠ i) → oi.apart ops ok = true := fun k ok hk hki hun hno => by
        refine hfree k ok hk hki ?_ hno
        by_cases hjk : j = k
        · subst hjk; exact hjun
        · rw [getD_set_ne true hjk] at hun; exact hun
      refine wpOp_mono (fun a' w' h3 => ⟨h3.2.1, ih (listed.setIfInBounds j true) a' w' hfree' (ready_mono hr (Ne.symm hji)) ?_ ?_⟩) h2
      · exact h3.1.imp (fun ⟨x, y⟩ => ⟨x, fun w2 h2 => y w2 ((hw1.trans h3.2.1).trans h2)⟩) id
      · rw [Array.setIfInBounds_comm _ _ hji]
        exact h3.2.2
/-- What enters no function, by its kind. -/
def mild (o : Oper) : Bool :=
  match o.op with
  | .move _ | .assign _ | .pick .. | .load .. | .binOp .. | .unOp .. | .convert .. | .slice .. | .fieldAddr .. | .field .. | .indexAddr .. | .index .. | .extract .. | .lookup .. => true
  | .call c => match c.callee with
    | .builtin .len | .builtin .cap => true
    | _ => false
  | _ => false
theorem value_ok {α : Type} {P : Program} {s : Sem α} {f : α → Value} {w w' : World} {n : Next} (h : (do let x ← s; pure (Next.value (f x)) : Sem Next).run P w = .ok n w') : ∃ v, n = .value v := by
  rw [Sem.run_bind] at h
  revert h
  cases s.run P w with
  | ok x w2 => intro h; cases h; exact ⟨_, rfl⟩
  | halt x w2 => intro h; cases h
theorem mild_value {o : Oper} (hm : mild o = true) {ρ : Operand → Value} {P : Program} {w w' : World} {n : Next} (h : (execOp ρ o).run P w = .ok n w') : ∃ v, n = .value v := by
  obtain ⟨dst, op, ty, pos, after, guard⟩ := o
  cases op <;> simp only [mild, Bool.false_eq_true] at hm
  case move => unfold execOp at h; cases h; exact ⟨_, rfl⟩
  case assign => unfold execOp at h; cases h; exact ⟨_, rfl⟩
  case call c =>
    obtain ⟨callee, args, ats⟩ := c
    cases callee <;> simp only [Bool.false_eq_true] at hm
    rename_i b
    cases b <;> simp only [Bool.false_eq_true] at hm
    all_goals exact value_ok (f := id) h
  case pick => exact value_ok h
  all_goals exact value_ok (f := id) h
theorem quiet_mild {o : Oper} (hm : mild o = true) {C : World → Prop} {a : Act} {K : Act → Prop} (h : o.quiet P a C K) (hne : ∃ w, C w) : ∃ v, (∀ w, C w → (execOp a.eval o).run P w = .ok (.value v) w) ∧ K (a.put o.dst v) := by
  obtain ⟨v, h1, h2⟩ := h
  refine ⟨v, fun w hw => ?_, h2⟩
  have h3 := h1 w hw
  unfold Oper.quietAt at h3
  cases hr : (execOp a.eval o).run P w with
  | halt x w2 => rw [hr] at h3; simp only [Oper.quietUpon] at h3
  | ok n w2 =>
    obtain ⟨u, rfl⟩ := mild_value hm hr
    rw [hr] at h3
    simp only [Oper.quietUpon] at h3
    rw [h3.1, h3.2]
/-- The operations that a mask shows. -/
def pick : List Bool → List Oper → List Oper
  | [], _ => []
  | _ :: _, [] => []
  | true :: m, o :: l => o :: pick m l
  | false :: m, _ :: l => pick m l
/-- The mask's operations are taken in the text's order: what has come up behind it. -/
def takeB (md : Region.Mode) (ops : Array Oper) : Nat → List Bool → List Oper → Nat → Array Bool → Option (Nat × Array Bool)
  | k, true :: m, o :: l, fuel + 1, listed => if mild o && ((Region.ready md ops listed).contains k && Region.free md ops listed k) then takeB md ops (k + 1) m l fuel (listed.setIfInBounds k true) else none
  | _, true :: _, _ :: _, 0, _ => none
  | k, false :: m, _ :: l, fuel, listed => takeB md ops (k + 1) m l fuel listed
  | _, _, _, fuel, listed => some (fuel, listed)
/-- The mask's first operation, which must be all that may come up. -/
def callB (md : Region.Mode) (ops : Array Oper) : Nat → List Bool → Nat → Array Bool → Option (Nat × Array Bool)
  | k, true :: _, fuel + 1, listed => if Region.ready md ops listed == [k] then some (fuel, listed.setIfInBounds k true) else none
  | _, true :: _, 0, _ => none
  | k, false :: m, fuel, listed => callB md ops (k + 1) m fuel listed
  | _, [], _, _ => none
def segB (md : Region.Mode) (ops : Array Oper) (l : List Oper) : List (List Bool × List Bool) → List Bool → Nat → Array Bool → Bool
  | [], m, fuel, listed => match takeB md ops 0 m l fuel listed with
    | some (_, listed') => (Region.ready md ops listed').isEmpty
    | none => false
  | (m, c) :: r, m0, fuel, listed => match takeB md ops 0 m l fuel listed with
    | some (fuel', listed') => match callB md ops 0 c fuel' listed' with
      | some (fuel2, listed2) => segB md ops l r m0 fuel2 listed2
      | none => false
    | none => false
/-- The first operation that a mask shows, alone. -/
def pick1 : List Bool → List Oper → List Oper
  | [], _ => []
  | _ :: _, [] => []
  | true :: _, o :: _ => [o]
  | false :: m, _ :: l => pick1 m l
def segWalk (P : Program) (ops : Array Oper) (l : List Oper) (N : Act → World → Prop) : List (List Bool × List Bool) → List Bool → Act → World → Prop
  | [], m, a, w0 => wpQuiet P ops (fun w' => ∃ x : HD, w' = wext w0 x.h x.d) (fun a' => ∀ w', Up w0 w' → N a' w') (pick m l) a
  | (m, c) :: r, m0, a, w0 => wpQuiet P ops (fun w' => ∃ x : HD, w' = wext w0 x.h x.d) (fun a1 => ∀ w1, Up w0 w1 → ∀ K : Exit → Act → World → Prop, Hid (∀ a2 w2, Up w1 w2 → segWalk P ops l N r m0 a2 w2 → K .normal a2 w2) → wpList P ops K (pick1 c l) a1 w1) (pick m l) a
theorem take_mask (hs : Region.noSelect ops = true) (hQ : ∀ d v c a w, Q (.panic c) (a.put d v) w → Q (.panic c) a w) {w0 : World} {fuel' : Nat} {listed' : Array Bool} {K : Act → Prop} (hK : ∀ a, K a → upAny P md ops Q fuel' listed' a w0) :
    ∀ (m : List Bool) (l : List Oper) (k fuel : Nat) (listed : Array Bool) (a : Act), (∀ j, l[j]? = ops[k + j]?) → takeB md ops k m l fuel listed = some (fuel', listed') →
      wpQuiet P ops (fun w' => ∃ x : HD, w' = wext w0 x.h x.d) K (pick m l) a → upAny P md ops Q fuel listed a w0
  | [], l, k, fuel, listed, a, _, ht, h => by
    unfold takeB at ht; cases ht
    exact hK a (by unfold pick at h; exact h)
  | b :: m, [], k, fuel, listed, a, _, ht, h => by
    have : some (fuel, listed) = some (fuel', listed') := by cases b <;> (unfold takeB at ht; exact ht)
    cases this
    exact hK a (by cases b <;> (unfold pick at h; exact h))
  | false :: m, o :: l, k, fuel, listed, a, hl, ht, h => by
    unfold takeB at ht
    unfold pick at h
    exact take_mask hs hQ hK m l (k + 1) fuel listed a (fun j => by have := hl (j + 1); simpa [Nat.add_assoc, Nat.add_comm 1 j] using this) ht h
  | true :: m, o :: l, k, 0, listed, a, _, ht, _ => by unfold takeB at ht; cases ht
  | true :: m, o :: l, k, fuel + 1, listed, a, hl, ht, h => by
    unfold takeB at ht
    split at ht
    · rename_i hc
      simp only [Bool.and_eq_true] at hc
      obtain ⟨hm, hr, hf⟩ := hc
      have h0 : ops[k]? = some o := by simpa using (hl 0).symm
      unfold pick at h
      have hne : ∃ w, (∃ x : HD, w = wext w0 x.h x.d) := ⟨_, ⟨#[], 0⟩, rfl⟩
      obtain ⟨v, hy, hn⟩ : ∃ v, YieldsIf P ops (Up w0) o v a ∧ wpQuiet P ops (fun w' => ∃ x : HD, w' = wext w0 x.h x.d) K (pick m l) (a.put o.dst v) := by
        unfold wpQuiet at h
        by_cases hw : Region.wanted o (yielded ops a.tmps) = true
        · rw [if_pos hw] at h
          obtain ⟨v, h1, h2⟩ := quiet_mild hm h hne
          exact ⟨v, Or.inl ⟨hw, h1⟩, h2⟩
        · rw [if_neg hw] at h
          exact ⟨undef, Or.inr ⟨by simpa using hw, rfl⟩, h⟩
      exact upAny.first h0 (Region.noSelect_spec hs) (fun c a w => hQ _ _ c a w) fuel listed a w0 (Region.free_spec h0 hf) (by simpa using hr) hy
        (take_mask hs hQ hK m l (k + 1) fuel _ _ (fun j => by have := hl (j + 1); simpa [Nat.add_assoc, Nat.add_comm 1 j] using this) ht hn)
    · cases ht
theorem wp_only {o : Oper} {a : Act} {w : World} {N : Act → World → Prop} (h : o.wp P a w (fun a2 w2 => Exit.normal = .normal ∧ N a2 w2) (fun e a2 w2 => e = .normal ∧ N a2 w2)) : o.wp P a w N Q := by
  unfold Oper.wp at *
  generalize (execOp a.eval o).run P w = r at *
  cases r with
  | ok n w' =>
    cases n <;> simp only [Oper.upon] at h ⊢
    case value u => exact h.2
    case skip => exact h.2
    case defer d => exact h.2
    case enter f args =>
      refine Calls.mono h fun e w'' he => ?_
      cases e with
      | returned u => exact he.2
      | panicked c => exact nomatch he.1
      | outgrown => obtain ⟨_, _, h1, _⟩ := he; exact nomatch h1
    case row row args => exact Rows.mono h fun u w'' he => he.2
  | halt x w' => cases x <;> simp only [Oper.upon] at h ⊢; exact nomatch h.1
theorem call_mask {fuel' : Nat} {listed' : Array Bool} :
    ∀ (c : List Bool) (l : List Oper) (k fuel : Nat) (listed : Array Bool) (a : Act) (w1 : World), (∀ j, l[j]? = ops[k + j]?) → callB md ops k c fuel listed = some (fuel', listed') →
      (∀ w1', Up w1 w1' → wpList P ops (fun e a2 w2 => e = .normal ∧ Up w1' w2 ∧ upAny P md ops Q fuel' listed' a2 w2) (pick1 c l) a w1') → upAny P md ops Q fuel listed a w1
  | [], l, k, fuel, listed, a, w1, _, ht, h => by unfold callB at ht; cases ht
  | true :: c, l, k, 0, listed, a, w1, _, ht, h => by unfold callB at ht; cases ht
  | false :: c, [], k, fuel, listed, a, w1, hl, ht, h => by
    unfold callB at ht
    exact call_mask c [] (k + 1) fuel listed a w1 (fun j => by have := hl (j + 1); simpa [Nat.add_assoc, Nat.add_comm 1 j] using this) ht (fun w1' hw => by have := h w1' hw; cases c with
      | nil => exact this
      | cons b c => cases b <;> exact this)
  | false :: c, o :: l, k, fuel, listed, a, w1, hl, ht, h => by
    unfold callB at ht
    exact call_mask c l (k + 1) fuel listed a w1 (fun j => by have := hl (j + 1); simpa [Nat.add_assoc, Nat.add_comm 1 j] using this) ht (fun w1' hw => h w1' hw)
  | true :: c, l, k, fuel + 1, listed, a, w1, hl, ht, h => by
    unfold callB at ht
    split at ht
    · rename_i hc
      cases ht
      have hr : Region.ready md ops listed = [k] := by simpa using hc
      cases l with
      | nil =>
        have h0 : ops[k]? = none := by simpa using (hl 0).symm
        have : k ∈ Region.ready md ops listed := by rw [hr]; simp
        obtain ⟨_, oj, hoj, _⟩ := mem_ready.1 this
        rw [h0] at hoj; cases hoj
      | cons o l =>
        have h0 : ops[k]? = some o := by simpa using (hl 0).symm
        intro w hw
        refine ⟨fun h' => (by rw [hr] at h'; cases h'), fun i hi => ?_⟩
        rw [hr] at hi
        obtain rfl : i = k := by simpa using hi
        have h1 := h w hw
        refine wpOp_step h0 fun K' hK => ?_
        unfold pick1 wpList wpList at h1
        split
        · rename_i hwant
          rw [if_pos hwant] at h1
          rcases h1 with h1 | ⟨_, _, _, h1, _⟩
          · exact Oper.wp_mono hK (wp_only h1)
          · cases h1
        · rename_i hwant
          rw [if_neg hwant] at h1
          exact hK _ _ h1.2
    · cases ht
theorem seg_any (hs : Region.noSelect ops = true) (hQ : ∀ d v c a w, Q (.panic c) (a.put d v) w → Q (.panic c) a w) {l : List Oper} (hl : ∀ j : Nat, l[j]? = ops[j]?) (m0 : List Bool) :
    ∀ (r : List (List Bool × List Bool)) (fuel : Nat) (listed : Array Bool) (a : Act) (w0 : World), segB md ops l r m0 fuel listed = true → segWalk P ops l (Q .normal) r m0 a w0 → upAny P md ops Q fuel listed a w0
  | [], fuel, listed, a, w0, hB, h => by
    unfold segB at hB
    unfold segWalk at h
    split at hB
    · rename_i fuel' listed' ht
      exact take_mask hs hQ (fun a' h' => upAny.done (by simpa using hB) h' fuel') m0 l 0 fuel listed a (by simpa using hl) ht h
    · cases hB
  | (m, c) :: r, fuel, listed, a, w0, hB, h => by
    unfold segB at hB
    unfold segWalk at h
    split at hB
    · rename_i fuel' listed' ht
      split at hB
      · rename_i fuel2 listed2 hc
        refine take_mask hs hQ (fun a' h' => ?_) m l 0 fuel listed a (by simpa using hl) ht h
        exact call_mask c l 0 fuel' listed' a' w0 (by simpa using hl) hc (fun w1 hw1 => h' w1 hw1 _ (Lib.hid fun a2 w2 hu h2 => ⟨rfl, hu, seg_any hs hQ hl m0 r fuel2 listed2 a2 w2 hB h2⟩))
      · cases hB
    · cases hB
/-- THE LAW: segments (masks of what only reads; the call behind it), and the last segment. -/
theorem wp_region_segs {id : Nat} {a : Act} {w : World} {l : List Oper} (r : List (List Bool × List Bool)) (m0 : List Bool) (hm : P.follows .mixedOrders = true) (hB : (Region.noSelect l.toArray && segB .any l.toArray l r m0 l.toArray.size (Array.replicate l.toArray.size false)) = true)
    (h : segWalk P l.toArray l (Q .normal) r m0 a w) : (Code.region id l.toArray true).wp P Q a w := by
  rw [Bool.and_eq_true] at hB
  refine wp_region_noPanic ?_
  exact wp_region_any hm (upAny.any _ _ _ _ (upAny.mono (Grw.up ((Grw.refl w).drew)) _ _ _ (seg_any (Q := NoPanic Q) hB.1 (fun _ _ _ _ _ h => h) (by simp) m0 r _ _ a _ hB.2 h)))
theorem segs_cons {l : List Oper} {m c : List Bool} {r : List (List Bool × List Bool)} {m0 : List Bool} {a : Act} {w0 : World} {N : Act → World → Prop}
    (h : wpQuiet P ops (fun w' => ∃ x : HD, w' = wext w0 x.h x.d) (fun a1 => ∀ w1, Up w0 w1 → ∀ K : Exit → Act → World → Prop, Hid (∀ a2 w2, Up w1 w2 → segWalk P ops l N r m0 a2 w2 → K .normal a2 w2) → wpList P ops K (pick1 c l) a1 w1) (pick m l) a) : segWalk P ops l N ((m, c) :: r) m0 a w0 := h
theorem segs_nil {l : List Oper} {m0 : List Bool} {a : Act} {w0 : World} {N : Act → World → Prop}
    (h : wpQuiet P ops (fun w' => ∃ x : HD, w' = wext w0 x.h x.d) (fun a' => ∀ w', Up w0 w' → N a' w') (pick m0 l) a) : segWalk P ops l N [] m0 a w0 := h
end
end Go.Proofs.Ytgjpbhgobjlneaa
