/- Plain helpers, no program in sight: a region inside a fence that calls no Go function, walked as a plain one. Conditions: none. -/
import Derived.Test.YtgjpbhgobjlneaaLib3
import Derived.OwnWalkIn
import Derived.OrdersIn
namespace Go.Proofs.Ytgjpbhgobjlneaa
open Go.RowKit
/-- Operations that enter no Go function. -/
def calmOp : Op → Bool
  | .move _ | .assign _ | .pick .. | .alloc _ | .box .. | .build .. | .buildSlice .. | .load .. | .store .. | .binOp .. | .unOp .. | .makeMap .. | .makeSlice .. | .slice .. | .fieldAddr .. | .field .. | .indexAddr .. | .index .. | .lookup .. | .mapUpdate .. | .mapEntry .. | .entryStore .. | .extract .. => true
  | .call c => match c.callee with | .builtin .append => true | .builtin .len => true | .builtin .copy => true | _ => false
  | .nilCheck _ => true
  | _ => false
def Plainly (s : Sem Next) : Prop := ∀ (P : Program) (w w' : World) (x : Next), s.run P w = .ok x w' → (∃ v, x = .value v) ∨ x = .skip
theorem plainly_pure (v : Value) : Plainly (pure (.value v)) := by
  intro P w w' x h
  simp only [Sem.run_pure] at h
  injection h with h; exact .inl ⟨_, h.symm⟩
theorem plainly_v (s : Sem Value) : Plainly (do pure (.value (← s))) := by
  intro P w w' x h
  simp only [Sem.run_bind, Sem.run_pure] at h
  cases hs : s.run P w with
  | ok v w1 => rw [hs] at h; simp only [Result.andThen_ok] at h; injection h with h; exact .inl ⟨_, h.symm⟩
  | halt a b => rw [hs] at h; simp at h
theorem plainly_u (s : Sem Unit) : Plainly (do s; pure .skip) := by
  intro P w w' x h
  simp only [Sem.run_bind, Sem.run_pure] at h
  cases hs : s.run P w with
  | ok v w1 => rw [hs] at h; simp only [Result.andThen_ok] at h; injection h with h; exact .inr h.symm
  | halt a b => rw [hs] at h; simp at h
theorem plainly_bind {α : Type} (s : Sem α) (f : α → Sem Next) (h : ∀ a, Plainly (f a)) : Plainly (s >>= f) := by
  intro P w w' x hx
  simp only [Sem.run_bind] at hx
  cases hs : s.run P w with
  | ok v w1 => rw [hs] at hx; exact h v P w1 w' x hx
  | halt a b => rw [hs] at hx; simp at hx
theorem plainly_halt (s : Sem Next) (h : ∀ P w x w', s.run P w ≠ .ok x w') : Plainly s := fun P w w' x hx => absurd hx (h P w x w')
theorem plainly_rp : Plainly (runtimePanic .nilDeref) := by
  intro P w w' x h
  simp [runtimePanic, goPanic] at h
theorem calm_plainly {o : Oper} (h : calmOp o.op = true) (ρ : Operand → Value) : Plainly (execOp ρ o) := by
  unfold execOp
  cases ho : o.op <;> rw [ho] at h <;> first | (simp [calmOp] at h; done) | skip
  all_goals dsimp only
  all_goals first | exact plainly_pure _ | exact plainly_v _ | exact plainly_u _ | (refine plainly_bind _ _ (fun _ => ?_); exact plainly_pure _) | skip
  · split
    · exact plainly_rp
    · exact plainly_rp
    · exact plainly_rp
    · split
      · exact plainly_rp
      · refine plainly_bind _ _ fun _ => plainly_bind _ _ fun _ => ?_
        split
        · exact plainly_bind _ _ fun _ => plainly_pure _
        · exact plainly_pure _
      · exact plainly_pure _
    · exact plainly_pure _
  · rename_i c
    unfold resolve
    simp only [calmOp] at h
    split at h
    all_goals first | (simp at h; done) | skip
    all_goals (rename_i hc; simp only [hc, pure_bind, invoke, builtin])
    all_goals exact plainly_v _
/-- What a calm operation is about to do is no call. -/
theorem calm_about {o : Oper} (h : calmOp o.op = true) (P : Program) (w : World) (ρ : Operand → Value) : o.about P w ρ = none := by
  unfold Oper.about
  cases ho : o.op <;> rw [ho] at h <;> first | rfl | skip
  rename_i c
  simp only [calmOp] at h
  split at h
  all_goals first | (simp at h; done) | skip
  all_goals (rename_i hc; simp [resolve, hc, Target.leads])
theorem calm_defer {o : Oper} (h : calmOp o.op = true) : ∀ c, o.op ≠ .defer c := by
  intro c e; rw [e] at h; simp [calmOp] at h
/-- No way out but the end. -/
def NrmQ (Q : Exit → Act → World → Prop) : Exit → Act → World → Prop
  | .normal, a, w => Q .normal a w
  | _, _, _ => False
theorem nrm_out (Q : Exit → Act → World → Prop) : ¬ LetsOut (NrmQ Q) := by
  rintro ⟨a, w, h⟩; exact h
section
variable {F : Fence} {n : Nat} {P : Program} {Q : Exit → Act → World → Prop} {ops : Array Oper}
theorem wpOpIn_of {i : Nat} {K K' : Act → World → Prop} {a : Act} {w : World} (hc : ∀ o, ops[i]? = some o → calmOp o.op = true) (hK : ∀ a w, K a w → K' a w) (h : wpOp P ops (NrmQ Q) i K a w) : wpOpIn F n P ops Q i K' a w := by
  unfold wpOp at h
  unfold wpOpIn
  cases ho : ops[i]? with
  | none => rw [ho] at h; exact hK _ _ h
  | some o =>
    rw [ho] at h
    dsimp only at h ⊢
    have hco := hc o ho
    have hab : ∀ f, o.about P w a.eval = some f → F.fn f := fun f hf => by rw [calm_about hco] at hf; cases hf
    by_cases hw : Region.wanted o (yielded ops a.tmps) = true
    · rw [if_pos hw] at h ⊢
      rcases h with h | ⟨_, h⟩
      · refine ⟨hab, ?_⟩
        rw [Oper.semAt_plain F _ _ (calm_defer hco)]
        unfold Oper.wp at h
        have hp := calm_plainly hco a.eval P w
        cases hr : (execOp a.eval o).run P w with
        | ok x w' =>
          rw [hr] at h
          rcases hp w' x hr with ⟨v, rfl⟩ | rfl
          · exact hK _ _ h
          · exact hK _ _ h
        | halt x w' =>
          rw [hr] at h
          cases x <;> exact h.elim
      · exact absurd h (nrm_out Q)
    · rw [if_neg hw] at h ⊢
      exact ⟨hab, hK _ _ h⟩
theorem wpAnyIn_of {md : Region.Mode} (hc : ∀ (i : Nat) (o : Oper), ops[i]? = some o → calmOp o.op = true) : ∀ (fuel : Nat) (listed : Array Bool) (a : Act) (w : World), wpAny P md ops (NrmQ Q) fuel listed a w → wpAnyIn F n P md ops Q fuel listed a w
  | 0, _, _, _, h => h
  | fuel + 1, _, _, _, h => ⟨h.1, fun i hi => wpOpIn_of (hc i) (fun a w => wpAnyIn_of hc fuel _ a w) (h.2 i hi)⟩
end
/-- The built-in append, folded: so that an equation on it can be used before it is opened. -/
def appR (P : Program) (ts : Array TypeId) (ty : TypeId) (args : Array Value) (w : World) : Result Value := (Builtin.append_ ts ty args).run P w
def appS (ts : Array TypeId) (ty : TypeId) (args : Array Value) : Sem Next := do pure (.value (← Builtin.append_ ts ty args))
theorem builtin_appS (ts : Array TypeId) (ty : TypeId) (cs : Array Bool) (args : Array Value) : builtin .append ts ty cs args = appS ts ty args := rfl
theorem run_appS (P : Program) (ts : Array TypeId) (ty : TypeId) (args : Array Value) (w : World) : (appS ts ty args).run P w = (appR P ts ty args w).andThen fun v w' => .ok (.value v) w' := by
  unfold appS appR
  simp only [Sem.run_bind, Sem.run_pure]
theorem run_appR (P : Program) (ts : Array TypeId) (ty : TypeId) (args : Array Value) (w : World) : (Builtin.append_ ts ty args).run P w = appR P ts ty args w := rfl
/-- A region that draws its order, inside a fence, whose first operations only read and that calls nothing. -/
theorem wpIn_tail {F : Fence} {nF : Nat} {P : Program} {id : Nat} {Q : Exit → Act → World → Prop} {a : Act} {w : World} {l : List Oper} (n : Nat) (hm : P.follows .mixedOrders = true) (hB : Region.lexTailB .any l.toArray n = true) (hcalm : (l.all fun (o : Oper) => calmOp o.op) = true)
    (h : wpQuiet P l.toArray (fun w' => w' = w.drew) (fun a' => wpList P l.toArray (NrmQ Q) (l.drop n) a' w.drew) (l.take n) a) : (Code.region id l.toArray true).wpIn F nF P Q a w := by
  have h := wpStill_of_quiet _ _ h
  simp only [Region.lexTailB, Bool.and_eq_true, decide_eq_true_eq] at hB
  obtain ⟨⟨⟨⟨h1, h2⟩, h3⟩, h4⟩, h5⟩ := hB
  have hn : n < l.length := by simpa using h2
  have hl : (l.take n).length = n := by rw [List.length_take]; omega
  have hd : (l.drop n).length = l.toArray.size - n := by simp
  refine wpIn_region_any hm (wpAnyIn_of (fun i o ho => ?_) _ _ _ _ ?_)
  · exact List.all_eq_true.1 hcalm o (by simpa using Array.mem_of_getElem? ho)
  have inv : HeadInv .any l.toArray n (Array.replicate l.toArray.size false) :=
    ⟨by simp, fun j oj _ hl => (by rw [getD_replicate_false] at hl; cases hl), fun t _ ht => getD_in (by simpa using ht) (getD_replicate_false _ _)⟩
  have A := wpAnyL_lex (md := .any) (g := l.toArray.size - n) h1 h3 h4 h2 (l.take n) 0 _ a (fun j hj => by rw [hl] at hj; simp [hj]) (by simpa using hl) inv (by rw [hl]; exact h5) h
  have B := wpAny_of_head (Q' := NrmQ Q) (g := l.toArray.size - n) (fun listed a' hL => by
    have C := wpAny_of_seq (md := .any) (Q' := NrmQ Q) (l.drop n) n listed a' w.drew (fun j => by simp [List.getElem?_drop]) (by rw [hd]; exact hL.1) hL.2
    rwa [hd] at C) _ _ _ A
  rw [hl, show n + (l.toArray.size - n) = l.toArray.size by omega] at B
  exact B
end Go.Proofs.Ytgjpbhgobjlneaa
