/- How great a program is: plain answers. No program in sight. Conditions: none. -/
import Derived.Test.YtofmlhpcobjfcaaDoorMg24
set_option linter.unusedVariables false
set_option linter.unusedSimpArgs false
namespace Go.Proofs.YtofmlhpcobjfcaaDoor
open Go.RowKit
/-- The greatest over a list. -/
def maxOf {α : Type} (f : α → Nat) : List α → Nat
  | [] => 0
  | x :: r => max (f x) (maxOf f r)
theorem maxOf_app {α : Type} (f : α → Nat) : ∀ (l m : List α), maxOf f (l ++ m) = max (maxOf f l) (maxOf f m)
  | [], m => by rw [List.nil_append, maxOf]; omega
  | e :: r, m => by rw [List.cons_append, maxOf, maxOf, maxOf_app f r m]; omega
theorem maxOf_one {α : Type} (f : α → Nat) (x : α) : maxOf f [x] = f x := by rw [maxOf, maxOf]; omega
def Me.vars (m : Me) : Nat := m.params.length + m.locals.length
def Me.holes (m : Me) : Nat := m.ret.hole + holesN m.params + holesN m.locals + St.inns m.body
def Me.deep (m : Me) : Nat := St.deeps m.body
def Cs.nf (c : Cs) : Nat := c.fields.length
def Cs.nm (c : Cs) : Nat := c.methods.length
def Cs.nv (c : Cs) : Nat := sumOf Me.vars c.methods
def Cs.nh (c : Cs) : Nat := holesN c.fields + sumOf Me.holes c.methods
def Cs.deep (c : Cs) : Nat := maxOf Me.deep c.methods
theorem Me.vars_le (m : Me) : m.vars ≤ m.sz := by
  have := sumOf_len Vr.sz_pos m.params
  have := sumOf_len Vr.sz_pos m.locals
  unfold Me.vars Me.sz; omega
theorem Me.holes_le (m : Me) : m.holes ≤ m.sz := by
  have := sumOf_len Vr.sz_pos m.params
  have := sumOf_len Vr.sz_pos m.locals
  have := holesN_le m.params
  have := holesN_le m.locals
  have := m.ret.hole_le
  have := St.inns_le m.body
  unfold Me.holes Me.sz; omega
theorem Cs.nf_le (c : Cs) : c.nf ≤ c.sz := by have := (Cs.szH (Nat.le_refl c.sz)); unfold Cs.nf; omega
theorem Cs.nm_le (c : Cs) : c.nm ≤ c.sz := by have := (Cs.szH (Nat.le_refl c.sz)); unfold Cs.nm; omega
theorem Cs.nv_le (c : Cs) : c.nv ≤ c.sz := by
  have : c.nv ≤ sumOf Me.sz c.methods := sumOf_le _ fun m _ => m.vars_le
  unfold Cs.sz; omega
theorem Cs.nh_le (c : Cs) : c.nh ≤ c.sz := by
  have : sumOf Me.holes c.methods ≤ sumOf Me.sz c.methods := sumOf_le _ fun m _ => m.holes_le
  have := holesN_le c.fields
  have := sumOf_len Vr.sz_pos c.fields
  unfold Cs.nh Cs.sz; omega
/-- How great: so many classes, and what these have. -/
def ofT (n : Nat) (l : List Cs) : Cn := ⟨n, (sumOf Cs.nf l : Nat), (sumOf Cs.nm l : Nat), (sumOf Cs.nv l : Nat), (sumOf Cs.stmts l : Nat), (maxOf Cs.deep l : Nat), (sumOf Cs.nh l : Nat)⟩
def ofP (l : List Cs) : Cn := ofT l.length l
/-! Too great to be looked at? -/
end Go.Proofs.YtofmlhpcobjfcaaDoor
namespace Go.Proofs.YtofmlhpcobjfcaaDoor
open Go.RowKit
end Go.Proofs.YtofmlhpcobjfcaaDoor
