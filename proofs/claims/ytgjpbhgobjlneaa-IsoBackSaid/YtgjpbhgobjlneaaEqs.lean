/- Plain helpers, no program in sight: arrays of two and of four ints held against one another. Conditions: none. -/
import Derived.WalkKit
import Derived.Laws.StructEq
namespace Go.Proofs.Ytgjpbhgobjlneaa
open Go Go.RowKit
section
variable {P : Program}
theorem run_part_int (w : World) (e : TypeId) (k' : IntKind) (i : TypeInfo) (xs : Array Value) (o : Nat) (v : Value) (he : P.underlying e = some (.int k')) (hi : P.info? e = some i) (hs : i.size = 1) (hv : xs[o]? = some v) : (part e xs o).run P w = .ok v w := by
  simp [part, isAgg, run_underlying he, sizeOf, typeInfo, hi, hs, hv]
theorem run_eqArr2 (w : World) (d : Nat) (t e : TypeId) (k k' : IntKind) (i : TypeInfo) (a b a' b' : Int) (ht : P.underlying t = some (.array 2 e)) (he : P.underlying e = some (.int k')) (hi : P.info? e = some i) (hs : i.size = 1) :
    (Op.equalIn (d + 2) t (.agg #[.int k a, .int k b]) (.agg #[.int k a', .int k b'])).run P w = .ok (a == a' && b == b') w := by
  rw [Op.equalIn]
  simp [run_underlying ht, sizeOf, typeInfo, hi, hs, Std.Legacy.Range.forIn_eq_forIn_range', List.range', run_part_int w e k' i _ _ _ he hi hs, run_equalIn_int w d e k k' _ _ he]
  cases h1 : (a == a') <;> cases h2 : (b == b') <;> simp_all
theorem run_eqArr4 (w : World) (d : Nat) (t e : TypeId) (k k' : IntKind) (i : TypeInfo) (a b c f a' b' c' f' : Int) (ht : P.underlying t = some (.array 4 e)) (he : P.underlying e = some (.int k')) (hi : P.info? e = some i) (hs : i.size = 1) :
    (Op.equalIn (d + 2) t (.agg #[.int k a, .int k b, .int k c, .int k f]) (.agg #[.int k a', .int k b', .int k c', .int k f'])).run P w = .ok (a == a' && (b == b' && (c == c' && f == f'))) w := by
  rw [Op.equalIn]
  simp [run_underlying ht, sizeOf, typeInfo, hi, hs, Std.Legacy.Range.forIn_eq_forIn_range', List.range', run_part_int w e k' i _ _ _ he hi hs, run_equalIn_int w d e k k' _ _ he]
  cases h1 : (a == a') <;> cases h2 : (b == b') <;> cases h3 : (c == c') <;> cases h4 : (f == f') <;> simp_all
end
end Go.Proofs.Ytgjpbhgobjlneaa
