/- Contracts of annot's reader: typ; annot's Owners, Parse, Var. -/
import Derived.Test.YtnindeoemfgkeaaRRRRAnnot5
import Derived.Laws.CopyOwn
namespace Go.Proofs.YtnindeoemfgkeaaRRRR
open Go.RowKit
/-- A type as it is written. -/
structure Ty where
  kind : Int
  cls : List UInt8
  n : Int
  o0 : Int × Int
  o1 : Int × Int
  o2 : Int × Int
  o3 : Int × Int
def Ty.zero : Ty := ⟨0, [], 0, (0, 0), (0, 0), (0, 0), (0, 0)⟩
def Ty.arr (t : Ty) : Array Value := #[.int .i64 t.kind, .string (bs t.cls), .int .i64 t.n, .int .i64 t.o0.1, .int .i64 t.o0.2, .int .i64 t.o1.1, .int .i64 t.o1.2, .int .i64 t.o2.1, .int .i64 t.o2.2, .int .i64 t.o3.1, .int .i64 t.o3.2]
def nth2 (l : List (Int × Int)) (i : Nat) : Int × Int := l[i]?.getD (0, 0)
/-- What stands behind a type's owner: the class, and the owners. -/
def parseB (toks : List Tok) (ps : List (List UInt8)) (at_ : Int) (o : Int × Int) : Ty × Int × Int × Int :=
  if (tokAt toks at_).kind = 1 then
    if isW (tokAt toks (w64 (at_ + 1))) [60] then
      if (ownsL toks ps (w64 (at_ + 1))).2.2.1 = 0 then
        (⟨2, (tokAt toks at_).text, (ownsL toks ps (w64 (at_ + 1))).1.length, o, nth2 (ownsL toks ps (w64 (at_ + 1))).1 0, nth2 (ownsL toks ps (w64 (at_ + 1))).1 1, nth2 (ownsL toks ps (w64 (at_ + 1))).1 2⟩, (ownsL toks ps (w64 (at_ + 1))).2.1, 0, 0)
      else (Ty.zero, 0, (ownsL toks ps (w64 (at_ + 1))).2.2.1, (ownsL toks ps (w64 (at_ + 1))).2.2.2)
    else (⟨2, (tokAt toks at_).text, 0, o, (0, 0), (0, 0), (0, 0)⟩, w64 (at_ + 1), 0, 0)
  else (Ty.zero, 0, 3, (tokAt toks at_).pos)
def parseL (toks : List Tok) (ps : List (List UInt8)) (at_ : Int) (nm : Bool) : Ty × Int × Int × Int :=
  if isW (tokAt toks at_) [118, 111, 105, 100] then (Ty.zero, w64 (at_ + 1), 0, 0)
  else if isW (tokAt toks at_) [105, 110, 116] then (⟨1, [], 0, (0, 0), (0, 0), (0, 0), (0, 0)⟩, w64 (at_ + 1), 0, 0)
  else if knownO (tokAt toks at_) ≠ 0 then parseB toks ps (w64 (at_ + 1)) (knownO (tokAt toks at_), 0)
  else if (tokAt toks at_).kind = 1 ∧ aheadL toks at_ nm = true then
    if idxIn (tokAt toks at_).text ps 0 = 0 then (Ty.zero, 0, 4, (tokAt toks at_).pos)
    else parseB toks ps (w64 (at_ + 1)) (3, idxIn (tokAt toks at_).text ps 0)
  else parseB toks ps at_ (7, 0)
/-- A built-in whose run is known. -/
theorem wpList_builtin_run {P : Program} {w w' : World} {ops : Array Oper} {rest : List Oper} {o : Oper} {a : Act} {Q : Exit → Act → World → Prop} (hgd : o.guard = none) (d s : Operand) (dT sT : TypeId)
    (ho : o.op = .call { callee := .builtin .copy, args := #[d, s], argTypes := #[dT, sT] }) (v : Value) (hrun : (Builtin.copy_ #[dT, sT] o.type #[a.eval d, a.eval s]).run P w = .ok v w')
    (h : wpList P ops Q rest (a.put o.dst v) w') : wpList P ops Q (o :: rest) a w := by
  refine wpList_plain hgd fun K hK => ?_
  unfold Oper.wp
  simp [execOp, ho, resolve, invoke, builtin, hrun, Result.andThen]
  exact hK _ _ h
@[go_sem] theorem slice_Own (X : Nat) (w : World) : (Instr.sliceAt 58 (.pointer (some ⟨X, 3, none⟩)) (some (.int .i64 1)) none none).run Try.prog w = .ok (.slice (some ⟨X, 5, none⟩) 3 3) w := by kernel_rfl
theorem run_copy_rowN {P : Program} (w : World) (dT sT ty elem : TypeId) (g o dLen dCap : Nat) (a : Addr) (sLen sCap sz : Nat) (cur : Array Value) (t : TypeId) (cs : List Value)
    (hu : P.underlying dT = some (.slice elem)) (hs : (P.info? elem).map (·.size) = some sz)
    (hg : w.heap[g]? = some (.cells cur t (0, 0))) (hn : cs.length = Nat.min sLen dLen * sz)
    (hsrc : ∀ j v, cs[j]? = some v → w.cell? (a.add j) = some v) (hfit : o + cs.length ≤ cur.size) (h1 : ∀ v ∈ cs, v.oneCell' = true) :
    (Builtin.copy_ #[dT, sT] ty #[.slice (some ⟨g, o, none⟩) dLen dCap, .slice (some a) sLen sCap]).run P w =
      .ok (goInt (Nat.min sLen dLen)) (w.setRow g (cur.toList.take o ++ cs ++ cur.toList.drop (o + cs.length)).toArray) := by
  have hst := run_storeCells_at P g o t cs 0 cur w hg (by simpa using hfit) h1
  cases hq : P.info? elem with
  | none => simp [hq] at hs
  | some i =>
    have hi : i.size = sz := by simpa [hq] using hs
    have hl := run_firstCells_some (P := P) w sz (Nat.min sLen dLen) a sLen sCap cs hn hsrc
    simp [Builtin.copy_, run_underlying hu, Builtin.lenOf, sizeOf, typeInfo, hq, hi, hl, hst]
theorem ownC_len (o : Int × Int) : (ownC o).length = 2 := rfl
theorem addr_add (b o j : Nat) : (⟨b, o, none⟩ : Addr).add j = ⟨b, o + j, none⟩ := by
  unfold Addr.add; split
  · rename_i h; rw [h, Nat.add_zero]
  · rfl
theorem flatMap_inv {α : Type} {enc : α → List Value} {sz : Nat} (hen : ∀ x, (enc x).length = sz) : ∀ (xs : List α) (j : Nat) (u : Value), (xs.flatMap enc)[j]? = some u → ∃ i x r, xs[i]? = some x ∧ (enc x)[r]? = some u ∧ j = i * sz + r
  | [], j, u, h => by simp at h
  | y :: l, j, u, h => by
    rw [List.flatMap_cons] at h
    by_cases hj : j < sz
    · rw [List.getElem?_append_left (by rw [hen]; exact hj)] at h
      exact ⟨0, y, j, rfl, h, by omega⟩
    · rw [List.getElem?_append_right (by rw [hen]; omega), hen] at h
      obtain ⟨i, x, r, h1, h2, h3⟩ := flatMap_inv hen l _ u h
      exact ⟨i + 1, x, r, h1, h2, by rw [Nat.add_mul]; omega⟩
theorem Sl.news {α : Type} {enc : α → List Value} {sz : Nat} (hen : ∀ x, (enc x).length = sz) {w : World} {b o : Nat} {l : List α}
    (hc : ∀ i x, l[i]? = some x → ∀ j u, (enc x)[j]? = some u → w.cell? ⟨b, o + i * sz + j, none⟩ = some u) : ∀ j v, (l.flatMap enc)[j]? = some v → w.cell? ((⟨b, o, none⟩ : Addr).add j) = some v := by
  intro j v h
  obtain ⟨i, x, r, h1, h2, rfl⟩ := flatMap_inv hen l j v h
  rw [addr_add, ← Nat.add_assoc]
  exact hc i x h1 r v h2
theorem cellsz_Owner : (Try.prog.info? 57).map (·.size) = some 2 := by kernel_rfl
theorem setRow_sb (w : World) (g : Nat) (t : TypeId) (cur cs : Array Value) (h : w.heap[g]? = some (.cells cur t (0, 0))) : w.setRow g cs = sb w g t cs := by
  unfold World.setRow sb
  congr 1
  apply Array.ext_getElem?
  intro k
  rw [Array.getElem?_modify, Array.getElem?_setIfInBounds]
  by_cases hk : g = k
  · subst hk
    rw [if_pos rfl, if_pos rfl, if_pos (blk_lt h), h]; rfl
  · rw [if_neg hk, if_neg hk]
theorem run_copyO (w : World) (X : Nat) (ty : TypeId) (A' : Option Addr) (c' : Nat) (l : List (Int × Int)) (hl : l.length ≤ 3) (hsrc : Sl ownC 2 w A' l) (k cl n o1 o2 : Value)
    (hX : w.heap[X]? = some (.cells #[k, cl, n, o1, o2, .int .i64 0, .int .i64 0, .int .i64 0, .int .i64 0, .int .i64 0, .int .i64 0] 60)) :
    (Builtin.copy_ #[63, 63] ty #[.slice (some ⟨X, 5, none⟩) 3 3, .slice A' l.length c']).run Try.prog w =
      .ok (.int .i64 l.length) (sb w X 60 #[k, cl, n, o1, o2, .int .i64 (nth2 l 0).1, .int .i64 (nth2 l 0).2, .int .i64 (nth2 l 1).1, .int .i64 (nth2 l 1).2, .int .i64 (nth2 l 2).1, .int .i64 (nth2 l 2).2]) := by
  rcases hsrc with rfl | ⟨b, o, rfl, hb, hc⟩
  · have hcn : ((Builtin.copy_ #[63, 63] ty #[.slice (some ⟨X, 5, none⟩) 3 3, .slice A' 0 c']).run Try.prog w = .ok (.int .i64 0) w) := by
      obtain ⟨i0, hi0, _, hz1, _⟩ := info_parts info_Owner
      cases A' with
      | none => simp [Builtin.copy_, run_underlying Try.underlying63, Builtin.lenOf, Builtin.firstCells, sizeOf, typeInfo, hi0, storeCells, goInt]
      | some a => simp [Builtin.copy_, run_underlying Try.underlying63, Builtin.lenOf, Builtin.firstCells, loadCells, loadCellsFrom, sizeOf, typeInfo, hi0, storeCells, goInt]
    refine hcn.trans ?_
    rw [sb_self w X _ _ (by exact hX)]; rfl
  · have hcs := Sl.news (enc := ownC) ownC_len hc
    have hmin : Nat.min l.length 3 = l.length := Nat.min_eq_left hl
    have h1 : ∀ v ∈ l.flatMap ownC, v.oneCell' = true := by
      intro v hv
      obtain ⟨x, _, hx⟩ := List.mem_flatMap.1 hv
      simp only [ownC, List.mem_cons, List.not_mem_nil, or_false] at hx
      rcases hx with rfl | rfl <;> rfl
    rw [run_copy_rowN w 63 63 ty 57 X 5 3 3 ⟨b, o, none⟩ l.length c' 2 _ 60 (l.flatMap ownC) Try.underlying63 cellsz_Owner hX (by rw [length_flatMap ownC_len, hmin]) hcs (by rw [length_flatMap ownC_len]; simp; omega) h1, setRow_sb w X _ _ _ hX, hmin]
    match l, hl with
    | [], _ => rfl
    | [x], _ => rfl
    | [x, y], _ => rfl
    | [x, y, z], _ => rfl
end Go.Proofs.YtnindeoemfgkeaaRRRR
