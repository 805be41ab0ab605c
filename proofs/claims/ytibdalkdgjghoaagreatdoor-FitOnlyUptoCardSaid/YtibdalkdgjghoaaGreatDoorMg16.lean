/- Classes by their names, on plain data: table.Find, Arity, and the document's. Conditions: at most 2^20 classes. -/
import Derived.Test.YtibdalkdgjghoaaGreatDoorMg11
import Derived.Test.YtibdalkdgjghoaaGreatDoorMg15
set_option linter.unusedVariables false
set_option linter.unusedSimpArgs false
namespace Go.Proofs.YtibdalkdgjghoaaGreatDoor
open Go.RowKit
def findI (p : List Cs) (s : List UInt8) : Int := ixOf (fun c : Cs => c.name == s) p 0
theorem ixOf_get {α : Type} (q : α → Bool) : ∀ (l : List α) (k : Nat), ixOf q l k = -1 ∨ ∃ j z, l[j]? = some z ∧ q z = true ∧ ixOf q l k = ((k + j : Nat) : Int)
  | [], k => .inl rfl
  | x :: r, k => by
    rw [ixOf]
    cases hx : q x
    · rw [if_neg (by simp)]
      rcases ixOf_get q r (k + 1) with h | ⟨j, z, h1, h2, h3⟩
      · exact .inl h
      · exact .inr ⟨j + 1, z, by simpa using h1, h2, by rw [h3]; congr 1; omega⟩
    · rw [if_pos rfl]; exact .inr ⟨0, x, rfl, hx, rfl⟩
theorem findI_get (p : List Cs) (s : List UInt8) : findI p s = -1 ∨ ∃ (j : Nat) (z : Cs), p[j]? = some z ∧ z.name = s ∧ findI p s = (j : Int) := by
  rcases ixOf_get (fun c : Cs => c.name == s) p 0 with h | ⟨j, z, h1, h2, h3⟩
  · exact .inl h
  · exact .inr ⟨j, z, h1, by simpa using h2, by rw [findI, h3, Nat.zero_add]⟩
set_option maxRecDepth 100000 in
set_option maxHeartbeats 4000000 in
theorem ptFind1 (c : Cs) (s : List UInt8) : DPure Tryz.prog 87 [.r (Cs.at c), .a (.ref [.v (.string (bs s))] 0)] (.a (.v (.bool (c.name == s)))) := by
  refine DPure.go Tryz.func87 rfl Tryz.ntmps87 rfl rfl rfl (fun C hro => ?_)
  have fx := trivial
  repeat' (first | refine WP.seq ?_ | (refine WP.rg [0, 1, 2, 3] ?_; simp only [RSr_mk]) | refine RS.fnT ?_ | (refine RS.fn ?_; try simp only [thenQ_n, blockQ_n]) | (refine WP.ret ?_; (try simp only [thenQ_r, blockQ_r])) | refine ret3 ?_)
  rfl
set_option maxRecDepth 100000 in
set_option maxHeartbeats 4000000 in
theorem ptFind (p : List Cs) (s : List UInt8) (hn : p.length ≤ 1048576) : DPure Tryz.prog 37 [.a (.sl (p.map Cs.at)), .a (.v (.string (bs s)))] (.a (.v (.int .i64 (findI p s)))) := by
  refine DPure.go Tryz.func37 rfl Tryz.ntmps37 rfl rfl rfl (fun C hro => ?_)
  have fx := trivial
  repeat' (first | refine WP.seq ?_ | (refine WP.rg [0, 1, 3, 4] ?_; simp only [RSr_mk]) | refine RS.fnT ?_ | (refine RS.fn ?_; try simp only [thenQ_n, blockQ_n]) | (refine RS.cl (hp := by exact pIxClass (fun c => c.name == s) p 87 [.ref [.v (.string (bs s))] 0] rfl hn (fun k _ => ptFind1 k s)) (h := ?_); refine RS.rn ?_; simp only [RSr_mk]) | (refine RS.cL (hp := by exact pIxClass (fun c => c.name == s) p 87 [.ref [.v (.string (bs s))] 0] rfl hn (fun k _ => ptFind1 k s)) (h := ?_); refine RS.rn ?_; simp only [RSr_mk]) | (refine WP.ret ?_; (try simp only [thenQ_r, blockQ_r])) | refine ret3 ?_)
  rfl
end Go.Proofs.YtibdalkdgjghoaaGreatDoor
