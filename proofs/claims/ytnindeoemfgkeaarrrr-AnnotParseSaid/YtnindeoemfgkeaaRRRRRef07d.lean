/- Contract of demesneref07.Owners. The case that the first token is no "<". -/
import Derived.Test.YtnindeoemfgkeaaRRRRRef07c
namespace Go.Proofs.YtnindeoemfgkeaaRRRR
open Go.RowKit
section
variable (toks : List Tok) (ps : List (List UInt8)) (A PA : Option Addr) (c pc B : Nat) (at_ k : Int) (w : World)
/-- What Owners leaves. -/
def Owns7 (R : List (Int × Int) × Int × Int × Int) (e : Ending) (w' : World) : Prop :=
  ∃ A' c', e = .returned (.agg (got7 (.slice A' R.1.length c') Ty.zero R.2.1 R.2.2.1 R.2.2.2)) ∧ Grw w w' ∧ w'.ownsRow w.heap.size 57 2 (.slice A' R.1.length c') R.1.length (R.1.flatMap ownC)
set_option maxRecDepth 100000 in
set_option maxHeartbeats 4000000 in
theorem r07Owners_lt (hl : SlB Tok.cells 3 w B A toks) (hn : toks.length ≤ 1000000) (h : isW (tokAt toks at_) [60] = false) :
    Calls Try.prog 23 #[.slice A toks.length c, .int .i64 at_, .slice PA ps.length pc] w (Owns7 w (ownsL toks ps at_)) := by
  have HO := Lib.hid (show ownsL toks ps at_ = ([], 0, 3, (tokAt toks at_).pos) by rw [ownsL, h]; rfl)
  have HL := Lib.hid h
  clear h
  go_enter Try.func23, Try.ntmps23
  go_wp2_with (first
    | (go_at_call 43; refine (r06Tok_any toks A c B _ _ (by repeat (first | exact hl | apply SlB.alloc | apply SlB.ext)) hn).mono ?_; rintro e w' ⟨rfl, hq⟩; obtain ⟨xh, xd, rfl⟩ := hq)
    | (go_at_call 44; refine (r03Is_any _ _ _ _ _).mono ?_; rintro e w' ⟨rfl, hq⟩; obtain ⟨yh, yd, rfl⟩ := hq; rw [show isW ⟨(tokAt toks at_).kind, (tokAt toks at_).text, (tokAt toks at_).pos⟩ (⟨#[60]⟩ : ByteArray).data.toList = _ from HL.out])
    | (go_at_call 48; refine (r07wrong_any toks A c B _ _ _ (by repeat (first | exact hl | apply SlB.alloc | apply SlB.ext)) hn).mono ?_; rintro e w' ⟨rfl, hq⟩; obtain ⟨zh, zd, rfl⟩ := hq))
  refine bodyPost_ret (v := .agg (got7 (.slice none 0 0) Ty.zero 0 3 (tokAt toks at_).pos)) ?_ rfl (by rw [HO.out]; exact ⟨none, 0, rfl, by first | exact Grw.refl _ | (repeat (first | exact Grw.refl _ | apply Grw.ext | apply Grw.alloc | apply Grw.drewN | apply Grw.drew)); done, World.ownsRow_nil _ _ _ _⟩)
  rw [results7 Try.results23 _ _ _ rfl (by simp [go_sem])]
  simp [go_sem]
end
end Go.Proofs.YtnindeoemfgkeaaRRRR
