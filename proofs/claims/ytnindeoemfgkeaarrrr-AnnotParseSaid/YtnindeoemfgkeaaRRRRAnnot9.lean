/- Contract of annot.Var. -/
import Derived.Test.YtnindeoemfgkeaaRRRRAnnot8
namespace Go.Proofs.YtnindeoemfgkeaaRRRR
open Go.RowKit
section
variable (toks : List Tok) (ps : List (List UInt8)) (A PA : Option Addr) (c pc g B : Nat) (at_ fe fa k : Int) (w : World)
/-- Which variable stands at a place: its name, type, place; the place behind; the fault. -/
def varL : List UInt8 × Ty × Int × Int × Int × Int :=
  if isW (tokAt toks at_) [118, 111, 105, 100] then ([], Ty.zero, 0, 0, 3, (tokAt toks at_).pos)
  else if (parseL toks ps at_ true).2.2.1 ≠ 0 then ([], Ty.zero, 0, 0, (parseL toks ps at_ true).2.2.1, (parseL toks ps at_ true).2.2.2)
  else if (tokAt toks (parseL toks ps at_ true).2.1).kind ≠ 1 then ([], Ty.zero, 0, 0, 3, (tokAt toks (parseL toks ps at_ true).2.1).pos)
  else ((tokAt toks (parseL toks ps at_ true).2.1).text, (parseL toks ps at_ true).1, (tokAt toks at_).pos, w64 ((parseL toks ps at_ true).2.1 + 1), 0, 0)
def varC (n : List UInt8) (t : Ty) (a : Int) : Array Value := #[.string (bs n), .int .i64 t.kind, .string (bs t.cls), .int .i64 t.n, .int .i64 t.o0.1, .int .i64 t.o0.2, .int .i64 t.o1.1, .int .i64 t.o1.2, .int .i64 t.o2.1, .int .i64 t.o2.2, .int .i64 t.o3.1, .int .i64 t.o3.2, .int .i64 a]
def VarPost (e : Ending) (w' : World) : Prop :=
  e = .returned (.tuple #[.agg (varC (varL toks ps at_).1 (varL toks ps at_).2.1 (varL toks ps at_).2.2.1), .int .i64 (varL toks ps at_).2.2.2.1, .agg #[.int .i64 (varL toks ps at_).2.2.2.2.1, .int .i64 (varL toks ps at_).2.2.2.2.2]]) ∧ Grw w w'
set_option maxRecDepth 100000 in
set_option maxHeartbeats 4000000 in
theorem anVar_void (hi : In toks ps A PA w) (ha : I64 at_) (hv : isW (tokAt toks at_) [118, 111, 105, 100] = true) :
    Calls Try.prog 41 #[.slice A toks.length c, .int .i64 at_, .slice PA ps.length pc] w (VarPost toks ps at_ w) := by
  have HR := Lib.hid (show varL toks ps at_ = ([], Ty.zero, 0, 0, 3, (tokAt toks at_).pos) by rw [varL, hv]; rfl)
  have HV := Lib.hid hv
  clear hv
  go_enter Try.func41, Try.ntmps41
  go_wp2_with (first
    | (go_at_call 68; refine (aLook_zero toks ps A PA c pc (w.heap.size + 1 + 1) w.heap.size at_ 0 0 _ (hi.rd _ _ _ _ (by simp only [wext_size, World.size_alloc]; omega) (by omega) (by first | exact Grw.refl _ | (repeat (first | exact Grw.refl _ | apply Grw.ext | apply Grw.alloc | apply Grw.drewN | apply Grw.drew)); done)) (by repeat (first | exact block_alloc _ _ _ (by simp [wext_size]) | apply blk_ext | apply blk_alloc | apply blk_drewN)) ha).mono ?_; rintro e w' ⟨rfl, hq⟩; obtain ⟨xh, xd, rfl⟩ := hq)
    | (go_at_call 69; refine (aIs_zero toks ps A PA c pc (w.heap.size + 1 + 1) w.heap.size at_ 0 0 _ _ (hi.rd _ _ _ _ (by simp only [wext_size, World.size_alloc]; omega) (by omega) (by first | exact Grw.refl _ | (repeat (first | exact Grw.refl _ | apply Grw.ext | apply Grw.alloc | apply Grw.drewN | apply Grw.drew)); done)) (by repeat (first | exact block_alloc _ _ _ (by simp [wext_size]) | apply blk_ext | apply blk_alloc | apply blk_drewN)) ha).mono ?_; rintro e w' ⟨rfl, hq⟩; obtain ⟨vh, vd, rfl⟩ := hq; rw [show isW (tokAt toks at_) (⟨#[118, 111, 105, 100]⟩ : ByteArray).data.toList = _ from HV.out])
    | (go_at_call 70; refine (aBad_any toks ps A PA c pc (w.heap.size + 1 + 1) w.heap.size at_ 0 0 _ _ (hi.rd _ _ _ _ (by simp only [wext_size, World.size_alloc]; omega) (by omega) (by first | exact Grw.refl _ | (repeat (first | exact Grw.refl _ | apply Grw.ext | apply Grw.alloc | apply Grw.drewN | apply Grw.drew)); done)) (by repeat (first | exact block_alloc _ _ _ (by simp [wext_size]) | apply blk_ext | apply blk_alloc | apply blk_drewN)) ha).mono ?_; rintro e w' ⟨rfl, hq⟩; obtain ⟨sh, sd, rfl⟩ := hq))
  go_region
  go_wp2
  exact bodyPost_ret (v := .tuple #[.agg #[.string ⟨#[]⟩, .int .i64 0, .string ⟨#[]⟩, .int .i64 0, .int .i64 0, .int .i64 0, .int .i64 0, .int .i64 0, .int .i64 0, .int .i64 0, .int .i64 0, .int .i64 0, .int .i64 0], .int .i64 0, .agg #[.int .i64 3, .int .i64 (tokAt toks at_).pos]]) (by simp [results, Try.results41, go_sem]) rfl ⟨by rw [HR.out]; rfl, by first | exact Grw.refl _ | (repeat (first | exact Grw.refl _ | apply Grw.ext | apply Grw.alloc | apply Grw.drewN | apply Grw.drew)); done⟩
theorem ownsF_I64 : ∀ (f : Nat) (a : Int) (out : List (Int × Int)), I64 (ownsF toks ps f a out).2.1
  | 0, _, _ => (by show I64 0; unfold I64; omega)
  | f + 1, a, out => by
    have h0 : I64 0 := by unfold I64; omega
    unfold ownsF
    split
    · split
      · exact ownsF_I64 f _ _
      · split
        · exact I64_w64 _
        · exact h0
    · exact h0
theorem ownsL_I64 : I64 (ownsL toks ps at_).2.1 := by
  have h0 : I64 0 := by unfold I64; omega
  unfold ownsL
  split
  · exact ownsF_I64 toks ps _ _ _
  · exact h0
theorem parseB_I64 (a : Int) (o : Int × Int) : I64 (parseB toks ps a o).2.1 := by
  have h0 : I64 0 := by unfold I64; omega
  unfold parseB
  split
  · split
    · split
      · exact ownsL_I64 toks ps _
      · exact h0
    · exact I64_w64 _
  · exact h0
theorem parseL_I64 (nm : Bool) : I64 (parseL toks ps at_ nm).2.1 := by
  have h0 : I64 0 := by unfold I64; omega
  unfold parseL
  split
  · exact I64_w64 _
  · split
    · exact I64_w64 _
    · split
      · exact parseB_I64 toks ps _ _
      · split
        · split
          · exact h0
          · exact parseB_I64 toks ps _ _
        · exact parseB_I64 toks ps _ _
set_option maxRecDepth 100000 in
set_option maxHeartbeats 8000000 in
theorem anVar_more (hi : In toks ps A PA w) (ha : I64 at_) (hv : isW (tokAt toks at_) [118, 111, 105, 100] = false) :
    Calls Try.prog 41 #[.slice A toks.length c, .int .i64 at_, .slice PA ps.length pc] w (VarPost toks ps at_ w) := by
  have tok1 : True := trivial
  have he := parseL_err toks ps at_ true
  have hI := parseL_I64 toks ps at_ true
  obtain ⟨T, nx, x, p, hT⟩ : ∃ T nx x p, parseL toks ps at_ true = (T, nx, x, p) := ⟨_, _, _, _, rfl⟩
  have HV := Lib.hid hv
  rw [hT] at he hI
  dsimp only at he hI
  by_cases hx : x = 0
  · have hp0 := he.2 hx
    subst hx; subst hp0
    have hnx := hI
    by_cases hc : (tokAt toks nx).kind = 1
    · have b1 : ((tokAt toks nx).kind != 1) = false := by simp [hc]
      have HR := Lib.hid (show varL toks ps at_ = ((tokAt toks nx).text, T, (tokAt toks at_).pos, w64 (nx + 1), 0, 0) by rw [varL, hv, hT, if_neg (by simp), if_neg (by simp), if_neg (by simpa using hc)])
      have HT := Lib.hid hT
      clear hv hT he hc hI
      go_enter Try.func41, Try.ntmps41
      go_wp2_with (first
        | (go_at_call 68; have _t := tok1; refine (aLook_zero toks ps A PA c pc (w.heap.size + 1 + 1) w.heap.size at_ 0 0 _ (hi.rd _ _ _ _ (by simp only [wext_size, World.size_alloc]; omega) (by omega) (by first | exact Grw.refl _ | (repeat (first | exact Grw.refl _ | apply Grw.ext | apply Grw.alloc | apply Grw.drewN | apply Grw.drew)); done)) (by repeat (first | exact block_alloc _ _ _ (by simp [wext_size]) | apply blk_ext | apply blk_alloc | apply blk_drewN)) ha).mono ?_; clear tok1; rintro e w' ⟨rfl, hq⟩; obtain ⟨xh, xd, rfl⟩ := hq)
        | (go_at_call 69; refine (aIs_zero toks ps A PA c pc (w.heap.size + 1 + 1) w.heap.size at_ 0 0 _ _ (hi.rd _ _ _ _ (by simp only [wext_size, World.size_alloc]; omega) (by omega) (by first | exact Grw.refl _ | (repeat (first | exact Grw.refl _ | apply Grw.ext | apply Grw.alloc | apply Grw.drewN | apply Grw.drew)); done)) (by repeat (first | exact block_alloc _ _ _ (by simp [wext_size]) | apply blk_ext | apply blk_alloc | apply blk_drewN)) ha).mono ?_; rintro e w' ⟨rfl, hq⟩; obtain ⟨vh, vd, rfl⟩ := hq; rw [show isW (tokAt toks at_) (⟨#[118, 111, 105, 100]⟩ : ByteArray).data.toList = _ from HV.out])
        | (go_at_call 42; refine (aTyp_any toks ps A PA c pc (w.heap.size + 1 + 1) w.heap.size at_ 0 0 _ true (hi.rd _ _ _ _ (by simp only [wext_size, World.size_alloc]; omega) (by omega) (by first | exact Grw.refl _ | (repeat (first | exact Grw.refl _ | apply Grw.ext | apply Grw.alloc | apply Grw.drewN | apply Grw.drew)); done)) (by repeat (first | exact block_alloc _ _ _ (by simp [wext_size]) | apply blk_ext | apply blk_alloc | apply blk_drewN)) ha).mono ?_; rw [HT.out]; rintro e w' hq; obtain ⟨rfl, hq2⟩ := hq.1 rfl; clear hq; obtain ⟨th, td, rfl⟩ := hq2; dsimp only [Ty.arr])
        | (go_at_call 68; refine (aLook_zero toks ps A PA c pc (w.heap.size + 1 + 1) w.heap.size nx 0 0 _ (hi.rd _ _ _ _ (by simp only [wext_size, World.size_alloc]; omega) (by omega) (by first | exact Grw.refl _ | (repeat (first | exact Grw.refl _ | apply Grw.ext | apply Grw.alloc | apply Grw.drewN | apply Grw.drew)); done)) (by repeat (first | exact block_alloc _ _ _ (by simp [wext_size]) | apply blk_ext | apply blk_alloc | apply blk_drewN)) hnx).mono ?_; rintro e w' ⟨rfl, hq⟩; obtain ⟨yh, yd, rfl⟩ := hq)
        | (go_at_call 70; refine (aBad_any toks ps A PA c pc (w.heap.size + 1 + 1) w.heap.size nx 0 0 _ _ (hi.rd _ _ _ _ (by simp only [wext_size, World.size_alloc]; omega) (by omega) (by first | exact Grw.refl _ | (repeat (first | exact Grw.refl _ | apply Grw.ext | apply Grw.alloc | apply Grw.drewN | apply Grw.drew)); done)) (by repeat (first | exact block_alloc _ _ _ (by simp [wext_size]) | apply blk_ext | apply blk_alloc | apply blk_drewN)) hnx).mono ?_; rintro e w' ⟨rfl, hq⟩; obtain ⟨sh, sd, rfl⟩ := hq))
      go_region
      go_wp2
      go_region
      go_wp2
      exact bodyPost_ret (v := .tuple #[.agg #[.string (bs (tokAt toks nx).text), .int .i64 T.kind, .string (bs T.cls), .int .i64 T.n, .int .i64 T.o0.1, .int .i64 T.o0.2, .int .i64 T.o1.1, .int .i64 T.o1.2, .int .i64 T.o2.1, .int .i64 T.o2.2, .int .i64 T.o3.1, .int .i64 T.o3.2, .int .i64 (tokAt toks at_).pos], .int .i64 (w64 (nx + 1)), .agg #[.int .i64 0, .int .i64 0]]) (by simp [results, Try.results41, go_sem]) rfl ⟨by rw [HR.out]; rfl, by first | exact Grw.refl _ | (repeat (first | exact Grw.refl _ | apply Grw.ext | apply Grw.alloc | apply Grw.drewN | apply Grw.drew)); done⟩
    · have b1 : ((tokAt toks nx).kind != 1) = true := by simpa using hc
      have HR := Lib.hid (show varL toks ps at_ = ([], Ty.zero, 0, 0, 3, (tokAt toks nx).pos) by rw [varL, hv, hT, if_neg (by simp), if_neg (by simp), if_pos (by simpa using hc)])
      have HT := Lib.hid hT
      clear hv hT he hc hI
      go_enter Try.func41, Try.ntmps41
      go_wp2_with (first
        | (go_at_call 68; have _t := tok1; refine (aLook_zero toks ps A PA c pc (w.heap.size + 1 + 1) w.heap.size at_ 0 0 _ (hi.rd _ _ _ _ (by simp only [wext_size, World.size_alloc]; omega) (by omega) (by first | exact Grw.refl _ | (repeat (first | exact Grw.refl _ | apply Grw.ext | apply Grw.alloc | apply Grw.drewN | apply Grw.drew)); done)) (by repeat (first | exact block_alloc _ _ _ (by simp [wext_size]) | apply blk_ext | apply blk_alloc | apply blk_drewN)) ha).mono ?_; clear tok1; rintro e w' ⟨rfl, hq⟩; obtain ⟨xh, xd, rfl⟩ := hq)
        | (go_at_call 69; refine (aIs_zero toks ps A PA c pc (w.heap.size + 1 + 1) w.heap.size at_ 0 0 _ _ (hi.rd _ _ _ _ (by simp only [wext_size, World.size_alloc]; omega) (by omega) (by first | exact Grw.refl _ | (repeat (first | exact Grw.refl _ | apply Grw.ext | apply Grw.alloc | apply Grw.drewN | apply Grw.drew)); done)) (by repeat (first | exact block_alloc _ _ _ (by simp [wext_size]) | apply blk_ext | apply blk_alloc | apply blk_drewN)) ha).mono ?_; rintro e w' ⟨rfl, hq⟩; obtain ⟨vh, vd, rfl⟩ := hq; rw [show isW (tokAt toks at_) (⟨#[118, 111, 105, 100]⟩ : ByteArray).data.toList = _ from HV.out])
        | (go_at_call 42; refine (aTyp_any toks ps A PA c pc (w.heap.size + 1 + 1) w.heap.size at_ 0 0 _ true (hi.rd _ _ _ _ (by simp only [wext_size, World.size_alloc]; omega) (by omega) (by first | exact Grw.refl _ | (repeat (first | exact Grw.refl _ | apply Grw.ext | apply Grw.alloc | apply Grw.drewN | apply Grw.drew)); done)) (by repeat (first | exact block_alloc _ _ _ (by simp [wext_size]) | apply blk_ext | apply blk_alloc | apply blk_drewN)) ha).mono ?_; rw [HT.out]; rintro e w' hq; obtain ⟨rfl, hq2⟩ := hq.1 rfl; clear hq; obtain ⟨th, td, rfl⟩ := hq2; dsimp only [Ty.arr])
        | (go_at_call 68; refine (aLook_zero toks ps A PA c pc (w.heap.size + 1 + 1) w.heap.size nx 0 0 _ (hi.rd _ _ _ _ (by simp only [wext_size, World.size_alloc]; omega) (by omega) (by first | exact Grw.refl _ | (repeat (first | exact Grw.refl _ | apply Grw.ext | apply Grw.alloc | apply Grw.drewN | apply Grw.drew)); done)) (by repeat (first | exact block_alloc _ _ _ (by simp [wext_size]) | apply blk_ext | apply blk_alloc | apply blk_drewN)) hnx).mono ?_; rintro e w' ⟨rfl, hq⟩; obtain ⟨yh, yd, rfl⟩ := hq)
        | (go_at_call 70; refine (aBad_any toks ps A PA c pc (w.heap.size + 1 + 1) w.heap.size nx 0 0 _ _ (hi.rd _ _ _ _ (by simp only [wext_size, World.size_alloc]; omega) (by omega) (by first | exact Grw.refl _ | (repeat (first | exact Grw.refl _ | apply Grw.ext | apply Grw.alloc | apply Grw.drewN | apply Grw.drew)); done)) (by repeat (first | exact block_alloc _ _ _ (by simp [wext_size]) | apply blk_ext | apply blk_alloc | apply blk_drewN)) hnx).mono ?_; rintro e w' ⟨rfl, hq⟩; obtain ⟨sh, sd, rfl⟩ := hq))
      go_region
      go_wp2
      exact bodyPost_ret (v := .tuple #[.agg #[.string ⟨#[]⟩, .int .i64 0, .string ⟨#[]⟩, .int .i64 0, .int .i64 0, .int .i64 0, .int .i64 0, .int .i64 0, .int .i64 0, .int .i64 0, .int .i64 0, .int .i64 0, .int .i64 0], .int .i64 0, .agg #[.int .i64 3, .int .i64 (tokAt toks nx).pos]]) (by simp [results, Try.results41, go_sem]) rfl ⟨by rw [HR.out]; rfl, by first | exact Grw.refl _ | (repeat (first | exact Grw.refl _ | apply Grw.ext | apply Grw.alloc | apply Grw.drewN | apply Grw.drew)); done⟩
  · have HR := Lib.hid (show varL toks ps at_ = ([], Ty.zero, 0, 0, x, p) by rw [varL, hv, hT, if_neg (by simp), if_pos (by simpa using hx)])
    have HT := Lib.hid hT
    have HX := Lib.hid hx
    clear hv hT he hx hI
    go_enter Try.func41, Try.ntmps41
    go_wp2_with (first
      | (go_at_call 68; have _t := tok1; refine (aLook_zero toks ps A PA c pc (w.heap.size + 1 + 1) w.heap.size at_ 0 0 _ (hi.rd _ _ _ _ (by simp only [wext_size, World.size_alloc]; omega) (by omega) (by first | exact Grw.refl _ | (repeat (first | exact Grw.refl _ | apply Grw.ext | apply Grw.alloc | apply Grw.drewN | apply Grw.drew)); done)) (by repeat (first | exact block_alloc _ _ _ (by simp [wext_size]) | apply blk_ext | apply blk_alloc | apply blk_drewN)) ha).mono ?_; clear tok1; rintro e w' ⟨rfl, hq⟩; obtain ⟨xh, xd, rfl⟩ := hq)
      | (go_at_call 69; refine (aIs_zero toks ps A PA c pc (w.heap.size + 1 + 1) w.heap.size at_ 0 0 _ _ (hi.rd _ _ _ _ (by simp only [wext_size, World.size_alloc]; omega) (by omega) (by first | exact Grw.refl _ | (repeat (first | exact Grw.refl _ | apply Grw.ext | apply Grw.alloc | apply Grw.drewN | apply Grw.drew)); done)) (by repeat (first | exact block_alloc _ _ _ (by simp [wext_size]) | apply blk_ext | apply blk_alloc | apply blk_drewN)) ha).mono ?_; rintro e w' ⟨rfl, hq⟩; obtain ⟨vh, vd, rfl⟩ := hq; rw [show isW (tokAt toks at_) (⟨#[118, 111, 105, 100]⟩ : ByteArray).data.toList = _ from HV.out])
      | (go_at_call 42; refine (aTyp_any toks ps A PA c pc (w.heap.size + 1 + 1) w.heap.size at_ 0 0 _ true (hi.rd _ _ _ _ (by simp only [wext_size, World.size_alloc]; omega) (by omega) (by first | exact Grw.refl _ | (repeat (first | exact Grw.refl _ | apply Grw.ext | apply Grw.alloc | apply Grw.drewN | apply Grw.drew)); done)) (by repeat (first | exact block_alloc _ _ _ (by simp [wext_size]) | apply blk_ext | apply blk_alloc | apply blk_drewN)) ha).mono ?_; rw [HT.out]; rintro e w' hq; obtain ⟨rfl, a9, hq2⟩ := hq.2 HX.out; clear hq; obtain ⟨th, td, rfl⟩ := hq2; dsimp only [Ty.arr, Ty.zero]))
    go_region
    go_wp2
    exact bodyPost_ret (v := .tuple #[.agg #[.string ⟨#[]⟩, .int .i64 0, .string ⟨#[]⟩, .int .i64 0, .int .i64 0, .int .i64 0, .int .i64 0, .int .i64 0, .int .i64 0, .int .i64 0, .int .i64 0, .int .i64 0, .int .i64 0], .int .i64 0, .agg #[.int .i64 x, .int .i64 p]]) (by simp [results, Try.results41, go_sem]) rfl ⟨by rw [HR.out]; rfl, by first | exact Grw.refl _ | (repeat (first | exact Grw.refl _ | apply Grw.ext | apply Grw.alloc | apply Grw.drewN | apply Grw.drew)); done⟩
end
end Go.Proofs.YtnindeoemfgkeaaRRRR
