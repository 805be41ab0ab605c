/- Contracts of demesneref07: word, wrong, ahead. -/
import Derived.Test.YtnindeoemfgkeaaRRRRRef07
import Derived.Test.YtnindeoemfgkeaaRRRRLib3
namespace Go.Proofs.YtnindeoemfgkeaaRRRR
open Go.RowKit
def wsL : List (List UInt8) := [[114, 101, 112], [112, 101, 101, 114], [], [119, 111, 114, 108, 100], [97, 110, 121], [117, 110, 105, 113, 117, 101]]
def wfL (t : Tok) : List (List UInt8) → Nat → Int
  | [], _ => 0
  | x :: r, i => if isW t x = true ∧ x ≠ [] then i + 1 else wfL t r (i + 1)
theorem wfL_known (t : Tok) (hok : t.kind = 4 → ownW t.text = 0) : wfL t wsL 0 = knownO t := by
  obtain ⟨k, x, p⟩ := t
  simp only [wfL, wsL, isW, knownO] at *
  by_cases h3 : k = 3
  · subst h3
    simp [ownW]
    repeat' split
    all_goals simp_all
  · by_cases h4 : k = 4
    · subst h4
      have := hok rfl
      simp [ownW] at this ⊢
      repeat' split
      all_goals simp_all
    · have e3 : (k == 3) = false := by simpa using h3
      have e4 : (k == 4) = false := by simpa using h4
      simp [e3, e4, h3]
theorem wfL_at (t : Tok) (k : Nat) (h : k < 6) : wfL t (wsL.drop k) k = if isW t (wsL[k]'h) = true ∧ wsL[k]'h ≠ [] then (k : Int) + 1 else wfL t (wsL.drop (k + 1)) (k + 1) := by
  rw [List.drop_eq_getElem_cons (show k < wsL.length from h)]; rfl
theorem wsCell (w : World) (k : Nat) (h : k < 6) :
    (w.alloc (.cells #[.string ⟨#[114, 101, 112]⟩, .string ⟨#[112, 101, 101, 114]⟩, .string ⟨#[]⟩, .string ⟨#[119, 111, 114, 108, 100]⟩, .string ⟨#[97, 110, 121]⟩, .string ⟨#[117, 110, 105, 113, 117, 101]⟩] 9)).cell? ⟨w.heap.size, k, none⟩ = some (.string (bs (wsL[k]'h))) := by
  rw [World.cell?_alloc_new]
  match k, h with
  | 0, _ => rfl
  | 1, _ => rfl
  | 2, _ => rfl
  | 3, _ => rfl
  | 4, _ => rfl
  | 5, _ => rfl
theorem r03Is_l {k p : Int} {t x : List UInt8} {b : Bool} (h : isW ⟨k, t, p⟩ x = b) (w : World) :
    Calls Try.prog 44 #[.agg #[.int .i64 k, .string (bs t), .int .i64 p], .string (bs x)] w fun e w' => e = .returned (.bool b) ∧ Grw w w' := by
  have := r03Is_any k p t (bs x) w
  rw [bs_data, h] at this
  exact this
set_option maxRecDepth 100000 in
set_option maxHeartbeats 4000000 in
theorem r07word_any (k p : Int) (t : List UInt8) (w : World) (hok : k = 4 → ownW t = 0) :
    Calls Try.prog 45 #[.agg #[.int .i64 k, .string (bs t), .int .i64 p]] w fun e w' => e = .returned (.agg #[.int .i64 (knownO ⟨k, t, p⟩), .int .i64 0]) ∧ Grw w w' := by
  have HK := Lib.hid (wfL_known ⟨k, t, p⟩ hok)
  go_enter Try.func45, Try.ntmps45
  go_wp2
  have hc := wsCell ((w.alloc (.cells #[.int .i64 k, .string (bs t), .int .i64 p] 102)).alloc (.cells #[.int .i64 0, .int .i64 0] 57))
  have hsz : ((w.alloc (.cells #[.int .i64 k, .string (bs t), .int .i64 p] 102)).alloc (.cells #[.int .i64 0, .int .i64 0] 57)).heap.size = w.heap.size + 1 + 1 := by simp
  rw [hsz] at hc
  clear hsz
  have HC := Lib.hid hc
  clear hc
  go_loopw [4] (fun i wr => ∃ (j : Nat) (xh : Array Obj) (xd : Nat), j ≤ 6 ∧ i = .int .i64 j ∧ knownO ⟨k, t, p⟩ = wfL ⟨k, t, p⟩ (wsL.drop j) j ∧
      wr = wext (((w.alloc (.cells #[.int .i64 k, .string (bs t), .int .i64 p] 102)).alloc (.cells #[.int .i64 0, .int .i64 0] 57)).alloc (.cells #[.string ⟨#[114, 101, 112]⟩, .string ⟨#[112, 101, 101, 114]⟩, .string ⟨#[]⟩, .string ⟨#[119, 111, 114, 108, 100]⟩, .string ⟨#[97, 110, 121]⟩, .string ⟨#[117, 110, 105, 113, 117, 101]⟩] 9)) xh xd) (fun i _ => 6 - (intOf i).toNat)
  case atStart => exact ⟨0, #[], w.drawn, by omega, rfl, HK.out.symm, wext_self _⟩
  case round =>
    obtain ⟨j, xh, xd, hj, rfl, hf, rfl⟩ := hrel
    by_cases hlt : j < 6
    · have hcell := HC.out j hlt
      rw [wfL_at _ j hlt] at hf
      have HF := Lib.hid hf
      clear hf
      have f1 : (j : Int) < 6 := by omega
      obtain ⟨x, hx⟩ : ∃ x, wsL[j]'hlt = x := ⟨_, rfl⟩
      rw [hx] at hcell HF
      cases his : isW ⟨k, t, p⟩ x
      · have HIS := Lib.hid his
        have HF2 := Lib.hid (HF.out.trans (if_neg (by rw [his]; simp)))
        clear his hx
        go_wp2
        refine wp_region_grw (by kernel_rfl) (by kernel_rfl) ?_
        repeat (go_big_quiet_step ((go_at_call 44; exact grw_quiet (r03Is_l HIS.out _))))
        refine wpQuiet_nil ?_
        rintro _ ⟨⟨gh, gd⟩, rfl⟩
        dsimp only
        go_wp2
        rw [wext_wext]
        go_roundw
        case rel => exact ⟨j + 1, _, _, by omega, by go_num, HF2.out, rfl⟩
        case measure => simp [intOf]; omega
      · have HIS := Lib.hid his
        by_cases hx0 : x = []
        · have HF2 := Lib.hid (HF.out.trans (if_neg (by simp [hx0])))
          subst hx0
          clear his hx
          go_wp2
          refine wp_region_grw (by kernel_rfl) (by kernel_rfl) ?_
          repeat (go_big_quiet_step ((go_at_call 44; exact grw_quiet (r03Is_l HIS.out _))))
          refine wpQuiet_nil ?_
          rintro _ ⟨⟨gh, gd⟩, rfl⟩
          dsimp only
          go_wp2
          rw [wext_wext]
          go_roundw
          case rel => exact ⟨j + 1, _, _, by omega, by go_num, HF2.out, rfl⟩
          case measure => simp [intOf]; omega
        · have HF2 := Lib.hid (HF.out.trans (if_pos ⟨HIS.out, hx0⟩))
          have hx1 : x.isEmpty = false := by cases x with | nil => exact absurd rfl hx0 | cons => rfl
          clear his hx hx0
          go_wp2
          refine wp_region_grw (by kernel_rfl) (by kernel_rfl) ?_
          repeat (go_big_quiet_step ((go_at_call 44; exact grw_quiet (r03Is_l HIS.out _))))
          refine wpQuiet_nil ?_
          rintro _ ⟨⟨gh, gd⟩, rfl⟩
          dsimp only
          go_wp2
          exact bodyPost_ret (v := .agg #[.int .i64 (j + 1), .int .i64 0]) (by simp [results, Try.results45, go_sem]) rfl ⟨by rw [HF2.out], by first | exact Grw.refl _ | (repeat (first | exact Grw.refl _ | apply Grw.ext | apply Grw.alloc | apply Grw.drewN | apply Grw.drew)); done⟩
    · obtain rfl : j = 6 := by omega
      have HF := Lib.hid hf
      clear hf
      go_wp2
      exact bodyPost_ret (v := .agg #[.int .i64 0, .int .i64 0]) (by simp [results, Try.results45, go_sem]) rfl ⟨by rw [HF.out]; rfl, by first | exact Grw.refl _ | (repeat (first | exact Grw.refl _ | apply Grw.ext | apply Grw.alloc | apply Grw.drewN | apply Grw.drew)); done⟩
end Go.Proofs.YtnindeoemfgkeaaRRRR
