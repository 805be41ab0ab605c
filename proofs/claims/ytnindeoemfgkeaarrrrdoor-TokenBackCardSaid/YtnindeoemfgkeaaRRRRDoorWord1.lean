/- Contracts of the program's layer 2 (word): Blank, Letter, Digit, is, Find. -/
import Derived.Test.YtnindeoemfgkeaaRRRRDoorRef02
import Derived.Test.YtnindeoemfgkeaaRRRRDoorLib3
import Derived.Deep.RegionWith
namespace Go.Proofs.YtnindeoemfgkeaaRRRRDoor
open Go.RowKit
set_option maxHeartbeats 400000 in
theorem wBlank_any (c : Int) (w : World) :
    Calls Tryd.prog 24 #[.int .u8 c] w fun e w' => e = .returned (.bool (blankI c)) ∧ w = w' := by
  go_enter Tryd.func24, Tryd.ntmps24
  go_wp2
  all_goals (go_ret; exact ⟨ret_bool (by rw [Bool.eq_iff_iff]; simp [blankI, *]), rfl⟩)
set_option maxHeartbeats 400000 in
theorem wDigit_any (c : UInt8) (w : World) :
    Calls Tryd.prog 42 #[.int .u8 c.toNat] w fun e w' => e = .returned (.bool (digitI c.toNat)) ∧ w = w' := by
  have hc : (c.toNat : Int) < 256 := by have := c.toNat_lt; omega
  go_enter Tryd.func42, Tryd.ntmps42
  go_wp2
  go_ret
  exact ⟨ret_bool (by rw [Bool.eq_iff_iff]; simp [digitI]; omega), rfl⟩
theorem letter_bits_fin : ∀ n : Fin 256, letterI (n.val : Nat) = (decide (97 ≤ bits BinOp.or IntKind.u8 ((n.val : Nat) : Int) 32) && decide (bits BinOp.or IntKind.u8 ((n.val : Nat) : Int) 32 ≤ 122)) := by decide +kernel
theorem letter_bits (c : UInt8) : letterI c.toNat = (decide (97 ≤ bits BinOp.or IntKind.u8 (c.toNat : Int) 32) && decide (bits BinOp.or IntKind.u8 (c.toNat : Int) 32 ≤ 122)) := letter_bits_fin ⟨c.toNat, c.toNat_lt⟩
set_option maxHeartbeats 400000 in
theorem wLetter_any (c : UInt8) (w : World) :
    Calls Tryd.prog 39 #[.int .u8 c.toNat] w fun e w' => e = .returned (.bool (letterI c.toNat)) ∧ w = w' := by
  have HL := Lib.hid (letter_bits c)
  go_enter Tryd.func39, Tryd.ntmps39
  go_wp2
  · go_ret
    have h1 : 97 ≤ bits BinOp.or IntKind.u8 (c.toNat : Int) 32 := by assumption
    exact ⟨ret_bool (by rw [HL.out, decide_eq_true h1, Bool.true_and]), rfl⟩
  · go_ret
    have h1 : ¬ 97 ≤ bits BinOp.or IntKind.u8 (c.toNat : Int) 32 := by omega
    exact ⟨ret_bool (by rw [HL.out, decide_eq_false h1, Bool.false_and]), rfl⟩
def strW (s : List UInt8) : List Value := [.string (bs s)]
set_option maxHeartbeats 400000 in
theorem wIs1_any (t s : List UInt8) (g : Nat) (w : World) (hc : w.cell? ⟨g, 0, none⟩ = some (.string (bs s))) :
    Calls Tryd.prog 54 #[.string (bs t), .pointer (some ⟨g, 0, none⟩)] w fun e w' => e = .returned (.bool (t == s)) ∧ w = w' := by
  go_enter Tryd.func54, Tryd.ntmps54
  go_wp2
  go_ret
  exact ⟨rfl, rfl⟩
theorem idxIn_get (t : List UInt8) (l : List (List UInt8)) (k : Nat) (x : List UInt8) (h : l[k]? = some x) : idxIn t (l.drop k) k = if x = t then k + 1 else idxIn t (l.drop (k + 1)) (k + 1) := by
  obtain ⟨hk, rfl⟩ := List.getElem?_eq_some_iff.1 h
  exact idxIn_step t l k hk
set_option maxHeartbeats 1000000 in
theorem slIdxFS_any (l : List (List UInt8)) (b o c : Nat) (s : List UInt8) (g : Nat) (w : World) (hl : ∀ i x, l[i]? = some x → w.cell? ⟨b, o + i, none⟩ = some (.string (bs x))) (hn : l.length ≤ 1000000) (hc : w.cell? ⟨g, 0, none⟩ = some (.string (bs s))) :
    Calls Tryd.prog 49 #[.slice (some ⟨b, o, none⟩) l.length c, .func (.func 54) #[] #[.pointer (some ⟨g, 0, none⟩)]] w fun e w' => e = .returned (.int .i64 ((idxIn s l 0 : Int) - 1)) ∧ w = w' := by
  have HL := Lib.hid hl
  clear hl
  go_enter Tryd.func49, Tryd.ntmps49
  go_wp2
  go_loop [8] (fun i => ∃ k : Nat, k ≤ l.length ∧ i = .int .i64 k ∧ idxIn s l 0 = idxIn s (l.drop k) k) (fun i => l.length - (intOf i).toNat)
  case atStart => exact ⟨0, by omega, rfl, rfl⟩
  case round =>
    obtain ⟨k, hk, rfl, hf⟩ := hrel
    by_cases hlt : k < l.length
    · obtain ⟨x, hx⟩ : ∃ x, l[k]? = some x := ⟨_, List.getElem?_eq_getElem hlt⟩
      have c0 := HL.out k x hx
      rw [idxIn_get _ _ _ _ hx] at hf
      have HF := Lib.hid hf
      have f1 : (k : Int) < (l.length : Int) := by omega
      clear hf hx
      by_cases he : x = s
      · have e1 : (x == s) = true := by simp [he]
        have HE := Lib.hid e1
        have HE2 := Lib.hid he
        clear he e1
        go_wp2_with (go_at_call 54; refine (wIs1_any _ _ _ _ hc).mono ?_; rintro e w' ⟨rfl, rfl⟩; rw [HE.out])
        go_ret
        exact ⟨ret_int (by rw [HF.out, if_pos HE2.out]; omega), rfl⟩
      · have e1 : (x == s) = false := by simp [he]
        have HE := Lib.hid e1
        have HE2 := Lib.hid he
        clear he e1
        go_wp2_with (go_at_call 54; refine (wIs1_any _ _ _ _ hc).mono ?_; rintro e w' ⟨rfl, rfl⟩; rw [HE.out])
        go_round
        case rel => exact ⟨k + 1, by omega, by go_num, by rw [HF.out, if_neg HE2.out]⟩
        case measure => simp [intOf]; omega
    · obtain rfl : k = l.length := by omega
      have HF := Lib.hid hf
      clear hf
      go_wp2
      go_ret
      exact ⟨ret_int (by rw [HF.out, List.drop_length]; rfl), rfl⟩
set_option maxHeartbeats 400000 in
theorem wIs_any (s : List UInt8) (w : World) :
    Calls Tryd.prog 50 #[.string (bs s)] w fun e w' => e = .returned (.func (.func 54) #[] #[.pointer (some ⟨w.heap.size, 0, none⟩)]) ∧ w.alloc (.cells #[.string (bs s)] 9) = w' := by
  have hmf : ∀ (fn : Fn) (first cap : Array Value) (w : World), (Instr.makeFunc fn first cap).run Tryd.prog w = .ok (.func fn first cap) w := fun _ _ _ _ => rfl
  go_enter Tryd.func50, Tryd.ntmps50
  go_wp2
  go_ret
  exact ⟨rfl, rfl⟩
/-- The program's variable holds the language's words. -/
structure Wd (w : World) : Prop where
  lt : 0 < w.heap.size
  at_ : ∀ i x, wordsL[i]? = some x → w.cell? ⟨0, 0 + i, none⟩ = some (.string (bs x))
theorem Wd.ext {w : World} (h : Wd w) {xh : Array Obj} {xd : Nat} : Wd (wext w xh xd) := ⟨by rw [wext_size]; have := h.lt; omega, fun i x hx => (wext_cell w xh xd 0 _ h.lt).trans (h.at_ i x hx)⟩
theorem Wd.alloc {w : World} (h : Wd w) {o : Obj} : Wd (w.alloc o) := ⟨by simp, fun i x hx => (World.cell?_of_block (a := ⟨0, _, none⟩) (Below.heap_alloc w o 0 h.lt)).trans (h.at_ i x hx)⟩
theorem Wd.drewN {w : World} (h : Wd w) {n : Nat} : Wd (w.drewN n) := ⟨h.lt, h.at_⟩
theorem Wd.drew {w : World} (h : Wd w) : Wd w.drew := ⟨h.lt, h.at_⟩
theorem Wd.grw {w w' : World} (h : Wd w) (g : Grw w w') : Wd w' := by obtain ⟨xh, xd, rfl⟩ := g; exact h.ext
theorem slIdxFS_words (s : List UInt8) (g : Nat) (w : World) (hw : Wd w) (hc : w.cell? ⟨g, 0, none⟩ = some (.string (bs s))) :
    Calls Tryd.prog 49 #[.slice (some ⟨0, 0, none⟩) 23 23, .func (.func 54) #[] #[.pointer (some ⟨g, 0, none⟩)]] w fun e w' => e = .returned (.int .i64 ((findW s : Int) - 1)) ∧ w = w' :=
  slIdxFS_any wordsL 0 0 23 s g w hw.at_ (by decide) hc
@[go_sem] theorem slice_words (w : World) : (Instr.sliceAt 69 (.pointer (some ⟨0, 0, none⟩)) none none none).run Tryd.prog w = .ok (.slice (some ⟨0, 0, none⟩) 23 23) w := by kernel_rfl
set_option maxRecDepth 100000 in
set_option maxHeartbeats 1000000 in
theorem wFind_any (s : List UInt8) (w : World) (hw : Wd w) :
    Calls Tryd.prog 41 #[.string (bs s)] w fun e w' => e = .returned (.int .i64 (findW s)) ∧ Grw w w' := by
  have hle : findW s ≤ 23 := by have := idxIn_le s wordsL 0; rw [Nat.zero_add] at this; exact this
  go_enter Tryd.func41, Tryd.ntmps41
  go_wp2
  go_region_with (first
    | (go_at_call 50; refine (wIs_any _ _).mono ?_; rintro e w' ⟨rfl, rfl⟩)
    | (go_at_call 49; go_must (refine (slIdxFS_words s _ _ (by repeat (first | exact hw | apply Wd.ext | apply Wd.alloc | apply Wd.drewN | apply Wd.drew)) ?_).mono ?_; (show (w.alloc _).cell? _ = _); (rw [World.cell?_alloc_new]); rfl); rintro e w' ⟨rfl, rfl⟩))
  all_goals
    go_wp2
    go_ret
    exact ⟨ret_int (IntWalk.i64_in _ (by omega)), by first | exact Grw.refl _ | (repeat (first | exact Grw.refl _ | apply Grw.ext | apply Grw.alloc | apply Grw.drewN | apply Grw.drew)); done⟩
end Go.Proofs.YtnindeoemfgkeaaRRRRDoor
