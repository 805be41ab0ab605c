/- Contracts of the document's answer for layer 7 (demesneref07) and what it calls: Tok, Is, Find, word, named, wrong, ahead. -/
import Derived.Test.YtnindeoemfgkeaaRRRRAnnot6
namespace Go.Proofs.YtnindeoemfgkeaaRRRR
open Go.RowKit
section
variable (toks : List Tok) (ps : List (List UInt8)) (A PA : Option Addr) (c pc B : Nat) (at_ k : Int) (w : World)
set_option maxRecDepth 100000 in
set_option maxHeartbeats 2000000 in
theorem r06Tok_any (hl : SlB Tok.cells 3 w B A toks) (hn : toks.length ≤ 1000000) :
    Calls Try.prog 43 #[.slice A toks.length c, .int .i64 at_] w fun e w' =>
      e = .returned (.agg #[.int .i64 (tokAt toks at_).kind, .string (bs (tokAt toks at_).text), .int .i64 (tokAt toks at_).pos]) ∧ Grw w w' := by
  by_cases h1 : 0 ≤ at_ ∧ at_ < toks.length
  · obtain ⟨h1, h2⟩ := h1
    have hx : toks[at_.toNat]? = some (toks[at_.toNat]'(by omega)) := List.getElem?_eq_getElem _
    obtain ⟨b, o, rfl, hb, hbs, hc⟩ := hl.at_ hx
    have c0 := hc 0 _ rfl
    have c1 := hc 1 _ rfl
    have c2 := hc 2 _ rfl
    simp only [Nat.add_zero] at c0
    have HC := Lib.hid hc
    have HX := Lib.hid hx
    clear hc hx hl
    go_enter Try.func43, Try.ntmps43
    go_wp2
    exact bodyPost_ret (v := .agg #[.int .i64 (toks[at_.toNat]'(by omega)).kind, .string (bs (toks[at_.toNat]'(by omega)).text), .int .i64 (toks[at_.toNat]'(by omega)).pos]) (by simp [results, Try.results43, go_sem]) rfl ⟨by
          rw [tokAt, if_pos ⟨h1, h2⟩, HX.out]; rfl, by first | exact Grw.refl _ | (repeat (first | exact Grw.refl _ | apply Grw.ext | apply Grw.alloc | apply Grw.drewN | apply Grw.drew)); done⟩
  · have HT := Lib.hid (show tokAt toks at_ = ⟨0, [], (toks.getLast?.getD ⟨0, [], 0⟩).pos⟩ by rw [tokAt, if_neg h1])
    have hcs : decide (0 ≤ at_) = false ∨ (0 ≤ at_ ∧ decide (at_ < (toks.length : Int)) = false) := by
      by_cases h : 0 ≤ at_
      · exact .inr ⟨h, by simp; omega⟩
      · exact .inl (by simp; omega)
    clear h1
    by_cases hnil : toks = []
    · subst hnil
      clear hl
      rcases hcs with hc1 | ⟨hc1, hc2⟩
      all_goals
        go_enter Try.func43, Try.ntmps43
        go_wp2
        exact bodyPost_ret (v := .agg #[.int .i64 0, .string ⟨#[]⟩, .int .i64 0]) (by simp [results, Try.results43, go_sem]) rfl ⟨by rw [HT.out]; rfl, by first | exact Grw.refl _ | (repeat (first | exact Grw.refl _ | apply Grw.ext | apply Grw.alloc | apply Grw.drewN | apply Grw.drew)); done⟩
    · obtain ⟨last, hlast⟩ : ∃ last, toks.getLast? = some last := ⟨_, List.getLast?_eq_some_getLast hnil⟩
      have hx : toks[toks.length - 1]? = some last := by rw [← List.getLast?_eq_getElem?]; exact hlast
      obtain ⟨b, o, rfl, hb, hbs, hc⟩ := hl.at_ hx
      have c2 := hc 2 _ rfl
      rw [hlast] at HT
      have hpos := List.length_pos_iff.2 hnil
      clear hx hc hl hlast hnil
      generalize toks.length = n at *
      obtain ⟨m, rfl⟩ : ∃ m, n = m + 1 := ⟨n - 1, by omega⟩
      simp only [Nat.add_sub_cancel] at c2
      replace hcs : decide (0 ≤ at_) = false ∨ (0 ≤ at_ ∧ decide (at_ < (m : Int) + 1) = false) := hcs
      rcases hcs with hc1 | ⟨hc1, hc2⟩
      all_goals
        go_enter Try.func43, Try.ntmps43
        go_wp2
        exact bodyPost_ret (v := .agg #[.int .i64 0, .string ⟨#[]⟩, .int .i64 last.pos]) (by simp [results, Try.results43, go_sem]) rfl ⟨by rw [HT.out]; rfl, by first | exact Grw.refl _ | (repeat (first | exact Grw.refl _ | apply Grw.ext | apply Grw.alloc | apply Grw.drewN | apply Grw.drew)); done⟩
set_option maxHeartbeats 1000000 in
theorem r03Is_any (k p : Int) (t : List UInt8) (s : ByteArray) (w : World) :
    Calls Try.prog 44 #[.agg #[.int .i64 k, .string (bs t), .int .i64 p], .string s] w fun e w' => e = .returned (.bool (isW ⟨k, t, p⟩ s.data.toList)) ∧ Grw w w' := by
  have hb := bs_beq t s
  by_cases h3 : k = 3
  · subst h3
    go_enter Try.func44, Try.ntmps44
    go_wp2
    go_ret
    exact ⟨ret_bool (by rw [isW]; simp), by first | exact Grw.refl _ | (repeat (first | exact Grw.refl _ | apply Grw.ext | apply Grw.alloc | apply Grw.drewN | apply Grw.drew)); done⟩
  · by_cases h4 : k = 4
    · subst h4
      go_enter Try.func44, Try.ntmps44
      go_wp2
      go_ret
      exact ⟨ret_bool (by rw [isW]; simp), by first | exact Grw.refl _ | (repeat (first | exact Grw.refl _ | apply Grw.ext | apply Grw.alloc | apply Grw.drewN | apply Grw.drew)); done⟩
    · have e3 : (k == 3) = false := by simpa using h3
      have e4 : (k == 4) = false := by simpa using h4
      clear hb
      go_enter Try.func44, Try.ntmps44
      go_wp2
      go_ret
      exact ⟨ret_bool (by rw [isW]; simp [e3, e4]), by first | exact Grw.refl _ | (repeat (first | exact Grw.refl _ | apply Grw.ext | apply Grw.alloc | apply Grw.drewN | apply Grw.drew)); done⟩
set_option maxHeartbeats 1000000 in
theorem r04Find_any (s : ByteArray) (hp : SlB strC 1 w B PA ps) (hn : ps.length ≤ 1000000) :
    Calls Try.prog 74 #[.string s, .slice PA ps.length pc] w fun e w' => e = .returned (.int .i64 (idxIn s.data.toList ps 0)) ∧ w = w' := by
  go_enter Try.func74, Try.ntmps74
  go_wp2
  go_loop [5] (fun i => ∃ k : Nat, k ≤ ps.length ∧ i = .int .i64 k ∧ idxIn s.data.toList ps 0 = idxIn s.data.toList (ps.drop k) k) (fun i => ps.length - (intOf i).toNat)
  case atStart => exact ⟨0, by omega, rfl, rfl⟩
  case round =>
    obtain ⟨k, hk, rfl, hf⟩ := hrel
    by_cases hlt : k < ps.length
    · obtain ⟨x, hx⟩ : ∃ x, ps[k]? = some x := ⟨_, List.getElem?_eq_getElem hlt⟩
      obtain ⟨b, o, rfl, hb, hbs, hc⟩ := hp.at_ hx
      have c0 := hc 0 _ rfl
      simp only [Nat.add_zero, Nat.mul_one] at c0
      rw [idxIn_at _ _ _ _ hx] at hf
      have HF := Lib.hid hf
      have f1 : (k : Int) < (ps.length : Int) := by omega
      clear hf hc hp hx
      by_cases he : x = s.data.toList
      · have e1 : (x == s.toList) = true := by rw [toList_eq_data, he]; simp
        have HE := Lib.hid he
        clear he
        go_wp2
        go_ret
        exact ⟨ret_int (by rw [HF.out, if_pos HE.out]; omega), rfl⟩
      · have e1 : (x == s.toList) = false := by rw [toList_eq_data]; simpa using he
        have HE := Lib.hid he
        clear he
        go_wp2
        go_round
        case rel => exact ⟨k + 1, by omega, by go_num, by rw [HF.out, if_neg HE.out]⟩
        case measure => simp [intOf]; omega
    · obtain rfl : k = ps.length := by omega
      have HF := Lib.hid hf
      clear hf
      go_wp2
      go_ret
      exact ⟨ret_int (by rw [HF.out, List.drop_length]; rfl), rfl⟩
set_option maxHeartbeats 1000000 in
theorem r07named_any (k p : Int) (t : List UInt8) (hp : SlB strC 1 w B PA ps) (hn : ps.length ≤ 1000000) :
    Calls Try.prog 47 #[.agg #[.int .i64 k, .string (bs t), .int .i64 p], .slice PA ps.length pc] w fun e w' =>
      e = .returned (if idxIn t ps 0 = 0 then .agg #[.int .i64 0, .int .i64 0] else .agg #[.int .i64 3, .int .i64 (idxIn t ps 0)]) ∧ Grw w w' := by
  by_cases h0 : idxIn t ps 0 = 0
  · have H0 := Lib.hid h0
    rw [if_pos h0]
    clear h0
    go_enter Try.func47, Try.ntmps47
    go_wp2_with (go_at_call 74; refine (r04Find_any ps PA pc B _ _ (by exact (SlB.alloc (SlB.alloc hp _) _)) hn).mono ?_; rintro e w' ⟨rfl, rfl⟩; rw [bs_data, H0.out])
    exact bodyPost_ret (v := .agg #[.int .i64 0, .int .i64 0]) (by simp [results, Try.results47, go_sem]) rfl ⟨rfl, by first | exact Grw.refl _ | (repeat (first | exact Grw.refl _ | apply Grw.ext | apply Grw.alloc | apply Grw.drewN | apply Grw.drew)); done⟩
  · obtain ⟨m, hm⟩ : ∃ m, idxIn t ps 0 = m + 1 := ⟨_, (Nat.succ_pred h0).symm⟩
    have H0 := Lib.hid hm
    rw [if_neg h0, hm]
    clear h0 hm
    go_enter Try.func47, Try.ntmps47
    go_wp2_with (go_at_call 74; refine (r04Find_any ps PA pc B _ _ (by exact (SlB.alloc (SlB.alloc hp _) _)) hn).mono ?_; rintro e w' ⟨rfl, rfl⟩; rw [bs_data, H0.out])
    exact bodyPost_ret (v := .agg #[.int .i64 3, .int .i64 ((m + 1 : Nat) : Int)]) (by simp [results, Try.results47, go_sem]) rfl ⟨rfl, by first | exact Grw.refl _ | (repeat (first | exact Grw.refl _ | apply Grw.ext | apply Grw.alloc | apply Grw.drewN | apply Grw.drew)); done⟩
end
end Go.Proofs.YtnindeoemfgkeaaRRRR
