/- Contracts of annot's reader and what it calls: Is, is, bad, known, Index, Find. -/
import Derived.Test.YtnindeoemfgkeaaRRRRAnnot1
namespace Go.Proofs.YtnindeoemfgkeaaRRRR
open Go.RowKit

/-- Is a token this word or sign? -/
def isW (t : Tok) (s : List UInt8) : Bool := (t.kind == 3 || t.kind == 4) && t.text == s
theorem bs_beq (a : List UInt8) (s : ByteArray) : (a == s.toList) = (a == s.data.toList) := by rw [toList_eq_data]
set_option maxHeartbeats 1000000 in
theorem tIs_any (k p : Int) (t : List UInt8) (s : ByteArray) (w : World) :
    Calls Try.prog 85 #[.agg #[.int .i64 k, .string (bs t), .int .i64 p], .string s] w fun e w' => e = .returned (.bool (isW ⟨k, t, p⟩ s.data.toList)) ∧ Grw w w' := by
  have hb := bs_beq t s
  by_cases h3 : k = 3
  · subst h3
    go_enter Try.func85, Try.ntmps85
    go_wp2
    go_ret
    exact ⟨ret_bool (by rw [isW]; simp), by first | exact Grw.refl _ | (repeat (first | exact Grw.refl _ | apply Grw.ext | apply Grw.alloc | apply Grw.drewN | apply Grw.drew)); done⟩
  · by_cases h4 : k = 4
    · subst h4
      go_enter Try.func85, Try.ntmps85
      go_wp2
      go_ret
      exact ⟨ret_bool (by rw [isW]; simp), by first | exact Grw.refl _ | (repeat (first | exact Grw.refl _ | apply Grw.ext | apply Grw.alloc | apply Grw.drewN | apply Grw.drew)); done⟩
    · have e3 : (k == 3) = false := by simpa using h3
      have e4 : (k == 4) = false := by simpa using h4
      clear hb
      go_enter Try.func85, Try.ntmps85
      go_wp2
      go_ret
      exact ⟨ret_bool (by rw [isW]; simp [e3, e4]), by first | exact Grw.refl _ | (repeat (first | exact Grw.refl _ | apply Grw.ext | apply Grw.alloc | apply Grw.drewN | apply Grw.drew)); done⟩

/-- The owner that a word of the language is; 0: none. -/
def ownW (s : List UInt8) : Int :=
  if s = [114, 101, 112] then 1 else if s = [112, 101, 101, 114] then 2 else if s = [119, 111, 114, 108, 100] then 4 else if s = [97, 110, 121] then 5 else if s = [117, 110, 105, 113, 117, 101] then 6 else 0
def knownO (t : Tok) : Int := if t.kind = 3 then ownW t.text else 0
set_option maxHeartbeats 2000000 in
theorem aKnown_any (k p : Int) (t : List UInt8) (w : World) :
    Calls Try.prog 71 #[.agg #[.int .i64 k, .string (bs t), .int .i64 p]] w fun e w' => e = .returned (.agg #[.int .i64 (knownO ⟨k, t, p⟩), .int .i64 0]) ∧ Grw w w' := by
  by_cases h3 : k = 3
  · subst h3
    have hK := Lib.hid (show knownO ⟨3, t, p⟩ = ownW t from rfl)
    by_cases t1 : t = [114, 101, 112]
    · subst t1
      go_enter Try.func71, Try.ntmps71
      go_wp2
      exact bodyPost_ret (v := .agg #[.int .i64 1, .int .i64 0]) (by simp [results, Try.results71, go_sem]) rfl ⟨rfl, by first | exact Grw.refl _ | (repeat (first | exact Grw.refl _ | apply Grw.ext | apply Grw.alloc | apply Grw.drewN | apply Grw.drew)); done⟩
    by_cases t2 : t = [112, 101, 101, 114]
    · subst t2
      clear t1
      go_enter Try.func71, Try.ntmps71
      go_wp2
      exact bodyPost_ret (v := .agg #[.int .i64 2, .int .i64 0]) (by simp [results, Try.results71, go_sem]) rfl ⟨rfl, by first | exact Grw.refl _ | (repeat (first | exact Grw.refl _ | apply Grw.ext | apply Grw.alloc | apply Grw.drewN | apply Grw.drew)); done⟩
    by_cases t3 : t = [119, 111, 114, 108, 100]
    · subst t3
      clear t1 t2
      go_enter Try.func71, Try.ntmps71
      go_wp2
      exact bodyPost_ret (v := .agg #[.int .i64 4, .int .i64 0]) (by simp [results, Try.results71, go_sem]) rfl ⟨rfl, by first | exact Grw.refl _ | (repeat (first | exact Grw.refl _ | apply Grw.ext | apply Grw.alloc | apply Grw.drewN | apply Grw.drew)); done⟩
    by_cases t4 : t = [97, 110, 121]
    · subst t4
      clear t1 t2 t3
      go_enter Try.func71, Try.ntmps71
      go_wp2
      exact bodyPost_ret (v := .agg #[.int .i64 5, .int .i64 0]) (by simp [results, Try.results71, go_sem]) rfl ⟨rfl, by first | exact Grw.refl _ | (repeat (first | exact Grw.refl _ | apply Grw.ext | apply Grw.alloc | apply Grw.drewN | apply Grw.drew)); done⟩
    by_cases t5 : t = [117, 110, 105, 113, 117, 101]
    · subst t5
      clear t1 t2 t3 t4
      go_enter Try.func71, Try.ntmps71
      go_wp2
      exact bodyPost_ret (v := .agg #[.int .i64 6, .int .i64 0]) (by simp [results, Try.results71, go_sem]) rfl ⟨rfl, by first | exact Grw.refl _ | (repeat (first | exact Grw.refl _ | apply Grw.ext | apply Grw.alloc | apply Grw.drewN | apply Grw.drew)); done⟩
    have b1 : (t == [114, 101, 112]) = false := by simpa using t1
    have b2 : (t == [112, 101, 101, 114]) = false := by simpa using t2
    have b3 : (t == [119, 111, 114, 108, 100]) = false := by simpa using t3
    have b4 : (t == [97, 110, 121]) = false := by simpa using t4
    have b5 : (t == [117, 110, 105, 113, 117, 101]) = false := by simpa using t5
    have hO := Lib.hid (show ownW t = 0 by unfold ownW; rw [if_neg t1, if_neg t2, if_neg t3, if_neg t4, if_neg t5])
    clear t1 t2 t3 t4 t5
    go_enter Try.func71, Try.ntmps71
    go_wp2
    exact bodyPost_ret (v := .agg #[.int .i64 0, .int .i64 0]) (by simp [results, Try.results71, go_sem]) rfl ⟨by rw [hK.out, hO.out], by first | exact Grw.refl _ | (repeat (first | exact Grw.refl _ | apply Grw.ext | apply Grw.alloc | apply Grw.drewN | apply Grw.drew)); done⟩
  · have e3 : (k != 3) = true := by simpa using h3
    have hK := Lib.hid (show knownO ⟨k, t, p⟩ = 0 by simp [knownO, h3])
    clear h3
    go_enter Try.func71, Try.ntmps71
    go_wp2
    exact bodyPost_ret (v := .agg #[.int .i64 0, .int .i64 0]) (by simp [results, Try.results71, go_sem]) rfl ⟨by rw [hK.out], by first | exact Grw.refl _ | (repeat (first | exact Grw.refl _ | apply Grw.ext | apply Grw.alloc | apply Grw.drewN | apply Grw.drew)); done⟩

def strC (s : List UInt8) : List Value := [.string (bs s)]
theorem idxIn_at (t : List UInt8) (l : List (List UInt8)) (k : Nat) (x : List UInt8) (h : l[k]? = some x) : idxIn t (l.drop k) k = if x = t then k + 1 else idxIn t (l.drop (k + 1)) (k + 1) := by
  obtain ⟨hk, rfl⟩ := List.getElem?_eq_some_iff.1 h
  exact idxIn_step t l k hk
set_option maxHeartbeats 1000000 in
theorem slIndexS_any (ps : List (List UInt8)) (A : Option Addr) (c B : Nat) (s : ByteArray) (w : World) (hp : SlB strC 1 w B A ps) (hn : ps.length ≤ 1000000) :
    Calls Try.prog 102 #[.slice A ps.length c, .string s] w fun e w' => e = .returned (.int .i64 ((idxIn s.data.toList ps 0 : Int) - 1)) ∧ w = w' := by
  go_enter Try.func102, Try.ntmps102
  go_wp2
  go_loop [8] (fun i => ∃ k : Nat, k ≤ ps.length ∧ i = .int .i64 k ∧ idxIn s.data.toList ps 0 = idxIn s.data.toList (ps.drop k) k) (fun i => ps.length - (intOf i).toNat)
  case atStart => exact ⟨0, by omega, rfl, rfl⟩
  case round =>
    obtain ⟨k, hk, rfl, hf⟩ := hrel
    by_cases hlt : k < ps.length
    · obtain ⟨x, hx⟩ : ∃ x, ps[k]? = some x := ⟨_, List.getElem?_eq_getElem hlt⟩
      obtain ⟨b, o, rfl, hb, hbs, hc⟩ := hp.at_ hx
      have c0 := hc 0 _ rfl
      simp only [Nat.add_zero, Nat.mul_one] at c0
      rw [idxIn_at _ _ _ _ hx] at hf
      have HF := Lib.hid hf
      have f1 : (k : Int) < (ps.length : Int) := by omega
      clear hf hc hp hx
      by_cases he : x = s.data.toList
      · have e1 : (s.toList == x) = true := by rw [toList_eq_data, he]; simp
        have HE := Lib.hid he
        clear he
        go_wp2
        go_ret
        exact ⟨ret_int (by rw [HF.out, if_pos HE.out]; omega), rfl⟩
      · have e1 : (s.toList == x) = false := by rw [toList_eq_data]; simp; exact fun h => he h.symm
        have HE := Lib.hid he
        clear he
        go_wp2
        go_round
        case rel => exact ⟨k + 1, by omega, by go_num, by rw [HF.out, if_neg HE.out]⟩
        case measure => simp [intOf]; omega
    · obtain rfl : k = ps.length := by omega
      have HF := Lib.hid hf
      clear hf
      go_wp2
      go_ret
      exact ⟨ret_int (by rw [HF.out, List.drop_length]; rfl), rfl⟩
theorem oFind_any (ps : List (List UInt8)) (A : Option Addr) (c B : Nat) (s : ByteArray) (w : World) (hp : SlB strC 1 w B A ps) (hn : ps.length ≤ 1000000) :
    Calls Try.prog 86 #[.string s, .slice A ps.length c] w fun e w' => e = .returned (.int .i64 (idxIn s.data.toList ps 0)) ∧ w = w' := by
  have hle := idxIn_le s.data.toList ps 0
  go_enter Try.func86, Try.ntmps86
  go_wp2_with (go_at_call 102; refine (slIndexS_any ps _ _ B _ _ hp hn).mono ?_; rintro e w' ⟨rfl, rfl⟩)
  go_ret
  exact ⟨ret_int (by simp), rfl⟩
end Go.Proofs.YtnindeoemfgkeaaRRRR
