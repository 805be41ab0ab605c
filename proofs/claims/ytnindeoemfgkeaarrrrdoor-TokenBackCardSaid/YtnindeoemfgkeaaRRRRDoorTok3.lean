/- Contract of the program's layer 3 (token): the reader's closure: the next token, or what is wrong with it. -/
import Derived.Test.YtnindeoemfgkeaaRRRRDoorTok2
import Derived.ScopeJumps
import Derived.WalkMore
import Derived.RegionTactic
import Derived.BigRegion
namespace Go.Proofs.YtnindeoemfgkeaaRRRRDoor
open Go.RowKit
/-- What stands next in a text, from a place on: the token, the error, the place behind. -/
def nextL (s : List UInt8) (at_ : Nat) : Tok × Nat × Nat :=
  if s.drop (at_ + sk false (s.drop at_)) = [] then (⟨0, [], (at_ + sk false (s.drop at_) : Nat)⟩, 0, at_ + sk false (s.drop at_))
  else if (oneL (s.drop (at_ + sk false (s.drop at_)))).1 = 0 then (⟨0, [], (at_ + sk false (s.drop at_) : Nat)⟩, 1, at_ + sk false (s.drop at_))
  else (⟨(oneL (s.drop (at_ + sk false (s.drop at_)))).1, (oneL (s.drop (at_ + sk false (s.drop at_)))).2, (at_ + sk false (s.drop at_) : Nat)⟩, if badT (oneL (s.drop (at_ + sk false (s.drop at_)))) then 2 else 0, at_ + sk false (s.drop at_) + (oneL (s.drop (at_ + sk false (s.drop at_)))).2.length)
/-- How long a remark is that a text begins with. -/
def remL : List UInt8 → Nat
  | [] => 0
  | c :: r => if c = 10 then 0 else 1 + remL r
theorem remL_le : ∀ l, remL l ≤ l.length
  | [] => Nat.le_refl _
  | c :: r => by have := remL_le r; simp only [remL, List.length_cons]; split <;> omega
theorem sk_blanks : ∀ (l : List UInt8), sk false l = twl blankB l + sk false (l.drop (twl blankB l))
  | [] => by simp [twl, sk]
  | c :: r => by
    cases h : blankB c
    · rw [twl_no h]; simp
    · rw [twl_yes h, sk_blank c r h, sk_blanks r, show 1 + twl blankB r = twl blankB r + 1 by omega, List.drop_succ_cons, ← sk_blanks r]
      have := sk_blanks r
      omega
theorem twl_stop (p : UInt8 → Bool) : ∀ (l : List UInt8), ∀ c r, l.drop (twl p l) = c :: r → p c = false
  | [], c, r, h => by simp at h
  | x :: l, c, r, h => by
    cases hx : p x
    · rw [twl_no hx] at h; simp at h; rw [← h.1]; exact hx
    · rw [twl_yes hx, show 1 + twl p l = twl p l + 1 by omega, List.drop_succ_cons] at h
      exact twl_stop p l c r h
theorem sk_rem : ∀ (l : List UInt8), sk true l = remL l + sk false (l.drop (remL l))
  | [] => rfl
  | c :: r => by
    by_cases h : c = 10
    · have hr : remL (c :: r) = 0 := by simp [remL, h]
      rw [hr, Nat.zero_add, List.drop_zero]
      exact sk_line c r (by rw [h]; rfl)
    · have hr : remL (c :: r) = remL r + 1 := by simp [remL, h]; omega
      have hc : ¬ c.toNat = 10 := fun e => h (UInt8.toNat_inj.1 e)
      rw [hr, List.drop_succ_cons, sk_on c r hc, sk_rem r]
      omega
theorem take_two (l : List UInt8) : l.take 2 = [47, 47] ↔ ∃ r, l = 47 :: 47 :: r := by
  match l with
  | [] => simp
  | [a] => simp
  | a :: b :: r => simp
theorem sk_nb_remark (l : List UInt8) (h : l.take 2 = [47, 47]) : sk false l = sk true l ∧ 2 ≤ remL l := by
  obtain ⟨r, rfl⟩ := (take_two l).1 h
  exact ⟨sk_remark _ _ rfl ⟨rfl, rfl⟩, by simp [remL]; omega⟩
theorem sk_nb_none (l : List UInt8) (hb : ∀ c r, l = c :: r → blankB c = false) (h : ¬ l.take 2 = [47, 47]) : sk false l = 0 := by
  cases l with
  | nil => rfl
  | cons c r =>
    refine sk_none c r (hb c r rfl) ?_
    rintro ⟨h1, h2⟩
    cases r with
    | nil => simp at h2
    | cons d r =>
      apply h
      simp at h2 ⊢
      exact ⟨UInt8.toNat_inj.1 h1, UInt8.toNat_inj.1 h2⟩
theorem index_rem : ∀ (l : List UInt8), (Lib.indexByte l 10 = remL l ∧ remL l < l.length) ∨ (Lib.indexByte l 10 = -1 ∧ remL l = l.length)
  | [] => .inr ⟨rfl, rfl⟩
  | c :: r => by
    unfold Lib.indexByte remL
    by_cases h : c = 10
    · subst h; exact .inl ⟨by simp, by simp⟩
    · have hc : (c == 10) = false := by simpa using h
      rw [hc, if_neg h]
      rcases index_rem r with ⟨h1, h2⟩ | ⟨h1, h2⟩
      · rw [h1]
        have h3 : (((remL r : Nat) : Int) == -1) = false := by rw [beq_eq_false_iff_ne]; omega
        rw [h3]
        exact .inl ⟨by simp; omega, by simp only [List.length_cons]; omega⟩
      · rw [h1]
        exact .inr ⟨rfl, by simp; omega⟩
/-- Where a remark is left out it is as if the text were read from behind it on. -/
theorem nextL_skip (s : List UInt8) (i : Nat) (h : (s.drop (i + twl blankB (s.drop i))).take 2 = [47, 47]) :
    nextL s i = nextL s (i + twl blankB (s.drop i) + remL (s.drop (i + twl blankB (s.drop i)))) := by
  have h1 := sk_blanks (s.drop i)
  rw [List.drop_drop] at h1
  have h2 := (sk_nb_remark _ h).1
  have h3 := sk_rem (s.drop (i + twl blankB (s.drop i)))
  rw [List.drop_drop] at h3
  have e : i + sk false (s.drop i) = i + twl blankB (s.drop i) + remL (s.drop (i + twl blankB (s.drop i))) + sk false (s.drop (i + twl blankB (s.drop i) + remL (s.drop (i + twl blankB (s.drop i))))) := by omega
  unfold nextL
  rw [e]
theorem skip_to (s : List UInt8) (i : Nat) (h : ¬ (s.drop (i + twl blankB (s.drop i))).take 2 = [47, 47]) : i + sk false (s.drop i) = i + twl blankB (s.drop i) := by
  have h1 := sk_blanks (s.drop i)
  have h2 := sk_nb_none ((s.drop i).drop (twl blankB (s.drop i))) (fun c r e => twl_stop blankB _ c r e) (by rw [List.drop_drop]; exact h)
  omega
theorem wp_scope_label {P : Program} {a : Act} {w : World} {Q : Exit → Act → World → Prop} {c : Code} (l : Nat) (J : Act → World → Prop) (μ : Act → World → Nat) (hJ : J a w)
    (pass : ∀ a w, J a w → c.wp P (Exit.jump l (fun a' w' => J a' w' ∧ μ a' w' < μ a w) Q) a w) : (Code.scope ((Code.label l).seq c)).wp P Q a w := by
  refine wp_scope_jumps l J μ (rest := Code.skip.seq c) (by simp [findLabel]) ?_ ?_
  · apply wp_seq
    apply wp_label
    refine wp_mono (pass a w hJ) ?_
    intro e a w h
    cases e <;> first | exact h | exact ⟨h.1, h.2.1⟩
  · intro a w hj
    apply wp_seq
    apply wp_skip
    exact pass a w hj
theorem frame84 (T : Array Value) (h : T.size = 84) : ∃ u : Nat → Value, T = #[u 0, u 1, u 2, u 3, u 4, u 5, u 6, u 7, u 8, u 9, u 10, u 11, u 12, u 13, u 14, u 15, u 16, u 17, u 18, u 19, u 20, u 21, u 22, u 23, u 24, u 25, u 26, u 27, u 28, u 29, u 30, u 31, u 32, u 33, u 34, u 35, u 36, u 37, u 38, u 39, u 40, u 41, u 42, u 43, u 44, u 45, u 46, u 47, u 48, u 49, u 50, u 51, u 52, u 53, u 54, u 55, u 56, u 57, u 58, u 59, u 60, u 61, u 62, u 63, u 64, u 65, u 66, u 67, u 68, u 69, u 70, u 71, u 72, u 73, u 74, u 75, u 76, u 77, u 78, u 79, u 80, u 81, u 82, u 83] := by
  refine ⟨fun k => T.getD k undef, ?_⟩
  have h1 : T = (Array.range 84).map (fun k => T.getD k undef) := by
    apply Array.ext (by simp [h])
    intro i hi _
    simp [hi]
  exact h1.trans (by kernel_rfl)
theorem frame_ex {a' : Act} {p q r z : Value} (hs : a'.tmps.size = 84) (h0 : a'.tmps.getD 0 undef = p) (h1 : a'.tmps.getD 1 undef = q) (h2 : a'.tmps.getD 2 undef = r) (h3 : a'.tmps.getD 3 undef = z) (hd : a'.defers = []) :
    ∃ u : Nat → Value, a' = { tmps := #[p, q, r, z, u 4, u 5, u 6, u 7, u 8, u 9, u 10, u 11, u 12, u 13, u 14, u 15, u 16, u 17, u 18, u 19, u 20, u 21, u 22, u 23, u 24, u 25, u 26, u 27, u 28, u 29, u 30, u 31, u 32, u 33, u 34, u 35, u 36, u 37, u 38, u 39, u 40, u 41, u 42, u 43, u 44, u 45, u 46, u 47, u 48, u 49, u 50, u 51, u 52, u 53, u 54, u 55, u 56, u 57, u 58, u 59, u 60, u 61, u 62, u 63, u 64, u 65, u 66, u 67, u 68, u 69, u 70, u 71, u 72, u 73, u 74, u 75, u 76, u 77, u 78, u 79, u 80, u 81, u 82, u 83], defers := [] } := by
  obtain ⟨u, hu⟩ := frame84 a'.tmps hs
  refine ⟨u, ?_⟩
  cases a'
  simp only at hu hd h0 h1 h2 h3
  rw [hu] at h0 h1 h2 h3
  rw [← h0, ← h1, ← h2, ← h3, hd]
  congr 1
theorem Wd.sb {w : World} (h : Wd w) {g : Nat} (hg : 0 < g) {t : TypeId} {cs : Array Value} : Wd (sb w g t cs) := ⟨by rw [sb_size]; exact h.lt, fun i x hx => (sb_cell_other w g t cs 0 _ (by omega)).trans (h.at_ i x hx)⟩
def cellN (w : World) (g : Nat) : Nat := match w.cell? ⟨g, 0, none⟩ with | some (.int _ n) => n.toNat | _ => 0
theorem jump_mk {s : ByteArray} {at_ g t : Nat} {w w' : World} {a' : Act} (i n : Nat) (hs : a'.tmps.size = 84) (h0 : a'.tmps.getD 0 undef = .pointer (some ⟨g, 0, none⟩)) (h1 : a'.tmps.getD 1 undef = .pointer (some ⟨t, 0, none⟩)) (h2 : a'.tmps.getD 2 undef = .pointer (some ⟨w.heap.size, 0, none⟩)) (h3 : a'.tmps.getD 3 undef = .int .i64 0) (hd : a'.defers = [])
    (hw : w' = ((sb w g 3 #[.int .i64 i]).alloc (.cells #[.int .i64 0, .string ⟨#[]⟩, .int .i64 0] 30)).drewN n) (hi : i ≤ s.size) (hN : nextL s.data.toList at_ = nextL s.data.toList i) :
    ∃ (i n : Nat) (u : Nat → Value), a' = { tmps := #[.pointer (some ⟨g, 0, none⟩), .pointer (some ⟨t, 0, none⟩), .pointer (some ⟨w.heap.size, 0, none⟩), .int .i64 0, u 4, u 5, u 6, u 7, u 8, u 9, u 10, u 11, u 12, u 13, u 14, u 15, u 16, u 17, u 18, u 19, u 20, u 21, u 22, u 23, u 24, u 25, u 26, u 27, u 28, u 29, u 30, u 31, u 32, u 33, u 34, u 35, u 36, u 37, u 38, u 39, u 40, u 41, u 42, u 43, u 44, u 45, u 46, u 47, u 48, u 49, u 50, u 51, u 52, u 53, u 54, u 55, u 56, u 57, u 58, u 59, u 60, u 61, u 62, u 63, u 64, u 65, u 66, u 67, u 68, u 69, u 70, u 71, u 72, u 73, u 74, u 75, u 76, u 77, u 78, u 79, u 80, u 81, u 82, u 83], defers := [] } ∧ w' = ((sb w g 3 #[.int .i64 i]).alloc (.cells #[.int .i64 0, .string ⟨#[]⟩, .int .i64 0] 30)).drewN n ∧ i ≤ s.size ∧ nextL s.data.toList at_ = nextL s.data.toList i := by
  obtain ⟨u, hu⟩ := frame_ex hs h0 h1 h2 h3 hd
  exact ⟨i, n, u, hu, hw, hi, hN⟩
theorem cellN_at (w : World) (g : Nat) (i : Int) (o : Obj) (n : Nat) (hg : g < w.heap.size) : cellN (((sb w g 3 #[.int .i64 i]).alloc o).drewN n) g = i.toNat := by
  have : (((sb w g 3 #[.int .i64 i]).alloc o).drewN n).cell? ⟨g, 0, none⟩ = some (.int .i64 i) := by
    show ((sb w g 3 #[.int .i64 i]).alloc o).cell? _ = _
    rw [World.cell?_alloc_past _ _ _ (by rw [sb_size]; exact hg), sb_cell_same _ _ _ _ _ hg]; rfl
  unfold cellN
  rw [this]
set_option maxHeartbeats 4000000 in
set_option maxRecDepth 100000 in
theorem tNext_sb (s : ByteArray) (at_ g t : Nat) (w : World) (hw : Wd w) (hg0 : 0 < g) (hg : g < w.heap.size) (ht : w.cell? ⟨t, 0, none⟩ = some (.string s)) (htl : t < w.heap.size) (hne : t ≠ g) (hs : s.size ≤ 16384) (hat : at_ ≤ s.size) :
    Calls Tryd.prog 22 #[.pointer (some ⟨g, 0, none⟩), .pointer (some ⟨t, 0, none⟩)] (sb w g 3 #[.int .i64 at_]) fun e w' =>
      e = .returned (.tuple #[.agg #[.int .i64 (nextL s.data.toList at_).1.kind, .string (bs (nextL s.data.toList at_).1.text), .int .i64 (nextL s.data.toList at_).1.pos], .int .i64 (nextL s.data.toList at_).2.1]) ∧
        Grw (sb w g 3 #[.int .i64 (nextL s.data.toList at_).2.2]) w' := by
  go_enter Tryd.func22, Tryd.ntmps22
  go_wp2
  refine wp_scope_label 0 (fun a' w' => ∃ (i n : Nat) (u : Nat → Value), a' = { tmps := #[.pointer (some ⟨g, 0, none⟩), .pointer (some ⟨t, 0, none⟩), .pointer (some ⟨w.heap.size, 0, none⟩), .int .i64 0, u 4, u 5, u 6, u 7, u 8, u 9, u 10, u 11, u 12, u 13, u 14, u 15, u 16, u 17, u 18, u 19, u 20, u 21, u 22, u 23, u 24, u 25, u 26, u 27, u 28, u 29, u 30, u 31, u 32, u 33, u 34, u 35, u 36, u 37, u 38, u 39, u 40, u 41, u 42, u 43, u 44, u 45, u 46, u 47, u 48, u 49, u 50, u 51, u 52, u 53, u 54, u 55, u 56, u 57, u 58, u 59, u 60, u 61, u 62, u 63, u 64, u 65, u 66, u 67, u 68, u 69, u 70, u 71, u 72, u 73, u 74, u 75, u 76, u 77, u 78, u 79, u 80, u 81, u 82, u 83], defers := [] } ∧ w' = ((sb w g 3 #[.int .i64 i]).alloc (.cells #[.int .i64 0, .string ⟨#[]⟩, .int .i64 0] 30)).drewN n ∧ i ≤ s.size ∧ nextL s.data.toList at_ = nextL s.data.toList i) (fun _ w' => s.size - cellN w' g) ?c1 ?c2
  case c1 => exact ⟨at_, 0, fun _ => undef, rfl, rfl, hat, rfl⟩
  case c2 =>
    rintro a' w' ⟨i, n, u, rfl, rfl, hi, hN⟩
    have hxs : (s.extract i s.size).size ≤ 1000000000 := by rw [size_eq, extract_end, List.length_drop, ← size_eq]; omega
    have HX := Lib.hid (extract_end s i)
    have hb := twl_le blankB (s.data.toList.drop i)
    rw [List.length_drop, ← size_eq] at hb
    obtain ⟨b, hB⟩ : ∃ b, twl blankB (s.data.toList.drop i) = b := ⟨_, rfl⟩
    rw [hB] at hb
    have HB := Lib.hid hB
    have HNX := Lib.hid hN
    clear hB hN
    have f1 : (i : Int) ≤ (s.size : Int) := by omega
    have hrun : ∀ W : World, Calls Tryd.prog 23 #[.string (s.extract i s.size), .func (.func 24) #[] #[]] W fun e w' => e = .returned (.int .i64 b) ∧ w' = W :=
      fun W => (runBlank (s.extract i s.size) W hxs).mono fun e w' h => ⟨by rw [h.1, HX.out, HB.out], h.2.symm⟩
    have HRUN := Lib.hid hrun
    clear hrun
    go_wp2
    refine wp_tail 6 (by kernel_rfl) (by kernel_rfl) ?_
    simp only [List.take_succ_cons, List.take_zero, List.drop_succ_cons, List.drop_zero]
    repeat (first | go_big_quiet_skip | (go_big_quiet_want; go_big_quiet_op; first | go_big_quiet_on | ((apply Exists.intro); (refine ⟨?_, ?_⟩); (· (exact HRUN.out _)); go_big_quiet_on)))
    refine wpQuiet_nil ?_
    have hT := extract_end s (i + b)
    have HT := Lib.hid hT
    clear hT
    have f2 : (i : Int) + (b : Int) ≤ (s.size : Int) := by omega
    have hskip := nextL_skip s.data.toList i
    have hto := skip_to s.data.toList i
    rw [HB.out] at hskip hto
    by_cases h47 : (s.data.toList.drop (i + b)).take 2 = [47, 47]
    · have HS := Lib.hid (HNX.out.trans (hskip h47))
      have hr2 := (sk_nb_remark _ h47).2
      have HP : Hid (Lib.hasPrefix (s.extract (i + b) s.size).data.toList (⟨#[47, 47]⟩ : ByteArray).data.toList = true) := Lib.hid ((hasPrefix_two _ 47 47).trans (by rw [HT.out]; exact decide_eq_true h47))
      have hrl := remL_le (s.data.toList.drop (i + b))
      rw [List.length_drop, ← size_eq] at hrl
      have hix := index_rem (s.data.toList.drop (i + b))
      obtain ⟨m, hM⟩ : ∃ m, remL (s.data.toList.drop (i + b)) = m := ⟨_, rfl⟩
      rw [hM] at hr2 hrl hix HS
      rw [List.length_drop, ← size_eq] at hix
      clear hskip hto h47 hM
      rcases hix with ⟨hi1, hi2⟩ | ⟨hi1, hi2⟩
      · have HI : Hid (Lib.indexByte (s.extract (i + b) s.size).data.toList ((10 : Int).toNat.toUInt8) = m) := Lib.hid (by rw [HT.out]; exact hi1)
        clear hi1
        go_wp2_with (first
          | (go_at_call 25; refine (Tryd.strings_HasPrefix _ _ _).mono ?_; rintro e w' ⟨rfl, rfl⟩; rw [HP.out])
          | (go_at_call 26; refine (Tryd.strings_IndexByte _ _ _).mono ?_; rintro e w' ⟨rfl, rfl⟩; rw [HI.out]))
        go_step3
        refine ⟨rfl, jump_mk (i + b + m) (n + 1) rfl rfl rfl rfl rfl rfl (by rw [show ((i + b + m : Nat) : Int) = (i : Int) + b + m by omega]) (by omega) HS.out, ?_⟩
        rw [cellN_at _ _ _ _ _ hg, cellN_at _ _ _ _ _ hg]
        omega
      · have HI : Hid (Lib.indexByte (s.extract (i + b) s.size).data.toList ((10 : Int).toNat.toUInt8) = -1) := Lib.hid (by rw [HT.out]; exact hi1)
        clear hi1
        go_wp2_with (first
          | (go_at_call 25; refine (Tryd.strings_HasPrefix _ _ _).mono ?_; rintro e w' ⟨rfl, rfl⟩; rw [HP.out])
          | (go_at_call 26; refine (Tryd.strings_IndexByte _ _ _).mono ?_; rintro e w' ⟨rfl, rfl⟩; rw [HI.out]))
        go_step3
        refine ⟨rfl, jump_mk (i + b + m) (n + 1) rfl rfl rfl rfl rfl rfl (by rw [show ((i + b + m : Nat) : Int) = (i : Int) + b + ((s.size : Int) - ((i : Int) + b)) by omega]) (by omega) HS.out, ?_⟩
        rw [cellN_at _ _ _ _ _ hg, cellN_at _ _ _ _ _ hg]
        omega
    · have hsk := hto h47
      have HP : Hid (Lib.hasPrefix (s.extract (i + b) s.size).data.toList (⟨#[47, 47]⟩ : ByteArray).data.toList = false) := Lib.hid ((hasPrefix_two _ 47 47).trans (by rw [HT.out]; exact decide_eq_false h47))
      have hnl : nextL s.data.toList i = if s.data.toList.drop (i + b) = [] then (⟨0, [], (i + b : Nat)⟩, 0, i + b)
          else if (oneL (s.data.toList.drop (i + b))).1 = 0 then (⟨0, [], (i + b : Nat)⟩, 1, i + b)
          else (⟨(oneL (s.data.toList.drop (i + b))).1, (oneL (s.data.toList.drop (i + b))).2, (i + b : Nat)⟩, if badT (oneL (s.data.toList.drop (i + b))) then 2 else 0, i + b + (oneL (s.data.toList.drop (i + b))).2.length) := by
        rw [nextL, hsk]
      have HNL := Lib.hid (HNX.out.trans hnl)
      clear hskip hto h47 hsk hnl HNX
      by_cases hend : i + b = s.size
      · have HN := Lib.hid (HNL.out.trans (if_pos (drop_end s _ (by omega))))
        have f3 : (i : Int) + (b : Int) = (s.size : Int) := by omega
        have b3 : ((i : Int) + (b : Int) == (s.size : Int)) = true := by simp [f3]
        have F3 := Lib.hid f3
        clear f3 hend
        go_wp2_with (first
          | (go_at_call 25; refine (Tryd.strings_HasPrefix _ _ _).mono ?_; rintro e w' ⟨rfl, rfl⟩; rw [HP.out]))
        simp only [Exit.jump]
        exact bodyPost_ret (v := .tuple #[.agg #[.int .i64 0, .string ⟨#[]⟩, .int .i64 ((i : Int) + b)], .int .i64 0]) (by simp [results, Tryd.results22, go_sem]) rfl ⟨by rw [HN.out]; rfl, by rw [HN.out]; first | exact Grw.refl _ | (repeat (first | exact Grw.refl _ | apply Grw.ext | apply Grw.alloc | apply Grw.drewN | apply Grw.drew)); done⟩
      · have hne : s.data.toList.drop (i + b) ≠ [] := by rw [drop_get s (i + b) (by omega)]; simp
        have b3 : ((i : Int) + (b : Int) == (s.size : Int)) = false := by simp; omega
        have hx0 : 0 < (s.extract (i + b) s.size).size := by rw [size_eq, HT.out, List.length_drop, ← size_eq]; omega
        have hx1 : (s.extract (i + b) s.size).size ≤ 1000000000 := by rw [size_eq, HT.out, List.length_drop, ← size_eq]; omega
        have hnl := HNL.out
        rw [if_neg hne] at hnl
        have hkz := kinds_one _ hne
        have hle := oneL_le (s.data.toList.drop (i + b))
        rw [List.length_drop, ← size_eq] at hle
        obtain ⟨K, m, hk⟩ : ∃ K m, kindsL (s.data.toList.drop (i + b)) = (K, m) := ⟨_, _, rfl⟩
        have HKL := Lib.hid hk
        obtain ⟨k, tx, ho⟩ : ∃ k tx, oneL (s.data.toList.drop (i + b)) = (k, tx) := ⟨_, _, rfl⟩
        rw [hk, ho] at hkz
        rw [ho] at hle hnl
        dsimp only at hkz hle hnl
        clear hk HNL hne
        rcases hkz with ⟨rfl, rfl⟩ | ⟨hm0, rfl, hk0, htx, hlen⟩
        · have HN := Lib.hid (hnl.trans (if_pos rfl))
          clear hnl ho
          go_wp2_with (first
          | (go_at_call 25; refine (Tryd.strings_HasPrefix _ _ _).mono ?_; rintro e w' ⟨rfl, rfl⟩; rw [HP.out])
          | (go_at_call 27; refine (tKinds_any _ _ (by repeat (first | exact Wd.sb hw hg0 | apply Wd.ext | apply Wd.alloc | apply Wd.drewN | apply Wd.drew)) hx0 hx1).mono ?_; rintro e w' ⟨rfl, hq⟩; obtain ⟨xh, xd, rfl⟩ := hq; rw [HT.out, HKL.out]))
          simp only [Exit.jump]
          exact bodyPost_ret (v := .tuple #[.agg #[.int .i64 0, .string ⟨#[]⟩, .int .i64 ((i : Int) + b)], .int .i64 1]) (by simp [results, Tryd.results22, go_sem]) rfl ⟨by rw [HN.out]; rfl, by rw [HN.out]; first | exact Grw.refl _ | (repeat (first | exact Grw.refl _ | apply Grw.ext | apply Grw.alloc | apply Grw.drewN | apply Grw.drew)); done⟩
        · have hnl2 := hnl.trans (if_neg hk0)
          have HTX : Hid ((s.extract (i + b) (i + b + m)).data.toList = tx) := Lib.hid (by rw [extract_list, List.drop_take, htx]; congr 1; omega)
          have hx2 : (s.extract (i + b) (i + b + m)).size ≤ 9223372036854775807 := by rw [size_eq, HTX.out]; omega
          have b0 : ((m : Int) == 0) = false := by simp; omega
          have f3 : (i : Int) + (b : Int) + (m : Int) ≤ (s.size : Int) := by omega
          obtain ⟨v, bb, hnv, hb2⟩ : ∃ (v : Int) (bb : Bool), numV tx = .tuple #[.int .i64 v, .bool bb] ∧ bb = (numL tx).isSome := by
            unfold numV; cases numL tx <;> exact ⟨_, _, rfl, rfl⟩
          have HNV := Lib.hid hnv
          have hcase : (((k : Int) == 1) = true ∧ 20 < (m : Int) ∧ badT (k, tx) = true) ∨ (((k : Int) == 1) = false ∧ ((k : Int) == 2) = true ∧ bb = false ∧ badT (k, tx) = true) ∨
              ((((k : Int) == 1) = true ∧ (m : Int) ≤ 20 ∧ ((k : Int) == 2) = false ∨ ((k : Int) == 1) = false ∧ ((k : Int) == 2) = true ∧ bb = true ∨ ((k : Int) == 1) = false ∧ ((k : Int) == 2) = false) ∧ badT (k, tx) = false) := by
            subst hb2
            rw [← hlen]
            by_cases e1 : k = 1
            · subst e1
              by_cases e20 : 20 < tx.length
              · exact .inl ⟨rfl, by omega, by simp [badT, e20]⟩
              · exact .inr (.inr ⟨.inl ⟨rfl, by omega, rfl⟩, by simp [badT, e20]⟩)
            · have n1 : ((k : Int) == 1) = false := by simp; omega
              by_cases e2 : k = 2
              · subst e2
                cases hq : numL tx
                · exact .inr (.inl ⟨n1, rfl, rfl, by simp [badT, hq]⟩)
                · exact .inr (.inr ⟨.inr (.inl ⟨n1, rfl, rfl⟩), by simp [badT, hq]⟩)
              · exact .inr (.inr ⟨.inr (.inr ⟨n1, by simp; omega⟩), by simp [badT, e1, e2]⟩)
          have HLEN := Lib.hid hlen
          clear hnv hb2 hnl ho htx hlen
          rcases hcase with ⟨c1, c2, hbad⟩ | ⟨c1, c2, rfl, hbad⟩ | ⟨hok, hbad⟩
          · have HN := Lib.hid hnl2
            rw [hbad] at HN
            clear hnl2 hbad
            go_wp2_with (first
              | (go_at_call 25; refine (Tryd.strings_HasPrefix _ _ _).mono ?_; rintro e w' ⟨rfl, rfl⟩; rw [HP.out])
              | (go_at_call 27; refine (tKinds_any _ _ (by repeat (first | exact Wd.sb hw hg0 | apply Wd.ext | apply Wd.alloc | apply Wd.drewN | apply Wd.drew)) hx0 hx1).mono ?_; rintro e w' ⟨rfl, hq⟩; obtain ⟨xh, xd, rfl⟩ := hq; rw [HT.out, HKL.out]))
            go_region
            go_wp2_with (first
              | (go_at_call 28; refine (wNumber_any _ _ hx2).mono ?_; rintro e w' ⟨rfl, hq⟩; obtain ⟨yh, yd, rfl⟩ := hq; rw [HTX.out, HNV.out]))
            simp only [Exit.jump]
            exact bodyPost_ret (v := .tuple #[.agg #[.int .i64 k, .string (s.extract (i + b) (i + b + m)), .int .i64 ((i : Int) + b)], .int .i64 2]) (by simp [results, Tryd.results22, go_sem]) rfl ⟨by rw [HN.out, eq_bs HTX.out]; rfl, by rw [HN.out]; dsimp only; rw [HLEN.out, show ((i + b + m : Nat) : Int) = (i : Int) + b + m by omega]; first | exact Grw.refl _ | (repeat (first | exact Grw.refl _ | apply Grw.ext | apply Grw.alloc | apply Grw.drewN | apply Grw.drew)); done⟩
          · have HN := Lib.hid hnl2
            rw [hbad] at HN
            clear hnl2 hbad
            go_wp2_with (first
              | (go_at_call 25; refine (Tryd.strings_HasPrefix _ _ _).mono ?_; rintro e w' ⟨rfl, rfl⟩; rw [HP.out])
              | (go_at_call 27; refine (tKinds_any _ _ (by repeat (first | exact Wd.sb hw hg0 | apply Wd.ext | apply Wd.alloc | apply Wd.drewN | apply Wd.drew)) hx0 hx1).mono ?_; rintro e w' ⟨rfl, hq⟩; obtain ⟨xh, xd, rfl⟩ := hq; rw [HT.out, HKL.out]))
            go_region
            go_wp2_with (first
              | (go_at_call 28; refine (wNumber_any _ _ hx2).mono ?_; rintro e w' ⟨rfl, hq⟩; obtain ⟨yh, yd, rfl⟩ := hq; rw [HTX.out, HNV.out]))
            simp only [Exit.jump]
            exact bodyPost_ret (v := .tuple #[.agg #[.int .i64 k, .string (s.extract (i + b) (i + b + m)), .int .i64 ((i : Int) + b)], .int .i64 2]) (by simp [results, Tryd.results22, go_sem]) rfl ⟨by rw [HN.out, eq_bs HTX.out]; rfl, by rw [HN.out]; dsimp only; rw [HLEN.out, show ((i + b + m : Nat) : Int) = (i : Int) + b + m by omega]; first | exact Grw.refl _ | (repeat (first | exact Grw.refl _ | apply Grw.ext | apply Grw.alloc | apply Grw.drewN | apply Grw.drew)); done⟩
          · have HN := Lib.hid hnl2
            rw [hbad] at HN
            clear hnl2 hbad
            rcases hok with ⟨c1, c2, c3⟩ | ⟨c1, c2, rfl⟩ | ⟨c1, c2⟩
            all_goals
              go_wp2_with (first
                | (go_at_call 25; refine (Tryd.strings_HasPrefix _ _ _).mono ?_; rintro e w' ⟨rfl, rfl⟩; rw [HP.out])
                | (go_at_call 27; refine (tKinds_any _ _ (by repeat (first | exact Wd.sb hw hg0 | apply Wd.ext | apply Wd.alloc | apply Wd.drewN | apply Wd.drew)) hx0 hx1).mono ?_; rintro e w' ⟨rfl, hq⟩; obtain ⟨xh, xd, rfl⟩ := hq; rw [HT.out, HKL.out]))
              go_region
              go_wp2_with (first
                | (go_at_call 28; refine (wNumber_any _ _ hx2).mono ?_; rintro e w' ⟨rfl, hq⟩; obtain ⟨yh, yd, rfl⟩ := hq; rw [HTX.out, HNV.out]))
              simp only [Exit.jump]
              exact bodyPost_ret (v := .tuple #[.agg #[.int .i64 k, .string (s.extract (i + b) (i + b + m)), .int .i64 ((i : Int) + b)], .int .i64 0]) (by simp [results, Tryd.results22, go_sem]) rfl ⟨by rw [HN.out, eq_bs HTX.out]; rfl, by rw [HN.out]; dsimp only; rw [HLEN.out, show ((i + b + m : Nat) : Int) = (i : Int) + b + m by omega]; first | exact Grw.refl _ | (repeat (first | exact Grw.refl _ | apply Grw.ext | apply Grw.alloc | apply Grw.drewN | apply Grw.drew)); done⟩
end Go.Proofs.YtnindeoemfgkeaaRRRRDoor
