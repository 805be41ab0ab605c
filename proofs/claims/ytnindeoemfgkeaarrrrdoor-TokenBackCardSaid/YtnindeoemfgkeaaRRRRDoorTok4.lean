/- Contract of the program's layer 3 (token): Of: which tokens any text has, or what is wrong with it, and where: it answers as the document's does. -/
import Derived.Test.YtnindeoemfgkeaaRRRRDoorTok3
namespace Go.Proofs.YtnindeoemfgkeaaRRRRDoor
open Go.RowKit
theorem next_tok (L : List UInt8) (at_ f : Nat) (acc : List Tok) :
    (nextL L at_ = (⟨0, [], (at_ + sk false (L.drop at_) : Nat)⟩, 0, at_ + sk false (L.drop at_)) ∧ tokF (f + 1) (at_ + sk false (L.drop at_)) (L.drop (at_ + sk false (L.drop at_))) acc = (acc ++ [⟨0, [], (at_ + sk false (L.drop at_) : Nat)⟩], 0, 0)) ∨
    (∃ (k : Nat) (tx : List UInt8) (e p : Nat), nextL L at_ = (⟨k, tx, (at_ + sk false (L.drop at_) : Nat)⟩, e, p) ∧ (e = 1 ∨ e = 2) ∧ tokF (f + 1) (at_ + sk false (L.drop at_)) (L.drop (at_ + sk false (L.drop at_))) acc = ([], e, at_ + sk false (L.drop at_))) ∨
    (∃ (k : Nat) (tx : List UInt8) (p : Nat), nextL L at_ = (⟨k, tx, (at_ + sk false (L.drop at_) : Nat)⟩, 0, p) ∧ k ≠ 0 ∧ at_ < p ∧ p ≤ L.length ∧
      tokF (f + 1) (at_ + sk false (L.drop at_)) (L.drop (at_ + sk false (L.drop at_))) acc = tokF f (p + sk false (L.drop p)) (L.drop (p + sk false (L.drop p))) (acc ++ [⟨k, tx, (at_ + sk false (L.drop at_) : Nat)⟩])) := by
  have hsk := sk_le (L.drop at_) false
  rw [List.length_drop] at hsk
  unfold nextL
  rw [tokF]
  obtain ⟨a, ha⟩ : ∃ a, at_ + sk false (L.drop at_) = a := ⟨_, rfl⟩
  rw [ha]
  have ha1 : at_ ≤ a := by omega
  clear hsk
  by_cases h1 : L.drop a = []
  · exact .inl ⟨by rw [if_pos h1], by rw [if_pos h1]⟩
  · by_cases h2 : (oneL (L.drop a)).1 = 0
    · exact .inr (.inl ⟨0, [], 1, a, by rw [if_neg h1, if_pos h2]; rfl, .inl rfl, by rw [if_neg h1, if_pos h2]⟩)
    · cases h3 : badT (oneL (L.drop a))
      · have hpos := oneL_pos _ h2
        have hle := oneL_le (L.drop a)
        rw [List.length_drop] at hle
        have hal : a < L.length := by
          rcases Nat.lt_or_ge a L.length with h | h
          · exact h
          · exact absurd (List.drop_eq_nil_of_le h) h1
        refine .inr (.inr ⟨(oneL (L.drop a)).1, (oneL (L.drop a)).2, a + (oneL (L.drop a)).2.length, by rw [if_neg h1, if_neg h2]; rfl, h2, by omega, by omega, ?_⟩)
        rw [if_neg h1, if_neg h2, if_neg (by simp), List.drop_drop, List.drop_drop]
      · exact .inr (.inl ⟨(oneL (L.drop a)).1, (oneL (L.drop a)).2, 2, a + (oneL (L.drop a)).2.length, by rw [if_neg h1, if_neg h2]; rfl, .inr rfl, by rw [if_neg h1, if_neg h2, if_pos rfl]⟩)
theorem blk_lt' {w : World} {g : Nat} {o : Obj} (h : w.heap[g]? = some o) : g < w.heap.size := by
  rcases Nat.lt_or_ge g w.heap.size with hl | hl
  · exact hl
  · rw [Array.getElem?_eq_none hl] at h; cases h
theorem blk_ext' {w : World} {g : Nat} {o : Obj} {xh : Array Obj} {xd : Nat} (h : w.heap[g]? = some o) : (wext w xh xd).heap[g]? = some o := by
  rw [wext_heap_lt _ _ _ _ (blk_lt' h)]; exact h
theorem own_swapT {w1 w2 : World} {base : Nat} {e : TypeId} {size n : Nat} {v : Value} {xs : List Value} (hown : w1.ownsRow base e size v n xs) (h : ∀ b, base ≤ b → w2.heap[b]? = w1.heap[b]?) : w2.ownsRow base e size v n xs := by
  obtain ⟨h1, h2⟩ := hown
  refine ⟨h1, ?_⟩
  rcases h2 with h2 | ⟨g, cap, cur, hv, hg, hh, r⟩
  · exact .inl h2
  · exact .inr ⟨g, cap, cur, hv, hg, (h g hg).trans hh, r⟩
theorem heap_swapT (w : World) (o o' : Obj) (h : Array Obj) (d : Nat) (b : Nat) (hb : w.heap.size + 1 ≤ b) : (wext (w.alloc o') h d).heap[b]? = (wext (w.alloc o) h d).heap[b]? := by
  show (w.heap.push o' ++ h)[b]? = (w.heap.push o ++ h)[b]?
  rw [Array.getElem?_append_right (by simp; omega), Array.getElem?_append_right (by simp; omega)]
  simp
theorem own_moved {w : World} {o o' : Obj} {h : Array Obj} {d base : Nat} {e : TypeId} {size n : Nat} {v : Value} {xs : List Value} (hown : (wext (w.alloc o) h d).ownsRow base e size v n xs) (hb : w.heap.size + 1 ≤ base) : (wext (w.alloc o') h d).ownsRow base e size v n xs :=
  own_swapT hown (fun b hb2 => heap_swapT w o o' h d b (by omega))
theorem cellN_ext (w : World) (g : Nat) (i : Int) (t : TypeId) (h : Array Obj) (d : Nat) (hg : g = w.heap.size) : cellN (wext (w.alloc (.cells #[.int .i64 i] t)) h d) g = i.toNat := by
  subst hg
  have : (wext (w.alloc (.cells #[.int .i64 i] t)) h d).cell? ⟨w.heap.size, 0, none⟩ = some (.int .i64 i) := by
    rw [wext_cell _ _ _ _ _ (by simp), World.cell?_alloc_new]; rfl
  unfold cellN
  rw [this]
theorem tReader_any (s : ByteArray) (w : World) :
    Calls Tryd.prog 15 #[.string s] w fun e w' => e = .returned (.func (.func 22) #[] #[.pointer (some ⟨w.heap.size + 1, 0, none⟩), .pointer (some ⟨w.heap.size, 0, none⟩)]) ∧
      (w.alloc (.cells #[.string s] 9)).alloc (.cells #[.int .i64 0] 3) = w' := by
  have hmf : ∀ (fn : Fn) (first cap : Array Value) (w : World), (Instr.makeFunc fn first cap).run Tryd.prog w = .ok (.func fn first cap) w := fun _ _ _ _ => rfl
  go_enter Tryd.func15, Tryd.ntmps15
  go_wp2
  go_ret
  exact ⟨rfl, rfl⟩
theorem tNext_any (s : ByteArray) (at_ g t : Nat) (w : World) (hw : Wd w) (hg0 : 0 < g) (hb : w.heap[g]? = some (.cells #[.int .i64 at_] 3)) (ht : w.cell? ⟨t, 0, none⟩ = some (.string s)) (htl : t < w.heap.size) (hne : t ≠ g) (hs : s.size ≤ 16384) (hat : at_ ≤ s.size)
    (k e p : Int) (a : Nat) (tx : List UInt8) (h : nextL s.data.toList at_ = (⟨k, tx, a⟩, e.toNat, p.toNat)) (he : 0 ≤ e) (hp : 0 ≤ p) :
    Calls Tryd.prog 22 #[.pointer (some ⟨g, 0, none⟩), .pointer (some ⟨t, 0, none⟩)] w fun E w' => E = .returned (.tuple #[.agg #[.int .i64 k, .string (bs tx), .int .i64 a], .int .i64 e]) ∧ Grw (sb w g 3 #[.int .i64 p]) w' := by
  have := tNext_sb s at_ g t w hw hg0 (blk_lt' hb) ht htl hne hs hat
  rw [sb_self w g _ _ hb, h] at this
  dsimp only at this
  rw [Int.toNat_of_nonneg he, Int.toNat_of_nonneg hp] at this
  exact this
set_option maxHeartbeats 4000000 in
set_option maxRecDepth 100000 in
theorem tOf_any (s : ByteArray) (w : World) (hw : Wd w) (hS : s.size ≤ 9223372036854775807) : Calls Tryd.prog 7 #[.string s] w (OfPost s w) := by
  have hsz := size_eq s
  by_cases hbig : 16384 < s.size
  · have HO := Lib.hid (show tokOf s.data.toList = ([], 6, 0) by unfold tokOf; rw [if_pos (by omega)])
    have f1 : (16384 : Int) < (s.size : Int) := by omega
    clear hsz
    go_enter Tryd.func7, Tryd.ntmps7
    go_wp2
    exact bodyPost_ret (v := .tuple #[.slice none 0 0, .agg #[.int .i64 6, .int .i64 0]]) (by simp [results, Tryd.results7, go_sem]) rfl ⟨none, 0, by rw [HO.out]; rfl, (Grw.refl _).alloc _, by rw [HO.out]; exact World.ownsRow_nil _ _ _ _⟩
  · have HO := Lib.hid (show tokOf s.data.toList = tokF (s.size + 1) (0 + sk false (s.data.toList.drop 0)) (s.data.toList.drop (0 + sk false (s.data.toList.drop 0))) [] by unfold tokOf; rw [if_neg (by omega), List.drop_zero, Nat.zero_add]; rfl)
    have f1 : (s.size : Int) ≤ 16384 := by omega
    have hs : s.size ≤ 16384 := by omega
    have HS := Lib.hid hsz
    clear hsz
    obtain ⟨i0, hi0, hz0, hz1, hz2⟩ := info_parts info_Token
    have h0 := hw.lt
    go_enter Tryd.func7, Tryd.ntmps7
    go_wp2_with (go_at_call 15; refine (tReader_any _ _).mono ?_; rintro e w' ⟨rfl, rfl⟩)
    go_loopw [5] (fun out wr => ∃ (at_ f c : Nat) (A : Option Addr) (acc : List Tok) (xh : Array Obj) (xd : Nat), at_ ≤ s.size ∧ s.size - at_ < f ∧
        tokOf s.data.toList = tokF f (at_ + sk false (s.data.toList.drop at_)) (s.data.toList.drop (at_ + sk false (s.data.toList.drop at_))) acc ∧ acc.length ≤ at_ ∧ out = .slice A acc.length c ∧
        wr = wext (((w.alloc (.cells #[.int .i64 0, .int .i64 0] 26)).alloc (.cells #[.string s] 9)).alloc (.cells #[.int .i64 at_] 3)) xh xd ∧
        wr.ownsRow (w.heap.size + 1 + 1 + 1) 30 3 (.slice A acc.length c) acc.length (acc.flatMap Tok.cells)) (fun _ wr => s.size - cellN wr (w.heap.size + 1 + 1))
    case atStart => exact ⟨0, s.size + 1, 0, none, [], #[], _, Nat.zero_le _, by omega, HO.out, Nat.zero_le _, rfl, wext_self _, World.ownsRow_nil _ _ _ _⟩
    case round =>
      obtain ⟨at_, f, c, A, acc, xh, xd, hat, hf, ht, hacc, rfl, rfl, hown⟩ := hrel
      obtain ⟨f, rfl⟩ : ∃ g, f = g + 1 := ⟨f - 1, by omega⟩
      have hstep := next_tok s.data.toList at_ f acc
      have hskl := sk_le (s.data.toList.drop at_) false
      rw [List.length_drop, ← HS.out] at hskl
      obtain ⟨a, ha⟩ : ∃ a, at_ + sk false (s.data.toList.drop at_) = a := ⟨_, rfl⟩
      rw [ha] at hstep ht
      have hal : a ≤ s.size := by omega
      have haa : at_ ≤ a := by omega
      clear ha hskl
      rcases hstep with ⟨hn, htk⟩ | ⟨k, tx, e, p, hn, he, htk⟩ | ⟨k, tx, p, hn, hk, hp1, hp2, htk⟩
      · have HT := Lib.hid (ht.trans htk)
        clear ht htk
        go_wp2_with (first
          | (go_at_call 22; refine (tNext_any s at_ (w.heap.size + 1 + 1) (w.heap.size + 1) _ (by repeat (first | exact hw | apply Wd.ext | apply Wd.alloc | apply Wd.drewN | apply Wd.drew)) (by omega) (blk_ext' (block_alloc _ _ _ (by simp))) (by simp [go_sem]) (by simp only [wext_size, World.size_alloc]; omega) (by omega) hs hat 0 0 a a [] hn (by omega) (by omega)).mono ?_; rintro e w' ⟨rfl, hq⟩; obtain ⟨yh, yd, rfl⟩ := hq)
          | (at_builtin
             refine wpList_append_own _ rfl _ _ 23 rfl (w.heap.size + 1 + 1 + 1) 30 i0 _ 3 32 Tryd.underlying23 hi0 hz0 hz1 hz2 rfl (by decide) (.slice A acc.length c) acc.length (acc.flatMap Tok.cells) rfl (((own_ext (own_moved hown (by simp)) _ _).alloc _).alloc _) ⟨yh.size + (xh.size + (w.heap.size + 1 + 1 + 1)) + 1, 0, none⟩ 1 1 [.int .i64 0, .string (bs []), .int .i64 a] rfl rfl ?c1 ?c2 ?c3 ?c4 ?c5 ?_
             case c1 => exact news_alloc _ #[_, _, _] _ _ (by simp [wext_size])
             case c2 => simp [Value.oneCell']
             case c3 => simp only [maxLen]; omega
             case c4 => omega
             case c5 => simp [wext_size]; omega
             intro v' w1 hown1 hgrow _
             have hbox : w1.cell? ⟨yh.size + (xh.size + (w.heap.size + 1 + 1 + 1)), 0, none⟩ = some (.int .i64 0) := hgrow.cell (by
               rw [World.cell?_alloc_past _ _ _ (by simp [wext_size]), World.cell?_alloc_at _ _ _ _ (by simp [wext_size])]; rfl) (fun e => by have := hown.lt _ e.symm; simp [wext_size] at this; omega)
             obtain ⟨gg, cap, rfl, _, _⟩ := hown1.form (by omega)
             obtain ⟨zh, zd, rfl⟩ : Grw (((w.alloc (.cells #[.int .i64 0, .int .i64 0] 26)).alloc (.cells #[.string s] 9)).alloc (.cells #[.int .i64 a] 3)) w1 := Grw.grown (by first | exact Grw.refl _ | (repeat (first | exact Grw.refl _ | apply Grw.ext | apply Grw.alloc | apply Grw.drewN | apply Grw.drew)); done) hgrow (fun k hk => by have := hown.lt k hk; simp; omega)))
        exact bodyPost_ret (v := .tuple #[.slice (some ⟨gg, 0, none⟩) (acc.length + 1) cap, .agg #[.int .i64 0, .int .i64 0]]) (by simp [results, Tryd.results7, go_sem]) rfl ⟨some ⟨gg, 0, none⟩, cap, by rw [HT.out, List.length_append]; rfl, by first | exact Grw.refl _ | (repeat (first | exact Grw.refl _ | apply Grw.ext | apply Grw.alloc | apply Grw.drewN | apply Grw.drew)); done, by
                  rw [HT.out, List.length_append, List.flatMap_append]; exact own_base hown1 (by omega)⟩
      · have HT := Lib.hid (ht.trans htk)
        have he0 : ((e : Int) != 0) = true := by rcases he with rfl | rfl <;> rfl
        clear ht htk he
        go_wp2_with (first
          | (go_at_call 22; refine (tNext_any s at_ (w.heap.size + 1 + 1) (w.heap.size + 1) _ (by repeat (first | exact hw | apply Wd.ext | apply Wd.alloc | apply Wd.drewN | apply Wd.drew)) (by omega) (blk_ext' (block_alloc _ _ _ (by simp))) (by simp [go_sem]) (by simp only [wext_size, World.size_alloc]; omega) (by omega) hs hat k e p a tx hn (by omega) (by omega)).mono ?_; rintro e w' ⟨rfl, hq⟩; obtain ⟨yh, yd, rfl⟩ := hq))
        go_region
        go_wp2
        exact bodyPost_ret (v := .tuple #[.slice none 0 0, .agg #[.int .i64 e, .int .i64 a]]) (by simp [results, Tryd.results7, go_sem]) rfl ⟨none, 0, by rw [HT.out]; rfl, by first | exact Grw.refl _ | (repeat (first | exact Grw.refl _ | apply Grw.ext | apply Grw.alloc | apply Grw.drewN | apply Grw.drew)); done, by rw [HT.out]; exact World.ownsRow_nil _ _ _ _⟩
      · have HT := Lib.hid (ht.trans htk)
        have hk0 : ((k : Int) == 0) = false := by simp; omega
        have hpl : p ≤ s.size := by have := HS.out; omega
        clear ht htk
        go_wp2_with (first
          | (go_at_call 22; refine (tNext_any s at_ (w.heap.size + 1 + 1) (w.heap.size + 1) _ (by repeat (first | exact hw | apply Wd.ext | apply Wd.alloc | apply Wd.drewN | apply Wd.drew)) (by omega) (blk_ext' (block_alloc _ _ _ (by simp))) (by simp [go_sem]) (by simp only [wext_size, World.size_alloc]; omega) (by omega) hs hat k 0 p a tx hn (by omega) (by omega)).mono ?_; rintro e w' ⟨rfl, hq⟩; obtain ⟨yh, yd, rfl⟩ := hq)
          | (at_builtin
             refine wpList_append_own _ rfl _ _ 23 rfl (w.heap.size + 1 + 1 + 1) 30 i0 _ 3 32 Tryd.underlying23 hi0 hz0 hz1 hz2 rfl (by decide) (.slice A acc.length c) acc.length (acc.flatMap Tok.cells) rfl (((own_ext (own_moved hown (by simp)) _ _).alloc _).alloc _) ⟨yh.size + (xh.size + (w.heap.size + 1 + 1 + 1)) + 1, 0, none⟩ 1 1 [.int .i64 k, .string (bs tx), .int .i64 a] rfl rfl ?c1 ?c2 ?c3 ?c4 ?c5 ?_
             case c1 => exact news_alloc _ #[_, _, _] _ _ (by simp [wext_size])
             case c2 => simp [Value.oneCell']
             case c3 => simp only [maxLen]; omega
             case c4 => omega
             case c5 => simp [wext_size]; omega
             intro v' w1 hown1 hgrow _
             have hbox : w1.cell? ⟨yh.size + (xh.size + (w.heap.size + 1 + 1 + 1)), 0, none⟩ = some (.int .i64 k) := hgrow.cell (by
               rw [World.cell?_alloc_past _ _ _ (by simp [wext_size]), World.cell?_alloc_at _ _ _ _ (by simp [wext_size])]; rfl) (fun e => by have := hown.lt _ e.symm; simp [wext_size] at this; omega)
             obtain ⟨gg, cap, rfl, _, _⟩ := hown1.form (by omega)
             obtain ⟨zh, zd, rfl⟩ : Grw (((w.alloc (.cells #[.int .i64 0, .int .i64 0] 26)).alloc (.cells #[.string s] 9)).alloc (.cells #[.int .i64 p] 3)) w1 := Grw.grown (by first | exact Grw.refl _ | (repeat (first | exact Grw.refl _ | apply Grw.ext | apply Grw.alloc | apply Grw.drewN | apply Grw.drew)); done) hgrow (fun k hk => by have := hown.lt k hk; simp; omega)))
        have hrel2 : ∃ (at2 f2 c2 : Nat) (A2 : Option Addr) (acc2 : List Tok) (xh2 : Array Obj) (xd2 : Nat), at2 ≤ s.size ∧ s.size - at2 < f2 ∧
            tokOf s.data.toList = tokF f2 (at2 + sk false (s.data.toList.drop at2)) (s.data.toList.drop (at2 + sk false (s.data.toList.drop at2))) acc2 ∧ acc2.length ≤ at2 ∧ Value.slice (some ⟨gg, 0, none⟩) (acc.length + 1) cap = .slice A2 acc2.length c2 ∧
            wext (((w.alloc (.cells #[.int .i64 0, .int .i64 0] 26)).alloc (.cells #[.string s] 9)).alloc (.cells #[.int .i64 p] 3)) zh zd = wext (((w.alloc (.cells #[.int .i64 0, .int .i64 0] 26)).alloc (.cells #[.string s] 9)).alloc (.cells #[.int .i64 at2] 3)) xh2 xd2 ∧
            (wext (((w.alloc (.cells #[.int .i64 0, .int .i64 0] 26)).alloc (.cells #[.string s] 9)).alloc (.cells #[.int .i64 p] 3)) zh zd).ownsRow (w.heap.size + 1 + 1 + 1) 30 3 (.slice A2 acc2.length c2) acc2.length (acc2.flatMap Tok.cells) :=
          ⟨p, f, cap, some ⟨gg, 0, none⟩, acc ++ [⟨k, tx, a⟩], zh, zd, hpl, by omega, HT.out, by simp; omega, by rw [List.length_append]; rfl, rfl, by rw [List.length_append, List.flatMap_append]; exact hown1⟩
        go_roundw
        case rel => first | exact hrel2 | ((repeat apply Exists.intro); exact ⟨hrel2, rfl⟩)
        case measure =>
          rw [cellN_ext _ _ _ _ _ _ (by simp), cellN_ext _ _ _ _ _ _ (by simp)]
          omega
end Go.Proofs.YtnindeoemfgkeaaRRRRDoor
