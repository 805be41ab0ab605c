/- The contract of demesneref03.Of: which tokens any text has, or what is wrong with it, and where; nothing that was there is written. -/
import Derived.Test.YtnindeoemfgkeaaRRRRDoorRef03
import Derived.Outline
import Derived.Maps.AppendAt
import Derived.Deep.AppendLies
namespace Go.Proofs.YtnindeoemfgkeaaRRRRDoor
open Go.RowKit

/-- A token. -/
structure Tok where
  kind : Int
  text : List UInt8
  pos : Int
def Tok.cells (t : Tok) : List Value := [.int .i64 t.kind, .string (bs t.text), .int .i64 t.pos]
theorem Tok.len (t : Tok) : t.cells.length = 3 := rfl
def badT (t : Nat × List UInt8) : Bool := (t.1 == 1 && decide (20 < t.2.length)) || (t.1 == 2 && (numL t.2).isNone)
/-- The tokens from a place on, behind some; the error and its place; so many rounds at most. -/
def tokF : Nat → Nat → List UInt8 → List Tok → List Tok × Nat × Nat
  | 0, _, _, acc => (acc, 0, 0)
  | f + 1, at_, l, acc =>
    if l = [] then (acc ++ [⟨0, [], at_⟩], 0, 0)
    else if (oneL l).1 = 0 then ([], 1, at_)
    else if badT (oneL l) then ([], 2, at_)
    else tokF f (at_ + (oneL l).2.length + sk false (l.drop (oneL l).2.length)) ((l.drop (oneL l).2.length).drop (sk false (l.drop (oneL l).2.length))) (acc ++ [⟨(oneL l).1, (oneL l).2, at_⟩])
def tokOf (l : List UInt8) : List Tok × Nat × Nat :=
  if 16384 < l.length then ([], 6, 0) else tokF (l.length + 1) (sk false l) (l.drop (sk false l)) []
theorem signL_le (l : List UInt8) : (signL l).length ≤ l.length := by
  unfold signL
  split
  · rw [List.length_take]; omega
  · cases l with
    | nil => exact Nat.le_refl _
    | cons c r => dsimp only; split <;> simp
theorem oneL_le (l : List UInt8) : (oneL l).2.length ≤ l.length := by
  unfold oneL
  cases l with
  | nil => exact Nat.le_refl _
  | cons c r =>
    dsimp only
    split
    · simp only [List.length_take]; omega
    · split
      · simp only [List.length_take]; omega
      · split
        · simp
        · exact signL_le _
theorem twl_pos {p : UInt8 → Bool} {c : UInt8} {r : List UInt8} (h : p c = true) : 0 < ((c :: r).take (twl p (c :: r))).length := by
  rw [List.length_take, twl_yes h]; simp; omega
theorem oneL_pos (l : List UInt8) (h : (oneL l).1 ≠ 0) : 0 < (oneL l).2.length := by
  cases l with
  | nil => simp [oneL] at h
  | cons c r =>
    unfold oneL at h ⊢
    dsimp only at h ⊢
    split
    · rename_i hc; exact twl_pos (by simp [innerB, hc])
    · rename_i hc
      rw [if_neg hc] at h
      split
      · rename_i hd; exact twl_pos hd
      · rename_i hd
        rw [if_neg hd] at h
        split
        · rename_i hs; rw [if_pos hs] at h; simp at h
        · rename_i hs; exact List.length_pos_iff.2 hs
theorem info_Token : (Tryd.prog.info? 30).map (fun i => (i.zero, i.size, i.bytes)) = some (some (.agg #[.int .i64 0, .string ⟨#[]⟩, .int .i64 0]), 3, 32) := by kernel_rfl

def OfPost (s : ByteArray) (w : World) (e : Ending) (w' : World) : Prop :=
  ∃ A c, e = .returned (.tuple #[.slice A (tokOf s.data.toList).1.length c, .agg #[.int .i64 (tokOf s.data.toList).2.1, .int .i64 (tokOf s.data.toList).2.2]]) ∧ Grw w w' ∧
    w'.ownsRow w.heap.size 30 3 (.slice A (tokOf s.data.toList).1.length c) (tokOf s.data.toList).1.length ((tokOf s.data.toList).1.flatMap Tok.cells)
set_option maxHeartbeats 4000000 in
set_option maxRecDepth 100000 in
theorem r03Of_any (s : ByteArray) (w : World) (hS : s.size ≤ 9223372036854775807) : Calls Tryd.prog 8 #[.string s] w (OfPost s w) := by
  have hsz := size_eq s
  by_cases hbig : 16384 < s.size
  · have HO := Lib.hid (show tokOf s.data.toList = ([], 6, 0) by unfold tokOf; rw [if_pos (by omega)])
    have f1 : (16384 : Int) < (s.size : Int) := by omega
    have HS := Lib.hid hsz
    clear hsz
    go_enter Tryd.func8, Tryd.ntmps8
    go_wp2
    exact bodyPost_ret (v := .tuple #[.slice none 0 0, .agg #[.int .i64 6, .int .i64 0]]) (by simp [results, Tryd.results8, go_sem]) rfl ⟨none, 0, by rw [HO.out]; rfl, (Grw.refl _).alloc _, by rw [HO.out]; exact World.ownsRow_nil _ _ _ _⟩
  · have HO := Lib.hid (show tokOf s.data.toList = tokF (s.size + 1) (sk false s.data.toList) (s.data.toList.drop (sk false s.data.toList)) [] by unfold tokOf; rw [if_neg (by omega)]; rfl)
    have hs : s.size ≤ 1000000000 := by omega
    have f1 : (s.size : Int) ≤ 16384 := by omega
    have hsk := sk_le s.data.toList false
    rw [← hsz] at hsk
    have HS := Lib.hid hsz
    clear hsz
    obtain ⟨i0, hi0, hz0, hz1, hz2⟩ := info_parts info_Token
    go_enter Tryd.func8, Tryd.ntmps8
    go_wp2_with (go_at_call 16; refine (r03skip_any _ _ hs).mono ?_; rintro e w' ⟨rfl, rfl⟩)
    go_loopw [4, 5] (fun out i wr => ∃ (at_ f c : Nat) (A : Option Addr) (acc : List Tok) (xh : Array Obj) (xd : Nat), at_ ≤ s.size ∧ i = .int .i64 at_ ∧ s.size - at_ < f ∧
        tokOf s.data.toList = tokF f at_ (s.data.toList.drop at_) acc ∧ acc.length ≤ at_ ∧ out = .slice A acc.length c ∧ wr = wext (w.alloc (.cells #[.int .i64 0, .int .i64 0] 26)) xh xd ∧
        wr.ownsRow (w.heap.size + 1) 30 3 (.slice A acc.length c) acc.length (acc.flatMap Tok.cells)) (fun _ i _ => s.size - (intOf i).toNat)
    case atStart => exact ⟨sk false s.data.toList, s.size + 1, 0, none, [], #[], w.drawn, hsk, rfl, by omega, HO.out, Nat.zero_le _, rfl, wext_self _, World.ownsRow_nil _ _ _ _⟩
    case round =>
      obtain ⟨at_, f, c, A, acc, xh, xd, hat, rfl, hf, ht, hacc, rfl, rfl, hown⟩ := hrel
      obtain ⟨f, rfl⟩ : ∃ g, f = g + 1 := ⟨f - 1, by omega⟩
      by_cases hlt : at_ < s.size
      · have hne : s.data.toList.drop at_ ≠ [] := by rw [drop_get s at_ hlt]; simp
        have hle := oneL_le (s.data.toList.drop at_)
        have hpos := oneL_pos (s.data.toList.drop at_)
        obtain ⟨k, t, ho⟩ : ∃ k t, oneL (s.data.toList.drop at_) = (k, t) := ⟨_, _, rfl⟩
        simp only [tokF, if_neg hne, ho] at ht
        rw [ho, List.length_drop, ← HS.out] at hle
        rw [ho] at hpos
        dsimp only at hle hpos
        have HX := Lib.hid (show oneL (s.extract at_ s.size).data.toList = (k, t) by rw [extract_end, ho])
        have hxs : (s.extract at_ s.size).size = s.size - at_ := by rw [size_eq, extract_end, List.length_drop, ← size_eq]
        have hx1 : (s.extract at_ s.size).size ≤ 1000000000 := by omega
        have hx0 : 0 < (s.extract at_ s.size).size := by omega
        have f2 : (at_ : Int) ≤ (s.size : Int) := by omega
        have HT := Lib.hid ht
        have HXS := Lib.hid hxs
        clear hxs ho hne ht
        by_cases hk0 : k = 0
        · have HT2 := Lib.hid (show tokOf s.data.toList = ([], 1, at_) by rw [HT.out, if_pos hk0])
          subst hk0
          go_wp2_with (go_at_call 17; refine (r03one_any _ _ hx1 hx0).mono ?_; rintro e w' ⟨rfl, hq⟩; obtain ⟨zh, zd, rfl⟩ := hq; rw [HX.out, tokV])
          exact bodyPost_ret (v := .tuple #[.slice none 0 0, .agg #[.int .i64 1, .int .i64 at_]]) (by simp [results, Tryd.results8, go_sem]) rfl ⟨none, 0, by rw [HT2.out]; rfl, by first | exact Grw.refl _ | (repeat (first | exact Grw.refl _ | apply Grw.ext | apply Grw.alloc | apply Grw.drewN | apply Grw.drew)); done, by rw [HT2.out]; exact World.ownsRow_nil _ _ _ _⟩
        · have hp := hpos hk0
          have hn : (bs t).size ≤ 1000000000 := by rw [bs_size]; omega
          obtain ⟨n, b, hnv, hb⟩ : ∃ (n : Int) (b : Bool), numV t = .tuple #[.int .i64 n, .bool b] ∧ b = (numL t).isSome := by
            unfold numV; cases numL t <;> exact ⟨_, _, rfl, rfl⟩
          have HNV := Lib.hid (show numV (bs t).data.toList = .tuple #[.int .i64 n, .bool b] from hnv)
          have hcase : (((k : Int) == 1) = true ∧ 20 < (t.length : Int) ∧ badT (k, t) = true) ∨ (((k : Int) == 1) = false ∧ ((k : Int) == 2) = true ∧ b = false ∧ badT (k, t) = true) ∨
              ((((k : Int) == 1) = true ∧ (t.length : Int) ≤ 20 ∧ ((k : Int) == 2) = false ∨ ((k : Int) == 1) = false ∧ ((k : Int) == 2) = true ∧ b = true ∨ ((k : Int) == 1) = false ∧ ((k : Int) == 2) = false) ∧ badT (k, t) = false) := by
            subst hb
            by_cases e1 : k = 1
            · subst e1
              by_cases e20 : 20 < t.length
              · exact .inl ⟨rfl, by omega, by simp [badT, e20]⟩
              · exact .inr (.inr ⟨.inl ⟨rfl, by omega, rfl⟩, by simp [badT, e20]⟩)
            · have n1 : ((k : Int) == 1) = false := by simp; omega
              by_cases e2 : k = 2
              · subst e2
                cases hq : numL t
                · exact .inr (.inl ⟨n1, rfl, rfl, by simp [badT, hq]⟩)
                · exact .inr (.inr ⟨.inr (.inl ⟨n1, rfl, rfl⟩), by simp [badT, hq]⟩)
              · exact .inr (.inr ⟨.inr (.inr ⟨n1, by simp; omega⟩), by simp [badT, e1, e2]⟩)
          clear hnv hb hpos
          have b0 : ((k : Int) == 0) = false := by simp; omega
          rcases hcase with ⟨c1, c2, hbad⟩ | ⟨c1, c2, rfl, hbad⟩ | ⟨hok, hbad⟩
          · have HT2 := Lib.hid (show tokOf s.data.toList = ([], 2, at_) by rw [HT.out, if_neg hk0, if_pos hbad])
            clear hbad
            go_wp2_with (first
              | (go_at_call 17; refine (r03one_any _ _ hx1 hx0).mono ?_; rintro e w' ⟨rfl, hq⟩; obtain ⟨zh, zd, rfl⟩ := hq; rw [HX.out, tokV])
              | (go_at_call 18; refine (r02Number_any _ _ hn).mono ?_; rintro e w' ⟨rfl, rfl⟩; rw [HNV.out]))
            exact bodyPost_ret (v := .tuple #[.slice none 0 0, .agg #[.int .i64 2, .int .i64 at_]]) (by simp [results, Tryd.results8, go_sem]) rfl ⟨none, 0, by rw [HT2.out]; rfl, by first | exact Grw.refl _ | (repeat (first | exact Grw.refl _ | apply Grw.ext | apply Grw.alloc | apply Grw.drewN | apply Grw.drew)); done, by rw [HT2.out]; exact World.ownsRow_nil _ _ _ _⟩
          · have HT2 := Lib.hid (show tokOf s.data.toList = ([], 2, at_) by rw [HT.out, if_neg hk0, if_pos hbad])
            clear hbad
            go_wp2_with (first
              | (go_at_call 17; refine (r03one_any _ _ hx1 hx0).mono ?_; rintro e w' ⟨rfl, hq⟩; obtain ⟨zh, zd, rfl⟩ := hq; rw [HX.out, tokV])
              | (go_at_call 18; refine (r02Number_any _ _ hn).mono ?_; rintro e w' ⟨rfl, rfl⟩; rw [HNV.out]))
            exact bodyPost_ret (v := .tuple #[.slice none 0 0, .agg #[.int .i64 2, .int .i64 at_]]) (by simp [results, Tryd.results8, go_sem]) rfl ⟨none, 0, by rw [HT2.out]; rfl, by first | exact Grw.refl _ | (repeat (first | exact Grw.refl _ | apply Grw.ext | apply Grw.alloc | apply Grw.drewN | apply Grw.drew)); done, by rw [HT2.out]; exact World.ownsRow_nil _ _ _ _⟩
          · have HT2 := Lib.hid (show tokOf s.data.toList = tokF f (at_ + t.length + sk false (s.data.toList.drop (at_ + t.length))) (s.data.toList.drop (at_ + t.length + sk false (s.data.toList.drop (at_ + t.length)))) (acc ++ [⟨k, t, at_⟩]) by
              rw [HT.out, if_neg hk0, if_neg (by rw [hbad]; simp), List.drop_drop, List.drop_drop])
            clear hbad HT
            rcases hok with ⟨c1, c2, c3⟩ | ⟨c1, c2, rfl⟩ | ⟨c1, c2⟩
            all_goals
              have f3 : (at_ : Int) + (t.length : Int) ≤ (s.size : Int) := by omega
              have hx2 : (s.extract (at_ + t.length) s.size).size ≤ 1000000000 := by rw [size_eq, extract_end, List.length_drop, ← size_eq]; omega
              have HX2 := Lib.hid (extract_end s (at_ + t.length))
              have hskb := sk_le (s.data.toList.drop (at_ + t.length)) false
              rw [List.length_drop, ← HS.out] at hskb
              go_wp2_with (first
                | (go_at_call 17; refine (r03one_any _ _ hx1 hx0).mono ?_; rintro e w' ⟨rfl, hq⟩; obtain ⟨zh, zd, rfl⟩ := hq; rw [HX.out, tokV])
                | (go_at_call 18; refine (r02Number_any _ _ hn).mono ?_; rintro e w' ⟨rfl, rfl⟩; rw [HNV.out])
                | (go_at_call 16; refine (r03skip_any _ _ hx2).mono ?_; rintro e w' ⟨rfl, rfl⟩; rw [HX2.out])
                | (at_builtin
                   refine wpList_append_own _ rfl _ _ 23 rfl (w.heap.size + 1) 30 i0 _ 3 32 Tryd.underlying23 hi0 hz0 hz1 hz2 rfl (by decide) (.slice A acc.length c) acc.length (acc.flatMap Tok.cells) rfl (((own_ext hown _ _).alloc _).alloc _) ⟨zh.size + (xh.size + (w.heap.size + 1)) + 1, 0, none⟩ 1 1 [.int .i64 k, .string (bs t), .int .i64 at_] rfl rfl ?c1 ?c2 ?c3 ?c4 ?c5 ?_
                   case c1 => exact news_alloc _ #[_, _, _] _ _ (by simp [wext_size])
                   case c2 => simp [Value.oneCell']
                   case c3 => simp only [maxLen]; omega
                   case c4 => omega
                   case c5 => simp [wext_size]; omega
                   intro v' w1 hown1 hgrow _
                   have hbox : w1.cell? ⟨zh.size + (xh.size + (w.heap.size + 1)), 1, none⟩ = some (.string (bs t)) := hgrow.cell (by
                     rw [World.cell?_alloc_past _ _ _ (by simp [wext_size]), World.cell?_alloc_at _ _ _ _ (by simp [wext_size])]; rfl) (fun e => by have := hown.lt _ e.symm; simp [wext_size] at this; omega)
                   obtain ⟨yh, yd, rfl⟩ : Grw (w.alloc (.cells #[.int .i64 0, .int .i64 0] 26)) w1 := (((((Grw.refl _).ext _ _).ext _ _).alloc _).alloc _).grown hgrow (fun k hk => by have := hown.lt k hk; simp; omega)))
              obtain ⟨g, cap, hv, _, _⟩ := hown1.form (by omega)
              go_roundw
              case rel => exact ⟨at_ + t.length + sk false (s.data.toList.drop (at_ + t.length)), f, cap, some ⟨g, 0, none⟩, acc ++ [⟨k, t, at_⟩], yh, yd, by omega, by go_num, by omega, HT2.out, by simp; omega, by rw [hv, List.length_append]; rfl, rfl, by
                rw [hv] at hown1; rw [List.length_append, List.flatMap_append]; exact hown1⟩
              case measure => simp [intOf]; omega
      · obtain rfl : at_ = s.size := by omega
        have hd := drop_end s _ (Nat.le_refl s.size)
        rw [hd] at ht
        have HT := Lib.hid (show tokOf s.data.toList = (acc ++ [⟨0, [], s.size⟩], 0, 0) by rw [ht]; rfl)
        clear ht hd
        go_wp2_with (first
          | (at_builtin
             refine wpList_append_own _ rfl _ _ 23 rfl (w.heap.size + 1) 30 i0 _ 3 32 Tryd.underlying23 hi0 hz0 hz1 hz2 rfl (by decide) (.slice A acc.length c) acc.length (acc.flatMap Tok.cells) rfl (hown.alloc _) ⟨xh.size + (w.heap.size + 1), 0, none⟩ 1 1 [.int .i64 0, .string ⟨#[]⟩, .int .i64 s.size] rfl rfl ?c1 ?c2 ?c3 ?c4 ?c5 ?_
             case c1 => exact news_alloc _ #[_, _, _] _ _ (by simp [wext_size])
             case c2 => simp [Value.oneCell']
             case c3 => simp only [maxLen]; omega
             case c4 => omega
             case c5 => simp [wext_size]; omega
             intro v' w1 hown1 hgrow _
             obtain ⟨yh, yd, rfl⟩ : Grw (w.alloc (.cells #[.int .i64 0, .int .i64 0] 26)) w1 := ((((Grw.refl _).ext _ _).alloc _).grown hgrow (fun k hk => by have := hown.lt k hk; simp; omega))))
        obtain ⟨g, cap, hv, _, _⟩ := hown1.form (by omega)
        have HV := Lib.hid hv
        clear hv
        exact bodyPost_ret (v := .tuple #[v', .agg #[.int .i64 0, .int .i64 0]]) (by simp [results, Tryd.results8, go_sem]) rfl ⟨some ⟨g, 0, none⟩, cap, by rw [HT.out, HV.out, List.length_append]; rfl, ((Grw.refl _).alloc _).ext _ _, by
                  rw [HT.out, List.length_append, List.flatMap_append]; rw [HV.out] at hown1; exact own_base hown1 (by omega)⟩
end Go.Proofs.YtnindeoemfgkeaaRRRRDoor
