/- The contract of iso.Match: which events match, and by which numbers; nothing that was there is written. Conditions: at most 100 events. -/
import Derived.Test.YtgjpbhgobjlneaaIso4
namespace Go.Proofs.Ytgjpbhgobjlneaa
open Go.RowKit
theorem evL_len {ps qs : List (Int × Int)} {a b : Ev} (h : evL ps a b = some qs) : qs.length ≤ ps.length + 7 := by
  unfold evL at h
  split at h
  · have h1 := foldH_len h
    have h2 := nums_le a
    rw [List.length_zip] at h1
    omega
  · cases h
theorem foldE_len : ∀ {l : List (Ev × Ev)} {ps qs : List (Int × Int)}, foldE ps l = some qs → qs.length ≤ ps.length + 7 * l.length
  | [], ps, qs, h => by simp [foldE] at h; subst h; simp
  | (a, b) :: r, ps, qs, h => by
    simp only [foldE, Option.bind_eq_some_iff] at h
    obtain ⟨rs, h1, h2⟩ := h
    have := evL_len h1
    have := foldE_len h2
    simp; omega
theorem zip_take' {α β : Type} (xs : List α) (ys : List β) (k : Nat) (x : α) (y : β) (hx : xs[k]? = some x) (hy : ys[k]? = some y) : (xs.zip ys).take (k + 1) = (xs.zip ys).take k ++ [(x, y)] := by
  have : (xs.zip ys)[k]? = some (x, y) := by rw [List.getElem?_zip_eq_some]; exact ⟨hx, hy⟩
  obtain ⟨h1, h2⟩ := List.getElem?_eq_some_iff.1 this
  rw [List.take_succ_eq_append_getElem h1, h2]
def MatchPost (a b : List Ev) (w : World) (e : Ending) (w' : World) : Prop :=
  ∃ A c, e = .returned (.tuple #[.slice A ((matchL a b).getD []).length c, .bool (matchL a b).isSome]) ∧ Grw w w' ∧ w'.ownsRow w.heap.size 29 2 (.slice A ((matchL a b).getD []).length c) ((matchL a b).getD []).length (((matchL a b).getD []).flatMap pairC)
theorem events_any (B g : Nat) (ps : List (Int × Int)) (a b : Ev) (w : World) (hB : B ≤ w.heap.size) (ha : a.ok) (hb : b.ok) (hs : St B w g ps) (hn : ps.length ≤ 900000) :
    Calls Try.prog 31 #[.pointer (some ⟨g, 0, none⟩), .agg a.arr, .agg b.arr] w (EvPost B w g ps a b) := by
  cases h : alikeE a b
  · exact events_no B g ps a b w hB h
  · exact events_yes B g ps a b w hB h ha hb hs hn
theorem st_new (w : World) : St w.heap.size (((w.alloc (.map #[] 0)).alloc (.map #[] 0)).alloc (.cells #[.map (some w.heap.size), .map (some (w.heap.size + 1)), .slice none 0 0] 58)) (w.heap.size + 2) [] := by
  have e1 : thF [] = fun _ => none := rfl
  have e2 : bkF [] = fun _ => none := rfl
  refine ⟨w.heap.size, w.heap.size + 1, none, 0, block_alloc _ _ _ (by simp), ?_, ?_, World.ownsRow_nil _ _ _ _, by omega, by omega, by omega, by omega, by omega, by omega, by simp; omega⟩
  · rw [e1]; exact ((IM.made w Try.prog 3).alloc _).alloc _
  · rw [e2]
    have := (IM.made (w.alloc (.map #[] 0)) Try.prog 3).alloc (.cells #[.map (some w.heap.size), .map (some (w.heap.size + 1)), .slice none 0 0] 58)
    rw [World.size_alloc] at this
    exact this
section
variable (a b : List Ev) (A1 A2 : Option Addr) (c1 c2 : Nat) (w : World)
set_option maxRecDepth 100000 in
set_option maxHeartbeats 1000000 in
theorem iMatch_any (h1 : SlB Ev.cells 10 w w.heap.size A1 a) (h2 : SlB Ev.cells 10 w w.heap.size A2 b) (hok : ∀ e ∈ a, e.ok) (hok2 : ∀ e ∈ b, e.ok) (hn : a.length ≤ 100) :
    Calls Try.prog 10 #[.slice A1 a.length c1, .slice A2 b.length c2] w (MatchPost a b w) := by
  by_cases hl : a.length = b.length
  · have hl' : ((a.length : Int) != (b.length : Int)) = false := by simp; omega
    have HM := Lib.hid (show matchL a b = foldE [] (a.zip b) by unfold matchL; rw [if_pos hl])
    have HL := Lib.hid hl
    have HO1 := Lib.hid hok
    have HO2 := Lib.hid hok2
    have hmm := @run_makeMap Try.prog
    clear hl hok hok2
    go_enter Try.func10, Try.ntmps10
    go_wp2
    obtain ⟨W0, hW0⟩ : ∃ W0, ((w.alloc (.map #[] 0)).alloc (.map #[] 0)).alloc (.cells #[.map (some w.heap.size), .map (some (w.heap.size + 1)), .slice none 0 0] 58) = W0 := ⟨_, rfl⟩
    have HS0 := Lib.hid (show St w.heap.size W0 (w.heap.size + 2) [] by rw [← hW0]; exact st_new w)
    have HB0 := Lib.hid (show Below w.heap.size w W0 by rw [← hW0]; exact (((Below.refl _ w).alloc (Nat.le_refl _) _).alloc (by simp) _).alloc (by simp; omega) _)
    rw [hW0]
    clear hW0 hmm
    go_loopw [7, 19] (fun _ i wr => ∃ (k : Nat) (qs : List (Int × Int)), k ≤ a.length ∧ i = .int .i64 k ∧ foldE [] ((a.zip b).take k) = some qs ∧ St w.heap.size wr (w.heap.size + 2) qs ∧ Below w.heap.size w wr) (fun _ i _ => a.length - (intOf i).toNat)
    case atStart => exact ⟨0, [], Nat.zero_le _, rfl, rfl, HS0.out, HB0.out⟩
    case round =>
      obtain ⟨k, qs, hk, rfl, hf, hst, hbw⟩ := hrel
      by_cases hlt : k < a.length
      · obtain ⟨x, hx⟩ : ∃ o, a[k]? = some o := ⟨_, List.getElem?_eq_getElem hlt⟩
        obtain ⟨y, hy⟩ : ∃ o, b[k]? = some o := ⟨_, List.getElem?_eq_getElem (HL.out ▸ hlt)⟩
        obtain ⟨b1, ob, rfl, _, hbl, hc⟩ := (h1.grw (.of_below hbw)).at_ hx
        obtain ⟨b2, ob', rfl, _, hbl', hc'⟩ := (h2.grw (.of_below hbw)).at_ hy
        have e0 := hc 0 _ rfl
        have e1 := hc 1 _ rfl
        have e2 := hc 2 _ rfl
        have e3 := hc 3 _ rfl
        have e4 := hc 4 _ rfl
        have e5 := hc 5 _ rfl
        have e6 := hc 6 _ rfl
        have e7 := hc 7 _ rfl
        have e8 := hc 8 _ rfl
        have e9 := hc 9 _ rfl
        simp only [Nat.add_zero] at e0
        have d0 := hc' 0 _ rfl
        have d1 := hc' 1 _ rfl
        have d2 := hc' 2 _ rfl
        have d3 := hc' 3 _ rfl
        have d4 := hc' 4 _ rfl
        have d5 := hc' 5 _ rfl
        have d6 := hc' 6 _ rfl
        have d7 := hc' 7 _ rfl
        have d8 := hc' 8 _ rfl
        have d9 := hc' 9 _ rfl
        simp only [Nat.add_zero] at d0
        have f3 : (k : Int) < (a.length : Int) := by omega
        have f4 : (k : Int) < (b.length : Int) := by have := HL.out; omega
        have HWX := Lib.hid (HO1.out x (List.mem_of_getElem? hx))
        have HWY := Lib.hid (HO2.out y (List.mem_of_getElem? hy))
        have HQ := Lib.hid (show qs.length ≤ 900000 by have := foldE_len hf; rw [List.length_take] at this; simp at this; omega)
        have HZ : Hid (foldE [] ((a.zip b).take (k + 1)) = evL qs x y) := Lib.hid (by rw [zip_take' a b k x y hx hy, foldE_snoc, hf]; rfl)
        have HST := Lib.hid hst
        have HBW := Lib.hid hbw
        have hsz := hbw.size
        have HEQ : Hid (evL qs x y = none → matchL a b = none) := Lib.hid (fun hh => by
          rw [HM.out, ← List.take_append_drop (k + 1) (a.zip b)]; exact foldE_none _ _ (by rw [HZ.out, hh]))
        clear hst hbw hf hx hy hc hc' h1 h2
        go_wp2
        refine wp_tail 9 (by kernel_rfl) (by kernel_rfl) ?_
        simp only [List.take_succ_cons, List.take_zero, List.drop_succ_cons, List.drop_zero]
        repeat (go_big_quiet_step (fail))
        refine wpQuiet_nil ?_
        go_wp2_with fail
        refine (events_any w.heap.size (w.heap.size + 2) qs x y wr.drew hsz HWX.out HWY.out HST.out HQ.out).mono ?_
        rintro e w3 ⟨rfl, hB3, hK3, hS3⟩
        cases hh : evL qs x y with
        | none =>
          have HE := Lib.hid (HEQ.out hh)
          have H3 : Hid (Below w.heap.size wr w3) := Lib.hid ⟨hB3.os, hB3.tape, hB3.output, hB3.size, hB3.block⟩
          clear hh hB3 hK3 hS3
          go_wp2
          exact bodyPost_ret (v := .tuple #[.slice none 0 0, .bool false]) (by simp [results, Try.results10, go_sem]) rfl ⟨none, 0, by rw [HE.out]; rfl, .of_below (HBW.out.trans H3.out), by rw [HE.out]; exact World.ownsRow_nil _ _ _ _⟩
        | some rs =>
          have HE := Lib.hid hh
          have H3 : Hid (Below w.heap.size wr w3 ∧ St w.heap.size w3 (w.heap.size + 2) rs) := Lib.hid ⟨⟨hB3.os, hB3.tape, hB3.output, hB3.size, hB3.block⟩, hS3 _ hh⟩
          clear hh hB3 hK3 hS3
          go_wp2
          go_roundw
          case rel => first | exact ⟨k + 1, rs, by omega, by go_num, by rw [HZ.out, HE.out], H3.out.2, HBW.out.trans H3.out.1⟩ | ((repeat apply Exists.intro); exact ⟨⟨k + 1, rs, by omega, by go_num, by rw [HZ.out, HE.out], H3.out.2, HBW.out.trans H3.out.1⟩, rfl⟩)
          case measure => simp [intOf]; omega
      · obtain rfl : k = a.length := by omega
        have HE : Hid (matchL a b = some qs) := Lib.hid (by rw [HM.out, ← hf, List.take_of_length_le (by rw [List.length_zip]; omega)])
        obtain ⟨bt, bb, A, c, hg, _, _, hown, _⟩ := hst
        have hc2 : wr.cell? ⟨w.heap.size + 2, 2, none⟩ = some (.slice A qs.length c) := by simp [World.cell?, hg]
        have HST := Lib.hid (And.intro hown hbw)
        clear hbw hf hg hown h1 h2
        go_wp2
        exact bodyPost_ret (v := .tuple #[.slice A qs.length c, .bool true]) (by simp [results, Try.results10, go_sem]) rfl ⟨A, c, by rw [HE.out]; rfl, .of_below HST.out.2, by rw [HE.out]; exact HST.out.1⟩
  · have hl' : ((a.length : Int) != (b.length : Int)) = true := by simp; omega
    have HM := Lib.hid (show matchL a b = none by unfold matchL; rw [if_neg hl])
    clear hl h1 h2
    go_enter Try.func10, Try.ntmps10
    go_wp2
    exact bodyPost_ret (v := .tuple #[.slice none 0 0, .bool false]) (by simp [results, Try.results10, go_sem]) rfl ⟨none, 0, by rw [HM.out]; rfl, by first | exact Grw.refl _ | (repeat (first | exact Grw.refl _ | apply Grw.ext | apply Grw.alloc | apply Grw.drewN | apply Grw.drew)); done, by rw [HM.out]; exact World.ownsRow_nil _ _ _ _⟩
end
end Go.Proofs.Ytgjpbhgobjlneaa
