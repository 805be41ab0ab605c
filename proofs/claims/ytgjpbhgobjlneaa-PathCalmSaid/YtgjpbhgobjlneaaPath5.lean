/- Contracts of slices.Sort on a row of the call's own, of the two functions that a search asks for what is next, and of path.spread with each. Conditions: fewer than a million objects. -/
import Derived.Test.YtgjpbhgobjlneaaPath4
import Derived.Test.YtgjpbhgobjlneaaShelfP
import Derived.Sort.OwnSortedInts
namespace Go.Proofs.Ytgjpbhgobjlneaa
open Go.RowKit Go.Sort
def sortL (xs : List Int) : List Int := xs.mergeSort fun x y => decide (x ≤ y)
theorem sortL_len (xs : List Int) : (sortL xs).length = xs.length := List.length_mergeSort xs
def sNamesL (l : List Cl) (a : Int) : List Int := sortL (namesL l a)
theorem sp_start (w : World) (lv : Value) (ar : Int) : Sp w.heap.size lv ar [] (((((w.alloc (.cells #[lv] 38)).alloc (.cells #[.int .i64 ar] 3)).alloc (.map #[] 0)).alloc (.cells #[.map (some (w.heap.size + 2))] 56)).alloc (.cells #[.slice none 0 0] 39)) := by
  have b0 := Boxed.new w 38 lv
  have b1 := Boxed.new (w.alloc (.cells #[lv] 38)) 3 (.int .i64 ar)
  have b2 := IM.made ((w.alloc (.cells #[lv] 38)).alloc (.cells #[.int .i64 ar] 3)) Try.prog 3
  have b3 := Boxed.new (((w.alloc (.cells #[lv] 38)).alloc (.cells #[.int .i64 ar] 3)).alloc (.map #[] 0)) 56 (.map (some (w.heap.size + 2)))
  have b4 := Boxed.new ((((w.alloc (.cells #[lv] 38)).alloc (.cells #[.int .i64 ar] 3)).alloc (.map #[] 0)).alloc (.cells #[.map (some (w.heap.size + 2))] 56)) 39 (.slice none 0 0)
  simp only [World.size_alloc] at b1 b2 b3 b4
  have e : byF [] = fun _ => none := rfl
  refine ⟨none, 0, ((((b0.alloc _).alloc _).alloc _).alloc _), (((b1.alloc _).alloc _).alloc _), b3.alloc _, b4, ?_, World.ownsRow_nil _ _ _ _, by simp⟩
  rw [e]; exact (b2.alloc _).alloc _
theorem small_wf {l : List Cl} {ar a : Int} (hn : l.length ≤ 1000000) (h : fitL l ar a = true) : (Lit.int .i64 a).wf = true := by
  simp only [fitL, Bool.and_eq_true] at h
  have := liveL_range h.2
  have e1 : IntKind.i64.min = -9223372036854775808 := rfl
  have e2 : IntKind.i64.max = 9223372036854775807 := rfl
  show (decide (IntKind.i64.min ≤ a) && decide (a ≤ IntKind.i64.max)) = true
  rw [e1, e2, Bool.and_eq_true, decide_eq_true_iff, decide_eq_true_iff]
  omega
theorem keysV_at {st : List (Int × Int)} {k : Nat} {p : Int × Int} (h : st[k]? = some p) : (keysV st)[k]? = some (.int .i64 p.1) := by simp [keysV, h]
theorem own_at {W : World} {base n c i : Nat} {A : Option Addr} {xs : List Value} {x : Value} {e : TypeId} (hr : W.ownsRow base e 1 (.slice A n c) n xs) (hx : xs[i]? = some x) (hi : i < n) : ∃ g, A = some ⟨g, 0, none⟩ ∧ base ≤ g ∧ W.cell? ⟨g, i, none⟩ = some x := by
  rcases hr.2 with ⟨h, h0⟩ | ⟨g, cap, cur, h, hb, _⟩
  · omega
  · injection h with e1 e2 e3
    subst e1; subst e3
    exact ⟨g, rfl, hb, (hr.cellAt i (by omega)).trans hx⟩
theorem own_grw {W W' : World} {base size k : Nat} {e : TypeId} {v : Value} {xs : List Value} (hr : W.ownsRow base e size v k xs) (g : Grw W W') : W'.ownsRow base e size v k xs := by
  obtain ⟨xh, xd, rfl⟩ := g; exact own_ext hr xh xd
theorem Sp.grw {s : Nat} {lv : Value} {ar : Int} {st : List (Int × Int)} {w w' : World} (h : Sp s lv ar st w) (g : Grw w w') : Sp s lv ar st w' := by
  obtain ⟨A, c, h0, h1, h3, h4, hI, ho, hsz⟩ := h
  have hb := g.below.block
  exact ⟨A, c, (hb _ h0.lt).trans h0, (hb _ h1.lt).trans h1, (hb _ h3.lt).trans h3, (hb _ h4.lt).trans h4, hI.grw g, own_grw ho g, Nat.le_trans hsz g.below.size⟩
theorem Sp.oth {s : Nat} {lv : Value} {ar : Int} {st : List (Int × Int)} {w w' : World} (h : Sp s lv ar st w) (g : Grw w w') {k : Nat} (hk : w.heap.size ≤ k) (hk' : k < w'.heap.size) : Oth s w' k := by
  obtain ⟨A, c, h0, h1, h3, h4, hI, ho, hsz⟩ := h
  refine ⟨hk', by omega, by omega, fun v hv => ?_⟩
  have := Boxed.uniq ((g.below.block _ h4.lt).trans h4) hv
  subst this
  intro e
  have := (ho.lt k e.symm).2
  omega
theorem Below.down {B B' : Nat} {w w' : World} (h : Below B w w') (hB : B' ≤ B) : Below B' w w' := ⟨h.os, h.tape, h.output, h.size, fun k hk => h.block k (by omega)⟩
theorem step_at {l : List Cl} {ar x : Int} {st : List (Int × Int)} {k : Nat} {p : Int × Int} (hp : st[k]? = some p) (xs : List Int) : (stepL l ar xs st x)[k]? = some p := by
  rw [stepL_news, List.getElem?_append_left (List.getElem?_eq_some_iff.1 hp).1]; exact hp
theorem step_len (l : List Cl) (ar : Int) (xs : List Int) (st : List (Int × Int)) (x : Int) : st.length ≤ (stepL l ar xs st x).length := by
  rw [stepL_news, List.length_append]; omega
theorem bfs_end (l : List Cl) (ar : Int) (nx : Int → List Int) (f : Nat) (st : List (Int × Int)) : bfsL l ar nx f st.length st = st := by
  cases f with
  | zero => rfl
  | succ f => rw [bfsL, List.getElem?_eq_none (Nat.le_refl _)]
theorem live_wf {l : List Cl} {a : Int} (hn : l.length ≤ 1000000) (h : liveL l a = true) : (Lit.int .i64 a).wf = true :=
  small_wf (ar := 0) hn (by have := liveL_range h; simp [fitL, h]; omega)
theorem namesL_wf {l : List Cl} {x : Int} (hn : l.length ≤ 1000000) (y : Int) (h : y ∈ namesL l x) : (Lit.int .i64 y).wf = true := live_wf hn (namesL_live h).1
theorem sNamesL_wf {l : List Cl} {x : Int} (hn : l.length ≤ 1000000) (y : Int) (h : y ∈ sNamesL l x) : (Lit.int .i64 y).wf = true := namesL_wf hn y ((List.mergeSort_perm _ _).mem_iff.1 h)
theorem Boxed.below {w w' : World} {B b : Nat} {t : TypeId} {v : Value} (h : Boxed w b t v) (hb : Below B w w') (hB : w.heap.size ≤ B) : Boxed w' b t v := (hb.block b (Nat.lt_of_lt_of_le h.lt hB)).trans h
theorem own_len {W : World} {base size k : Nat} {e : TypeId} {A : Option Addr} {m c : Nat} {xs : List Value} (hr : W.ownsRow base e size (.slice A m c) k xs) : m = k ∧ (A = none → k = 0) := by
  rcases hr.2 with ⟨h, rfl⟩ | ⟨g, cap, cur, h, _⟩
  · cases h; exact ⟨rfl, fun _ => rfl⟩
  · cases h; exact ⟨rfl, fun h => by cases h⟩
theorem sort_any (W : World) (base : Nat) (xs : List Int) (A : Option Addr) (c : Nat) (ho : W.ownsRow base 3 1 (.slice A xs.length c) xs.length (xs.map (Value.int .i64))) (hn : xs.length ≤ 1000000) :
    Calls Try.prog 40 #[.slice A xs.length c] W fun e W' => e = .returned (.tuple #[]) ∧ W'.ownsRow base 3 1 (.slice A xs.length c) xs.length ((sortL xs).map (Value.int .i64)) ∧ W.grownBy W' (Value.slice A xs.length c).ownBlock := by
  rcases ho.2 with ⟨h, h0⟩ | ⟨g, cap, cur, h, hb, hg, h1, h2, h3, h4⟩
  · injection h with e1 e2 e3
    subst e1
    obtain rfl : xs = [] := List.length_eq_zero_iff.1 h0
    refine (Try.slices_Sort_int_none none c W).mono ?_
    rintro e W' ⟨rfl, rfl⟩
    exact ⟨rfl, by simpa [sortL] using ho, ⟨rfl, rfl, rfl, Nat.le_refl _, fun _ _ _ => rfl⟩⟩
  · injection h with e1 e2 e3
    subst e1
    subst e3
    refine (Try.slices_Sort_int g 0 c xs W (holds_of_blockI hg (by simpa using h4)) (Array.getElem?_eq_some_iff.1 hg).1 (by omega)).mono ?_
    rintro e W' ⟨rfl, n, os, rfl⟩
    exact ⟨rfl, ownsRow_sortedI (sortL_len xs) hb hg h1 h2 h3, grownBy_sortedI _⟩
section
variable (l : List Cl) (A : Option Addr) (c B : Nat) (w : World)
set_option maxHeartbeats 1000000 in
theorem pReach1_any (a : Int) (rb : Nat) (h : Hp w B A l) (hn : l.length ≤ 1000000) (hb : Boxed w rb 38 (.slice A l.length c)) : Calls Try.prog 39 #[.int .i64 a, .pointer (some ⟨rb, 0, none⟩)] w (IntsPost (namesL l a) w) := by
  have c0 := hb.cell
  have H := Lib.hid h
  clear h hb
  go_enter Try.func39, Try.ntmps39
  go_wp2_with (go_at_call 18; refine (pNames_any l A c B _ a H.out hn).mono ?_; rintro e w' ⟨NA, nc, rfl, hg, ho⟩; have HG := Lib.hid hg; have HO := Lib.hid ho; clear hg ho)
  go_ret
  exact ⟨_, _, rfl, HG.out, HO.out⟩
theorem namesL_len {l : List Cl} {w : World} {B : Nat} {A : Option Addr} (h : Hp w B A l) (a : Int) : (namesL l a).length ≤ 1000000 := by
  unfold namesL
  split
  · rename_i x hx
    split
    · simp
    · have := (h.2 x (List.mem_of_getElem? (clAt_some hx).2.2)).2
      unfold pickF
      rw [List.length_map]
      exact Nat.le_trans (List.length_filter_le _ _) this
  · simp
theorem sNamesL_len {l : List Cl} {w : World} {B : Nat} {A : Option Addr} (h : Hp w B A l) (a : Int) : (sNamesL l a).length ≤ 1000000 := by
  unfold sNamesL; rw [sortL_len]; exact namesL_len h a
set_option maxHeartbeats 1000000 in
theorem pWay1_any (a : Int) (rb : Nat) (h : Hp w B A l) (hn : l.length ≤ 1000000) (hb : Boxed w rb 38 (.slice A l.length c)) : Calls Try.prog 42 #[.int .i64 a, .pointer (some ⟨rb, 0, none⟩)] w (IntsPost (sNamesL l a) w) := by
  have c0 := hb.cell
  have HL := Lib.hid (namesL_len h a)
  have H := Lib.hid h
  clear h hb
  go_enter Try.func42, Try.ntmps42
  go_wp2_with (first
    | (go_at_call 18; refine (pNames_any l A c B _ a H.out hn).mono ?_; rintro e w' ⟨NA, nc, rfl, hg, ho⟩; have HG := Lib.hid hg; have HO := Lib.hid ho; clear hg ho)
    | (go_at_call 40; refine (sort_any _ _ _ _ _ HO.out HL.out).mono ?_; rintro e w'' ⟨rfl, ho', hgr⟩; have HO' := Lib.hid ho'; have HG' := Lib.hid (Grw.grown HG.out hgr (own_beyond HO.out)); clear ho' hgr))
  go_ret
  exact ⟨_, _, by unfold sNamesL; rw [sortL_len]; rfl, HG'.out, by unfold sNamesL; rw [sortL_len]; exact HO'.out⟩
theorem spreadR_bfs {l : List Cl} {ar : Int} {i : Nat} {st : List (Int × Int)} {p : Int × Int} (hp : st[i]? = some p) (hne : Neat l ar st) : bfsL l ar (namesL l) (l.length + 1 - i) i st = bfsL l ar (namesL l) (l.length + 1 - (i + 1)) (i + 1) (stepL l ar (namesL l p.1) st p.1) := by
  have h1 := (List.getElem?_eq_some_iff.1 hp).1
  have h2 := hne.len
  rw [show l.length + 1 - i = (l.length + 1 - (i + 1)) + 1 by omega, bfsL, hp]
set_option maxRecDepth 100000 in
set_option maxHeartbeats 4000000 in
theorem spreadR_any (rb : Nat) (xs : List Int) (XA : Option Addr) (xc XB : Nat) (ar : Int) (h : Hp w B A l) (hn : l.length ≤ 1000000) (hx : SlB intC 1 w XB XA xs) (hxn : xs.length ≤ 1000000) (hxw : ∀ a ∈ xs, (Lit.int .i64 a).wf = true) (hrb : Boxed w rb 38 (.slice A l.length c)) :
    Calls Try.prog 38 #[.slice A l.length c, .slice XA xs.length xc, .int .i64 ar, .func (.func 39) #[] #[.pointer (some ⟨rb, 0, none⟩)]] w
      fun e w' => ∃ OA oc, e = .returned (.tuple #[.map (some (w.heap.size + 2)), .slice OA (spreadL l xs ar (namesL l)).length oc]) ∧ IM Try.prog 3 w' (w.heap.size + 2) (spreadL l xs ar (namesL l)).length (byF (spreadL l xs ar (namesL l))) ∧
        w'.ownsRow (w.heap.size + 5) 3 1 (.slice OA (spreadL l xs ar (namesL l)).length oc) (spreadL l xs ar (namesL l)).length (keysV (spreadL l xs ar (namesL l))) ∧ Grw w w' := by
  have H := Lib.hid h
  have HX := Lib.hid hx
  have HXW := Lib.hid hxw
  have HRB := Lib.hid hrb
  have HR := Lib.hid (show bfsL l ar (namesL l) (l.length + 1) 0 (startL l ar xs) = spreadL l xs ar (namesL l) from rfl)
  have hmm := @run_makeMap Try.prog
  clear h hx hxw hrb
  go_enter Try.func38, Try.ntmps38
  go_wp2
  obtain ⟨W0, hW0⟩ : ∃ W0, ((((w.alloc (.cells #[.slice A l.length c] 38)).alloc (.cells #[.int .i64 ar] 3)).alloc (.map #[] 0)).alloc (.cells #[.map (some (w.heap.size + 2))] 56)).alloc (.cells #[.slice none 0 0] 39) = W0 := ⟨_, rfl⟩
  have HS0 := Lib.hid (show Sp w.heap.size (.slice A l.length c) ar [] W0 by rw [← hW0]; exact sp_start w _ ar)
  have HB0 := Lib.hid (show Below w.heap.size w W0 by rw [← hW0]; exact ((((((Below.refl _ w).alloc (Nat.le_refl _) _).alloc (by simp) _).alloc (by simp; omega) _).alloc (by simp; omega) _).alloc (by simp; omega) _))
  rw [hW0]
  clear hW0 hmm
  go_loopw [22] (fun i wr => ∃ k : Nat, k ≤ xs.length ∧ i = .int .i64 k ∧ Sp w.heap.size (.slice A l.length c) ar (startL l ar (xs.take k)) wr ∧ Below w.heap.size w wr) (fun i _ => xs.length - (intOf i).toNat)
  case atStart => exact ⟨0, Nat.zero_le _, rfl, HS0.out, HB0.out⟩
  case round =>
    obtain ⟨k, hk, rfl, hsp, hbw⟩ := hrel
    by_cases hlt : k < xs.length
    · obtain ⟨x, hx⟩ : ∃ o, xs[k]? = some o := ⟨_, List.getElem?_eq_getElem hlt⟩
      obtain ⟨b, o, rfl, _, hbl, hc⟩ := (HX.out.grw (.of_below hbw)).at_ hx
      have d0 := hc 0 _ rfl
      simp only [Nat.add_zero, Nat.mul_one] at d0
      have g3 : (k : Int) < (xs.length : Int) := by omega
      have HT := Lib.hid (show startL l ar (xs.take (k + 1)) = meetL l ar (startL l ar (xs.take k)) x x by rw [take_snocG hx]; unfold startL; rw [List.foldl_append]; rfl)
      have HL := Lib.hid (Neat.start l ar (xs.take k)).len
      have HW := Lib.hid (HXW.out x (List.mem_of_getElem? hx))
      have HSP := Lib.hid hsp
      have HBW := Lib.hid hbw
      clear hc hx hsp hbw
      go_wp2_with (go_at_call 51; refine (meet_any l A c B w.heap.size ar x x _ _ (H.out.grw (.of_below HBW.out)) hn HSP.out (Nat.le_trans HL.out hn) HW.out).mono ?_; rintro e w' ⟨⟨v, rfl⟩, hs', hk'⟩; have HS' := Lib.hid hs'; have HK' := Lib.hid hk'; clear hs' hk')
      go_roundw
      case rel => first | exact ⟨k + 1, by omega, by go_num, by rw [HT.out]; exact HS'.out, HBW.out.trans HK'.out.1⟩ | ((repeat apply Exists.intro); exact ⟨⟨k + 1, by omega, by go_num, by rw [HT.out]; exact HS'.out, HBW.out.trans HK'.out.1⟩, rfl⟩)
      case measure => simp [intOf]; omega
    · obtain rfl : k = xs.length := by omega
      rw [List.take_of_length_le (Nat.le_refl _)] at hsp
      have HSP := Lib.hid hsp
      have HBW := Lib.hid hbw
      obtain ⟨wo, rfl⟩ : ∃ wo : World, wo = wr := ⟨_, rfl⟩
      clear hsp hbw
      go_wp2
      go_loopw [15] (fun i wr => ∃ (k : Nat) (st : List (Int × Int)), i = .int .i64 k ∧ k ≤ st.length ∧ Sp w.heap.size (.slice A l.length c) ar st wr ∧ Neat l ar st ∧ Below w.heap.size w wr ∧ bfsL l ar (namesL l) (l.length + 1 - k) k st = spreadL l xs ar (namesL l)) (fun i _ => l.length + 1 - (intOf i).toNat)
      case atStart => exact ⟨0, _, rfl, Nat.zero_le _, HSP.out, Neat.start l ar xs, HBW.out, HR.out⟩
      case round =>
        obtain ⟨k, st, rfl, hk, hsp, hne, hbw, hbf⟩ := hrel
        by_cases hlt2 : k < st.length
        · obtain ⟨p, hp⟩ : ∃ o, st[k]? = some o := ⟨_, List.getElem?_eq_getElem hlt2⟩
          have HBF := Lib.hid (hbf.symm.trans (spreadR_bfs hp hne)).symm
          have HNE := Lib.hid hne
          have HP := Lib.hid hp
          have HSP2 := Lib.hid hsp
          have HBW2 := Lib.hid hbw
          have hstl := hne.len
          have hnl := namesL_len H.out p.1
          have g4 : (k : Int) < (st.length : Int) := by omega
          have HPW := Lib.hid (show (Lit.int .i64 p.1).wf = true from small_wf hn (hne.2 p (List.mem_of_getElem? hp)))
          obtain ⟨OA, oc, hb0, hb1, hb3, hb4, him, hrow, hsz⟩ := hsp
          have c4 := hb4.cell
          obtain ⟨g, rfl, hg, e0⟩ := own_at hrow (keysV_at hp) hlt2
          have hbsz := hbw.size
          clear hbf hp hne hbw hb0 hb1 hb3 hb4 him hrow
          go_wp2_with (go_at_call 39; refine (pReach1_any l A c B _ p.1 rb (H.out.grw (.of_below HBW2.out)) hn (Boxed.below HRB.out HBW2.out (Nat.le_refl _))).mono ?_; rintro e w' ⟨YA, yc, rfl, hg', ho'⟩; have HG' := Lib.hid hg'; have HO' := Lib.hid ho'; clear hg' ho')
          have HSP3 := Lib.hid (Sp.grw HSP2.out HG'.out)
          have HB3 := Lib.hid (HBW2.out.trans (Below.down HG'.out.below hbsz))
          obtain ⟨wo2, rfl⟩ : ∃ wo : World, wo = wr := ⟨_, rfl⟩
          go_loopw [44] (fun i wq => ∃ j : Nat, j ≤ (namesL l p.1).length ∧ i = .int .i64 j ∧ Sp w.heap.size (.slice A l.length c) ar (stepL l ar ((namesL l p.1).take j) st p.1) wq ∧ Kps w.heap.size w' wq) (fun i _ => (namesL l p.1).length - (intOf i).toNat)
          case atStart => exact ⟨0, Nat.zero_le _, rfl, HSP3.out, Kps.refl _ _⟩
          case round =>
            obtain ⟨j, hj, rfl, hsp, hkp⟩ := hrel
            by_cases hlt3 : j < (namesL l p.1).length
            · obtain ⟨y, hy⟩ : ∃ o, (namesL l p.1)[j]? = some o := ⟨_, List.getElem?_eq_getElem hlt3⟩
              obtain ⟨gy, rfl, hgy, ey⟩ := own_at HO'.out (i := j) (x := .int .i64 y) (by simp [hy]) hlt3
              have hoth := Sp.oth HSP2.out HG'.out hgy (World.block_lt_of_cell? _ _ ey)
              have ey' : wr.cell? ⟨gy, j, none⟩ = some (.int .i64 y) := (World.cell?_of_block (a := ⟨gy, j, none⟩) (hkp.2 gy hoth).2).trans ey
              have g5 : (j : Int) < ((namesL l p.1).length : Int) := by omega
              have HT := Lib.hid (show stepL l ar ((namesL l p.1).take (j + 1)) st p.1 = meetL l ar (stepL l ar ((namesL l p.1).take j) st p.1) y p.1 by rw [take_snocG hy]; unfold stepL; rw [List.foldl_append]; rfl)
              have HPS := Lib.hid (step_at (l := l) (ar := ar) (x := p.1) HP.out ((namesL l p.1).take j))
              have HSL := Lib.hid (HNE.out.step ((namesL l p.1).take j) p.1).len
              have HW := Lib.hid (namesL_wf hn y (List.mem_of_getElem? hy))
              obtain ⟨sq, hsq⟩ : ∃ sq, stepL l ar ((namesL l p.1).take j) st p.1 = sq := ⟨_, rfl⟩
              rw [hsq] at hsp HT HPS HSL
              have HSP4 := Lib.hid hsp
              have HKP := Lib.hid hkp
              obtain ⟨OB, ob, hb0, hb1, hb3, hb4, him, hrow, hsz2⟩ := hsp
              have c5 := hb4.cell
              have g6 : (k : Int) < (sq.length : Int) := by have := (List.getElem?_eq_some_iff.1 HPS.out).1; omega
              obtain ⟨g7, rfl, hg7, e7⟩ := own_at hrow (keysV_at HPS.out) (by omega)
              clear hy hoth ey hsq hkp hb0 hb1 hb3 hb4 him hrow c4 e0
              go_wp2_with (go_at_call 51; refine (meet_any l A c B w.heap.size ar y p.1 _ _ (H.out.grw (.of_below (HB3.out.trans HKP.out.1))) hn HSP4.out (Nat.le_trans HSL.out hn) HW.out).mono ?_; rintro e w3 ⟨⟨v, rfl⟩, hs', hk'⟩; have HS' := Lib.hid hs'; have HK' := Lib.hid hk'; clear hs' hk')
              go_roundw
              case rel => exact ⟨j + 1, by omega, by go_num, by rw [HT.out]; exact HS'.out, HKP.out.trans HK'.out⟩
              case measure => simp [intOf]; omega
            · obtain rfl : j = (namesL l p.1).length := by omega
              rw [List.take_of_length_le (Nat.le_refl _)] at hsp
              have HSP4 := Lib.hid hsp
              have HKP := Lib.hid hkp
              have HLN := Lib.hid (Nat.le_trans (Nat.succ_le_of_lt hlt2) (step_len l ar (namesL l p.1) st p.1))
              clear hsp hkp c4 e0
              go_wp2
              go_roundw
              case rel => first | exact ⟨k + 1, _, by go_num, HLN.out, HSP4.out, HNE.out.step _ _, HB3.out.trans HKP.out.1, HBF.out⟩ | ((repeat apply Exists.intro); exact ⟨⟨k + 1, _, by go_num, HLN.out, HSP4.out, HNE.out.step _ _, HB3.out.trans HKP.out.1, HBF.out⟩, rfl⟩)
              case measure => simp [intOf]; omega
        · obtain rfl : k = st.length := by omega
          have HE := Lib.hid (show spreadL l xs ar (namesL l) = st by rw [← hbf]; exact bfs_end l ar (namesL l) _ st)
          obtain ⟨OA, oc, hb0, hb1, hb3, hb4, him, hrow, hsz⟩ := hsp
          have c4 := hb4.cell
          have c3 := hb3.cell
          have HI := Lib.hid him
          have HO := Lib.hid hrow
          have HB := Lib.hid hbw
          clear hbf hne hbw hb0 hb1 hb3 hb4 him hrow
          go_wp2
          go_quiet (fail)
          go_wp2
          exact bodyPost_ret (v := .tuple #[.map (some (w.heap.size + 2)), .slice OA st.length oc]) (by simp [results, Try.results38, go_sem]) rfl (by rw [HE.out]; exact ⟨OA, oc, rfl, HI.out, HO.out, (Grw.of_below HB.out).drewN _⟩)
theorem spreadW_bfs {l : List Cl} {ar : Int} {i : Nat} {st : List (Int × Int)} {p : Int × Int} (hp : st[i]? = some p) (hne : Neat l ar st) : bfsL l ar (sNamesL l) (l.length + 1 - i) i st = bfsL l ar (sNamesL l) (l.length + 1 - (i + 1)) (i + 1) (stepL l ar (sNamesL l p.1) st p.1) := by
  have h1 := (List.getElem?_eq_some_iff.1 hp).1
  have h2 := hne.len
  rw [show l.length + 1 - i = (l.length + 1 - (i + 1)) + 1 by omega, bfsL, hp]
set_option maxRecDepth 100000 in
set_option maxHeartbeats 4000000 in
theorem spreadW_any (rb : Nat) (xs : List Int) (XA : Option Addr) (xc XB : Nat) (ar : Int) (h : Hp w B A l) (hn : l.length ≤ 1000000) (hx : SlB intC 1 w XB XA xs) (hxn : xs.length ≤ 1000000) (hxw : ∀ a ∈ xs, (Lit.int .i64 a).wf = true) (hrb : Boxed w rb 38 (.slice A l.length c)) :
    Calls Try.prog 38 #[.slice A l.length c, .slice XA xs.length xc, .int .i64 ar, .func (.func 42) #[] #[.pointer (some ⟨rb, 0, none⟩)]] w
      fun e w' => ∃ OA oc, e = .returned (.tuple #[.map (some (w.heap.size + 2)), .slice OA (spreadL l xs ar (sNamesL l)).length oc]) ∧ IM Try.prog 3 w' (w.heap.size + 2) (spreadL l xs ar (sNamesL l)).length (byF (spreadL l xs ar (sNamesL l))) ∧
        w'.ownsRow (w.heap.size + 5) 3 1 (.slice OA (spreadL l xs ar (sNamesL l)).length oc) (spreadL l xs ar (sNamesL l)).length (keysV (spreadL l xs ar (sNamesL l))) ∧ Grw w w' := by
  have H := Lib.hid h
  have HX := Lib.hid hx
  have HXW := Lib.hid hxw
  have HRB := Lib.hid hrb
  have HR := Lib.hid (show bfsL l ar (sNamesL l) (l.length + 1) 0 (startL l ar xs) = spreadL l xs ar (sNamesL l) from rfl)
  have hmm := @run_makeMap Try.prog
  clear h hx hxw hrb
  go_enter Try.func38, Try.ntmps38
  go_wp2
  obtain ⟨W0, hW0⟩ : ∃ W0, ((((w.alloc (.cells #[.slice A l.length c] 38)).alloc (.cells #[.int .i64 ar] 3)).alloc (.map #[] 0)).alloc (.cells #[.map (some (w.heap.size + 2))] 56)).alloc (.cells #[.slice none 0 0] 39) = W0 := ⟨_, rfl⟩
  have HS0 := Lib.hid (show Sp w.heap.size (.slice A l.length c) ar [] W0 by rw [← hW0]; exact sp_start w _ ar)
  have HB0 := Lib.hid (show Below w.heap.size w W0 by rw [← hW0]; exact ((((((Below.refl _ w).alloc (Nat.le_refl _) _).alloc (by simp) _).alloc (by simp; omega) _).alloc (by simp; omega) _).alloc (by simp; omega) _))
  rw [hW0]
  clear hW0 hmm
  go_loopw [22] (fun i wr => ∃ k : Nat, k ≤ xs.length ∧ i = .int .i64 k ∧ Sp w.heap.size (.slice A l.length c) ar (startL l ar (xs.take k)) wr ∧ Below w.heap.size w wr) (fun i _ => xs.length - (intOf i).toNat)
  case atStart => exact ⟨0, Nat.zero_le _, rfl, HS0.out, HB0.out⟩
  case round =>
    obtain ⟨k, hk, rfl, hsp, hbw⟩ := hrel
    by_cases hlt : k < xs.length
    · obtain ⟨x, hx⟩ : ∃ o, xs[k]? = some o := ⟨_, List.getElem?_eq_getElem hlt⟩
      obtain ⟨b, o, rfl, _, hbl, hc⟩ := (HX.out.grw (.of_below hbw)).at_ hx
      have d0 := hc 0 _ rfl
      simp only [Nat.add_zero, Nat.mul_one] at d0
      have g3 : (k : Int) < (xs.length : Int) := by omega
      have HT := Lib.hid (show startL l ar (xs.take (k + 1)) = meetL l ar (startL l ar (xs.take k)) x x by rw [take_snocG hx]; unfold startL; rw [List.foldl_append]; rfl)
      have HL := Lib.hid (Neat.start l ar (xs.take k)).len
      have HW := Lib.hid (HXW.out x (List.mem_of_getElem? hx))
      have HSP := Lib.hid hsp
      have HBW := Lib.hid hbw
      clear hc hx hsp hbw
      go_wp2_with (go_at_call 51; refine (meet_any l A c B w.heap.size ar x x _ _ (H.out.grw (.of_below HBW.out)) hn HSP.out (Nat.le_trans HL.out hn) HW.out).mono ?_; rintro e w' ⟨⟨v, rfl⟩, hs', hk'⟩; have HS' := Lib.hid hs'; have HK' := Lib.hid hk'; clear hs' hk')
      go_roundw
      case rel => first | exact ⟨k + 1, by omega, by go_num, by rw [HT.out]; exact HS'.out, HBW.out.trans HK'.out.1⟩ | ((repeat apply Exists.intro); exact ⟨⟨k + 1, by omega, by go_num, by rw [HT.out]; exact HS'.out, HBW.out.trans HK'.out.1⟩, rfl⟩)
      case measure => simp [intOf]; omega
    · obtain rfl : k = xs.length := by omega
      rw [List.take_of_length_le (Nat.le_refl _)] at hsp
      have HSP := Lib.hid hsp
      have HBW := Lib.hid hbw
      obtain ⟨wo, rfl⟩ : ∃ wo : World, wo = wr := ⟨_, rfl⟩
      clear hsp hbw
      go_wp2
      go_loopw [15] (fun i wr => ∃ (k : Nat) (st : List (Int × Int)), i = .int .i64 k ∧ k ≤ st.length ∧ Sp w.heap.size (.slice A l.length c) ar st wr ∧ Neat l ar st ∧ Below w.heap.size w wr ∧ bfsL l ar (sNamesL l) (l.length + 1 - k) k st = spreadL l xs ar (sNamesL l)) (fun i _ => l.length + 1 - (intOf i).toNat)
      case atStart => exact ⟨0, _, rfl, Nat.zero_le _, HSP.out, Neat.start l ar xs, HBW.out, HR.out⟩
      case round =>
        obtain ⟨k, st, rfl, hk, hsp, hne, hbw, hbf⟩ := hrel
        by_cases hlt2 : k < st.length
        · obtain ⟨p, hp⟩ : ∃ o, st[k]? = some o := ⟨_, List.getElem?_eq_getElem hlt2⟩
          have HBF := Lib.hid (hbf.symm.trans (spreadW_bfs hp hne)).symm
          have HNE := Lib.hid hne
          have HP := Lib.hid hp
          have HSP2 := Lib.hid hsp
          have HBW2 := Lib.hid hbw
          have hstl := hne.len
          have hnl := sNamesL_len H.out p.1
          have g4 : (k : Int) < (st.length : Int) := by omega
          have HPW := Lib.hid (show (Lit.int .i64 p.1).wf = true from small_wf hn (hne.2 p (List.mem_of_getElem? hp)))
          obtain ⟨OA, oc, hb0, hb1, hb3, hb4, him, hrow, hsz⟩ := hsp
          have c4 := hb4.cell
          obtain ⟨g, rfl, hg, e0⟩ := own_at hrow (keysV_at hp) hlt2
          have hbsz := hbw.size
          clear hbf hp hne hbw hb0 hb1 hb3 hb4 him hrow
          go_wp2_with (go_at_call 42; refine (pWay1_any l A c B _ p.1 rb (H.out.grw (.of_below HBW2.out)) hn (Boxed.below HRB.out HBW2.out (Nat.le_refl _))).mono ?_; rintro e w' ⟨YA, yc, rfl, hg', ho'⟩; have HG' := Lib.hid hg'; have HO' := Lib.hid ho'; clear hg' ho')
          have HSP3 := Lib.hid (Sp.grw HSP2.out HG'.out)
          have HB3 := Lib.hid (HBW2.out.trans (Below.down HG'.out.below hbsz))
          obtain ⟨wo2, rfl⟩ : ∃ wo : World, wo = wr := ⟨_, rfl⟩
          go_loopw [44] (fun i wq => ∃ j : Nat, j ≤ (sNamesL l p.1).length ∧ i = .int .i64 j ∧ Sp w.heap.size (.slice A l.length c) ar (stepL l ar ((sNamesL l p.1).take j) st p.1) wq ∧ Kps w.heap.size w' wq) (fun i _ => (sNamesL l p.1).length - (intOf i).toNat)
          case atStart => exact ⟨0, Nat.zero_le _, rfl, HSP3.out, Kps.refl _ _⟩
          case round =>
            obtain ⟨j, hj, rfl, hsp, hkp⟩ := hrel
            by_cases hlt3 : j < (sNamesL l p.1).length
            · obtain ⟨y, hy⟩ : ∃ o, (sNamesL l p.1)[j]? = some o := ⟨_, List.getElem?_eq_getElem hlt3⟩
              obtain ⟨gy, rfl, hgy, ey⟩ := own_at HO'.out (i := j) (x := .int .i64 y) (by simp [hy]) hlt3
              have hoth := Sp.oth HSP2.out HG'.out hgy (World.block_lt_of_cell? _ _ ey)
              have ey' : wr.cell? ⟨gy, j, none⟩ = some (.int .i64 y) := (World.cell?_of_block (a := ⟨gy, j, none⟩) (hkp.2 gy hoth).2).trans ey
              have g5 : (j : Int) < ((sNamesL l p.1).length : Int) := by omega
              have HT := Lib.hid (show stepL l ar ((sNamesL l p.1).take (j + 1)) st p.1 = meetL l ar (stepL l ar ((sNamesL l p.1).take j) st p.1) y p.1 by rw [take_snocG hy]; unfold stepL; rw [List.foldl_append]; rfl)
              have HPS := Lib.hid (step_at (l := l) (ar := ar) (x := p.1) HP.out ((sNamesL l p.1).take j))
              have HSL := Lib.hid (HNE.out.step ((sNamesL l p.1).take j) p.1).len
              have HW := Lib.hid (sNamesL_wf hn y (List.mem_of_getElem? hy))
              obtain ⟨sq, hsq⟩ : ∃ sq, stepL l ar ((sNamesL l p.1).take j) st p.1 = sq := ⟨_, rfl⟩
              rw [hsq] at hsp HT HPS HSL
              have HSP4 := Lib.hid hsp
              have HKP := Lib.hid hkp
              obtain ⟨OB, ob, hb0, hb1, hb3, hb4, him, hrow, hsz2⟩ := hsp
              have c5 := hb4.cell
              have g6 : (k : Int) < (sq.length : Int) := by have := (List.getElem?_eq_some_iff.1 HPS.out).1; omega
              obtain ⟨g7, rfl, hg7, e7⟩ := own_at hrow (keysV_at HPS.out) (by omega)
              clear hy hoth ey hsq hkp hb0 hb1 hb3 hb4 him hrow c4 e0
              go_wp2_with (go_at_call 51; refine (meet_any l A c B w.heap.size ar y p.1 _ _ (H.out.grw (.of_below (HB3.out.trans HKP.out.1))) hn HSP4.out (Nat.le_trans HSL.out hn) HW.out).mono ?_; rintro e w3 ⟨⟨v, rfl⟩, hs', hk'⟩; have HS' := Lib.hid hs'; have HK' := Lib.hid hk'; clear hs' hk')
              go_roundw
              case rel => exact ⟨j + 1, by omega, by go_num, by rw [HT.out]; exact HS'.out, HKP.out.trans HK'.out⟩
              case measure => simp [intOf]; omega
            · obtain rfl : j = (sNamesL l p.1).length := by omega
              rw [List.take_of_length_le (Nat.le_refl _)] at hsp
              have HSP4 := Lib.hid hsp
              have HKP := Lib.hid hkp
              have HLN := Lib.hid (Nat.le_trans (Nat.succ_le_of_lt hlt2) (step_len l ar (sNamesL l p.1) st p.1))
              clear hsp hkp c4 e0
              go_wp2
              go_roundw
              case rel => first | exact ⟨k + 1, _, by go_num, HLN.out, HSP4.out, HNE.out.step _ _, HB3.out.trans HKP.out.1, HBF.out⟩ | ((repeat apply Exists.intro); exact ⟨⟨k + 1, _, by go_num, HLN.out, HSP4.out, HNE.out.step _ _, HB3.out.trans HKP.out.1, HBF.out⟩, rfl⟩)
              case measure => simp [intOf]; omega
        · obtain rfl : k = st.length := by omega
          have HE := Lib.hid (show spreadL l xs ar (sNamesL l) = st by rw [← hbf]; exact bfs_end l ar (sNamesL l) _ st)
          obtain ⟨OA, oc, hb0, hb1, hb3, hb4, him, hrow, hsz⟩ := hsp
          have c4 := hb4.cell
          have c3 := hb3.cell
          have HI := Lib.hid him
          have HO := Lib.hid hrow
          have HB := Lib.hid hbw
          clear hbf hne hbw hb0 hb1 hb3 hb4 him hrow
          go_wp2
          go_quiet (fail)
          go_wp2
          exact bodyPost_ret (v := .tuple #[.map (some (w.heap.size + 2)), .slice OA st.length oc]) (by simp [results, Try.results38, go_sem]) rfl (by rw [HE.out]; exact ⟨OA, oc, rfl, HI.out, HO.out, (Grw.of_below HB.out).drewN _⟩)
end
end Go.Proofs.Ytgjpbhgobjlneaa
