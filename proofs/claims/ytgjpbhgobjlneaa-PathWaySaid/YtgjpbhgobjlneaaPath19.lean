/- The contract of the document's Way: it answers as the program's. Conditions: fewer than a million objects. -/
import Derived.Test.YtgjpbhgobjlneaaPath15
import Derived.Test.YtgjpbhgobjlneaaPath18
import Derived.Test.YtgjpbhgobjlneaaSeg
namespace Go.Proofs.Ytgjpbhgobjlneaa
open Go.RowKit Go.Sort
theorem FSt.lt {l : List Cl} {ar tx : Int} {g : Nat → Nat} {b k : Nat} (h : FSt l ar tx g b k) (i : Nat) : g i ≤ b := by
  by_cases hi : i ≤ k
  · rcases h.done i hi with ⟨h, _⟩ | ⟨h, _⟩ <;> omega
  · rcases h.left i (by omega) with ⟨h, _⟩ | ⟨h, _⟩ <;> omega
theorem FarT.le {l : List Cl} {ar tx : Int} {g : Nat → Nat} (h : FarT l ar tx g) (i : Nat) : g i ≤ l.length := by
  rcases h i with ⟨h, _⟩ | h
  · omega
  · exact h.le
theorem Rw.at_ {w : World} {A : Option Addr} {xs : List Int} {ok : Nat → Prop} (h : Rw w A xs ok) {i : Nat} {x : Int} (hx : xs[i]? = some x) : ∃ b, A = some ⟨b, 0, none⟩ ∧ b < w.heap.size ∧ ok b ∧ w.cell? ⟨b, i, none⟩ = some (.int .i64 x) := by
  rcases h with h | ⟨b, h1, h2, h3, h4⟩
  · subst h; simp at hx
  · exact ⟨b, h1, h2, h3, h4 i x hx⟩
theorem Rw.setCell {w : World} {A : Option Addr} {xs : List Int} {tb : Nat} (h : Rw w A xs (fun b => b ≠ tb)) (i : Nat) (v : Value) : Rw (w.setCell ⟨tb, i, none⟩ v) A xs (fun b => b ≠ tb) :=
  h.keep fun b hb hn => ⟨Below.heap_setCell _ _ _ _ hn, by rw [World.size_setCell]; exact hb, hn⟩
theorem Rw.grw {w w' : World} {A : Option Addr} {xs : List Int} {ok : Nat → Prop} (h : Rw w A xs ok) (hg : Grw w w') : Rw w' A xs ok :=
  h.keep fun b hb hn => ⟨hg.below.block b hb, Nat.lt_of_lt_of_le hb hg.below.size, hn⟩
/-- In the round b, at k + 1: the first m names looked at. -/
structure HSt (l : List Cl) (ar : Int) (g : Nat → Nat) (b k m : Nat) (hit : Bool) : Prop where
  yes : hit = true → g (k + 1) = 0 ∧ ((k : Int) + 1) ≠ ar ∧ ∃ u ∈ namesL l ((k : Int) + 1), g u.toNat = b - 1
  no : hit = false → g (k + 1) = 0 → ((k : Int) + 1) ≠ ar → ∀ u ∈ (namesL l ((k : Int) + 1)).take m, g u.toNat ≠ b - 1
theorem HSt.start (l : List Cl) (ar : Int) (g : Nat → Nat) (b k : Nat) : HSt l ar g b k 0 false := ⟨fun h => (by cases h), fun _ _ _ u hu => by simp at hu⟩
theorem HSt.skip {l : List Cl} {ar : Int} {g : Nat → Nat} {b k m : Nat} {hit : Bool} {u : Int} (h : HSt l ar g b k m hit) (hu : (namesL l ((k : Int) + 1))[m]? = some u) (hn : hit = false → g (k + 1) = 0 → ((k : Int) + 1) ≠ ar → g u.toNat ≠ b - 1) : HSt l ar g b k (m + 1) hit :=
  ⟨h.yes, fun h0 h1 h2 v hv => by
    rw [take_snocG hu] at hv
    rcases List.mem_append.1 hv with hv | hv
    · exact h.no h0 h1 h2 v hv
    · simp at hv; subst hv; exact hn h0 h1 h2⟩
theorem HSt.hit {l : List Cl} {ar : Int} {g : Nat → Nat} {b k m : Nat} {u : Int} (hu : (namesL l ((k : Int) + 1))[m]? = some u) (h0 : g (k + 1) = 0) (ha : ((k : Int) + 1) ≠ ar) (he : g u.toNat = b - 1) : HSt l ar g b k (m + 1) true :=
  ⟨fun _ => ⟨h0, ha, u, List.mem_of_getElem? hu, he⟩, fun h => by cases h⟩
def setG (g : Nat → Nat) (b k : Nat) (hit : Bool) : Nat → Nat := if hit then (fun i => if i = k + 1 then b else g i) else g
theorem HSt.end_ {l : List Cl} {ar tx : Int} {g : Nat → Nat} {b k : Nat} {hit : Bool} (hb : 2 ≤ b) (h : HSt l ar g b k (namesL l ((k : Int) + 1)).length hit) (hf : FSt l ar tx g b k) : FSt l ar tx (setG g b k hit) b (k + 1) := by
  have e : ((k + 1 : Nat) : Int) = (k : Int) + 1 := by omega
  cases hit with
  | true =>
    obtain ⟨h0, ha, u, hu, hg⟩ := h.yes rfl
    exact hf.set h0 (hf.hit hb (by rw [e]; exact hu) hg (by rw [e]; exact ha))
  | false =>
    refine hf.skip fun h0 hp => ?_
    have hfit := hp.fit
    simp only [fitL, Bool.and_eq_true] at hfit
    have ha : ((k : Int) + 1) ≠ ar := by rw [← e]; simpa using hfit.1
    have hno := h.no rfl h0 ha
    rw [List.take_of_length_le (Nat.le_refl _)] at hno
    exact hf.miss hb h0 (by rw [e]; exact hno) hp
theorem own_new' (w : World) (cs : Array Value) (t : TypeId) (base sz n : Nat) (hn : cs.size = n * sz) (hm : n ≤ maxLen) (hb : base ≤ w.heap.size) : (w.alloc (.cells cs t)).ownsRow base t sz (.slice (some ⟨w.heap.size, 0, none⟩) n n) n cs.toList :=
  ⟨by simpa using hn, .inr ⟨w.heap.size, n, cs, rfl, hb, World.alloc_heap_new _ _, Nat.le_refl _, hm, hn, List.take_of_length_le (by simp [hn])⟩⟩
theorem rowGrown {w w' : World} {tb n : Nat} {t : TypeId} {f : Nat → Value} {o : Obj} {row : Option Nat} (h : w.rowIs tb t n f) (hg : (w.alloc o).grownBy w' row) (hr : ∀ k, row = some k → tb + 1 ≤ k) : w'.rowIs tb t n f :=
  (h.alloc o).of_block ((Below.grown (Below.refl (tb + 1) (w.alloc o)) hg (by rw [World.size_alloc]; have := h.lt; omega) hr).block tb (Nat.lt_succ_self _))
theorem next_spec {l : List Cl} {ar tx : Int} {g : Nat → Nat} (hg : FarT l ar tx g) {p : Nat} (hp : 1 < g (p + 1)) : ∃ q : Nat, q < l.length ∧ nextL l g ((p : Int) + 1) = (q : Int) + 1 ∧ g (q + 1) + 1 = g (p + 1) ∧ followL l g (g (p + 1)) ((p : Int) + 1) = ((q : Int) + 1) :: followL l g (g (q + 1)) ((q : Int) + 1) := by
  have ep : ((p : Int) + 1).toNat = p + 1 := by omega
  have hm := hg.min (v := (p : Int) + 1) (by omega) (by rw [ep]; omega)
  rw [ep] at hm
  obtain ⟨m, hgm⟩ : ∃ m, g (p + 1) = m + 2 := ⟨g (p + 1) - 2, by omega⟩
  rw [hgm] at hm
  obtain ⟨hf, u, hu, hpu⟩ := hm.1
  have h1 := hg.of_path hpu
  have hgu : g u.toNat = m + 1 := by
    have h2 := hg.min (v := u) (by have := pos_names u hu; omega) h1.1
    rcases Nat.lt_or_ge (g u.toNat) (m + 1) with h | h
    · exact absurd (h2.1.cons hf hu) (hm.2 _ (by omega))
    · omega
  rcases leastL_spec (fun u => g u.toNat == g ((p : Int) + 1).toNat - 1) (namesL l ((p : Int) + 1)) pos_names with ⟨_, h2⟩ | ⟨h1, h2, h3⟩
  · have h2 : (g u.toNat == g ((p : Int) + 1).toNat - 1) = false := h2 u hu
    rw [ep, hgu, hgm] at h2
    simp at h2
  · obtain ⟨q, hq, eq⟩ := namesL_nat h1
    have eq : nextL l g ((p : Int) + 1) = (q : Int) + 1 := by unfold nextL; rw [eq]; omega
    have hgq : g (q + 1) = m + 1 := by
      have h2 : (g (nextL l g ((p : Int) + 1)).toNat == g ((p : Int) + 1).toNat - 1) = true := h2
      rw [eq, ep, hgm, show ((q : Int) + 1).toNat = q + 1 by omega] at h2
      simpa using h2
    refine ⟨q, hq, eq, by omega, ?_⟩
    rw [hgm, hgq, followL, eq]
theorem wayL_len {l : List Cl} (hn : l.length ≤ 1000000) (tx ar : Int) : (wayL l tx ar).length ≤ 1000001 := by
  have := climb_len (spreadL l (rootsL l) ar (sNamesL l)) (spreadL l (rootsL l) ar (sNamesL l)).length tx
  have h2 := (Neat.spread l (rootsL l) ar (sNamesL l)).len
  unfold wayL wayBy
  split
  · rw [List.length_reverse]; omega
  · simp
section
variable (l : List Cl) (A : Option Addr) (c B : Nat) (w : World)
set_option maxRecDepth 100000 in
set_option maxHeartbeats 8000000 in
theorem r45Way_off (tx ar : Int) (h : Hp w B A l) (hn : l.length ≤ 1000000) (hf : fitL l ar tx = false) :
    Calls Try.prog 25 #[.slice A l.length c, .int .i64 tx, .int .i64 ar] w (IntsPost (wayL l tx ar) w) := by
  have HW := Lib.hid (way_off hf)
  have H := Lib.hid h
  cases hlv : liveL l tx
  · have HLV := Lib.hid hlv
    clear hf hlv h
    go_enter Try.func25, Try.ntmps25
    go_wp2_with (go_at_call 37; refine (r45live_any l A c B _ tx H.out hn).mono ?_; rintro e w' ⟨rfl, rfl⟩; rw [HLV.out])
    go_ret
    exact ⟨none, 0, by rw [HW.out]; rfl, Grw.refl _, by rw [HW.out]; exact World.ownsRow_nil _ _ _ _⟩
  · have HLV := Lib.hid hlv
    have e1 : (tx == ar) = true := by simpa [fitL, hlv] using hf
    clear hf hlv h
    go_enter Try.func25, Try.ntmps25
    go_wp2_with (go_at_call 37; refine (r45live_any l A c B _ tx H.out hn).mono ?_; rintro e w' ⟨rfl, rfl⟩; rw [HLV.out])
    go_ret
    exact ⟨none, 0, by rw [HW.out]; rfl, Grw.refl _, by rw [HW.out]; exact World.ownsRow_nil _ _ _ _⟩
set_option maxRecDepth 100000 in
set_option maxHeartbeats 8000000 in
theorem r45Way_on (t : Nat) (ar : Int) (h : Hp w B A l) (hn : l.length ≤ 1000000) (hf : fitL l ar ((t : Int) + 1) = true) :
    Calls Try.prog 25 #[.slice A l.length c, .int .i64 ((t : Int) + 1), .int .i64 ar] w (IntsPost (wayL l ((t : Int) + 1) ar) w) := by
  have H := Lib.hid h
  obtain ⟨i0, hi, hz0, hz1, hz2⟩ := info_parts infoI
  have HNL := Lib.hid (fun a => namesL_len h a)
  have htl : t < l.length := by
    simp only [fitL, Bool.and_eq_true] at hf
    have := (liveL_range hf.2).2; omega
  have g1 : (t : Int) < (l.length : Int) := by omega
  have ec : ((l.length + 1 : Nat) : Int) = (l.length : Int) + 1 := by omega
  have hmk := run_make_row' (P := Try.prog) 39 3 (.int .i64 0) 8 Try.underlying39 infoI rfl .i64 .i64 (l.length + 1) (by omega) (by omega) w
  rw [ec] at hmk
  have hlv : liveL l ((t : Int) + 1) = true := by simp only [fitL, Bool.and_eq_true] at hf; exact hf.2
  have e1 : ((t : Int) + 1 == ar) = false := by simp only [fitL, Bool.and_eq_true] at hf; simpa using hf.1
  have HLV := Lib.hid hlv
  have HF := Lib.hid hf
  obtain ⟨W0, hW0⟩ : ∃ W0, w.alloc (.cells (madeCells #[.int .i64 0] (l.length + 1)) 3) = W0 := ⟨_, rfl⟩
  have hr0 : W0.rowIs w.heap.size 3 (l.length + 1) (fun _ => .int .i64 0) := by rw [← hW0]; exact World.rowIs_made _ _ _ _
  have hc0 := hr0.cell (i := t + 1) (by omega)
  have hf0 := hr0.frozen (t + 1)
  have HR0 := Lib.hid hr0
  have HG0 := Lib.hid (show Grw w W0 by rw [← hW0]; exact (Grw.refl _).alloc _)
  have HST0 := Lib.hid (FSt.start (l := l) (ar := ar) (t := t) (by rw [show ((t + 1 : Nat) : Int) = (t : Int) + 1 by omega]; exact hf))
  rw [hW0] at hmk
  clear h hf hlv hr0
  go_enter Try.func25, Try.ntmps25
  go_wp2_with (first
    | (go_at_call 37; refine (r45live_any l A c B _ ((t : Int) + 1) H.out hn).mono ?_; rintro e w' ⟨rfl, rfl⟩; rw [HLV.out]))
  -- WALK
  go_loopw [8] (fun nn wr => ∃ (b : Nat) (g : Nat → Nat), nn = .int .i64 b ∧ 2 ≤ b ∧ b ≤ l.length + 1 ∧ wr.rowIs w.heap.size 3 (l.length + 1) (fun i => .int .i64 (g i : Nat)) ∧ Grw w wr ∧ FSt l ar ((t + 1 : Nat) : Int) g b 0) (fun nn _ => l.length + 2 - (intOf nn).toNat)
  case atStart => exact ⟨2, _, rfl, by omega, by omega, (HR0.out.set (t + 1) (.int .i64 1)).congr (fun i _ => (by by_cases e : i = t + 1 <;> simp [e])), HG0.out.setCell (Nat.le_refl _) _, HST0.out⟩
  case round =>
    clear hmk hW0 hc0 hf0 HR0 HG0 HST0 HLV e1
    obtain ⟨V1, rfl⟩ : ∃ V, V = wr := ⟨_, rfl⟩
    obtain ⟨b, g, rfl, hb2, hbl, hrow, hg, hst⟩ := hrel
    have HROW := Lib.hid hrow
    have HG := Lib.hid hg
    have HST := Lib.hid hst
    have b1 : (2 : Int) ≤ (b : Int) := by omega
    by_cases hb : b ≤ l.length
    · have b2 : (b : Int) ≤ (l.length : Int) := by omega
      clear hrow hg hst
      go_wp2
      go_loopw [9] (fun a wr => ∃ (k : Nat) (g : Nat → Nat), a = .int .i64 ((k : Int) + 1) ∧ k ≤ l.length ∧ wr.rowIs w.heap.size 3 (l.length + 1) (fun i => .int .i64 (g i : Nat)) ∧ Grw w wr ∧ FSt l ar ((t + 1 : Nat) : Int) g b k) (fun a _ => l.length + 1 - (intOf a).toNat)
      case atStart => exact ⟨0, g, rfl, Nat.zero_le _, HROW.out, HG.out, HST.out⟩
      case round =>
        clear HROW HG HST
        obtain ⟨V2, rfl⟩ : ∃ V, V = wr := ⟨_, rfl⟩
        obtain ⟨k, g, rfl, hk, hrow, hg, hst⟩ := hrel
        have HROW := Lib.hid hrow
        have HG := Lib.hid hg
        have HST := Lib.hid hst
        have htb := hrow.lt
        clear hrow hg hst
        by_cases hlt : k < l.length
        · have g3 : (k : Int) < (l.length : Int) := by omega
          go_wp2_with (go_at_call 19; refine (r45Names_any l A c B _ ((k : Int) + 1) (H.out.grw HG.out) hn).mono ?_; rintro e V3 ⟨MA, mc, rfl, hq, hr⟩; have HQ := Lib.hid (HG.out.trans hq); have HRW := Lib.hid (Rw.of_own (ok := fun b => b ≠ w.heap.size) hr (fun b hb _ => (by omega))); have HROW3 := Lib.hid (rowGrw HROW.out hq); clear hr hq)
          have hml := HNL.out ((k : Int) + 1)
          go_loopw [11] (fun i wr => ∃ (m : Nat) (hit : Bool), i = .int .i64 m ∧ m ≤ (namesL l ((k : Int) + 1)).length ∧ wr.rowIs w.heap.size 3 (l.length + 1) (fun i => .int .i64 (setG g b k hit i : Nat)) ∧ Grw w wr ∧ Rw wr MA (namesL l ((k : Int) + 1)) (fun b => b ≠ w.heap.size) ∧ HSt l ar g b k m hit) (fun i _ => (namesL l ((k : Int) + 1)).length - (intOf i).toNat)
          case atStart => exact ⟨0, false, rfl, Nat.zero_le _, HROW3.out, HQ.out, HRW.out, HSt.start _ _ _ _ _⟩
          case round =>
            clear HROW3 HQ HRW
            obtain ⟨m, hit, rfl, hm, hrow, hg, hrw, hhs⟩ := hrel
            have HROW4 := Lib.hid hrow
            have HG4 := Lib.hid hg
            have HRW := Lib.hid hrw
            have HHS := Lib.hid hhs
            clear hrow hg hrw hhs
            by_cases hml2 : m < (namesL l ((k : Int) + 1)).length
            · have m3 : (m : Int) < ((namesL l ((k : Int) + 1)).length : Int) := by omega
              obtain ⟨u, hu⟩ : ∃ o, (namesL l ((k : Int) + 1))[m]? = some o := ⟨_, List.getElem?_eq_getElem hml2⟩
              obtain ⟨j, hj, rfl⟩ := namesL_nat (List.mem_of_getElem? hu)
              have HU := Lib.hid hu
              obtain ⟨nb, rfl, hnb, _, dn⟩ := HRW.out.at_ hu
              rw [show ((j + 1 : Nat) : Int) = (j : Int) + 1 by omega] at dn
              have j3 : (j : Int) < (l.length : Int) := by omega
              have d1 := HROW4.out.cell (i := k + 1) (by omega)
              have d2 := HROW4.out.cell (i := j + 1) (by omega)
              have fz := HROW4.out.frozen (k + 1)
              obtain ⟨len, hlen⟩ : ∃ n, (namesL l ((k : Int) + 1)).length = n := ⟨_, rfl⟩
              have HLEN := Lib.hid hlen
              rw [hlen] at m3 hml hml2 hm ⊢
              clear hu hlen
              cases hit with
              | true =>
                have HSK := Lib.hid (HHS.out.skip HU.out (fun h => (by cases h)))
                have e0 : ((b : Int) == 0) = false := by rw [beq_eq_false_iff_ne]; omega
                have ed : ((setG g b k true (k + 1) : Nat) : Int) = b := by simp [setG]
                rw [ed] at d1
                clear d2 ed
                go_wp2
                go_roundw
                case rel => first | exact ⟨m + 1, true, by go_num, by omega, HROW4.out, HG4.out, HRW.out, HSK.out⟩ | ((repeat apply Exists.intro); exact ⟨⟨m + 1, true, by go_num, by omega, HROW4.out, HG4.out, HRW.out, HSK.out⟩, rfl⟩)
                case measure => simp [intOf]; omega
              | false =>
                have ed : setG g b k false = g := rfl
                rw [ed] at d1 d2
                clear ed
                by_cases h0 : g (k + 1) = 0
                · rw [h0] at d1
                  have HH0 := Lib.hid h0
                  by_cases har : (k : Int) + 1 = ar
                  · have HSK := Lib.hid (HHS.out.skip HU.out (fun _ _ h => absurd har h))
                    have e1 : ((k : Int) + 1 != ar) = false := by simp [har]
                    have e2 : ((k : Int) + 1 == ar) = true := by simp [har]
                    clear har h0
                    go_wp2
                    go_roundw
                    case rel => first | exact ⟨m + 1, false, by go_num, by omega, HROW4.out, HG4.out, HRW.out, HSK.out⟩ | ((repeat apply Exists.intro); exact ⟨⟨m + 1, false, by go_num, by omega, HROW4.out, HG4.out, HRW.out, HSK.out⟩, rfl⟩)
                    case measure => simp [intOf]; omega
                  · have e1 : ((k : Int) + 1 != ar) = true := by simp [har]
                    have e2 : ((k : Int) + 1 == ar) = false := by simp [har]
                    have HAR := Lib.hid har
                    clear har h0
                    by_cases hgj : g (j + 1) = b - 1
                    · have e3 : ((g (j + 1) : Int) == (b : Int) - 1) = true := by rw [beq_iff_eq]; omega
                      have HHT := Lib.hid (HSt.hit (b := b) HU.out HH0.out HAR.out (by rw [Int.toNat_natCast]; exact hgj))
                      clear hgj
                      go_wp2
                      go_roundw
                      case rel => first | exact ⟨m + 1, true, by go_num, by omega, (HROW4.out.set (k + 1) (.int .i64 b)).congr (fun i _ => (by dsimp only [setG]; simp only [if_true, Bool.false_eq_true, if_false]; split <;> rfl)), HG4.out.setCell (Nat.le_refl _) _, HRW.out.setCell _ _, HHT.out⟩ | ((repeat apply Exists.intro); exact ⟨⟨m + 1, true, by go_num, by omega, (HROW4.out.set (k + 1) (.int .i64 b)).congr (fun i _ => (by dsimp only [setG]; simp only [if_true, Bool.false_eq_true, if_false]; split <;> rfl)), HG4.out.setCell (Nat.le_refl _) _, HRW.out.setCell _ _, HHT.out⟩, rfl⟩)
                      case measure => simp [intOf]; omega
                    · have e3 : ((g (j + 1) : Int) == (b : Int) - 1) = false := by rw [beq_eq_false_iff_ne]; omega
                      have HSK := Lib.hid (HHS.out.skip HU.out (fun _ _ _ => (by rw [Int.toNat_natCast]; exact hgj)))
                      clear hgj
                      go_wp2
                      go_roundw
                      case rel => first | exact ⟨m + 1, false, by go_num, by omega, HROW4.out, HG4.out, HRW.out, HSK.out⟩ | ((repeat apply Exists.intro); exact ⟨⟨m + 1, false, by go_num, by omega, HROW4.out, HG4.out, HRW.out, HSK.out⟩, rfl⟩)
                      case measure => simp [intOf]; omega
                · have e0 : ((g (k + 1) : Int) == 0) = false := by rw [beq_eq_false_iff_ne]; omega
                  have HSK := Lib.hid (HHS.out.skip HU.out (fun _ h => absurd h h0))
                  clear h0
                  go_wp2
                  go_roundw
                  case rel => first | exact ⟨m + 1, false, by go_num, by omega, HROW4.out, HG4.out, HRW.out, HSK.out⟩ | ((repeat apply Exists.intro); exact ⟨⟨m + 1, false, by go_num, by omega, HROW4.out, HG4.out, HRW.out, HSK.out⟩, rfl⟩)
                  case measure => simp [intOf]; omega
            · obtain rfl : m = (namesL l ((k : Int) + 1)).length := by omega
              have HE := Lib.hid (HHS.out.end_ hb2 HST.out)
              go_wp2
              go_roundw
              case rel => first | exact ⟨k + 1, _, by go_num, by omega, HROW4.out, HG4.out, HE.out⟩ | ((repeat apply Exists.intro); exact ⟨⟨k + 1, _, by go_num, by omega, HROW4.out, HG4.out, HE.out⟩, rfl⟩)
              case measure => simp [intOf]; omega
        · obtain rfl : k = l.length := by omega
          have HN := Lib.hid HST.out.next
          go_wp2
          go_roundw
          case rel => first | exact ⟨b + 1, g, by go_num, by omega, by omega, HROW.out, HG.out, HN.out⟩ | ((repeat apply Exists.intro); exact ⟨⟨b + 1, g, by go_num, by omega, by omega, HROW.out, HG.out, HN.out⟩, rfl⟩)
          case measure => simp [intOf]; omega
    · obtain rfl : b = l.length + 1 := by omega
      have HFT := Lib.hid (HST.out.all (Nat.le_refl _))
      clear hrow hg hst HST
      -- LOOP4
      have HGL := Lib.hid (fun i => HFT.out.le i)
      have HWD := Lib.hid (wayD_eq HFT.out (by rw [show ((t + 1 : Nat) : Int) = (t : Int) + 1 by omega]; exact HF.out))
      have HWL := Lib.hid (wayL_len hn ((t + 1 : Nat) : Int) ar)
      rw [show ((t + 1 : Nat) : Int) = (t : Int) + 1 by omega] at HWD HWL
      clear HF b1 hb2 hbl
      go_wp2_with (go_at_call 21; refine (r45Roots_any l A c B _ (H.out.grw HG.out) hn).mono ?_; rintro e V2 ⟨RA, rc, rfl, hq, hr⟩; have HQ := Lib.hid (HG.out.trans hq); have HRT := Lib.hid (own_slb hr); have HROW2 := Lib.hid (rowGrw HROW.out hq); clear hr hq)
      clear HROW HG
      have hrl := Nat.le_trans (rootsL_len l) hn
      have HBS := Lib.hid (fun m => bestL_spec g ((rootsL l).take m) (fun u hu => (liveL_range (rootsL_live (List.mem_of_mem_take hu))).1) ((rootsTo_sorted l 0).sublist (List.take_sublist _ _)))
      go_loopw [12, 14] (fun a i wr => ∃ m : Nat, i = .int .i64 m ∧ m ≤ (rootsL l).length ∧ a = .int .i64 (bestL g ((rootsL l).take m)) ∧ Grw V2 wr) (fun _ i _ => (rootsL l).length - (intOf i).toNat)
      case atStart => exact ⟨0, rfl, Nat.zero_le _, rfl, Grw.refl _⟩
      case round =>
        obtain ⟨m, rfl, hm, rfl, hg4⟩ := hrel
        have HG4 := Lib.hid hg4
        have HROW4 := Lib.hid (rowGrw HROW2.out hg4)
        have htb := HROW4.out.lt
        clear hg4
        by_cases hml : m < (rootsL l).length
        · have m3 : (m : Int) < ((rootsL l).length : Int) := by omega
          obtain ⟨u, hu⟩ : ∃ o, (rootsL l)[m]? = some o := ⟨_, List.getElem?_eq_getElem hml⟩
          obtain ⟨q, hq, rfl⟩ : ∃ q : Nat, q < l.length ∧ u = (q : Int) + 1 := by
            have := liveL_range (rootsL_live (List.mem_of_getElem? hu))
            exact ⟨(u - 1).toNat, by omega, by omega⟩
          obtain ⟨rb, ro, rfl, _, hrb, dr⟩ := (HRT.out.grw HG4.out).at_ hu
          have dr := dr 0 _ rfl
          simp only [Nat.add_zero, Nat.mul_one] at dr
          have q3 : (q : Int) < (l.length : Int) := by omega
          have d2 := HROW4.out.cell (i := q + 1) (by omega)
          have HSN := Lib.hid (show bestL g ((rootsL l).take (m + 1)) = if decide (0 < g (q + 1)) && (bestL g ((rootsL l).take m) == 0 || decide (g (q + 1) < g (bestL g ((rootsL l).take m)).toNat)) then (q : Int) + 1 else bestL g ((rootsL l).take m) by rw [take_snocG hu, bestL_snoc]; rfl)
          have hbs := HBS.out m
          obtain ⟨len, hlen⟩ : ∃ n, (rootsL l).length = n := ⟨_, rfl⟩
          rw [hlen] at m3 hml hm hrl ⊢
          obtain ⟨z, hz⟩ : ∃ z, bestL g ((rootsL l).take m) = z := ⟨_, rfl⟩
          have hzr : z = 0 ∨ ∃ p : Nat, p < l.length ∧ z = (p : Int) + 1 := by
            rcases hbs with ⟨h1, _⟩ | ⟨h1, _⟩
            · exact .inl (hz ▸ h1)
            · have := liveL_range (rootsL_live (List.mem_of_mem_take h1))
              rw [hz] at this
              exact .inr ⟨(z - 1).toNat, by omega, by omega⟩
          rw [hz] at HSN ⊢
          clear hu hlen hbs hz
          by_cases hg0 : g (q + 1) = 0
          · have HNX := Lib.hid (show bestL g ((rootsL l).take (m + 1)) = z by rw [HSN.out, decide_eq_false (by omega)]; rfl)
            rw [hg0] at d2
            clear hg0
            go_upto_region 22 with fail
            refine wp_region_segs [] [true, true, true, true, true, true, true, true, true, true, true, true, true, true, true, true, true, true, true, true, true, true, true, true, true, true] (by kernel_rfl) (by kernel_rfl) ?_
            refine segs_nil ?_
            simp only [pick]
            repeat (go_big_quiet_step (fail))
            refine wpQuiet_nil ?_
            intro u1 HU1
            replace HU1 := Lib.hid (HG4.out.trans (Up.grw HU1))
            go_wp2
            go_roundw
            case rel => first | exact ⟨m + 1, by go_num, by omega, by rw [HNX.out], HU1.out⟩ | ((repeat apply Exists.intro); exact ⟨⟨m + 1, by go_num, by omega, by rw [HNX.out], HU1.out⟩, rfl⟩)
            case measure => simp [intOf]; omega
          · have e4 : decide ((0 : Int) < (g (q + 1) : Int)) = true := decide_eq_true (by omega)
            have e9 : decide (0 < g (q + 1)) = true := decide_eq_true (by omega)
            have e5 : (0 : Int) < (g (q + 1) : Int) := by omega
            have e9 : decide (0 < g (q + 1)) = true := decide_eq_true (by omega)
            rcases hzr with rfl | ⟨p, hp, rfl⟩
            · have HNX := Lib.hid (show bestL g ((rootsL l).take (m + 1)) = (q : Int) + 1 by rw [HSN.out, decide_eq_true (by omega)]; rfl)
              clear hg0
              go_upto_region 22 with fail
              refine wp_region_segs [] [true, true, true, true, true, true, true, true, true, true, true, true, true, true, true, true, true, true, true, true, true, true, true, true, true, true] (by kernel_rfl) (by kernel_rfl) ?_
              refine segs_nil ?_
              simp only [pick]
              repeat (go_big_quiet_step (fail))
              refine wpQuiet_nil ?_
              intro u1 HU1
              replace HU1 := Lib.hid (id (Up.grw HU1))
              have d7 : u1.cell? ⟨rb, ro + m, none⟩ = some (.int .i64 ((q : Int) + 1)) := (World.cell?_of_block (a := ⟨rb, ro + m, none⟩) (HU1.out.below.block rb hrb)).trans dr
              go_wp2
              go_roundw
              case rel => first | exact ⟨m + 1, by go_num, by omega, by rw [HNX.out], HG4.out.trans HU1.out⟩ | ((repeat apply Exists.intro); exact ⟨⟨m + 1, by go_num, by omega, by rw [HNX.out], HG4.out.trans HU1.out⟩, rfl⟩)
              case measure => simp [intOf]; omega
            · have p3 : (p : Int) < (l.length : Int) := by omega
              have d3 := HROW4.out.cell (i := p + 1) (by omega)
              have e6 : ((p : Int) + 1 == 0) = false := by rw [beq_eq_false_iff_ne]; omega
              have ep : ((p : Int) + 1).toNat = p + 1 := by omega
              by_cases hlt2 : g (q + 1) < g (p + 1)
              · have e7 : decide ((g (q + 1) : Int) < (g (p + 1) : Int)) = true := decide_eq_true (by omega)
                have e8 : decide (g (q + 1) < g (p + 1)) = true := decide_eq_true hlt2
                have HNX := Lib.hid (show bestL g ((rootsL l).take (m + 1)) = (q : Int) + 1 by rw [HSN.out, decide_eq_true (by omega), ep, e8, e6]; rfl)
                clear hg0 hlt2 ep
                go_upto_region 22 with fail
                refine wp_region_segs [] [true, true, true, true, true, true, true, true, true, true, true, true, true, true, true, true, true, true, true, true, true, true, true, true, true, true] (by kernel_rfl) (by kernel_rfl) ?_
                refine segs_nil ?_
                simp only [pick]
                repeat (go_big_quiet_step (fail))
                refine wpQuiet_nil ?_
                intro u1 HU1
                replace HU1 := Lib.hid (id (Up.grw HU1))
                have d7 : u1.cell? ⟨rb, ro + m, none⟩ = some (.int .i64 ((q : Int) + 1)) := (World.cell?_of_block (a := ⟨rb, ro + m, none⟩) (HU1.out.below.block rb hrb)).trans dr
                go_wp2
                go_roundw
                case rel => first | exact ⟨m + 1, by go_num, by omega, by rw [HNX.out], HG4.out.trans HU1.out⟩ | ((repeat apply Exists.intro); exact ⟨⟨m + 1, by go_num, by omega, by rw [HNX.out], HG4.out.trans HU1.out⟩, rfl⟩)
                case measure => simp [intOf]; omega
              · have e7 : decide ((g (q + 1) : Int) < (g (p + 1) : Int)) = false := decide_eq_false (by omega)
                have e8 : decide (g (q + 1) < g (p + 1)) = false := decide_eq_false hlt2
                have HNX := Lib.hid (show bestL g ((rootsL l).take (m + 1)) = (p : Int) + 1 by rw [HSN.out, decide_eq_true (by omega), ep, e8, e6]; rfl)
                clear hg0 hlt2 ep
                go_upto_region 22 with fail
                refine wp_region_segs [] [true, true, true, true, true, true, true, true, true, true, true, true, true, true, true, true, true, true, true, true, true, true, true, true, true, true] (by kernel_rfl) (by kernel_rfl) ?_
                refine segs_nil ?_
                simp only [pick]
                repeat (go_big_quiet_step (fail))
                refine wpQuiet_nil ?_
                intro u1 HU1
                replace HU1 := Lib.hid (HG4.out.trans (Up.grw HU1))
                go_wp2
                go_roundw
                case rel => first | exact ⟨m + 1, by go_num, by omega, by rw [HNX.out], HU1.out⟩ | ((repeat apply Exists.intro); exact ⟨⟨m + 1, by go_num, by omega, by rw [HNX.out], HU1.out⟩, rfl⟩)
                case measure => simp [intOf]; omega
        · obtain rfl : m = (rootsL l).length := by omega
          have hbs := HBS.out (rootsL l).length
          rw [List.take_of_length_le (Nat.le_refl _)] at hbs ⊢
          -- TAIL
          clear HBS HRT
          obtain ⟨z, hz⟩ : ∃ z, bestL g (rootsL l) = z := ⟨_, rfl⟩
          have hcs : (z = 0 ∧ wayD l g = []) ∨ ∃ p : Nat, p < l.length ∧ z = (p : Int) + 1 ∧ 0 < g (p + 1) ∧ wayD l g = ((p : Int) + 1) :: followL l g (g (p + 1)) ((p : Int) + 1) := by
            rcases hbs with ⟨h1, _⟩ | ⟨h1, h2, _⟩
            · exact .inl ⟨hz ▸ h1, by unfold wayD; rw [if_pos h1]⟩
            · have hr := liveL_range (rootsL_live h1)
              have h3 : wayD l g = bestL g (rootsL l) :: followL l g (g (bestL g (rootsL l)).toNat) (bestL g (rootsL l)) := by unfold wayD; rw [if_neg (by omega)]
              rw [hz] at hr h2 h3
              have e1 : z = ((z - 1).toNat : Int) + 1 := by omega
              have e2 : z.toNat = (z - 1).toNat + 1 := by omega
              exact .inr ⟨(z - 1).toNat, by omega, e1, by rw [← e2]; exact h2, by rw [← e2, ← e1]; exact h3⟩
          rw [hz]
          clear hbs hz
          rcases hcs with ⟨rfl, hwd⟩ | ⟨p, hp, rfl, hgp, hwd⟩
          · have HWN := Lib.hid (HWD.out.symm.trans hwd)
            clear hwd
            go_wp2
            go_ret
            exact ⟨none, 0, by rw [HWN.out]; rfl, HQ.out.trans HG4.out, by rw [HWN.out]; exact World.ownsRow_nil _ _ _ _⟩
          · have HWD2 := Lib.hid hwd
            have e6 : ((p : Int) + 1 == 0) = false := by rw [beq_eq_false_iff_ne]; omega
            have HON := Lib.hid (own_new' wr #[.int .i64 ((p : Int) + 1)] 3 (w.heap.size + 1) 1 1 rfl (by unfold maxLen; omega) (by have := HROW4.out.lt; omega))
            have HROW5 := Lib.hid (rowGrw HROW4.out ((Grw.refl wr).alloc (.cells #[.int .i64 ((p : Int) + 1)] 3)))
            clear hwd htb
            obtain ⟨V3, rfl⟩ : ∃ V, V = wr := ⟨_, rfl⟩
            have HG5 := Lib.hid ((HQ.out.trans HG4.out).alloc (.cells #[.int .i64 ((p : Int) + 1)] 3))
            clear HROW4 HG4 HROW2 HQ
            go_wp2
            go_loopw [12, 15] (fun a out wr => ∃ (p : Nat) (pre : List Int) (OA : Option Addr) (oc : Nat), a = .int .i64 ((p : Int) + 1) ∧ p < l.length ∧ 0 < g (p + 1) ∧ out = .slice OA pre.length oc ∧ wr.ownsRow (w.heap.size + 1) 3 1 (.slice OA pre.length oc) pre.length (pre.map (Value.int .i64)) ∧ wr.rowIs w.heap.size 3 (l.length + 1) (fun i => .int .i64 (g i : Nat)) ∧ Grw w wr ∧ pre ++ followL l g (g (p + 1)) ((p : Int) + 1) = wayD l g) (fun a _ _ => g (intOf a).toNat)
            case atStart => exact ⟨p, [(p : Int) + 1], _, _, rfl, hp, hgp, rfl, HON.out, HROW5.out, HG5.out, HWD2.out.symm⟩
            case round =>
              clear HON HROW5 HG5 HWD2 hp hgp e6
              obtain ⟨V4, rfl⟩ : ∃ V, V = wr := ⟨_, rfl⟩
              obtain ⟨p, pre, OA, oc, rfl, hp, hgp, rfl, hown, hrow, hg5, hfol⟩ := hrel
              have HO := Lib.hid hown
              have HROW5 := Lib.hid hrow
              have HG5 := Lib.hid hg5
              have HFO := Lib.hid hfol
              have p3 : (p : Int) < (l.length : Int) := by omega
              have d1 := hrow.cell (i := p + 1) (by omega)
              have hpl : pre.length ≤ 1000001 := by
                have := HWL.out
                rw [← HWD.out, ← hfol, List.length_append] at this
                omega
              have hszw := hg5.below.size
              clear hown hrow hg5 hfol
              by_cases hone : 1 < g (p + 1)
              · have HNS := Lib.hid (next_spec HFT.out hone)
                have o1 : decide ((1 : Int) < (g (p + 1) : Int)) = true := decide_eq_true (by omega)
                have o2 : (1 : Int) < (g (p + 1) : Int) := by omega
                have hgl := HGL.out (p + 1)
                have HON1 := Lib.hid hone
                clear hone
                go_wp2_with (go_at_call 19; refine (r45Names_any l A c B _ ((p : Int) + 1) (H.out.grw HG5.out) hn).mono ?_; rintro e V5 ⟨MA, mc, rfl, hq, hr⟩; have HQ := Lib.hid hq; have HRW := Lib.hid (own_slb hr); have HROW6 := Lib.hid (rowGrw HROW5.out hq); clear hr hq)
                have hml := HNL.out ((p : Int) + 1)
                have ep : ((p : Int) + 1).toNat = p + 1 := by omega
                go_loopw [17, 18] (fun nx i wr => ∃ m : Nat, i = .int .i64 m ∧ m ≤ (namesL l ((p : Int) + 1)).length ∧ nx = .int .i64 (leastL (fun u => g u.toNat == g (p + 1) - 1) ((namesL l ((p : Int) + 1)).take m)) ∧ Grw V5 wr) (fun _ i _ => (namesL l ((p : Int) + 1)).length - (intOf i).toNat)
                case atStart => exact ⟨0, rfl, Nat.zero_le _, rfl, Grw.refl _⟩
                case round =>
                  obtain ⟨m, rfl, hm, rfl, hg6⟩ := hrel
                  have HG6 := Lib.hid hg6
                  have HROW7 := Lib.hid (rowGrw HROW6.out hg6)
                  have htb := HROW7.out.lt
                  have d1 := HROW7.out.cell (i := p + 1) (by omega)
                  clear hg6
                  by_cases hml2 : m < (namesL l ((p : Int) + 1)).length
                  · have m3 : (m : Int) < ((namesL l ((p : Int) + 1)).length : Int) := by omega
                    obtain ⟨u, hu⟩ : ∃ o, (namesL l ((p : Int) + 1))[m]? = some o := ⟨_, List.getElem?_eq_getElem hml2⟩
                    obtain ⟨j, hj, rfl⟩ := namesL_nat (List.mem_of_getElem? hu)
                    obtain ⟨rb, ro, rfl, _, hrb, dr⟩ := (HRW.out.grw HG6.out).at_ hu
                    have dr := dr 0 _ rfl
                    rw [show ((j + 1 : Nat) : Int) = (j : Int) + 1 by omega] at dr hu
                    simp only [Nat.add_zero, Nat.mul_one] at dr
                    have j3 : (j : Int) < (l.length : Int) := by omega
                    have d2 := HROW7.out.cell (i := j + 1) (by omega)
                    have HSN := Lib.hid (show leastL (fun u => g u.toNat == g (p + 1) - 1) ((namesL l ((p : Int) + 1)).take (m + 1)) = if (g (j + 1) == g (p + 1) - 1) && (leastL (fun u => g u.toNat == g (p + 1) - 1) ((namesL l ((p : Int) + 1)).take m) == 0 || decide ((j : Int) + 1 < leastL (fun u => g u.toNat == g (p + 1) - 1) ((namesL l ((p : Int) + 1)).take m))) then (j : Int) + 1 else leastL (fun u => g u.toNat == g (p + 1) - 1) ((namesL l ((p : Int) + 1)).take m) by rw [take_snocG hu, leastL_snoc]; rfl)
                    obtain ⟨len, hlen⟩ : ∃ n, (namesL l ((p : Int) + 1)).length = n := ⟨_, rfl⟩
                    rw [hlen] at m3 hml2 hm hml ⊢
                    obtain ⟨z, hz⟩ : ∃ z, leastL (fun u => g u.toNat == g (p + 1) - 1) ((namesL l ((p : Int) + 1)).take m) = z := ⟨_, rfl⟩
                    rw [hz] at HSN ⊢
                    clear hu hlen hz ep
                    by_cases hgj : g (j + 1) = g (p + 1) - 1
                    · have e3 : ((g (j + 1) : Int) == (g (p + 1) : Int) - 1) = true := by rw [beq_iff_eq]; omega
                      have e3n : (g (j + 1) == g (p + 1) - 1) = true := by rw [beq_iff_eq]; omega
                      have hyes : (z == 0 || decide ((j : Int) + 1 < z)) = true → leastL (fun u => g u.toNat == g (p + 1) - 1) ((namesL l ((p : Int) + 1)).take (m + 1)) = (j : Int) + 1 := fun h => by rw [HSN.out, e3n, h]; rfl
                      have hnot : (z == 0 || decide ((j : Int) + 1 < z)) = false → leastL (fun u => g u.toNat == g (p + 1) - 1) ((namesL l ((p : Int) + 1)).take (m + 1)) = z := fun h => by rw [HSN.out, e3n, h]; rfl
                      cases hz0 : (z == 0)
                      · cases hzl : decide ((j : Int) + 1 < z)
                        · have HNX := Lib.hid (hnot (by rw [hz0, hzl]; rfl))
                          clear hyes hnot hgj
                          go_upto_region 33 with fail
                          refine wp_region_segs [] [true, true, true, true, true, true, true, true, true, true, true, true, true, true, true, true, true, true, true, true, true, true, true, true, true] (by kernel_rfl) (by kernel_rfl) ?_
                          refine segs_nil ?_
                          simp only [pick]
                          repeat (go_big_quiet_step (fail))
                          refine wpQuiet_nil ?_
                          intro u1 HU1
                          replace HU1 := Lib.hid (HG6.out.trans (Up.grw HU1))
                          go_wp2
                          go_roundw
                          case rel => first | exact ⟨m + 1, by go_num, by omega, by rw [HNX.out], HU1.out⟩ | ((repeat apply Exists.intro); exact ⟨⟨m + 1, by go_num, by omega, by rw [HNX.out], HU1.out⟩, rfl⟩)
                          case measure => simp [intOf]; omega
                        · have HNX := Lib.hid (hyes (by rw [hz0, hzl]; rfl))
                          clear hyes hnot hgj
                          go_upto_region 33 with fail
                          refine wp_region_segs [] [true, true, true, true, true, true, true, true, true, true, true, true, true, true, true, true, true, true, true, true, true, true, true, true, true] (by kernel_rfl) (by kernel_rfl) ?_
                          refine segs_nil ?_
                          simp only [pick]
                          repeat (go_big_quiet_step (fail))
                          refine wpQuiet_nil ?_
                          intro u1 HU1
                          replace HU1 := Lib.hid (id (Up.grw HU1))
                          have d7 : u1.cell? ⟨rb, ro + m, none⟩ = some (.int .i64 ((j : Int) + 1)) := (World.cell?_of_block (a := ⟨rb, ro + m, none⟩) (HU1.out.below.block rb hrb)).trans dr
                          go_wp2
                          go_roundw
                          case rel => first | exact ⟨m + 1, by go_num, by omega, by rw [HNX.out], HG6.out.trans HU1.out⟩ | ((repeat apply Exists.intro); exact ⟨⟨m + 1, by go_num, by omega, by rw [HNX.out], HG6.out.trans HU1.out⟩, rfl⟩)
                          case measure => simp [intOf]; omega
                      · have HNX := Lib.hid (hyes (by rw [hz0]; rfl))
                        clear hyes hnot hgj
                        go_upto_region 33 with fail
                        refine wp_region_segs [] [true, true, true, true, true, true, true, true, true, true, true, true, true, true, true, true, true, true, true, true, true, true, true, true, true] (by kernel_rfl) (by kernel_rfl) ?_
                        refine segs_nil ?_
                        simp only [pick]
                        repeat (go_big_quiet_step (fail))
                        refine wpQuiet_nil ?_
                        intro u1 HU1
                        replace HU1 := Lib.hid (id (Up.grw HU1))
                        have d7 : u1.cell? ⟨rb, ro + m, none⟩ = some (.int .i64 ((j : Int) + 1)) := (World.cell?_of_block (a := ⟨rb, ro + m, none⟩) (HU1.out.below.block rb hrb)).trans dr
                        go_wp2
                        go_roundw
                        case rel => first | exact ⟨m + 1, by go_num, by omega, by rw [HNX.out], HG6.out.trans HU1.out⟩ | ((repeat apply Exists.intro); exact ⟨⟨m + 1, by go_num, by omega, by rw [HNX.out], HG6.out.trans HU1.out⟩, rfl⟩)
                        case measure => simp [intOf]; omega
                    · have e3 : ((g (j + 1) : Int) == (g (p + 1) : Int) - 1) = false := by rw [beq_eq_false_iff_ne]; omega
                      have HNX := Lib.hid (show leastL (fun u => g u.toNat == g (p + 1) - 1) ((namesL l ((p : Int) + 1)).take (m + 1)) = z by rw [HSN.out, show (g (j + 1) == g (p + 1) - 1) = false by rw [beq_eq_false_iff_ne]; exact hgj]; rfl)
                      clear hgj
                      go_upto_region 33 with fail
                      refine wp_region_segs [] [true, true, true, true, true, true, true, true, true, true, true, true, true, true, true, true, true, true, true, true, true, true, true, true, true] (by kernel_rfl) (by kernel_rfl) ?_
                      refine segs_nil ?_
                      simp only [pick]
                      repeat (go_big_quiet_step (fail))
                      refine wpQuiet_nil ?_
                      intro u1 HU1
                      replace HU1 := Lib.hid (HG6.out.trans (Up.grw HU1))
                      go_wp2
                      go_roundw
                      case rel => first | exact ⟨m + 1, by go_num, by omega, by rw [HNX.out], HU1.out⟩ | ((repeat apply Exists.intro); exact ⟨⟨m + 1, by go_num, by omega, by rw [HNX.out], HU1.out⟩, rfl⟩)
                      case measure => simp [intOf]; omega
                  · obtain rfl : m = (namesL l ((p : Int) + 1)).length := by omega
                    obtain ⟨q, hq, hnx, hgq, hfq⟩ := HNS.out
                    rw [List.take_of_length_le (Nat.le_refl _)]
                    rw [nextL, ep] at hnx
                    rw [hnx]
                    have HFQ := Lib.hid hfq
                    have HGQ := Lib.hid hgq
                    have HQL := Lib.hid hq
                    have HG7 := Lib.hid (HG5.out.trans (HQ.out.trans HG6.out))
                    have HO7 : Hid (wr.ownsRow (w.heap.size + 1) 3 1 (.slice OA pre.length oc) pre.length (pre.map (Value.int .i64))) := Lib.hid (by obtain ⟨xh, xd, rfl⟩ := HQ.out.trans HG6.out; exact own_ext HO.out xh xd)
                    have hsz8 := HG7.out.below.size
                    clear hnx hgq hfq hq hm hml hml2 HRW HROW6 HQ HG6
                    go_wp2_with (first
                      | (at_builtin
                         refine wpList_append_own _ rfl _ _ 39 rfl (w.heap.size + 1) 3 i0 _ 1 8 Try.underlying39 hi hz0 hz1 hz2 rfl (by decide) (.slice OA pre.length oc) (pre.length) (pre.map (Value.int .i64)) rfl ((own_alloc HO7.out _)) ⟨wr.heap.size, 0, none⟩ 1 1 [.int .i64 ((q : Int) + 1)] rfl rfl ?c1 ?c2 ?c3 ?c4 ?c5 ?_
                         case c1 => exact news_alloc _ #[_] _ _ (by simp [wext_size])
                         case c2 => simp [Value.oneCell']
                         case c3 => unfold maxLen; omega
                         case c4 => omega
                         case c5 => simp [wext_size]; omega
                         intro v' w1 hown1 hgrow _
                         (have HN1 := Lib.hid hown1; have HGr := Lib.hid (show Grw w w1 by exact Grw.grown (row := (Value.slice OA pre.length oc).ownBlock) (by repeat (first | exact HG7.out | apply Grw.ext | apply Grw.alloc | apply Grw.drewN | apply Grw.drew)) hgrow (fun j hj => Nat.le_trans (Nat.le_succ _) (own_beyond HO7.out j hj))); have HRr := Lib.hid (rowGrown HROW7.out hgrow (own_beyond HO7.out)); obtain ⟨g', cap', rfl⟩ := ownsRow_succ HN1.out; clear hown1 hgrow)))
                    go_roundw
                    case rel => exact ⟨q, pre ++ [(q : Int) + 1], some ⟨g', 0, none⟩, cap', rfl, HQL.out, by have := HGQ.out; have := HON1.out; omega, by simp, by simpa using HN1.out, HRr.out, HGr.out, by rw [← HFO.out, HFQ.out]; simp⟩
                    case measure =>
                      have := HGQ.out
                      simp only [intOf]
                      rw [show ((q : Int) + 1).toNat = q + 1 by omega, ep]
                      omega
              · have o1 : decide ((1 : Int) < (g (p + 1) : Int)) = false := decide_eq_false (by omega)
                have o2 : ¬ (1 : Int) < (g (p + 1) : Int) := by omega
                have HPR := Lib.hid (show pre = wayL l ((t : Int) + 1) ar by
                  rw [← HWD.out, ← HFO.out, show g (p + 1) = 1 by omega]
                  simp [followL])
                clear hone
                go_wp2
                go_ret
                exact ⟨OA, oc, by rw [← HPR.out]; rfl, HG5.out, by rw [← HPR.out]; exact own_mono HO.out (Nat.le_succ _)⟩
end
end Go.Proofs.Ytgjpbhgobjlneaa
