/- Contracts of iso.list (plain) and matcher.events. Conditions: none. -/
import Derived.Test.YtgjpbhgobjlneaaIso3
namespace Go.Proofs.Ytgjpbhgobjlneaa
open Go.RowKit
/-- A block of ints whose first ones are these. -/
def RowI (w : World) (A : Option Addr) (xs : List Int) : Prop := ∃ q cur, A = some ⟨q, 0, none⟩ ∧ w.heap[q]? = some (.cells cur 3) ∧ cur.toList.take xs.length = xs.map (Value.int .i64)
theorem RowI.kpt {w w' : World} {A : Option Addr} {xs : List Int} (h : RowI w A xs) (k : Kpt w w') : RowI w' A xs := by
  obtain ⟨q, cur, h1, h2, h3⟩ := h
  exact ⟨q, cur, h1, k q cur _ h2 (by decide) (by decide), h3⟩
theorem RowI.at_ {w : World} {A : Option Addr} {xs : List Int} (h : RowI w A xs) {i : Nat} {x : Int} (hx : xs[i]? = some x) : ∃ q, A = some ⟨q, 0, none⟩ ∧ w.cell? ⟨q, i, none⟩ = some (.int .i64 x) := by
  obtain ⟨q, cur, h1, h2, h3⟩ := h
  have hi : i < xs.length := (List.getElem?_eq_some_iff.1 hx).1
  have e : (cur.toList.take xs.length)[i]? = some (.int .i64 x) := by rw [h3, List.getElem?_map, hx]; rfl
  rw [List.getElem?_take, if_pos hi] at e
  exact ⟨q, h1, by simp only [World.cell?, h2]; simpa using e⟩
theorem RowI.of_own {w : World} {base c : Nat} {A : Option Addr} {xs : List Int} (hne : xs ≠ []) (h : w.ownsRow base 3 1 (.slice A xs.length c) xs.length (xs.map (Value.int .i64))) : RowI w A xs := by
  rcases h.2 with ⟨_, h0⟩ | ⟨q, cap, cur, hv, _, hq, _, _, _, ht⟩
  · exact absurd (List.length_eq_zero_iff.1 h0) hne
  · injection hv with hA _ _
    exact ⟨q, cur, hA, hq, by simpa using ht⟩
theorem nums_ne (e : Ev) : e.nums ≠ [] := by unfold Ev.nums; simp
theorem nums_le (e : Ev) : e.nums.length ≤ 7 := by unfold Ev.nums; split <;> simp
theorem list_any (e : Ev) (w : World) : Calls Try.prog 47 #[.agg e.arr] w fun E W' => ∃ A c, E = .returned (.slice A e.nums.length c) ∧ RowI W' A e.nums ∧ Below w.heap.size w W' :=
  (callsIn_wide (n := 3)).1 ((list_in Fence.wide 3 trivial trivial trivial rfl (by omega) e w).mono fun E W' ⟨A, c, h1, h2, h3⟩ => ⟨A, c, h1, .of_own (nums_ne e) h2, h3⟩)
theorem bs_beq2 (a b : List UInt8) : (a == (bs b).toList) = (a == b) := by rw [toList_eq_data, bs_data]
def Ev.ok (e : Ev) : Prop := ∀ x ∈ e.nums, (Lit.int .i64 x).wf = true
theorem holdL_len {ps qs : List (Int × Int)} {a b : Int} (h : holdL ps a b = some qs) : qs.length ≤ ps.length + 1 := by
  unfold holdL at h
  split at h
  · cases h
  · split at h
    · injection h with h; subst h; omega
    · split at h
      · split at h
        · injection h with h; subst h; omega
        · cases h
      · injection h with h; subst h; simp
theorem foldH_len : ∀ {l ps qs : List (Int × Int)}, foldH ps l = some qs → qs.length ≤ ps.length + l.length
  | [], ps, qs, h => by simp [foldH] at h; subst h; simp
  | (a, b) :: r, ps, qs, h => by
    simp only [foldH, Option.bind_eq_some_iff] at h
    obtain ⟨rs, h1, h2⟩ := h
    have := holdL_len h1
    have := foldH_len h2
    simp; omega
theorem St.below {B g : Nat} {w w' : World} {ps : List (Int × Int)} (h : St B w g ps) (hb : Below w.heap.size w w') : St B w' g ps := by
  obtain ⟨bt, bb, A, c, hg, h1, h2, ho, r⟩ := h
  refine ⟨bt, bb, A, c, (hb.block g (Array.getElem?_eq_some_iff.1 hg).1).trans hg, h1.below hb h1.lt, h2.below hb h2.lt, ?_, r.1, r.2.1, r.2.2.1, r.2.2.2.1, r.2.2.2.2.1, r.2.2.2.2.2.1, Nat.le_trans r.2.2.2.2.2.2 hb.size⟩
  refine ⟨ho.1, ?_⟩
  rcases ho.2 with hn | ⟨q, cap, cur, hv, hB, hq, rest⟩
  · exact .inl hn
  · exact .inr ⟨q, cap, cur, hv, hB, (hb.block q (Array.getElem?_eq_some_iff.1 hq).1).trans hq, rest⟩
def EvPost (B : Nat) (w : World) (g : Nat) (ps : List (Int × Int)) (a b : Ev) (e : Ending) (w' : World) : Prop :=
  e = .returned (.bool (evL ps a b).isSome) ∧ Below B w w' ∧ Kpt w w' ∧ ∀ qs, evL ps a b = some qs → St B w' g qs
theorem below_alloc2 {B : Nat} (w : World) (h : B ≤ w.heap.size) (o1 o2 : Obj) : Below B w ((w.alloc o1).alloc o2) := ((Below.refl B w).alloc h _).alloc (by simp; omega) _
theorem kpt_alloc2 (w : World) (o1 o2 : Obj) : Kpt w ((w.alloc o1).alloc o2) := .of_below (below_alloc2 w (Nat.le_refl _) o1 o2)
section
variable (B g : Nat) (ps : List (Int × Int)) (a b : Ev) (w : World)
set_option maxRecDepth 100000 in
set_option maxHeartbeats 4000000 in
theorem events_no (hB : B ≤ w.heap.size) (h : alikeE a b = false) :
    Calls Try.prog 31 #[.pointer (some ⟨g, 0, none⟩), .agg a.arr, .agg b.arr] w (EvPost B w g ps a b) := by
  have HH := Lib.hid (show evL ps a b = none by unfold evL; rw [h]; rfl)
  have hfin : ∀ w', Below B w w' → Kpt w w' → EvPost B w g ps a b (.returned (.bool false)) w' := fun w' h1 h2 => ⟨by rw [HH.out]; rfl, h1, h2, fun qs h => by rw [HH.out] at h; cases h⟩
  have HF := Lib.hid hfin
  clear hfin HH
  obtain ⟨k1, x1, y1, n1, r1, v1, p1, p2, p3, p4⟩ := a
  obtain ⟨k2, x2, y2, n2, r2, v2, q1, q2, q3, q4⟩ := b
  simp only [Ev.arr]
  have hb := bs_beq2 n1 n2
  by_cases hk : k1 = k2
  · subst hk
    by_cases hn : n1 = n2
    · subst hn
      have e2 : (n1 == n1) = true := by simp
      cases r1 <;> cases r2
      · have e3 : ((v1 : Int) != v2) = true := by simpa [alikeE] using h
        clear h
        go_enter Try.func31, Try.ntmps31
        go_wp2
        go_ret
        exact HF.out _ (below_alloc2 _ hB _ _) (kpt_alloc2 _ _ _)
      · clear h
        go_enter Try.func31, Try.ntmps31
        go_wp2
        go_ret
        exact HF.out _ (below_alloc2 _ hB _ _) (kpt_alloc2 _ _ _)
      · clear h
        go_enter Try.func31, Try.ntmps31
        go_wp2
        go_ret
        exact HF.out _ (below_alloc2 _ hB _ _) (kpt_alloc2 _ _ _)
      · simp [alikeE] at h
    · have e2 : (n1 == n2) = false := by simpa using hn
      clear hn h
      go_enter Try.func31, Try.ntmps31
      go_wp2
      go_ret
      exact HF.out _ (below_alloc2 _ hB _ _) (kpt_alloc2 _ _ _)
  · have e1 : ((k1 : Int) != k2) = true := by simpa using hk
    clear hk h hb
    go_enter Try.func31, Try.ntmps31
    go_wp2
    go_ret
    exact HF.out _ (below_alloc2 _ hB _ _) (kpt_alloc2 _ _ _)
theorem zip_take (xs ys : List Int) (k : Nat) (x y : Int) (hx : xs[k]? = some x) (hy : ys[k]? = some y) : (xs.zip ys).take (k + 1) = (xs.zip ys).take k ++ [(x, y)] := by
  have : (xs.zip ys)[k]? = some (x, y) := by rw [List.getElem?_zip_eq_some]; exact ⟨hx, hy⟩
  obtain ⟨h1, h2⟩ := List.getElem?_eq_some_iff.1 this
  rw [List.take_succ_eq_append_getElem h1, h2]
theorem list_any' (e : Ev) (l : List Int) (hl : Hid (e.nums = l)) (w : World) : Calls Try.prog 47 #[.agg e.arr] w fun E W' => ∃ A c, E = .returned (.slice A l.length c) ∧ RowI W' A l ∧ Below w.heap.size w W' := by
  have := hl.out; subst this; exact list_any e w
theorem cells_all {w : World} {b : Nat} {cs : Array Value} {t : TypeId} (h : w.heap[b]? = some (.cells cs t)) : ∀ i, w.cell? ⟨b, i, none⟩ = cs[i]? := by
  intro i; simp [World.cell?, h]
set_option maxRecDepth 100000 in
set_option maxHeartbeats 1000000 in
theorem events_yes (hB : B ≤ w.heap.size) (h : alikeE a b = true) (ha : a.ok) (hb : b.ok) (hs : St B w g ps) (hn : ps.length ≤ 900000) :
    Calls Try.prog 31 #[.pointer (some ⟨g, 0, none⟩), .agg a.arr, .agg b.arr] w (EvPost B w g ps a b) := by
  have HH := Lib.hid (show evL ps a b = foldH ps (a.nums.zip b.nums) by unfold evL; rw [h]; rfl)
  have HL := Lib.hid (nums_len h)
  have hl7 := nums_le a
  have HS := Lib.hid hs
  have HA : Hid (∀ x ∈ a.nums, (Lit.int .i64 x).wf = true) := Lib.hid ha
  have HB : Hid (∀ x ∈ b.nums, (Lit.int .i64 x).wf = true) := Lib.hid hb
  clear hs ha hb
  obtain ⟨na, hna⟩ : ∃ l, a.nums = l := ⟨_, rfl⟩
  obtain ⟨nb, hnb⟩ : ∃ l, b.nums = l := ⟨_, rfl⟩
  rw [hna] at HH HL HA hl7
  rw [hnb] at HH HL HB
  have HNA := Lib.hid hna
  have HNB := Lib.hid hnb
  clear hna hnb
  obtain ⟨ev, hev⟩ : ∃ r, evL ps a b = r := ⟨_, rfl⟩
  have hp : ∀ e w', (e = .returned (.bool ev.isSome) ∧ Below B w w' ∧ Kpt w w' ∧ ∀ qs, ev = some qs → St B w' g qs) → EvPost B w g ps a b e w' := by
    rw [← hev]; exact fun e w' h => h
  have HP := Lib.hid hp
  rw [hev] at HH
  clear hp hev
  refine Calls.mono ?_ HP.out
  clear HP
  obtain ⟨k1, x1, y1, n1, r1, v1, p1, p2, p3, p4⟩ := a
  obtain ⟨k2, x2, y2, n2, r2, v2, q1, q2, q3, q4⟩ := b
  have hcs : k1 = k2 ∧ n1 = n2 ∧ (r1 = true ∧ r2 = true ∨ r1 = false ∧ r2 = false ∧ v1 = v2) := by
    simp only [alikeE, Bool.and_eq_true, beq_iff_eq, Bool.or_eq_true] at h
    refine ⟨h.1.1.1, h.1.1.2, ?_⟩
    rcases h.2 with h2 | h2
    · exact .inl ⟨h2, h.1.2 ▸ h2⟩
    · cases r1
      · exact .inr ⟨rfl, h.1.2.symm, h2⟩
      · exact .inl ⟨rfl, h.1.2.symm⟩
  clear h
  obtain ⟨rfl, rfl, hcs⟩ := hcs
  have hbq := bs_beq2 n1 n1
  have e2 : (n1 == n1) = true := by simp
  simp only [Ev.arr]
  rcases hcs with ⟨rfl, rfl⟩ | ⟨rfl, rfl, rfl⟩
  · go_enter Try.func31, Try.ntmps31
    go_wp2_with fail
    refine (list_any' ⟨k1, x2, y2, n1, true, v2, q1, q2, q3, q4⟩ nb HNB _).mono ?_
    rintro e w1 ⟨A2, c2, rfl, hr2, hb1⟩
    have hblk : w1.heap[w.heap.size]? = some (.cells #[.int .i64 k1, .int .i64 x1, .int .i64 y1, .string (bs n1), .bool true, .int .i64 v1, .int .i64 p1, .int .i64 p2, .int .i64 p3, .int .i64 p4] 35) := (hb1.block _ (by simp; omega)).trans ((Below.heap_alloc _ _ _ (by simp)).trans (block_alloc w _ _ rfl))
    have hcl := cells_all hblk
    have HB1 := Lib.hid hb1
    have HR2 := Lib.hid hr2
    clear hb1 hr2 hblk hbq e2
    go_wp2_with fail
    refine (list_any' ⟨k1, x1, y1, n1, true, v1, p1, p2, p3, p4⟩ na HNA _).mono ?_
    rintro e w2 ⟨A1, c1, rfl, hr1, hb2⟩
    have HK2 : Hid (Kpt w w2) := Lib.hid (((kpt_alloc2 w _ _).trans (.of_below HB1.out)).trans (.of_below hb2))
    have HB2 : Hid (Below B w w2) := Lib.hid (((below_alloc2 w hB _ _).trans (HB1.out.mono (by simp; omega))).trans (hb2.mono (by have := HB1.out.size; simp at this; omega)))
    have HR2' := Lib.hid (HR2.out.kpt (.of_below hb2))
    have HR1 := Lib.hid hr1
    have HS2 := Lib.hid ((HS.out.below ((below_alloc2 w (Nat.le_refl _) _ _).trans (HB1.out.mono (by simp; omega)))).below hb2)
    clear hcl hr1 hb2 HB1 HR2
    go_wp2
    go_loopw [51] (fun i wr => ∃ (k : Nat) (qs : List (Int × Int)), k ≤ na.length ∧ i = .int .i64 k ∧ foldH ps ((na.zip nb).take k) = some qs ∧ St B wr g qs ∧ Below B w wr ∧ Kpt w wr ∧ RowI wr A1 na ∧ RowI wr A2 nb) (fun i _ => na.length - (intOf i).toNat)
    case atStart => exact ⟨0, ps, Nat.zero_le _, rfl, rfl, HS2.out, HB2.out, HK2.out, HR1.out, HR2'.out⟩
    case round =>
      obtain ⟨k, qs, hk, rfl, hf, hst, hbw, hkw, ha1, ha2⟩ := hrel
      by_cases hlt : k < na.length
      · obtain ⟨x, hx⟩ : ∃ o, na[k]? = some o := ⟨_, List.getElem?_eq_getElem hlt⟩
        obtain ⟨y, hy⟩ : ∃ o, nb[k]? = some o := ⟨_, List.getElem?_eq_getElem (HL.out ▸ hlt)⟩
        obtain ⟨b1, rfl, d1⟩ := ha1.at_ hx
        obtain ⟨b2, rfl, d2⟩ := ha2.at_ hy
        have f3 : (k : Int) < (na.length : Int) := by omega
        have f4 : (k : Int) < (nb.length : Int) := by have := HL.out; omega
        have hwx := HA.out x (List.mem_of_getElem? hx)
        have hwy := HB.out y (List.mem_of_getElem? hy)
        have hqn : qs.length ≤ 1000000 := by have := foldH_len hf; rw [List.length_take] at this; omega
        have HZ : Hid (foldH ps ((na.zip nb).take (k + 1)) = holdL qs x y) := Lib.hid (by rw [zip_take na nb k x y hx hy, foldH_snoc, hf]; rfl)
        have HST := Lib.hid hst
        have HBW := Lib.hid hbw
        have HKW := Lib.hid hkw
        have HR1' := Lib.hid ha1
        have HR2'' := Lib.hid ha2
        have HQ := Lib.hid hqn
        have HWX := Lib.hid hwx
        have HWY := Lib.hid hwy
        have HEQ : Hid (holdL qs x y = none → ev = none) := Lib.hid (fun hh => by
          rw [HH.out, ← List.take_append_drop (k + 1) (na.zip nb)]; exact foldH_none _ _ (by rw [HZ.out, hh]))
        clear hst hbw hkw ha1 ha2 hqn hf hx hy hwx hwy
        go_wp2_with fail
        refine (hold_any B g qs x y _ HWX.out HWY.out HST.out HQ.out).mono ?_
        rintro e w3 ⟨rfl, hB3, hK3, hS3⟩
        cases hh : holdL qs x y with
        | none =>
          have HE := Lib.hid (HEQ.out hh)
          have H3 := Lib.hid (And.intro hB3 hK3)
          clear hh hB3 hK3 hS3
          go_wp2
          go_ret
          exact ⟨by rw [HE.out]; rfl, HBW.out.trans H3.out.1, HKW.out.trans H3.out.2, fun qs h => by rw [HE.out] at h; cases h⟩
        | some rs =>
          have HE := Lib.hid hh
          have H3 := Lib.hid (And.intro hB3 (And.intro hK3 (hS3 _ hh)))
          clear hh hB3 hK3 hS3
          go_wp2
          go_roundw
          case rel => first | exact ⟨k + 1, rs, by omega, by go_num, by rw [HZ.out, HE.out], H3.out.2.2, HBW.out.trans H3.out.1, HKW.out.trans H3.out.2.1, HR1'.out.kpt H3.out.2.1, HR2''.out.kpt H3.out.2.1⟩ | ((repeat apply Exists.intro); exact ⟨⟨k + 1, rs, by omega, by go_num, by rw [HZ.out, HE.out], H3.out.2.2, HBW.out.trans H3.out.1, HKW.out.trans H3.out.2.1, HR1'.out.kpt H3.out.2.1, HR2''.out.kpt H3.out.2.1⟩, rfl⟩)
          case measure => simp [intOf]; omega
      · obtain rfl : k = na.length := by omega
        have HE : Hid (ev = some qs) := Lib.hid (by rw [HH.out, ← hf, List.take_of_length_le (by rw [List.length_zip]; omega)])
        have HST := Lib.hid (And.intro hst (And.intro hbw hkw))
        clear hst hbw hkw hf ha1 ha2
        go_wp2
        go_ret
        exact ⟨by rw [HE.out]; rfl, HST.out.2.1, HST.out.2.2, fun qs' h => by rw [HE.out] at h; injection h with h; subst h; exact HST.out.1⟩
  · go_enter Try.func31, Try.ntmps31
    go_wp2_with fail
    refine (list_any' ⟨k1, x2, y2, n1, false, v1, q1, q2, q3, q4⟩ nb HNB _).mono ?_
    rintro e w1 ⟨A2, c2, rfl, hr2, hb1⟩
    have hblk : w1.heap[w.heap.size]? = some (.cells #[.int .i64 k1, .int .i64 x1, .int .i64 y1, .string (bs n1), .bool false, .int .i64 v1, .int .i64 p1, .int .i64 p2, .int .i64 p3, .int .i64 p4] 35) := (hb1.block _ (by simp; omega)).trans ((Below.heap_alloc _ _ _ (by simp)).trans (block_alloc w _ _ rfl))
    have hcl := cells_all hblk
    have HB1 := Lib.hid hb1
    have HR2 := Lib.hid hr2
    clear hb1 hr2 hblk hbq e2
    go_wp2_with fail
    refine (list_any' ⟨k1, x1, y1, n1, false, v1, p1, p2, p3, p4⟩ na HNA _).mono ?_
    rintro e w2 ⟨A1, c1, rfl, hr1, hb2⟩
    have HK2 : Hid (Kpt w w2) := Lib.hid (((kpt_alloc2 w _ _).trans (.of_below HB1.out)).trans (.of_below hb2))
    have HB2 : Hid (Below B w w2) := Lib.hid (((below_alloc2 w hB _ _).trans (HB1.out.mono (by simp; omega))).trans (hb2.mono (by have := HB1.out.size; simp at this; omega)))
    have HR2' := Lib.hid (HR2.out.kpt (.of_below hb2))
    have HR1 := Lib.hid hr1
    have HS2 := Lib.hid ((HS.out.below ((below_alloc2 w (Nat.le_refl _) _ _).trans (HB1.out.mono (by simp; omega)))).below hb2)
    clear hcl hr1 hb2 HB1 HR2
    go_wp2
    go_loopw [51] (fun i wr => ∃ (k : Nat) (qs : List (Int × Int)), k ≤ na.length ∧ i = .int .i64 k ∧ foldH ps ((na.zip nb).take k) = some qs ∧ St B wr g qs ∧ Below B w wr ∧ Kpt w wr ∧ RowI wr A1 na ∧ RowI wr A2 nb) (fun i _ => na.length - (intOf i).toNat)
    case atStart => exact ⟨0, ps, Nat.zero_le _, rfl, rfl, HS2.out, HB2.out, HK2.out, HR1.out, HR2'.out⟩
    case round =>
      obtain ⟨k, qs, hk, rfl, hf, hst, hbw, hkw, ha1, ha2⟩ := hrel
      by_cases hlt : k < na.length
      · obtain ⟨x, hx⟩ : ∃ o, na[k]? = some o := ⟨_, List.getElem?_eq_getElem hlt⟩
        obtain ⟨y, hy⟩ : ∃ o, nb[k]? = some o := ⟨_, List.getElem?_eq_getElem (HL.out ▸ hlt)⟩
        obtain ⟨b1, rfl, d1⟩ := ha1.at_ hx
        obtain ⟨b2, rfl, d2⟩ := ha2.at_ hy
        have f3 : (k : Int) < (na.length : Int) := by omega
        have f4 : (k : Int) < (nb.length : Int) := by have := HL.out; omega
        have hwx := HA.out x (List.mem_of_getElem? hx)
        have hwy := HB.out y (List.mem_of_getElem? hy)
        have hqn : qs.length ≤ 1000000 := by have := foldH_len hf; rw [List.length_take] at this; omega
        have HZ : Hid (foldH ps ((na.zip nb).take (k + 1)) = holdL qs x y) := Lib.hid (by rw [zip_take na nb k x y hx hy, foldH_snoc, hf]; rfl)
        have HST := Lib.hid hst
        have HBW := Lib.hid hbw
        have HKW := Lib.hid hkw
        have HR1' := Lib.hid ha1
        have HR2'' := Lib.hid ha2
        have HQ := Lib.hid hqn
        have HWX := Lib.hid hwx
        have HWY := Lib.hid hwy
        have HEQ : Hid (holdL qs x y = none → ev = none) := Lib.hid (fun hh => by
          rw [HH.out, ← List.take_append_drop (k + 1) (na.zip nb)]; exact foldH_none _ _ (by rw [HZ.out, hh]))
        clear hst hbw hkw ha1 ha2 hqn hf hx hy hwx hwy
        go_wp2_with fail
        refine (hold_any B g qs x y _ HWX.out HWY.out HST.out HQ.out).mono ?_
        rintro e w3 ⟨rfl, hB3, hK3, hS3⟩
        cases hh : holdL qs x y with
        | none =>
          have HE := Lib.hid (HEQ.out hh)
          have H3 := Lib.hid (And.intro hB3 hK3)
          clear hh hB3 hK3 hS3
          go_wp2
          go_ret
          exact ⟨by rw [HE.out]; rfl, HBW.out.trans H3.out.1, HKW.out.trans H3.out.2, fun qs h => by rw [HE.out] at h; cases h⟩
        | some rs =>
          have HE := Lib.hid hh
          have H3 := Lib.hid (And.intro hB3 (And.intro hK3 (hS3 _ hh)))
          clear hh hB3 hK3 hS3
          go_wp2
          go_roundw
          case rel => first | exact ⟨k + 1, rs, by omega, by go_num, by rw [HZ.out, HE.out], H3.out.2.2, HBW.out.trans H3.out.1, HKW.out.trans H3.out.2.1, HR1'.out.kpt H3.out.2.1, HR2''.out.kpt H3.out.2.1⟩ | ((repeat apply Exists.intro); exact ⟨⟨k + 1, rs, by omega, by go_num, by rw [HZ.out, HE.out], H3.out.2.2, HBW.out.trans H3.out.1, HKW.out.trans H3.out.2.1, HR1'.out.kpt H3.out.2.1, HR2''.out.kpt H3.out.2.1⟩, rfl⟩)
          case measure => simp [intOf]; omega
      · obtain rfl : k = na.length := by omega
        have HE : Hid (ev = some qs) := Lib.hid (by rw [HH.out, ← hf, List.take_of_length_le (by rw [List.length_zip]; omega)])
        have HST := Lib.hid (And.intro hst (And.intro hbw hkw))
        clear hst hbw hkw hf ha1 ha2
        go_wp2
        go_ret
        exact ⟨by rw [HE.out]; rfl, HST.out.2.1, HST.out.2.2, fun qs' h => by rw [HE.out] at h; injection h with h; subst h; exact HST.out.1⟩
end
end Go.Proofs.Ytgjpbhgobjlneaa
