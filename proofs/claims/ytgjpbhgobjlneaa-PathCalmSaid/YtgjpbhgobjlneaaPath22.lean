/- Contracts of the document's Up, way, Inside, Right; in what names such as are owned by what it is inside of nothing is wild. Conditions: fewer than a million objects. -/
import Derived.Test.YtgjpbhgobjlneaaPath13
import Derived.Test.YtgjpbhgobjlneaaSeg
import Derived.Deep.OwnRows
namespace Go.Proofs.Ytgjpbhgobjlneaa
open Go.RowKit Go.Sort
def upL (l : List Cl) (o : Int) : Int := match clAt l o with | some c => c.o0 | none => 0
def upN (l : List Cl) : Nat → Int → Int
  | 0, a => a
  | k + 1, a => upN l k (upL l a)
theorem upL_far {l : List Cl} {a : Int} (h : a < 1 ∨ (l.length : Int) < a) : upL l a = 0 := by
  unfold upL clAt
  split
  · rename_i c hc
    split at hc
    · have := (List.getElem?_eq_some_iff.1 hc).1; omega
    · cases hc
  · rfl
theorem upL_zero (l : List Cl) : upL l 0 = 0 := upL_far (.inl (by omega))
theorem upN_zero (l : List Cl) : ∀ k, upN l k 0 = 0
  | 0 => rfl
  | k + 1 => by rw [upN, upL_zero, upN_zero l k]
theorem upN_add (l : List Cl) : ∀ (j k : Nat) (a : Int), upN l (j + k) a = upN l k (upN l j a)
  | 0, k, a => by rw [Nat.zero_add]; rfl
  | j + 1, k, a => by rw [show j + 1 + k = (j + k) + 1 by omega, upN, upN_add l j k]; rfl
theorem upN_succ (l : List Cl) (k : Nat) (a : Int) : upN l (k + 1) a = upL l (upN l k a) := by rw [upN_add l k 1]; rfl
/-- Is a inside of b? -/
def Ins (l : List Cl) (a b : Int) : Prop := b = 0 ∨ ∃ k, upN l k a = b
theorem calm_none {l : List Cl} (h : ∀ a u : Int, u ∈ namesL l a → Ins l a (upL l u)) : wildL l = [] := by
  cases hw : wildL l with
  | nil => rfl
  | cons x r =>
    exfalso
    have hx : x ∈ wildL l := by rw [hw]; simp
    unfold wildL at hx
    obtain ⟨i, c, hc, hb, rfl⟩ := (wildTo_mem l l 0 x).1 hx
    rw [Nat.zero_add] at hb
    rw [Nat.zero_add] at hx
    unfold wildB at hb
    simp only [Bool.and_eq_true, decide_eq_true_eq] at hb
    obtain ⟨⟨hd, h0⟩, hr⟩ := hb
    have hr : ((i : Int) + 1) ∈ reachL l (rootsL l) c.o0 := by simpa [RL] using hr
    rw [reach_mem] at hr
    have hcl : ∀ a, Rch l (rootsL l) c.o0 (namesL l) a → ∀ m, upN l m a ≠ c.o0 := fun a hra => by
      induction hra with
      | start a h1 h2 =>
        intro m e
        cases m with
        | zero =>
          simp only [fitL, Bool.and_eq_true] at h2
          have h3 : a ≠ c.o0 := by simpa using h2.1
          exact h3 e
        | succ m =>
          obtain ⟨j, d, hj, hrt, rfl⟩ := (rootsTo_mem l 0 a).1 h1
          have : upL l (((0 + j : Nat) : Int) + 1) = 0 := by
            unfold upL
            rw [Nat.zero_add, clAt_nat, hj]
            simp only [rootB, Bool.and_eq_true, beq_iff_eq] at hrt
            exact hrt.1
          rw [upN, this, upN_zero] at e
          omega
      | step p a _ h2 h3 ih =>
        intro m e
        cases m with
        | zero =>
          simp only [fitL, Bool.and_eq_true] at h3
          have h4 : a ≠ c.o0 := by simpa using h3.1
          exact h4 e
        | succ m =>
          rw [upN] at e
          rcases h p a h2 with h4 | ⟨k, hk⟩
          · rw [h4, upN_zero] at e; omega
          · rw [← hk, ← upN_add] at e
            exact ih _ e
    refine hcl _ hr 1 ?_
    show upL l ((i : Int) + 1) = c.o0
    unfold upL
    rw [clAt_nat, hc]
theorem snoc_all {M : Int → Prop} {xs : List Int} {o : Int} (h : ∀ x ∈ xs, M x) (ho : M o) : ∀ x ∈ xs ++ [o], M x := fun x hx => by
  rcases List.mem_append.1 hx with hx | hx
  · exact h x hx
  · simp at hx; subst hx; exact ho
section
variable (l : List Cl) (A : Option Addr) (c B : Nat) (w : World)
set_option maxRecDepth 100000 in
set_option maxHeartbeats 1000000 in
theorem up_any (a : Int) (h : Hp w B A l) (hn : l.length ≤ 1000000) : Calls Try.prog 45 #[.slice A l.length c, .int .i64 a] w fun e w' => e = .returned (.int .i64 (upL l a)) ∧ w = w' := by
  have hcs : a < 1 ∨ (¬ a < 1 ∧ (l.length : Int) < a) ∨ ∃ k : Nat, a = (k : Int) + 1 ∧ k < l.length := by
    by_cases h0 : 0 < a
    · by_cases h1 : a ≤ l.length
      · exact .inr (.inr ⟨(a - 1).toNat, by omega, by omega⟩)
      · exact .inr (.inl ⟨by omega, by omega⟩)
    · exact .inl (by omega)
  rcases hcs with h0 | ⟨h0, h1⟩ | ⟨k, rfl, hk⟩
  · have HL := Lib.hid (upL_far (l := l) (.inl h0))
    clear h
    go_enter Try.func45, Try.ntmps45
    go_wp2
    go_ret
    exact ⟨by rw [HL.out]; rfl, rfl⟩
  · have HL := Lib.hid (upL_far (l := l) (.inr h1))
    clear h
    go_enter Try.func45, Try.ntmps45
    go_wp2
    go_ret
    exact ⟨by rw [HL.out]; rfl, rfl⟩
  · obtain ⟨x, hx⟩ : ∃ o, l[k]? = some o := ⟨_, List.getElem?_eq_getElem hk⟩
    have HL := Lib.hid (show upL l ((k : Int) + 1) = x.o0 by unfold upL; rw [clAt_nat, hx])
    obtain ⟨b, o, rfl, _, hbl, hc⟩ := h.1.at_ hx
    have e1 := hc 1 _ rfl
    have f3 : (k : Int) < (l.length : Int) := by omega
    have f4 : ¬ (k : Int) + 1 < 1 := by omega
    have f5 : ¬ (l.length : Int) < (k : Int) + 1 := by omega
    clear hc hx h
    go_enter Try.func45, Try.ntmps45
    go_wp2
    go_ret
    exact ⟨by rw [HL.out]; rfl, rfl⟩
set_option maxRecDepth 100000 in
set_option maxHeartbeats 4000000 in
theorem way36_any (a : Int) (h : Hp w B A l) (hn : l.length ≤ 1000000) : Calls Try.prog 46 #[.slice A l.length c, .int .i64 a] w fun e w' => ∃ xs, IntsPost xs w e w' ∧ xs.length ≤ 1000002 ∧ ∀ x ∈ xs, ∃ k, upN l k a = x := by
  obtain ⟨i0, hi, hz0, hz1, hz2⟩ := info_parts infoI
  have H := Lib.hid h
  clear h
  go_enter Try.func46, Try.ntmps46
  go_wp2
  go_loopw [1, 5, 6] (fun o out i wr => ∃ (k : Nat) (xs : List Int) (OA : Option Addr) (oc : Nat), i = .int .i64 k ∧ k ≤ l.length + 2 ∧ o = .int .i64 (upN l k a) ∧ out = .slice OA xs.length oc ∧ xs.length ≤ k ∧ wr.ownsRow w.heap.size 3 1 (.slice OA xs.length oc) xs.length (xs.map (Value.int .i64)) ∧ Grw w wr ∧ ∀ x ∈ xs, ∃ k, upN l k a = x) (fun _ _ i _ => l.length + 2 - (intOf i).toNat)
  case atStart => exact ⟨0, [], none, 0, rfl, Nat.zero_le _, rfl, rfl, Nat.le_refl _, World.ownsRow_nil _ _ _ _, Grw.refl _, fun x hx => by simp at hx⟩
  case round =>
    obtain ⟨k, xs, OA, oc, rfl, hk, rfl, rfl, hxl, hown, hg, hall⟩ := hrel
    have HO := Lib.hid hown
    have HG := Lib.hid hg
    have HALL := Lib.hid hall
    have hszw := hg.below.size
    clear hown hg hall
    by_cases hlt : k ≤ l.length + 1
    · have g3 : (k : Int) ≤ (l.length : Int) + 1 := by omega
      obtain ⟨o, ho⟩ : ∃ o, upN l k a = o := ⟨_, rfl⟩
      have HU := Lib.hid ho
      rw [ho]
      clear ho
      by_cases h0 : o = 0
      · have e0 : ((o : Int) != 0) = false := by simp [h0]
        have e1 : ((o : Int) == 0) = true := by simp [h0]
        clear h0
        go_wp2
        go_ret
        exact ⟨xs, ⟨_, _, rfl, HG.out, HO.out⟩, by omega, HALL.out⟩
      · have e0 : ((o : Int) != 0) = true := by simp [h0]
        have e1 : ((o : Int) == 0) = false := by simp [h0]
        have HUS := Lib.hid (show upN l (k + 1) a = upL l o by rw [upN_succ, HU.out])
        have HALS := Lib.hid (snoc_all (M := fun x => ∃ k, upN l k a = x) HALL.out ⟨k, HU.out⟩)
        clear h0
        go_wp2_with (first
          | (at_builtin
             refine wpList_append_own _ rfl _ _ 39 rfl (w.heap.size) 3 i0 _ 1 8 Try.underlying39 hi hz0 hz1 hz2 rfl (by decide) (.slice OA xs.length oc) (xs.length) (xs.map (Value.int .i64)) rfl ((own_alloc HO.out _)) ⟨wr.heap.size, 0, none⟩ 1 1 [.int .i64 o] rfl rfl ?c1 ?c2 ?c3 ?c4 ?c5 ?_
             case c1 => exact news_alloc _ #[_] _ _ (by simp [wext_size])
             case c2 => simp [Value.oneCell']
             case c3 => unfold maxLen; omega
             case c4 => omega
             case c5 => simp [wext_size]; omega
             intro v' w1 hown1 hgrow _
             (have HN1 := Lib.hid hown1; have HGr := Lib.hid (show Grw w w1 by exact Grw.grown (row := (Value.slice OA xs.length oc).ownBlock) (by repeat (first | exact HG.out | apply Grw.ext | apply Grw.alloc | apply Grw.drewN | apply Grw.drew)) hgrow (own_beyond HO.out)); obtain ⟨g', cap', rfl⟩ := ownsRow_succ HN1.out; clear hown1 hgrow))
          | (go_at_call 45; refine (up_any l A c B _ o (H.out.grw HGr.out) hn).mono ?_; rintro e w' ⟨rfl, rfl⟩; rw [← HUS.out]))
        go_roundw
        case rel => first | exact ⟨k + 1, xs ++ [o], some ⟨g', 0, none⟩, cap', by go_num, by omega, by first | rfl | rw [HUS.out], by simp, by simp; omega, by simpa using HN1.out, HGr.out, HALS.out⟩ | ((repeat apply Exists.intro); exact ⟨⟨k + 1, xs ++ [o], some ⟨g', 0, none⟩, cap', by go_num, by omega, by first | rfl | rw [HUS.out], by simp, by simp; omega, by simpa using HN1.out, HGr.out, HALS.out⟩, rfl⟩)
        case measure => simp [intOf]; omega
    · have g4 : ¬ (k : Int) ≤ (l.length : Int) + 1 := by omega
      obtain ⟨o, ho⟩ : ∃ o, upN l k a = o := ⟨_, rfl⟩
      rw [ho]
      go_wp2
      go_ret
      exact ⟨xs, ⟨_, _, rfl, HG.out, HO.out⟩, by omega, HALL.out⟩
set_option maxRecDepth 100000 in
set_option maxHeartbeats 4000000 in
theorem inside_any (a b : Int) (h : Hp w B A l) (hn : l.length ≤ 1000000) : Calls Try.prog 30 #[.slice A l.length c, .int .i64 a, .int .i64 b] w fun e w' => ∃ r : Bool, e = .returned (.bool r) ∧ Grw w w' ∧ (r = true → Ins l a b) := by
  have H := Lib.hid h
  clear h
  by_cases hab : a = b
  · have e0 : ((a : Int) == b) = true := by simp [hab]
    have HI := Lib.hid (show Ins l a b from .inr ⟨0, hab⟩)
    clear hab
    go_enter Try.func30, Try.ntmps30
    go_wp2
    go_ret
    exact ⟨true, rfl, Grw.refl _, fun _ => HI.out⟩
  · have e0 : ((a : Int) == b) = false := by simp [hab]
    clear hab
    by_cases hb0 : b = 0
    · have e1 : ((b : Int) == 0) = true := by simp [hb0]
      have HI := Lib.hid (show Ins l a b from .inl hb0)
      clear hb0
      go_enter Try.func30, Try.ntmps30
      go_wp2
      go_ret
      exact ⟨true, rfl, Grw.refl _, fun _ => HI.out⟩
    · have e1 : ((b : Int) == 0) = false := by simp [hb0]
      clear hb0
      go_enter Try.func30, Try.ntmps30
      go_wp2_with (go_at_call 46; refine (way36_any l A c B _ a H.out hn).mono ?_; rintro e V1 ⟨xs, ⟨XA, xc, rfl, hq, hr⟩, hxl, hall⟩; have HQ := Lib.hid hq; have HX := Lib.hid (own_slb hr); have HALL := Lib.hid hall; clear hq hr hall)
      go_loopw [8] (fun i wr => ∃ m : Nat, i = .int .i64 m ∧ m ≤ xs.length ∧ Grw V1 wr) (fun i _ => xs.length - (intOf i).toNat)
      case atStart => exact ⟨0, rfl, Nat.zero_le _, Grw.refl _⟩
      case round =>
        obtain ⟨m, rfl, hm, hg⟩ := hrel
        have HG := Lib.hid hg
        by_cases hlt : m < xs.length
        · have m3 : (m : Int) < (xs.length : Int) := by omega
          obtain ⟨u, hu⟩ : ∃ o, xs[m]? = some o := ⟨_, List.getElem?_eq_getElem hlt⟩
          obtain ⟨rb, ro, rfl, _, hrb, dr⟩ := (HX.out.grw hg).at_ hu
          have dr := dr 0 _ rfl
          simp only [Nat.add_zero, Nat.mul_one] at dr
          have HU := Lib.hid (HALL.out u (List.mem_of_getElem? hu))
          clear hu hg
          by_cases hub : u = b
          · have HI := Lib.hid (show Ins l a b from .inr (hub ▸ HU.out))
            have e2 : ((u : Int) == b) = true := by simp [hub]
            clear hub
            go_wp2
            go_ret
            exact ⟨true, rfl, HQ.out.trans HG.out, fun _ => HI.out⟩
          · have e2 : ((u : Int) == b) = false := by simp [hub]
            clear hub
            go_wp2
            go_roundw
            case rel => first | exact ⟨m + 1, by go_num, by omega, HG.out⟩ | ((repeat apply Exists.intro); exact ⟨⟨m + 1, by go_num, by omega, HG.out⟩, rfl⟩)
            case measure => simp [intOf]; omega
        · obtain rfl : m = xs.length := by omega
          clear hg
          go_wp2
          go_ret
          exact ⟨false, rfl, HQ.out.trans HG.out, fun h => by cases h⟩
theorem rowGrw' {w w' : World} {g n : Nat} {t : TypeId} {f : Nat → Value} (h : w.rowIs g t n f) (hg : Grw w w') : w'.rowIs g t n f := h.of_block (hg.below.block g h.lt)
/-- Some bool is handed back. -/
def SomeB (w : World) (e : Ending) (w' : World) : Prop := ∃ r : Bool, e = .returned (.bool r) ∧ Grw w w'
set_option maxRecDepth 100000 in
set_option maxHeartbeats 8000000 in
theorem right_any (cl : Int) (h : Hp w B A l) (hn : l.length ≤ 1000000) : Calls Try.prog 29 #[.slice A l.length c, .int .i64 cl] w (SomeB w) := by
  have H := Lib.hid h
  clear h
  go_enter Try.func29, Try.ntmps29
  go_wp2
  go_loopw [5] (fun i wr => ∃ k : Nat, i = .int .i64 ((k : Int) + 1) ∧ k ≤ l.length ∧ Grw w wr) (fun i _ => l.length + 1 - (intOf i).toNat)
  case atStart => exact ⟨0, rfl, Nat.zero_le _, Grw.refl _⟩
  case round =>
    obtain ⟨V1, rfl⟩ : ∃ V, V = wr := ⟨_, rfl⟩
    obtain ⟨k, rfl, hk, hg⟩ := hrel
    have HG := Lib.hid hg
    by_cases hlt : k < l.length
    · obtain ⟨x, hx⟩ : ∃ o, l[k]? = some o := ⟨_, List.getElem?_eq_getElem hlt⟩
      obtain ⟨b, o, rfl, _, hbl, hc⟩ := (H.out.grw hg).1.at_ hx
      have d1 := hc 1 _ rfl
      have d2 := hc 2 _ rfl
      have d3 := hc 3 _ rfl
      have d4 := hc 4 _ rfl
      have g3 : (k : Int) < (l.length : Int) := by omega
      have g4 : decide ((k : Int) + 1 ≤ (l.length : Int)) = true := decide_eq_true (by omega)
      have g5 : (k : Int) + 1 ≤ (l.length : Int) := by omega
      have HDS : Hid (∀ u, Grw V1 u → u.cell? ⟨b, o + k * 7 + 1, none⟩ = some (.int .i64 x.o0) ∧ u.cell? ⟨b, o + k * 7 + 2, none⟩ = some (.int .i64 x.o1) ∧ u.cell? ⟨b, o + k * 7 + 3, none⟩ = some (.int .i64 x.o2) ∧ u.cell? ⟨b, o + k * 7 + 4, none⟩ = some (.int .i64 x.o3)) := Lib.hid (fun u hu => ⟨(World.cell?_of_block (a := ⟨b, o + k * 7 + 1, none⟩) (hu.below.block b hbl)).trans d1, (World.cell?_of_block (a := ⟨b, o + k * 7 + 2, none⟩) (hu.below.block b hbl)).trans d2, (World.cell?_of_block (a := ⟨b, o + k * 7 + 3, none⟩) (hu.below.block b hbl)).trans d3, (World.cell?_of_block (a := ⟨b, o + k * 7 + 4, none⟩) (hu.below.block b hbl)).trans d4⟩)
      clear hc hx hg d1 d2 d3 d4
      go_wp2
      go_loopw [6, 7] (fun a i wr => ∃ (m : Nat) (z : Int), a = .int .i64 z ∧ i = .int .i64 m ∧ m ≤ l.length ∧ Grw V1 wr) (fun _ i _ => l.length - (intOf i).toNat)
      case atStart => exact ⟨0, _, rfl, rfl, Nat.zero_le _, Grw.refl _⟩
      case round =>
        obtain ⟨V2, rfl⟩ : ∃ V, V = wr := ⟨_, rfl⟩
        obtain ⟨m, z, rfl, rfl, hm, hg2⟩ := hrel
        have HG2 := Lib.hid (HG.out.trans hg2)
        have HG12 := Lib.hid hg2
        clear hg2
        by_cases hz : 0 < z
        · by_cases hml : m < l.length
          · have m3 : (m : Int) < (l.length : Int) := by omega
            go_wp2_with (go_at_call 45; refine (up_any l _ c B _ z (H.out.grw HG2.out) hn).mono ?_; rintro e w' ⟨rfl, rfl⟩)
            go_roundw
            case rel => first | exact ⟨m + 1, upL l z, rfl, by go_num, by omega, HG12.out⟩ | ((repeat apply Exists.intro); exact ⟨⟨m + 1, upL l z, rfl, by go_num, by omega, HG12.out⟩, rfl⟩)
            case measure => simp [intOf]; omega
          · have m4 : ¬ (m : Int) < (l.length : Int) := by omega
            go_wp2
            go_ret
            exact ⟨false, rfl, HG2.out⟩
        · obtain ⟨d1, d2, d3, d4⟩ := HDS.out V2 HG12.out
          have hnz : ¬ (0 : Int) < z := hz
          clear hz
          by_cases hml : m < l.length
          · have m3 : (m : Int) < (l.length : Int) := by omega
            go_upto_region 12 with fail
            obtain ⟨W5, hW5⟩ : ∃ W5, V2.alloc (.cells #[.int .i64 x.o0, .int .i64 x.o1, .int .i64 x.o2, .int .i64 x.o3] 33) = W5 := ⟨_, rfl⟩
            have HG5 := Lib.hid (show Grw w W5 by rw [← hW5]; exact HG2.out.alloc _)
            obtain ⟨ow, how⟩ : ∃ ow : Nat → Int, ow = fun i => [x.o0, x.o1, x.o2, x.o3].getD i 0 := ⟨_, rfl⟩
            have HROW := Lib.hid (show W5.rowIs V2.heap.size 33 4 (fun i => .int .i64 (ow i)) by
              rw [← hW5]
              refine World.rowIs_alloc V2 #[.int .i64 x.o0, .int .i64 x.o1, .int .i64 x.o2, .int .i64 x.o3] 33 _ (fun i hi => ?_)
              subst how
              match i, hi with
              | 0, _ => rfl
              | 1, _ => rfl
              | 2, _ => rfl
              | 3, _ => rfl)
            have HW0 := Lib.hid (show ow 0 = x.o0 by subst how; rfl)
            rw [hW5]
            clear hW5 how d1 d2 d3 d4
            go_wp2
            go_loopw [9] (fun i wr => ∃ n : Nat, i = .int .i64 n ∧ n ≤ 4 ∧ Grw W5 wr) (fun i _ => 4 - (intOf i).toNat)
            case atStart => exact ⟨0, rfl, by omega, Grw.refl _⟩
            case round =>
              obtain ⟨n, rfl, hn4, hg6⟩ := hrel
              have HG6 := Lib.hid hg6
              by_cases hlt4 : n < 4
              · have n3 : (n : Int) < 4 := by omega
                have r1 := (rowGrw' HROW.out hg6).cell (i := n) hlt4
                have r0 := (rowGrw' HROW.out hg6).cell (i := 0) (by omega)
                have rl := (rowGrw' HROW.out hg6).lt
                rw [HW0.out] at r0
                clear hg6
                by_cases hA : (l.length : Int) < ow n
                · have hAd : decide ((l.length : Int) < ow n) = true := decide_eq_true hA
                  clear hA
                  go_upto_region 15 with fail
                  refine wp_region_segs [([true, true, true, true, true, true, true, true, true, true, true, true, true, true, true, true, true, true, true, true, true, true, true, true, true, true, true], [false, false, false, false, false, false, false, false, false, false, false, false, false, false, false, false, false, false, false, false, false, false, false, false, false, false, false, true])] [false, false, false, false, false, false, false, false, false, false, false, false, false, false, false, false, false, false, false, false, false, false, false, false, false, false, false, false, true, true] (by kernel_rfl) (by kernel_rfl) ?_
                  refine segs_cons ?_
                  simp only [pick, pick1]
                  repeat (go_big_quiet_step (fail))
                  refine wpQuiet_nil ?_
                  intro u1 HU1 K1 hKK1
                  replace HU1 := Lib.hid (id (Up.grw HU1))
                  go_wp2_with fail
                  refine hKK1.out _ _ (Up.refl _) ?_
                  clear hKK1
                  refine segs_nil ?_
                  simp only [pick]
                  repeat (go_big_quiet_step (fail))
                  refine wpQuiet_nil ?_
                  intro u2 HU2
                  replace HU2 := Lib.hid (id (Up.grw HU2))
                  go_wp2
                  go_ret
                  exact ⟨false, rfl, HG5.out.trans (HG6.out.trans (HU1.out.trans HU2.out))⟩
                · have hAd : decide ((l.length : Int) < ow n) = false := decide_eq_false hA
                  clear hA
                  by_cases hB : ow n < 0
                  · have hBd : decide (ow n < 0) = true := decide_eq_true hB
                    clear hB
                    by_cases hC : ow n < wrap64 (-cl)
                    · have hCd : decide (ow n < wrap64 (-cl)) = true := decide_eq_true hC
                      clear hC
                      go_upto_region 15 with fail
                      refine wp_region_segs [([true, true, true, true, true, true, true, true, true, true, true, true, true, true, true, true, true, true, true, true, true, true, true, true, true, true, true], [false, false, false, false, false, false, false, false, false, false, false, false, false, false, false, false, false, false, false, false, false, false, false, false, false, false, false, true])] [false, false, false, false, false, false, false, false, false, false, false, false, false, false, false, false, false, false, false, false, false, false, false, false, false, false, false, false, true, true] (by kernel_rfl) (by kernel_rfl) ?_
                      refine segs_cons ?_
                      simp only [pick, pick1]
                      repeat (go_big_quiet_step (fail))
                      refine wpQuiet_nil ?_
                      intro u1 HU1 K1 hKK1
                      replace HU1 := Lib.hid (id (Up.grw HU1))
                      go_wp2_with fail
                      refine hKK1.out _ _ (Up.refl _) ?_
                      clear hKK1
                      refine segs_nil ?_
                      simp only [pick]
                      repeat (go_big_quiet_step (fail))
                      refine wpQuiet_nil ?_
                      intro u2 HU2
                      replace HU2 := Lib.hid (id (Up.grw HU2))
                      go_wp2
                      go_ret
                      exact ⟨false, rfl, HG5.out.trans (HG6.out.trans (HU1.out.trans HU2.out))⟩
                    · have hCd : decide (ow n < wrap64 (-cl)) = false := decide_eq_false hC
                      clear hC
                      go_upto_region 15 with fail
                      refine wp_region_segs [([true, true, true, true, true, true, true, true, true, true, true, true, true, true, true, true, true, true, true, true, true, true, true, true, true, true, true], [false, false, false, false, false, false, false, false, false, false, false, false, false, false, false, false, false, false, false, false, false, false, false, false, false, false, false, true])] [false, false, false, false, false, false, false, false, false, false, false, false, false, false, false, false, false, false, false, false, false, false, false, false, false, false, false, false, true, true] (by kernel_rfl) (by kernel_rfl) ?_
                      refine segs_cons ?_
                      simp only [pick, pick1]
                      repeat (go_big_quiet_step (fail))
                      refine wpQuiet_nil ?_
                      intro u1 HU1 K1 hKK1
                      replace HU1 := Lib.hid (id (Up.grw HU1))
                      go_wp2_with (go_at_call 30; refine (inside_any l _ c B _ x.o0 (ow n) (H.out.grw (HG5.out.trans (HG6.out.trans HU1.out))) hn).mono ?_; rintro e V6 ⟨r, rfl, hq, _⟩; have HQ := Lib.hid hq; clear hq)
                      refine hKK1.out _ _ (Grw.up HQ.out) ?_
                      clear hKK1
                      cases r
                      · refine segs_nil ?_
                        simp only [pick]
                        repeat (go_big_quiet_step (fail))
                        refine wpQuiet_nil ?_
                        intro u2 HU2
                        replace HU2 := Lib.hid (id (Up.grw HU2))
                        go_wp2
                        go_ret
                        exact ⟨false, rfl, HG5.out.trans (HG6.out.trans (HU1.out.trans (HQ.out.trans HU2.out)))⟩
                      · refine segs_nil ?_
                        simp only [pick]
                        repeat (go_big_quiet_step (fail))
                        refine wpQuiet_nil ?_
                        intro u2 HU2
                        replace HU2 := Lib.hid (id (Up.grw HU2))
                        go_wp2
                        go_roundw
                        case rel => first | exact ⟨n + 1, by go_num, by omega, HG6.out.trans (HU1.out.trans (HQ.out.trans HU2.out))⟩ | ((repeat apply Exists.intro); exact ⟨⟨n + 1, by go_num, by omega, HG6.out.trans (HU1.out.trans (HQ.out.trans HU2.out))⟩, rfl⟩)
                        case measure => simp [intOf]; omega
                  · have hBd : decide (ow n < 0) = false := decide_eq_false hB
                    clear hB
                    go_upto_region 15 with fail
                    refine wp_region_segs [([true, true, true, true, true, true, true, true, true, true, true, true, true, true, true, true, true, true, true, true, true, true, true, true, true, true, true], [false, false, false, false, false, false, false, false, false, false, false, false, false, false, false, false, false, false, false, false, false, false, false, false, false, false, false, true])] [false, false, false, false, false, false, false, false, false, false, false, false, false, false, false, false, false, false, false, false, false, false, false, false, false, false, false, false, true, true] (by kernel_rfl) (by kernel_rfl) ?_
                    refine segs_cons ?_
                    simp only [pick, pick1]
                    repeat (go_big_quiet_step (fail))
                    refine wpQuiet_nil ?_
                    intro u1 HU1 K1 hKK1
                    replace HU1 := Lib.hid (id (Up.grw HU1))
                    go_wp2_with (go_at_call 30; refine (inside_any l _ c B _ x.o0 (ow n) (H.out.grw (HG5.out.trans (HG6.out.trans HU1.out))) hn).mono ?_; rintro e V6 ⟨r, rfl, hq, _⟩; have HQ := Lib.hid hq; clear hq)
                    refine hKK1.out _ _ (Grw.up HQ.out) ?_
                    clear hKK1
                    cases r
                    · refine segs_nil ?_
                      simp only [pick]
                      repeat (go_big_quiet_step (fail))
                      refine wpQuiet_nil ?_
                      intro u2 HU2
                      replace HU2 := Lib.hid (id (Up.grw HU2))
                      go_wp2
                      go_ret
                      exact ⟨false, rfl, HG5.out.trans (HG6.out.trans (HU1.out.trans (HQ.out.trans HU2.out)))⟩
                    · refine segs_nil ?_
                      simp only [pick]
                      repeat (go_big_quiet_step (fail))
                      refine wpQuiet_nil ?_
                      intro u2 HU2
                      replace HU2 := Lib.hid (id (Up.grw HU2))
                      go_wp2
                      go_roundw
                      case rel => first | exact ⟨n + 1, by go_num, by omega, HG6.out.trans (HU1.out.trans (HQ.out.trans HU2.out))⟩ | ((repeat apply Exists.intro); exact ⟨⟨n + 1, by go_num, by omega, HG6.out.trans (HU1.out.trans (HQ.out.trans HU2.out))⟩, rfl⟩)
                      case measure => simp [intOf]; omega
              · obtain rfl : n = 4 := by omega
                have hg7 := hg6
                clear hg6
                go_wp2
                go_roundw
                case rel => first | exact ⟨k + 1, by go_num, by omega, HG5.out.trans HG6.out⟩ | ((repeat apply Exists.intro); exact ⟨⟨k + 1, by go_num, by omega, HG5.out.trans HG6.out⟩, rfl⟩)
                case measure => simp [intOf]; omega
          · have m3 : ¬ (m : Int) < (l.length : Int) := by omega
            go_upto_region 12 with fail
            obtain ⟨W5, hW5⟩ : ∃ W5, V2.alloc (.cells #[.int .i64 x.o0, .int .i64 x.o1, .int .i64 x.o2, .int .i64 x.o3] 33) = W5 := ⟨_, rfl⟩
            have HG5 := Lib.hid (show Grw w W5 by rw [← hW5]; exact HG2.out.alloc _)
            obtain ⟨ow, how⟩ : ∃ ow : Nat → Int, ow = fun i => [x.o0, x.o1, x.o2, x.o3].getD i 0 := ⟨_, rfl⟩
            have HROW := Lib.hid (show W5.rowIs V2.heap.size 33 4 (fun i => .int .i64 (ow i)) by
              rw [← hW5]
              refine World.rowIs_alloc V2 #[.int .i64 x.o0, .int .i64 x.o1, .int .i64 x.o2, .int .i64 x.o3] 33 _ (fun i hi => ?_)
              subst how
              match i, hi with
              | 0, _ => rfl
              | 1, _ => rfl
              | 2, _ => rfl
              | 3, _ => rfl)
            have HW0 := Lib.hid (show ow 0 = x.o0 by subst how; rfl)
            rw [hW5]
            clear hW5 how d1 d2 d3 d4
            go_wp2
            go_loopw [9] (fun i wr => ∃ n : Nat, i = .int .i64 n ∧ n ≤ 4 ∧ Grw W5 wr) (fun i _ => 4 - (intOf i).toNat)
            case atStart => exact ⟨0, rfl, by omega, Grw.refl _⟩
            case round =>
              obtain ⟨n, rfl, hn4, hg6⟩ := hrel
              have HG6 := Lib.hid hg6
              by_cases hlt4 : n < 4
              · have n3 : (n : Int) < 4 := by omega
                have r1 := (rowGrw' HROW.out hg6).cell (i := n) hlt4
                have r0 := (rowGrw' HROW.out hg6).cell (i := 0) (by omega)
                have rl := (rowGrw' HROW.out hg6).lt
                rw [HW0.out] at r0
                clear hg6
                by_cases hA : (l.length : Int) < ow n
                · have hAd : decide ((l.length : Int) < ow n) = true := decide_eq_true hA
                  clear hA
                  go_upto_region 15 with fail
                  refine wp_region_segs [([true, true, true, true, true, true, true, true, true, true, true, true, true, true, true, true, true, true, true, true, true, true, true, true, true, true, true], [false, false, false, false, false, false, false, false, false, false, false, false, false, false, false, false, false, false, false, false, false, false, false, false, false, false, false, true])] [false, false, false, false, false, false, false, false, false, false, false, false, false, false, false, false, false, false, false, false, false, false, false, false, false, false, false, false, true, true] (by kernel_rfl) (by kernel_rfl) ?_
                  refine segs_cons ?_
                  simp only [pick, pick1]
                  repeat (go_big_quiet_step (fail))
                  refine wpQuiet_nil ?_
                  intro u1 HU1 K1 hKK1
                  replace HU1 := Lib.hid (id (Up.grw HU1))
                  go_wp2_with fail
                  refine hKK1.out _ _ (Up.refl _) ?_
                  clear hKK1
                  refine segs_nil ?_
                  simp only [pick]
                  repeat (go_big_quiet_step (fail))
                  refine wpQuiet_nil ?_
                  intro u2 HU2
                  replace HU2 := Lib.hid (id (Up.grw HU2))
                  go_wp2
                  go_ret
                  exact ⟨false, rfl, HG5.out.trans (HG6.out.trans (HU1.out.trans HU2.out))⟩
                · have hAd : decide ((l.length : Int) < ow n) = false := decide_eq_false hA
                  clear hA
                  by_cases hB : ow n < 0
                  · have hBd : decide (ow n < 0) = true := decide_eq_true hB
                    clear hB
                    by_cases hC : ow n < wrap64 (-cl)
                    · have hCd : decide (ow n < wrap64 (-cl)) = true := decide_eq_true hC
                      clear hC
                      go_upto_region 15 with fail
                      refine wp_region_segs [([true, true, true, true, true, true, true, true, true, true, true, true, true, true, true, true, true, true, true, true, true, true, true, true, true, true, true], [false, false, false, false, false, false, false, false, false, false, false, false, false, false, false, false, false, false, false, false, false, false, false, false, false, false, false, true])] [false, false, false, false, false, false, false, false, false, false, false, false, false, false, false, false, false, false, false, false, false, false, false, false, false, false, false, false, true, true] (by kernel_rfl) (by kernel_rfl) ?_
                      refine segs_cons ?_
                      simp only [pick, pick1]
                      repeat (go_big_quiet_step (fail))
                      refine wpQuiet_nil ?_
                      intro u1 HU1 K1 hKK1
                      replace HU1 := Lib.hid (id (Up.grw HU1))
                      go_wp2_with fail
                      refine hKK1.out _ _ (Up.refl _) ?_
                      clear hKK1
                      refine segs_nil ?_
                      simp only [pick]
                      repeat (go_big_quiet_step (fail))
                      refine wpQuiet_nil ?_
                      intro u2 HU2
                      replace HU2 := Lib.hid (id (Up.grw HU2))
                      go_wp2
                      go_ret
                      exact ⟨false, rfl, HG5.out.trans (HG6.out.trans (HU1.out.trans HU2.out))⟩
                    · have hCd : decide (ow n < wrap64 (-cl)) = false := decide_eq_false hC
                      clear hC
                      go_upto_region 15 with fail
                      refine wp_region_segs [([true, true, true, true, true, true, true, true, true, true, true, true, true, true, true, true, true, true, true, true, true, true, true, true, true, true, true], [false, false, false, false, false, false, false, false, false, false, false, false, false, false, false, false, false, false, false, false, false, false, false, false, false, false, false, true])] [false, false, false, false, false, false, false, false, false, false, false, false, false, false, false, false, false, false, false, false, false, false, false, false, false, false, false, false, true, true] (by kernel_rfl) (by kernel_rfl) ?_
                      refine segs_cons ?_
                      simp only [pick, pick1]
                      repeat (go_big_quiet_step (fail))
                      refine wpQuiet_nil ?_
                      intro u1 HU1 K1 hKK1
                      replace HU1 := Lib.hid (id (Up.grw HU1))
                      go_wp2_with (go_at_call 30; refine (inside_any l _ c B _ x.o0 (ow n) (H.out.grw (HG5.out.trans (HG6.out.trans HU1.out))) hn).mono ?_; rintro e V6 ⟨r, rfl, hq, _⟩; have HQ := Lib.hid hq; clear hq)
                      refine hKK1.out _ _ (Grw.up HQ.out) ?_
                      clear hKK1
                      cases r
                      · refine segs_nil ?_
                        simp only [pick]
                        repeat (go_big_quiet_step (fail))
                        refine wpQuiet_nil ?_
                        intro u2 HU2
                        replace HU2 := Lib.hid (id (Up.grw HU2))
                        go_wp2
                        go_ret
                        exact ⟨false, rfl, HG5.out.trans (HG6.out.trans (HU1.out.trans (HQ.out.trans HU2.out)))⟩
                      · refine segs_nil ?_
                        simp only [pick]
                        repeat (go_big_quiet_step (fail))
                        refine wpQuiet_nil ?_
                        intro u2 HU2
                        replace HU2 := Lib.hid (id (Up.grw HU2))
                        go_wp2
                        go_roundw
                        case rel => first | exact ⟨n + 1, by go_num, by omega, HG6.out.trans (HU1.out.trans (HQ.out.trans HU2.out))⟩ | ((repeat apply Exists.intro); exact ⟨⟨n + 1, by go_num, by omega, HG6.out.trans (HU1.out.trans (HQ.out.trans HU2.out))⟩, rfl⟩)
                        case measure => simp [intOf]; omega
                  · have hBd : decide (ow n < 0) = false := decide_eq_false hB
                    clear hB
                    go_upto_region 15 with fail
                    refine wp_region_segs [([true, true, true, true, true, true, true, true, true, true, true, true, true, true, true, true, true, true, true, true, true, true, true, true, true, true, true], [false, false, false, false, false, false, false, false, false, false, false, false, false, false, false, false, false, false, false, false, false, false, false, false, false, false, false, true])] [false, false, false, false, false, false, false, false, false, false, false, false, false, false, false, false, false, false, false, false, false, false, false, false, false, false, false, false, true, true] (by kernel_rfl) (by kernel_rfl) ?_
                    refine segs_cons ?_
                    simp only [pick, pick1]
                    repeat (go_big_quiet_step (fail))
                    refine wpQuiet_nil ?_
                    intro u1 HU1 K1 hKK1
                    replace HU1 := Lib.hid (id (Up.grw HU1))
                    go_wp2_with (go_at_call 30; refine (inside_any l _ c B _ x.o0 (ow n) (H.out.grw (HG5.out.trans (HG6.out.trans HU1.out))) hn).mono ?_; rintro e V6 ⟨r, rfl, hq, _⟩; have HQ := Lib.hid hq; clear hq)
                    refine hKK1.out _ _ (Grw.up HQ.out) ?_
                    clear hKK1
                    cases r
                    · refine segs_nil ?_
                      simp only [pick]
                      repeat (go_big_quiet_step (fail))
                      refine wpQuiet_nil ?_
                      intro u2 HU2
                      replace HU2 := Lib.hid (id (Up.grw HU2))
                      go_wp2
                      go_ret
                      exact ⟨false, rfl, HG5.out.trans (HG6.out.trans (HU1.out.trans (HQ.out.trans HU2.out)))⟩
                    · refine segs_nil ?_
                      simp only [pick]
                      repeat (go_big_quiet_step (fail))
                      refine wpQuiet_nil ?_
                      intro u2 HU2
                      replace HU2 := Lib.hid (id (Up.grw HU2))
                      go_wp2
                      go_roundw
                      case rel => first | exact ⟨n + 1, by go_num, by omega, HG6.out.trans (HU1.out.trans (HQ.out.trans HU2.out))⟩ | ((repeat apply Exists.intro); exact ⟨⟨n + 1, by go_num, by omega, HG6.out.trans (HU1.out.trans (HQ.out.trans HU2.out))⟩, rfl⟩)
                      case measure => simp [intOf]; omega
              · obtain rfl : n = 4 := by omega
                have hg7 := hg6
                clear hg6
                go_wp2
                go_roundw
                case rel => first | exact ⟨k + 1, by go_num, by omega, HG5.out.trans HG6.out⟩ | ((repeat apply Exists.intro); exact ⟨⟨k + 1, by go_num, by omega, HG5.out.trans HG6.out⟩, rfl⟩)
                case measure => simp [intOf]; omega
    · obtain rfl : k = l.length := by omega
      clear hg
      go_wp2
      go_ret
      exact ⟨true, rfl, HG.out⟩
end
end Go.Proofs.Ytgjpbhgobjlneaa
