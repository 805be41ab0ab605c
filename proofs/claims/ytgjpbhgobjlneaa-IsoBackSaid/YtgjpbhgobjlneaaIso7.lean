/- The contract of layer 44's reference: Match. Conditions: at most 100 events. -/
import Derived.Test.YtgjpbhgobjlneaaIso6
import Derived.Deep.RegionHeld3
import Derived.Deep.RegionLaw
import Derived.Deep.DeepCutAuto
import Derived.KernelRfl
namespace Go.Proofs.Ytgjpbhgobjlneaa
open Go.RowKit
theorem RowI.grw {w w' : World} {A : Option Addr} {xs : List Int} (h : RowI w A xs) (g : Grw w w') : RowI w' A xs := by
  obtain ⟨q, cur, h1, h2, h3⟩ := h
  exact ⟨q, cur, h1, (g.below.block q (Array.getElem?_eq_some_iff.1 h2).1).trans h2, h3⟩
theorem foldH_fair : ∀ {l ps qs : List (Int × Int)}, Fair ps → foldH ps l = some qs → Fair qs
  | [], ps, qs, hf, h => by simp [foldH] at h; subst h; exact hf
  | (a, b) :: r, ps, qs, hf, h => by
    simp only [foldH, Option.bind_eq_some_iff] at h
    obtain ⟨rs, h1, h2⟩ := h
    exact foldH_fair (holdL_fair hf h1).1 h2
def thr (rs : List (Int × Int)) (m : Nat) (u : Int) : Bool := (u == 0) || (rs.take m).any fun p => p.1 == u
theorem thr_zero (rs : List (Int × Int)) (u : Int) : thr rs 0 u = (u == 0) := by unfold thr; simp
theorem take_snoc' {α : Type} {l : List α} {m : Nat} {p : α} (h : l[m]? = some p) : l.take (m + 1) = l.take m ++ [p] := by
  obtain ⟨h1, h2⟩ := List.getElem?_eq_some_iff.1 h
  rw [List.take_succ_eq_append_getElem h1, h2]
theorem thr_snoc {rs : List (Int × Int)} {m : Nat} {p : Int × Int} {u : Int} (h : rs[m]? = some p) : thr rs (m + 1) u = (thr rs m u || (p.1 == u)) := by
  unfold thr; rw [take_snoc' h, List.any_append]; simp [Bool.or_assoc]
theorem clash_snoc {rs : List (Int × Int)} {m : Nat} {p : Int × Int} {u v : Int} (h : rs[m]? = some p) : clash (rs.take (m + 1)) u v = (clash (rs.take m) u v || ((p.1 == u) != (p.2 == v))) := by
  unfold clash; rw [take_snoc' h, List.any_append]; simp
theorem clash_full {rs : List (Int × Int)} {m : Nat} {p : Int × Int} {u v : Int} (h : rs[m]? = some p) (hc : ((p.1 == u) != (p.2 == v)) = true) : clash rs u v = true :=
  List.any_eq_true.2 ⟨p, List.mem_of_getElem? h, hc⟩
theorem thr_full (rs : List (Int × Int)) (u : Int) : thr rs rs.length u = true ↔ (u = 0 ∨ (fstF rs u).isSome = true) := by
  unfold thr fstF
  rw [List.take_of_length_le (Nat.le_refl _), Bool.or_eq_true, List.find?_isSome, List.any_eq_true, beq_iff_eq]
theorem RowI.grown {w w1 : World} {q : Nat} {A A2 : Option Addr} {xs : List Int} {base k c : Nat} {ys : List Value} {tmp : Obj} (h : RowI w A xs) (ho : w.ownsRow base 29 2 (.slice A2 k c) k ys) (hg : (((w.drewN q).drew).alloc tmp).grownBy w1 (Value.slice A2 k c).ownBlock) : RowI w1 A xs := by
  obtain ⟨b, cur, h1, h2, h3⟩ := h
  refine ⟨b, cur, h1, ?_, h3⟩
  exact (hg.block b (by simp; exact Nat.lt_succ_of_lt (Array.getElem?_eq_some_iff.1 h2).1) (block_not_row h2 (by decide) ho)).trans ((Below.heap_alloc _ tmp b (Array.getElem?_eq_some_iff.1 h2).1).trans h2)
def XY (x y : Ev) (wr : World) (s8 s9 : Value) (wx : World) : Prop :=
  ∃ A3 c3 A4 c4, s8 = .slice A3 x.nums.length c3 ∧ s9 = .slice A4 y.nums.length c4 ∧ RowI wx A3 x.nums ∧ RowI wx A4 y.nums ∧ Grw wr wx
section
variable (a b : List Ev) (A1 A2 : Option Addr) (c1 c2 : Nat) (w : World)
set_option maxRecDepth 100000 in
set_option maxHeartbeats 1000000 in
theorem r44Match_any (h1 : SlB Ev.cells 10 w w.heap.size A1 a) (h2 : SlB Ev.cells 10 w w.heap.size A2 b) (hn : a.length ≤ 100) :
    Calls Try.prog 11 #[.slice A1 a.length c1, .slice A2 b.length c2] w (MatchPost a b w) := by
  by_cases hl : a.length = b.length
  · have hl' : ((a.length : Int) != (b.length : Int)) = false := by simp; omega
    have HM := Lib.hid (show matchL a b = foldE [] (a.zip b) by unfold matchL; rw [if_pos hl])
    have HL := Lib.hid hl
    obtain ⟨i0, hi, hz0, hz1, hz2⟩ := info_parts info_pair
    clear hl
    go_enter Try.func11, Try.ntmps11
    go_wp2
    go_loopw [6, 7] (fun out i wr => ∃ (k : Nat) (qs : List (Int × Int)) (A : Option Addr) (c : Nat), k ≤ a.length ∧ i = .int .i64 k ∧ foldE [] ((a.zip b).take k) = some qs ∧ Fair qs ∧ out = .slice A qs.length c ∧ wr.ownsRow w.heap.size 29 2 (.slice A qs.length c) qs.length (qs.flatMap pairC) ∧ Grw w wr) (fun _ i _ => a.length - (intOf i).toNat)
    case atStart => exact ⟨0, [], none, 0, Nat.zero_le _, rfl, rfl, Fair.nil, rfl, World.ownsRow_nil _ _ _ _, Grw.refl _⟩
    case round =>
      obtain ⟨k, qs, A, c, hk, rfl, hf, hfair, rfl, hown, hg⟩ := hrel
      by_cases hlt : k < a.length
      · obtain ⟨x, hx⟩ : ∃ o, a[k]? = some o := ⟨_, List.getElem?_eq_getElem hlt⟩
        obtain ⟨y, hy⟩ : ∃ o, b[k]? = some o := ⟨_, List.getElem?_eq_getElem (HL.out ▸ hlt)⟩
        obtain ⟨b1, ob, rfl, _, hbl, hc⟩ := (h1.grw hg).at_ hx
        obtain ⟨b2, ob', rfl, _, hbl', hc'⟩ := (h2.grw hg).at_ hy
        have e0 := hc 0 _ rfl
        have e1 := hc 1 _ rfl
        have e2 := hc 2 _ rfl
        have e3 := hc 3 _ rfl
        have e4 := hc 4 _ rfl
        have e5 := hc 5 _ rfl
        have e6 := hc 6 _ rfl
        have e7 := hc 7 _ rfl
        have e8 := hc 8 _ rfl
        have e9 := hc 9 _ rfl
        simp only [Nat.add_zero] at e0
        have d0 := hc' 0 _ rfl
        have d1 := hc' 1 _ rfl
        have d2 := hc' 2 _ rfl
        have d3 := hc' 3 _ rfl
        have d4 := hc' 4 _ rfl
        have d5 := hc' 5 _ rfl
        have d6 := hc' 6 _ rfl
        have d7 := hc' 7 _ rfl
        have d8 := hc' 8 _ rfl
        have d9 := hc' 9 _ rfl
        simp only [Nat.add_zero] at d0
        have f3 : (k : Int) < (a.length : Int) := by omega
        have f4 : (k : Int) < (b.length : Int) := by have := HL.out; omega
        have HQ := Lib.hid (show qs.length ≤ 900000 by have := foldE_len hf; rw [List.length_take] at this; simp at this; omega)
        have HZ : Hid (foldE [] ((a.zip b).take (k + 1)) = evL qs x y) := Lib.hid (by rw [zip_take' a b k x y hx hy, foldE_snoc, hf]; rfl)
        have HFA := Lib.hid hfair
        have HOW := Lib.hid hown
        have HG := Lib.hid hg
        have HEQ : Hid (evL qs x y = none → matchL a b = none) := Lib.hid (fun hh => by
          rw [HM.out, ← List.take_append_drop (k + 1) (a.zip b)]; exact foldE_none _ _ (by rw [HZ.out, hh]))
        clear hg hf hfair hown hx hy hc hc'
        go_wp2
        refine wp_tail 8 (by kernel_rfl) (by kernel_rfl) ?_
        simp only [List.take_succ_cons, List.take_zero, List.drop_succ_cons, List.drop_zero]
        repeat (go_big_quiet_step (fail))
        refine wpQuiet_nil ?_
        go_wp2_with fail
        refine (r44alike_any x y _).mono ?_
        rintro e w3 ⟨rfl, hq3⟩
        cases hal : alikeE x y with
        | false =>
          have HE := Lib.hid (HEQ.out (by unfold evL; rw [hal]; rfl))
          have HQ3 := Lib.hid (hq3)
          clear hal hq3
          go_wp2
          exact bodyPost_ret (v := .tuple #[.slice none 0 0, .bool false]) (by simp [results, Try.results11, go_sem]) rfl ⟨none, 0, by rw [HE.out]; rfl, Grw.trans HG.out (Grw.trans ((Grw.refl _).drew) HQ3.out), by rw [HE.out]; exact World.ownsRow_nil _ _ _ _⟩
        | true =>
          have HE : Hid (evL qs x y = foldH qs (x.nums.zip y.nums)) := Lib.hid (by unfold evL; rw [hal]; rfl)
          have HNL := Lib.hid (nums_len hal)
          have HG3 := Lib.hid (Grw.trans HG.out (Grw.trans ((Grw.refl _).drew) hq3))
          have HOW3 := Lib.hid (show w3.ownsRow w.heap.size 29 2 (.slice A qs.length c) qs.length (qs.flatMap pairC) by obtain ⟨h', d', rfl⟩ := hq3; exact own_ext (own_drew HOW.out) _ _)
          have HSS : Hid (∀ w', Grw w3 w' → (fun w' => (w'.cell? ⟨b1, ob + k * 10, none⟩ = some (.int .i64 x.kind) ∧ w'.cell? ⟨b1, ob + k * 10 + 1, none⟩ = some (.int .i64 x.who) ∧ w'.cell? ⟨b1, ob + k * 10 + 2, none⟩ = some (.int .i64 x.obj) ∧ w'.cell? ⟨b1, ob + k * 10 + 3, none⟩ = some (.string (bs x.name)) ∧ w'.cell? ⟨b1, ob + k * 10 + 4, none⟩ = some (.bool x.ref) ∧ w'.cell? ⟨b1, ob + k * 10 + 5, none⟩ = some (.int .i64 x.n) ∧ w'.cell? ⟨b1, ob + k * 10 + 6, none⟩ = some (.int .i64 x.o0) ∧ w'.cell? ⟨b1, ob + k * 10 + 7, none⟩ = some (.int .i64 x.o1) ∧ w'.cell? ⟨b1, ob + k * 10 + 8, none⟩ = some (.int .i64 x.o2) ∧ w'.cell? ⟨b1, ob + k * 10 + 9, none⟩ = some (.int .i64 x.o3)) ∧ (w'.cell? ⟨b2, ob' + k * 10, none⟩ = some (.int .i64 y.kind) ∧ w'.cell? ⟨b2, ob' + k * 10 + 1, none⟩ = some (.int .i64 y.who) ∧ w'.cell? ⟨b2, ob' + k * 10 + 2, none⟩ = some (.int .i64 y.obj) ∧ w'.cell? ⟨b2, ob' + k * 10 + 3, none⟩ = some (.string (bs y.name)) ∧ w'.cell? ⟨b2, ob' + k * 10 + 4, none⟩ = some (.bool y.ref) ∧ w'.cell? ⟨b2, ob' + k * 10 + 5, none⟩ = some (.int .i64 y.n) ∧ w'.cell? ⟨b2, ob' + k * 10 + 6, none⟩ = some (.int .i64 y.o0) ∧ w'.cell? ⟨b2, ob' + k * 10 + 7, none⟩ = some (.int .i64 y.o1) ∧ w'.cell? ⟨b2, ob' + k * 10 + 8, none⟩ = some (.int .i64 y.o2) ∧ w'.cell? ⟨b2, ob' + k * 10 + 9, none⟩ = some (.int .i64 y.o3)) ∧ Grw w3 w') w') := Lib.hid (fun w' hg' => by
            obtain ⟨xh, xd, rfl⟩ : Grw wr w' := Grw.trans (Grw.trans ((Grw.refl _).drew) hq3) hg'
            refine ⟨?_, ?_, hg'⟩
            · simp [go_sem, e0, e1, e2, e3, e4, e5, e6, e7, e8, e9, hbl]
            · simp [go_sem, d0, d1, d2, d3, d4, d5, d6, d7, d8, d9, hbl'])
          clear hal hq3 HOW HG e0 e1 e2 e3 e4 e5 e6 e7 e8 e9 d0 d1 d2 d3 d4 d5 d6 d7 d8 d9
          go_upto_region 9 with fail
          go_cut [8, 9] (fun s8 s9 wx => XY x y w3 s8 s9 wx)
          case first =>
            have hs0 := HSS.out w3 (Grw.refl _)
            obtain ⟨⟨e0, e1, e2, e3, e4, e5, e6, e7, e8, e9⟩, ⟨d0, d1, d2, d3, d4, d5, d6, d7, d8, d9⟩, _⟩ := hs0
            go_region_held3 (fun w' => (w'.cell? ⟨b1, ob + k * 10, none⟩ = some (.int .i64 x.kind) ∧ w'.cell? ⟨b1, ob + k * 10 + 1, none⟩ = some (.int .i64 x.who) ∧ w'.cell? ⟨b1, ob + k * 10 + 2, none⟩ = some (.int .i64 x.obj) ∧ w'.cell? ⟨b1, ob + k * 10 + 3, none⟩ = some (.string (bs x.name)) ∧ w'.cell? ⟨b1, ob + k * 10 + 4, none⟩ = some (.bool x.ref) ∧ w'.cell? ⟨b1, ob + k * 10 + 5, none⟩ = some (.int .i64 x.n) ∧ w'.cell? ⟨b1, ob + k * 10 + 6, none⟩ = some (.int .i64 x.o0) ∧ w'.cell? ⟨b1, ob + k * 10 + 7, none⟩ = some (.int .i64 x.o1) ∧ w'.cell? ⟨b1, ob + k * 10 + 8, none⟩ = some (.int .i64 x.o2) ∧ w'.cell? ⟨b1, ob + k * 10 + 9, none⟩ = some (.int .i64 x.o3)) ∧ (w'.cell? ⟨b2, ob' + k * 10, none⟩ = some (.int .i64 y.kind) ∧ w'.cell? ⟨b2, ob' + k * 10 + 1, none⟩ = some (.int .i64 y.who) ∧ w'.cell? ⟨b2, ob' + k * 10 + 2, none⟩ = some (.int .i64 y.obj) ∧ w'.cell? ⟨b2, ob' + k * 10 + 3, none⟩ = some (.string (bs y.name)) ∧ w'.cell? ⟨b2, ob' + k * 10 + 4, none⟩ = some (.bool y.ref) ∧ w'.cell? ⟨b2, ob' + k * 10 + 5, none⟩ = some (.int .i64 y.n) ∧ w'.cell? ⟨b2, ob' + k * 10 + 6, none⟩ = some (.int .i64 y.o0) ∧ w'.cell? ⟨b2, ob' + k * 10 + 7, none⟩ = some (.int .i64 y.o1) ∧ w'.cell? ⟨b2, ob' + k * 10 + 8, none⟩ = some (.int .i64 y.o2) ∧ w'.cell? ⟨b2, ob' + k * 10 + 9, none⟩ = some (.int .i64 y.o3)) ∧ Grw w3 w') (exact HSS.out _ (by first | assumption | exact (Grw.refl _).drew))
              (first
                | (go_at_call_of 33 (Value.agg #[.int .i64 x.kind, .int .i64 x.who, .int .i64 x.obj, .string (bs x.name), .bool x.ref, .int .i64 x.n, .int .i64 x.o0, .int .i64 x.o1, .int .i64 x.o2, .int .i64 x.o3]); refine (r44Numbers_any _ x).mono ?_; rintro e w5 ⟨A3, c3, rfl, hr3, hq5⟩; have hx5 : Grw w3 w5 := Grw.trans (by first | assumption | exact (Grw.refl _).drew) hq5)
                | (go_at_call_of 33 (Value.agg #[.int .i64 y.kind, .int .i64 y.who, .int .i64 y.obj, .string (bs y.name), .bool y.ref, .int .i64 y.n, .int .i64 y.o0, .int .i64 y.o1, .int .i64 y.o2, .int .i64 y.o3]); refine (r44Numbers_any _ y).mono ?_; rintro e w6 ⟨A4, c4, rfl, hr4, hq6⟩; have hx6 : Grw w3 w6 := Grw.trans (by first | assumption | exact (Grw.refl _).drew) hq6))
            all_goals go_wp2_with fail
            all_goals go_meet
            all_goals first | exact ⟨A3, c3, A4, c4, rfl, rfl, hr3.grw hq6, hr4, hx6⟩ | exact ⟨A3, c3, A4, c4, rfl, rfl, hr3, hr4.grw hq5, hx5⟩
          case rest =>
            obtain ⟨A3, c3, A4, c4, rfl, rfl, hr3, hr4, hg4⟩ := hcut
            have HGC := Lib.hid (Grw.trans HG3.out hg4)
            have HOC := Lib.hid (show wc.ownsRow w.heap.size 29 2 (.slice A qs.length c) qs.length (qs.flatMap pairC) by obtain ⟨h', d', rfl⟩ := hg4; exact own_ext HOW3.out _ _)
            have HR3 := Lib.hid hr3
            have HR4 := Lib.hid hr4
            obtain ⟨na, hna⟩ : ∃ l, x.nums = l := ⟨_, rfl⟩
            obtain ⟨nb, hnb⟩ : ∃ l, y.nums = l := ⟨_, rfl⟩
            have hl7 := nums_le x
            rw [hna] at HE HNL HR3 hl7 ⊢
            rw [hnb] at HE HNL HR4 ⊢
            clear hr3 hr4 hg4 HSS hna hnb HG3 HOW3
            go_wp2
            go_loopw [6, 10] (fun out i w2 => ∃ (j : Nat) (rs : List (Int × Int)) (A : Option Addr) (c : Nat), j ≤ na.length ∧ i = .int .i64 j ∧ foldH qs ((na.zip nb).take j) = some rs ∧ Fair rs ∧ out = .slice A rs.length c ∧ w2.ownsRow w.heap.size 29 2 (.slice A rs.length c) rs.length (rs.flatMap pairC) ∧ Grw w w2 ∧ RowI w2 A3 na ∧ RowI w2 A4 nb) (fun _ i _ => na.length - (intOf i).toNat)
            case atStart => exact ⟨0, qs, A, c, Nat.zero_le _, rfl, rfl, HFA.out, rfl, HOC.out, HGC.out, HR3.out, HR4.out⟩
            case round =>
              obtain ⟨j, rs, A, c, hj, rfl, hfj, hfr, rfl, how, hgw, hr3, hr4⟩ := hrel
              by_cases hjl : j < na.length
              · obtain ⟨u, hu⟩ : ∃ o, na[j]? = some o := ⟨_, List.getElem?_eq_getElem hjl⟩
                obtain ⟨v, hv⟩ : ∃ o, nb[j]? = some o := ⟨_, List.getElem?_eq_getElem (HNL.out ▸ hjl)⟩
                have HR3' := Lib.hid hr3
                have HR4' := Lib.hid hr4
                obtain ⟨b3, rfl, d3⟩ := hr3.at_ hu
                obtain ⟨b4, rfl, d4⟩ := hr4.at_ hv
                have g3 : (j : Int) < (na.length : Int) := by omega
                have g4 : (j : Int) < (nb.length : Int) := by have := HNL.out; omega
                have HRN := Lib.hid (show rs.length ≤ 900007 by have := foldH_len hfj; rw [List.length_take] at this; have := HQ.out; omega)
                have HZJ : Hid (foldH qs ((na.zip nb).take (j + 1)) = holdL rs u v) := Lib.hid (by rw [zip_take na nb j u v hu hv, foldH_snoc, hfj]; rfl)
                have HEJ : Hid (holdL rs u v = none → matchL a b = none) := Lib.hid (fun hh => HEQ.out (by
                  rw [HE.out, ← List.take_append_drop (j + 1) (na.zip nb)]; exact foldH_none _ _ (by rw [HZJ.out, hh])))
                have HFR := Lib.hid hfr
                have HOW := Lib.hid how
                have HGW := Lib.hid hgw
                have HCL := Lib.hid (Sl.of_own (enc := pairC) (fun _ => rfl) (by omega) how)
                clear hr3 hr4 hu hv hfj hfr how hgw
                by_cases hsg : sgn u = sgn v
                · have hne : ((sgn u : Int) != sgn v) = false := by simp [hsg]
                  have HSG := Lib.hid hsg
                  clear hsg
                  go_wp2
                  go_quiet ((go_at_call 34; exact quiet_left (r44sign_any _ _)))
                  go_wp2
                  go_loopw [11, 12] (fun th i wx => ∃ (m q : Nat), m ≤ rs.length ∧ i = .int .i64 m ∧ th = .bool (thr rs m u) ∧ clash (rs.take m) u v = false ∧ wx = wr.drewN q) (fun _ i _ => rs.length - (intOf i).toNat)
                  case atStart => exact ⟨0, nq, Nat.zero_le _, rfl, by rw [thr_zero], rfl, rfl⟩
                  case round =>
                    obtain ⟨m, q, hm, rfl, rfl, hcl, rfl⟩ := hrel
                    by_cases hml : m < rs.length
                    · obtain ⟨p, hp⟩ : ∃ o, rs[m]? = some o := ⟨_, List.getElem?_eq_getElem hml⟩
                      obtain ⟨b5, o5, rfl, hb5, hc5⟩ := HCL.out.at_ hp
                      have c5 := hc5 0 _ rfl
                      have c6 := hc5 1 _ rfl
                      simp only [Nat.add_zero] at c5
                      have g5 : (m : Int) < (rs.length : Int) := by omega
                      have HRN' := HRN.out
                      have HTS := Lib.hid (thr_snoc (u := u) hp)
                      have HCS := Lib.hid (clash_snoc (u := u) (v := v) hp)
                      have HCF := Lib.hid (clash_full (u := u) (v := v) hp)
                      have HCL0 := Lib.hid hcl
                      clear hc5 hp hcl
                      cases hx1 : ((p.1 : Int) == u) <;> cases hx2 : ((p.2 : Int) == v)
                      · cases hth : thr rs m u
                        · have HT := Lib.hid hth
                          have HX1 := Lib.hid hx1
                          have HX2 := Lib.hid hx2
                          go_wp2
                          go_quiet (fail)
                          go_wp2
                          go_quiet (fail)
                          go_wp2
                          go_roundw
                          case rel => first | exact ⟨m + 1, _, by omega, by go_num, by rw [HTS.out, HT.out, HX1.out]; rfl, by rw [HCS.out, HCL0.out, HX1.out, HX2.out]; rfl, rfl⟩ | ((repeat apply Exists.intro); exact ⟨⟨m + 1, _, by omega, by go_num, by rw [HTS.out, HT.out, HX1.out]; rfl, by rw [HCS.out, HCL0.out, HX1.out, HX2.out]; rfl, rfl⟩, rfl⟩)
                          case measure => simp [intOf]; omega
                        · have HT := Lib.hid hth
                          have HX1 := Lib.hid hx1
                          have HX2 := Lib.hid hx2
                          go_wp2
                          go_quiet (fail)
                          go_wp2
                          go_quiet (fail)
                          go_wp2
                          go_roundw
                          case rel => first | exact ⟨m + 1, _, by omega, by go_num, by rw [HTS.out, HT.out]; rfl, by rw [HCS.out, HCL0.out, HX1.out, HX2.out]; rfl, rfl⟩ | ((repeat apply Exists.intro); exact ⟨⟨m + 1, _, by omega, by go_num, by rw [HTS.out, HT.out]; rfl, by rw [HCS.out, HCL0.out, HX1.out, HX2.out]; rfl, rfl⟩, rfl⟩)
                          case measure => simp [intOf]; omega
                      · have HX := Lib.hid (HEJ.out (hold_clash HFR.out HSG.out (HCF.out (by rw [hx1, hx2]; rfl))))
                        go_wp2
                        go_quiet (fail)
                        go_wp2
                        exact bodyPost_ret (v := .tuple #[.slice none 0 0, .bool false]) (by simp [results, Try.results11, go_sem]) rfl ⟨none, 0, by rw [HX.out]; rfl, (by repeat (first | exact HGW.out | apply Grw.ext | apply Grw.alloc | apply Grw.drewN | apply Grw.drew)), by rw [HX.out]; exact World.ownsRow_nil _ _ _ _⟩
                      · have HX := Lib.hid (HEJ.out (hold_clash HFR.out HSG.out (HCF.out (by rw [hx1, hx2]; rfl))))
                        go_wp2
                        go_quiet (fail)
                        go_wp2
                        exact bodyPost_ret (v := .tuple #[.slice none 0 0, .bool false]) (by simp [results, Try.results11, go_sem]) rfl ⟨none, 0, by rw [HX.out]; rfl, (by repeat (first | exact HGW.out | apply Grw.ext | apply Grw.alloc | apply Grw.drewN | apply Grw.drew)), by rw [HX.out]; exact World.ownsRow_nil _ _ _ _⟩
                      · cases hth : thr rs m u
                        · have HT := Lib.hid hth
                          have HX1 := Lib.hid hx1
                          have HX2 := Lib.hid hx2
                          go_wp2
                          go_quiet (fail)
                          go_wp2
                          go_quiet (fail)
                          go_wp2
                          go_roundw
                          case rel => first | exact ⟨m + 1, _, by omega, by go_num, by rw [HTS.out, HT.out, HX1.out]; rfl, by rw [HCS.out, HCL0.out, HX1.out, HX2.out]; rfl, rfl⟩ | ((repeat apply Exists.intro); exact ⟨⟨m + 1, _, by omega, by go_num, by rw [HTS.out, HT.out, HX1.out]; rfl, by rw [HCS.out, HCL0.out, HX1.out, HX2.out]; rfl, rfl⟩, rfl⟩)
                          case measure => simp [intOf]; omega
                        · have HT := Lib.hid hth
                          have HX1 := Lib.hid hx1
                          have HX2 := Lib.hid hx2
                          go_wp2
                          go_quiet (fail)
                          go_wp2
                          go_quiet (fail)
                          go_wp2
                          go_roundw
                          case rel => first | exact ⟨m + 1, _, by omega, by go_num, by rw [HTS.out, HT.out]; rfl, by rw [HCS.out, HCL0.out, HX1.out, HX2.out]; rfl, rfl⟩ | ((repeat apply Exists.intro); exact ⟨⟨m + 1, _, by omega, by go_num, by rw [HTS.out, HT.out]; rfl, by rw [HCS.out, HCL0.out, HX1.out, HX2.out]; rfl, rfl⟩, rfl⟩)
                          case measure => simp [intOf]; omega
                    · obtain rfl : m = rs.length := by omega
                      rw [List.take_of_length_le (Nat.le_refl _)] at hcl
                      have HHC := Lib.hid (hold_calm HFR.out HSG.out hcl)
                      have HTE := Lib.hid (thr_full rs u)
                      clear hcl
                      cases hth : thr rs rs.length u with
                      | true =>
                        have HR : Hid (holdL rs u v = some rs) := Lib.hid (by rw [HHC.out, if_pos (HTE.out.1 hth)])
                        clear hth
                        go_wp2
                        go_roundw
                        case rel => first | exact ⟨j + 1, rs, A, c, by omega, by go_num, by rw [HZJ.out, HR.out], HFR.out, rfl, own_drewN HOW.out _, Grw.drewN HGW.out _, HR3'.out, HR4'.out⟩ | ((repeat apply Exists.intro); exact ⟨⟨j + 1, rs, A, c, by omega, by go_num, by rw [HZJ.out, HR.out], HFR.out, rfl, own_drewN HOW.out _, Grw.drewN HGW.out _, HR3'.out, HR4'.out⟩, rfl⟩)
                        case measure => simp [intOf]; omega
                      | false =>
                        have HR : Hid (holdL rs u v = some (rs ++ [(u, v)])) := Lib.hid (by rw [HHC.out, if_neg (fun h => by rw [HTE.out.2 h] at hth; cases hth)])
                        clear hth
                        have hszw := HGW.out.below.size
                        have HRN' := HRN.out
                        go_wp2
                        go_region_law
                          (refine step_append_lies _ (by rfl) (.tmp 108) (.tmp 118) 24 (by rfl) w.heap.size 29 i0 _ 2 16 Try.underlying24 hi hz0 hz1 hz2 rfl (by decide) (.slice A rs.length c) rs.length (rs.flatMap pairC) (by rfl) (by exact own_drew (own_drewN (HOW.out.alloc _) q)) ⟨wr.heap.size, 0, none⟩ 1 1 [.int .i64 u, .int .i64 v] (by rfl) rfl ?c1 ?c2 (by omega) ?c3 ?c4 ?c5 _ (by rfl) ?_
                           case c1 => exact news_alloc wr #[_, _] _ _ rfl
                           case c2 => simp [Value.oneCell']
                           case c3 => unfold maxLen; omega
                           case c4 => omega
                           case c5 => simp; omega
                           intro g' cap' w1 hown1 hgrow _ _
                           have HN := Lib.hid hown1
                           have HGr := Lib.hid (show Grw w w1 by exact (((HGW.out.drewN q).drew).alloc _).grown hgrow (own_beyond HOW.out))
                           have HRA := Lib.hid (RowI.grown HR3'.out HOW.out hgrow)
                           have HRB := Lib.hid (RowI.grown HR4'.out HOW.out hgrow)
                           clear hown1 hgrow)
                        all_goals go_wp2
                        all_goals
                          go_roundw
                          case rel => first | exact ⟨j + 1, rs ++ [(u, v)], some ⟨g', 0, none⟩, cap', by omega, by go_num, by rw [HZJ.out, HR.out], (holdL_fair HFR.out HR.out).1, by rw [List.length_append]; rfl, by rw [List.length_append, List.flatMap_append]; exact HN.out, HGr.out, HRA.out, HRB.out⟩ | ((repeat apply Exists.intro); exact ⟨⟨j + 1, rs ++ [(u, v)], some ⟨g', 0, none⟩, cap', by omega, by go_num, by rw [HZJ.out, HR.out], (holdL_fair HFR.out HR.out).1, by rw [List.length_append]; rfl, by rw [List.length_append, List.flatMap_append]; exact HN.out, HGr.out, HRA.out, HRB.out⟩, rfl⟩)
                          case measure => simp [intOf]; omega
                · have hne : ((sgn u : Int) != sgn v) = true := by simp [hsg]
                  have HX := Lib.hid (HEJ.out (by unfold holdL; rw [if_pos hsg]))
                  clear hsg
                  go_wp2
                  go_quiet ((go_at_call 34; exact quiet_left (r44sign_any _ _)))
                  go_wp2
                  exact bodyPost_ret (v := .tuple #[.slice none 0 0, .bool false]) (by simp [results, Try.results11, go_sem]) rfl ⟨none, 0, by rw [HX.out]; rfl, (by repeat (first | exact HGW.out | apply Grw.ext | apply Grw.alloc | apply Grw.drewN | apply Grw.drew)), by rw [HX.out]; exact World.ownsRow_nil _ _ _ _⟩
              · obtain rfl : j = na.length := by omega
                have HX : Hid (evL qs x y = some rs) := Lib.hid (by rw [HE.out, ← hfj, List.take_of_length_le (by rw [List.length_zip]; omega)])
                have HFR := Lib.hid (foldH_fair HFA.out (by rw [← HE.out]; exact HX.out))
                have HOW := Lib.hid how
                have HGW := Lib.hid hgw
                clear hr3 hr4 hfj hfr how hgw
                go_wp2
                go_roundw
                case rel => first | exact ⟨k + 1, rs, A, c, by omega, by go_num, by rw [HZ.out, HX.out], HFR.out, rfl, HOW.out, HGW.out⟩ | ((repeat apply Exists.intro); exact ⟨⟨k + 1, rs, A, c, by omega, by go_num, by rw [HZ.out, HX.out], HFR.out, rfl, HOW.out, HGW.out⟩, rfl⟩)
                case measure => simp [intOf]; omega
      · obtain rfl : k = a.length := by omega
        have HE : Hid (matchL a b = some qs) := Lib.hid (by rw [HM.out, ← hf, List.take_of_length_le (by rw [List.length_zip]; omega)])
        have HST := Lib.hid (And.intro hown hg)
        clear hf hg hown h1 h2 hfair
        go_wp2
        exact bodyPost_ret (v := .tuple #[.slice A qs.length c, .bool true]) (by simp [results, Try.results11, go_sem]) rfl ⟨A, c, by rw [HE.out]; rfl, HST.out.2, by rw [HE.out]; exact HST.out.1⟩
  · have hl' : ((a.length : Int) != (b.length : Int)) = true := by simp; omega
    have HM := Lib.hid (show matchL a b = none by unfold matchL; rw [if_neg hl])
    clear hl h1 h2
    go_enter Try.func11, Try.ntmps11
    go_wp2
    exact bodyPost_ret (v := .tuple #[.slice none 0 0, .bool false]) (by simp [results, Try.results11, go_sem]) rfl ⟨none, 0, by rw [HM.out]; rfl, by first | exact Grw.refl _ | (repeat (first | exact Grw.refl _ | apply Grw.ext | apply Grw.alloc | apply Grw.drewN | apply Grw.drew)); done, by rw [HM.out]; exact World.ownsRow_nil _ _ _ _⟩
end
end Go.Proofs.Ytgjpbhgobjlneaa
