/- The law AnnotParse: annot.Parse and annot.Owners answer as the document's answer does, at any text, place and parameters. -/
import Derived.Test.YtnindeoemfgkeaaRRRRLaw07b
namespace Go.Proofs.YtnindeoemfgkeaaRRRR
open Go.RowKit
theorem r07Parse_any (toks : List Tok) (ps : List (List UInt8)) (A PA : Option Addr) (c pc B : Nat) (at_ : Int) (w : World) (nm : Bool) (hl : SlB Tok.cells 3 w B A toks) (hn : toks.length ≤ 1000000) (hp : SlB strC 1 w B PA ps) (hm : ps.length ≤ 1000000) (ha : I64 at_) (hok : ∀ i, (tokAt toks i).kind = 4 → ownW (tokAt toks i).text = 0) :
    Calls Try.prog 21 #[.slice A toks.length c, .int .i64 at_, .slice PA ps.length pc, .bool nm] w (Pars7 w (parseL toks ps at_ nm)) := by
  cases hv : isW (tokAt toks at_) [118, 111, 105, 100]
  · cases hi : isW (tokAt toks at_) [105, 110, 116]
    · exact r07Parse_obj toks ps A PA c pc B at_ w nm hl hn hp hm ha hok hv hi
    · exact r07Parse_int toks ps A PA c pc B at_ w nm hl hn hv hi
  · exact r07Parse_void toks ps A PA c pc B at_ w nm hl hn hv
@[go_sem] theorem got7_c1' (L : Value) (T : Ty) (nx e a : Int) : (got7 L T nx e a)[1]? = some (.int .i64 T.kind) := rfl
@[go_sem] theorem got7_c2' (L : Value) (T : Ty) (nx e a : Int) : (got7 L T nx e a)[2]? = some (.string (bs T.cls)) := rfl
@[go_sem] theorem got7_c3' (L : Value) (T : Ty) (nx e a : Int) : (got7 L T nx e a)[3]? = some (.int .i64 T.n) := rfl
@[go_sem] theorem got7_c4' (L : Value) (T : Ty) (nx e a : Int) : (got7 L T nx e a)[4]? = some (.int .i64 T.o0.1) := rfl
@[go_sem] theorem got7_c5' (L : Value) (T : Ty) (nx e a : Int) : (got7 L T nx e a)[5]? = some (.int .i64 T.o0.2) := rfl
@[go_sem] theorem got7_c6' (L : Value) (T : Ty) (nx e a : Int) : (got7 L T nx e a)[6]? = some (.int .i64 T.o1.1) := rfl
@[go_sem] theorem got7_c7' (L : Value) (T : Ty) (nx e a : Int) : (got7 L T nx e a)[7]? = some (.int .i64 T.o1.2) := rfl
@[go_sem] theorem got7_c8' (L : Value) (T : Ty) (nx e a : Int) : (got7 L T nx e a)[8]? = some (.int .i64 T.o2.1) := rfl
@[go_sem] theorem got7_c9' (L : Value) (T : Ty) (nx e a : Int) : (got7 L T nx e a)[9]? = some (.int .i64 T.o2.2) := rfl
@[go_sem] theorem got7_c10' (L : Value) (T : Ty) (nx e a : Int) : (got7 L T nx e a)[10]? = some (.int .i64 T.o3.1) := rfl
@[go_sem] theorem got7_c11' (L : Value) (T : Ty) (nx e a : Int) : (got7 L T nx e a)[11]? = some (.int .i64 T.o3.2) := rfl
@[go_sem] theorem got7_c27' (L : Value) (T : Ty) (nx e a : Int) : (got7 L T nx e a)[27]? = some (.int .i64 a) := rfl
section
variable (s : ByteArray) (at_ : Int) (ps : List (List UInt8)) (PA : Option Addr) (pc : Nat) (nm : Bool) (w : World)
set_option maxRecDepth 100000 in
set_option maxHeartbeats 1000000 in
theorem law07_off (hs : s.size ≤ 9223372036854775807) (hn : ps.length ≤ 9223372036854775807) (hoff : 300 < s.size ∨ s.size ≤ 300 ∧ (tokOf s.data.toList).2.1 ≠ 0 ∨ s.size ≤ 300 ∧ (tokOf s.data.toList).2.1 = 0 ∧ 20 < ps.length) :
    Calls Try.prog 6 #[.agg #[.string s, .int .i64 at_], .slice PA ps.length pc, .bool nm] w fun e w' => e = .returned (.bool true) ∧ Grw w w' := by
  obtain ⟨toks, fe, fa, hT⟩ : ∃ toks fe fa, tokOf s.data.toList = (toks, fe, fa) := ⟨_, _, _, rfl⟩
  have HT := Lib.hid hT
  rw [hT] at hoff
  clear hT
  have hcs : (300 : Int) < (s.size : Int) ∨ (s.size : Int) ≤ 300 ∧ ((fe : Int) != 0) = true ∨ (s.size : Int) ≤ 300 ∧ ((fe : Int) != 0) = false ∧ 20 < (ps.length : Int) := by
    rcases hoff with h | ⟨h, h2⟩ | ⟨h, h2, h3⟩
    · exact .inl (by omega)
    · exact .inr (.inl ⟨by omega, by simp; exact h2⟩)
    · exact .inr (.inr ⟨by omega, by simp; exact h2, by omega⟩)
  clear hoff
  rcases hcs with c1 | ⟨c1, c2⟩ | ⟨c1, c2, c3⟩
  all_goals
    go_enter Try.func6, Try.ntmps6
    go_wp2_with (first
      | (go_at_call 18; refine (r03Of_any _ _ hs).mono ?_; unfold OfPost; rw [HT.out]; rintro e w' ⟨A, c, rfl, hq, hown⟩; clear hown; obtain ⟨xh, xd, rfl⟩ := hq)
      | (go_at_call 19; refine (awake07 _).mono ?_; rintro e w' ⟨rfl, hq⟩; obtain ⟨yh, yd, rfl⟩ := hq))
    go_ret
    exact ⟨rfl, by first | exact Grw.refl _ | (repeat (first | exact Grw.refl _ | apply Grw.ext | apply Grw.alloc | apply Grw.drewN | apply Grw.drew)); done⟩
set_option maxRecDepth 100000 in
set_option maxHeartbeats 4000000 in
theorem law07_on (hp : SlB strC 1 w w.heap.size PA ps) (ha : I64 at_) (hs : s.size ≤ 300) (hn : ps.length ≤ 20) (h0 : (tokOf s.data.toList).2.1 = 0) :
    Calls Try.prog 6 #[.agg #[.string s, .int .i64 at_], .slice PA ps.length pc, .bool nm] w fun e w' => e = .returned (.bool true) ∧ Grw w w' := by
  have hok := tokOf_ok s.data.toList
  have hlen := tokOf_len s.data.toList
  obtain ⟨toks, fe, fa, hT⟩ : ∃ toks fe fa, tokOf s.data.toList = (toks, fe, fa) := ⟨_, _, _, rfl⟩
  have HT := Lib.hid hT
  rw [hT] at h0 hok hlen
  dsimp only at h0 hok hlen
  subst h0
  have HK := Lib.hid hok
  clear hT hok
  have f1 : (s.size : Int) ≤ 300 := by omega
  have f2 : (ps.length : Int) ≤ 20 := by omega
  go_enter Try.func6, Try.ntmps6
  go_wp2_with (first
    | (go_at_call 18; refine (r03Of_any _ _ (by omega)).mono ?_; unfold OfPost; rw [HT.out]; rintro e w' ⟨A, c, rfl, hq, hown⟩; have hl := (Sl.of_own Tok.len (by decide) hown).toB (Nat.le_refl _); clear hown; obtain ⟨xh, xd, rfl⟩ := hq))
  obtain ⟨T, nx, x, p, hR⟩ : ∃ T nx x p, parseL toks ps at_ nm = (T, nx, x, p) := ⟨_, _, _, _, rfl⟩
  obtain ⟨L, ny, y, q, hO⟩ : ∃ L ny y q, ownsL toks ps at_ = (L, ny, y, q) := ⟨_, _, _, _, rfl⟩
  have HR := Lib.hid hR
  have HO := Lib.hid hO
  have hL3 := ownsL_len toks ps at_
  rw [hO] at hL3
  dsimp only at hL3
  clear hR hO
  refine (anParse_any toks ps A PA c pc at_ _ nm ⟨?i1, ?i2, hlen, by omega⟩ ha).mono ?_
  case i1 => exact (SlB.up (by repeat (first | exact hl | apply SlB.alloc | apply SlB.ext | apply SlB.drewN)) (by simp only [wext_size, World.size_alloc]; omega))
  case i2 => exact (SlB.up (by repeat (first | exact hp | apply SlB.alloc | apply SlB.ext | apply SlB.drewN)) (by simp only [wext_size, World.size_alloc]; omega))
  rw [HR.out]
  rintro e w' ⟨rfl, h1, d1, rfl⟩
  dsimp only [Ty.arr]
  go_wp2_with fail
  refine (r07Parse_any toks ps A PA c pc (xh.size + (w.heap.size + 1)) at_ _ nm (by repeat (first | exact hl.up (by simp [wext_size]) | apply SlB.alloc | apply SlB.ext)) hlen (SlB.up (B := w.heap.size) (by repeat (first | exact hp | apply SlB.alloc | apply SlB.ext | apply SlB.drewN)) (by omega)) (by omega) ha HK.out).mono ?_
  unfold Pars7
  rw [HR.out]
  rintro e w' ⟨A1, n1, c1, rfl, h2, d2, rfl⟩
  dsimp only
  go_wp2_with fail
  refine (anOwners_any toks ps A PA c pc at_ _ ⟨?j1, ?j2, hlen, by omega⟩ ha).mono ?_
  case j1 => exact (SlB.up (by repeat (first | exact hl | apply SlB.alloc | apply SlB.ext | apply SlB.drewN)) (by simp only [wext_size, World.size_alloc]; omega))
  case j2 => exact (SlB.up (by repeat (first | exact hp | apply SlB.alloc | apply SlB.ext | apply SlB.drewN)) (by simp only [wext_size, World.size_alloc]; omega))
  unfold OwnsA
  rw [HO.out]
  rintro e w' ⟨A2, c2, rfl, ⟨h3, d3, rfl⟩, hown2⟩
  dsimp only at hown2 ⊢
  have hs2 := (Sl.of_own ownC_len (by decide) hown2).toB (Nat.le_refl _)
  clear hown2
  go_wp2_with fail
  refine (r07Owners_any toks ps A PA c pc (xh.size + (w.heap.size + 1)) at_ _ (by repeat (first | exact hl.up (by simp [wext_size]) | apply SlB.alloc | apply SlB.ext)) hlen (SlB.up (B := w.heap.size) (by repeat (first | exact hp | apply SlB.alloc | apply SlB.ext | apply SlB.drewN)) (by omega)) (by omega) ha HK.out).mono ?_
  unfold Owns7
  rw [HO.out]
  rintro e w' ⟨A3, c3, rfl, ⟨h4, d4, rfl⟩, hown3⟩
  dsimp only at hown3 ⊢
  have hs3 := (Sl.of_own ownC_len (by decide) hown3).toB (Nat.le_refl _)
  clear hown3
  go_wp2_with fail
  go_loopw [17] (fun i wr => ∃ k B : Nat, k ≤ L.length ∧ i = .int .i64 k ∧ SlB ownC 2 wr B A2 L ∧ SlB ownC 2 wr B A3 L ∧ Grw w wr ∧
    wr.cell? ⟨h4.size + (h3.size + (h2.size + (h1.size + (xh.size + (w.heap.size + 1) + 1) + 1 + 1) + 1) + 1), 0, none⟩ = some (.slice A3 L.length c3)) (fun i _ => L.length - (intOf i).toNat)
  case atStart => exact ⟨0, _, Nat.zero_le _, rfl, SlB.up (by repeat (first | exact hs2 | apply SlB.alloc | apply SlB.ext | apply SlB.drewN)) (Nat.le_max_left _ _), SlB.up (by repeat (first | exact hs3 | apply SlB.alloc | apply SlB.ext | apply SlB.drewN)) (Nat.le_max_right _ _), by first | exact Grw.refl _ | (repeat (first | exact Grw.refl _ | apply Grw.ext | apply Grw.alloc | apply Grw.drewN | apply Grw.drew)); done, by simp [go_sem]⟩
  case round =>
    obtain ⟨k, B, hk, rfl, hb2, hb3, hg, hc16⟩ := hrel
    by_cases hlt : k < L.length
    · obtain ⟨o, hx⟩ : ∃ o, L[k]? = some o := ⟨_, List.getElem?_eq_getElem hlt⟩
      obtain ⟨b, ob, rfl, _, hbl, hc⟩ := hb2.at_ hx
      obtain ⟨b', ob', rfl, _, hbl', hc'⟩ := hb3.at_ hx
      have e0 := hc 0 _ rfl
      have e1 := hc 1 _ rfl
      have e2 := hc' 0 _ rfl
      have e3 := hc' 1 _ rfl
      simp only [Nat.add_zero] at e0 e2
      have f3 : (k : Int) < (L.length : Int) := by omega
      have HG := Lib.hid hg
      have HB2 := Lib.hid hb2
      have HB3 := Lib.hid hb3
      clear hc hc' hg hb2 hb3 hx
      go_wp2
      go_quiet (fail)
      go_wp2
      go_roundw
      case rel => exact ⟨k + 1, B, by omega, by go_num, HB2.out.drewN _, HB3.out.drewN _, HG.out.drewN _, hc16⟩
      case measure => simp [intOf]; omega
    · obtain rfl : k = L.length := by omega
      clear hb2 hb3
      go_wp2_with (go_at_call 19; refine (awake07 _).mono ?_; rintro e w' ⟨rfl, hq⟩)
      go_ret
      exact ⟨rfl, hg.trans hq⟩
end
end Go.Proofs.YtnindeoemfgkeaaRRRR
