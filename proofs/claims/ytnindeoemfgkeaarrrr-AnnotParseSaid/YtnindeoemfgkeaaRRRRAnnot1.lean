/- Contracts of annot's reader: look. -/
import Derived.Test.YtnindeoemfgkeaaRRRRLib2
import Derived.Test.YtnindeoemfgkeaaRRRRRef03Of
import Derived.StillTailTactics
namespace Go.Proofs.YtnindeoemfgkeaaRRRR
open Go.RowKit

abbrev w64 (n : Int) : Int := wrap64 n
theorem w64_eq (n : Int) : w64 n = IntKind.i64.wrap n := by unfold w64 wrap64; rw [IntKind.wrap_i64]
/-- The token at a place; else nothing, where the last one stands. -/
def tokAt (l : List Tok) (i : Int) : Tok :=
  if 0 ≤ i ∧ i < l.length then l[i.toNat]?.getD ⟨0, [], 0⟩ else ⟨0, [], (l.getLast?.getD ⟨0, [], 0⟩).pos⟩
/-- The cells of annot's reader. -/
def rdC (A : Option Addr) (n c : Nat) (at_ : Int) (PA : Option Addr) (pn pc : Nat) (fe fa : Int) : Array Value := #[.slice A n c, .int .i64 at_, .slice PA pn pc, .int .i64 fe, .int .i64 fa]
theorem rdC_lit (A : Option Addr) (n c : Nat) (at_ : Int) (PA : Option Addr) (pn pc : Nat) (fe fa : Int) : rdC A n c at_ PA pn pc fe fa = #[.slice A n c, .int .i64 at_, .slice PA pn pc, .int .i64 fe, .int .i64 fa] := rfl

set_option maxRecDepth 100000 in
set_option maxHeartbeats 2000000 in
theorem aLook_sb (toks : List Tok) (A PA : Option Addr) (c pn pc g B : Nat) (at_ fe fa k : Int) (w : World) (hg : g < w.heap.size) (hB : B ≤ g) (hl : SlB Tok.cells 3 w B A toks) (hn : toks.length ≤ 1000000)
    (ha1 : -9223372036854775808 ≤ at_) (ha2 : at_ ≤ 9223372036854775807) (hk0 : 0 ≤ k) (hk2 : k ≤ 2) :
    Calls Try.prog 68 #[.pointer (some ⟨g, 0, none⟩), .int .i64 k] (sb w g 109 #[.slice A toks.length c, .int .i64 at_, .slice PA pn pc, .int .i64 fe, .int .i64 fa]) fun e w' =>
      e = .returned (.agg (tokAt toks (w64 (at_ + k))).cells.toArray) ∧ Grw (sb w g 109 #[.slice A toks.length c, .int .i64 at_, .slice PA pn pc, .int .i64 fe, .int .i64 fa]) w' := by
  by_cases h1 : -k ≤ at_ ∧ at_ < toks.length - k
  · obtain ⟨h1, h2⟩ := h1
    have hx : toks[(at_ + k).toNat]? = some (toks[(at_ + k).toNat]'(by omega)) := List.getElem?_eq_getElem _
    obtain ⟨b, o, rfl, hb, hbs, hc⟩ := hl.at_ hx
    have hbg : b ≠ g := by omega
    have c0 := hc 0 _ rfl
    have c1 := hc 1 _ rfl
    have c2 := hc 2 _ rfl
    simp only [Nat.add_zero] at c0
    have hw : IntKind.i64.wrap (at_ + k) = at_ + k := IntWalk.i64_in _ (by omega)
    have i1 : 0 ≤ at_ + k := by omega
    have i2 : at_ + k < (toks.length : Int) := by omega
    have HC := Lib.hid hc
    have HX := Lib.hid hx
    clear hc hx hl
    go_enter Try.func68, Try.ntmps68
    go_wp2
    go_quiet (fail)
    go_wp2
    refine wp_tail 12 (by kernel_rfl) (by kernel_rfl) ?_
    simp only [List.take_succ_cons, List.take_zero, List.drop_succ_cons, List.drop_zero]
    repeat (go_big_quiet_step (fail))
    refine wpQuiet_nil ?_
    go_wp2
    exact bodyPost_ret (v := .agg #[.int .i64 (toks[(at_ + k).toNat]'(by omega)).kind, .string (bs (toks[(at_ + k).toNat]'(by omega)).text), .int .i64 (toks[(at_ + k).toNat]'(by omega)).pos]) (by simp [results, Try.results68, go_sem]) rfl ⟨by
          rw [show w64 (at_ + k) = at_ + k from (w64_eq _).trans hw, tokAt, if_pos ⟨i1, i2⟩, HX.out]; rfl, by first | exact Grw.refl _ | (repeat (first | exact Grw.refl _ | apply Grw.ext | apply Grw.alloc | apply Grw.drewN | apply Grw.drew)); done⟩
  · have hout : ¬ (0 ≤ w64 (at_ + k) ∧ w64 (at_ + k) < toks.length) := by
      rw [w64_eq, IntKind.wrap_i64]; omega
    have HT := Lib.hid (show tokAt toks (w64 (at_ + k)) = ⟨0, [], (toks.getLast?.getD ⟨0, [], 0⟩).pos⟩ by rw [tokAt, if_neg hout])
    have hcs : decide (-k ≤ at_) = false ∨ (-k ≤ at_ ∧ decide (at_ < (toks.length : Int) - k) = false) := by
      by_cases h : -k ≤ at_
      · exact .inr ⟨h, by simp; omega⟩
      · exact .inl (by simp; omega)
    clear hout h1
    by_cases hnil : toks = []
    · subst hnil
      clear hl
      rcases hcs with hc1 | ⟨hc1, hc2⟩
      all_goals
        go_enter Try.func68, Try.ntmps68
        go_wp2
        go_quiet (fail)
        go_wp2
        exact bodyPost_ret (v := .agg #[.int .i64 0, .string ⟨#[]⟩, .int .i64 0]) (by simp [results, Try.results68, go_sem]) rfl ⟨by rw [HT.out]; rfl, by first | exact Grw.refl _ | (repeat (first | exact Grw.refl _ | apply Grw.ext | apply Grw.alloc | apply Grw.drewN | apply Grw.drew)); done⟩
    · obtain ⟨last, hlast⟩ : ∃ last, toks.getLast? = some last := ⟨_, List.getLast?_eq_some_getLast hnil⟩
      have hx : toks[toks.length - 1]? = some last := by rw [← List.getLast?_eq_getElem?]; exact hlast
      obtain ⟨b, o, rfl, hb, hbs, hc⟩ := hl.at_ hx
      have hbg : b ≠ g := by omega
      have c2 := hc 2 _ rfl
      rw [hlast] at HT
      have hpos := List.length_pos_iff.2 hnil
      clear hx hc hl hlast hnil
      generalize toks.length = n at *
      obtain ⟨m, rfl⟩ : ∃ m, n = m + 1 := ⟨n - 1, by omega⟩
      simp only [Nat.add_sub_cancel] at c2
      replace hcs : decide (-k ≤ at_) = false ∨ (-k ≤ at_ ∧ decide (at_ < (m : Int) + 1 - k) = false) := hcs
      rcases hcs with hc1 | ⟨hc1, hc2⟩
      all_goals
        go_enter Try.func68, Try.ntmps68
        go_wp2
        go_quiet (fail)
        go_wp2
        refine wp_tail 14 (by kernel_rfl) (by kernel_rfl) ?_
        simp only [List.take_succ_cons, List.take_zero, List.drop_succ_cons, List.drop_zero]
        repeat (go_big_quiet_step (fail))
        refine wpQuiet_nil ?_
        go_wp2
        exact bodyPost_ret (v := .agg #[.int .i64 0, .string ⟨#[]⟩, .int .i64 last.pos]) (by simp [results, Try.results68, go_sem]) rfl ⟨by rw [HT.out]; rfl, by first | exact Grw.refl _ | (repeat (first | exact Grw.refl _ | apply Grw.ext | apply Grw.alloc | apply Grw.drewN | apply Grw.drew)); done⟩
end Go.Proofs.YtnindeoemfgkeaaRRRR
