/- Contracts of path.live, Names, Roots and the document's live, Names, Roots: they answer alike. Conditions: fewer than a million objects. -/
import Derived.Test.YtgjpbhgobjlneaaPath0
import Derived.Test.YtgjpbhgobjlneaaProg
namespace Go.Proofs.Ytgjpbhgobjlneaa
open Go.RowKit
theorem infoI : (Try.prog.info? 3).map (fun i => (i.zero, i.size, i.bytes)) = some (some (.int .i64 0), 1, 8) := by kernel_rfl
/-- A heap lies in memory, below B. -/
def Hp (w : World) (B : Nat) (A : Option Addr) (l : List Cl) : Prop := SlB Cl.cells 7 w B A l ∧ ∀ c ∈ l, SlB valC 2 w B c.fA c.fl ∧ c.fl.length ≤ 1000000
theorem Hp.below {w w' : World} {B : Nat} {A : Option Addr} {l : List Cl} (h : Hp w B A l) (hb : Below B w w') : Hp w' B A l :=
  ⟨h.1.keep fun b hlt hw => ⟨hb.block b hlt, Nat.lt_of_lt_of_le hw hb.size⟩, fun c hc => ⟨(h.2 c hc).1.keep fun b hlt hw => ⟨hb.block b hlt, Nat.lt_of_lt_of_le hw hb.size⟩, (h.2 c hc).2⟩⟩
theorem Hp.grw {w w' : World} {B : Nat} {A : Option Addr} {l : List Cl} (h : Hp w B A l) (g : Grw w w') : Hp w' B A l :=
  ⟨h.1.grw g, fun c hc => ⟨(h.2 c hc).1.grw g, (h.2 c hc).2⟩⟩
theorem clAt_nat (l : List Cl) (k : Nat) : clAt l ((k : Int) + 1) = l[k]? := by
  unfold clAt
  rw [if_pos (by omega), show ((k : Int) + 1 - 1).toNat = k by omega]
theorem liveL_nat (l : List Cl) (k : Nat) (c : Cl) (h : l[k]? = some c) : liveL l ((k : Int) + 1) = !c.dead := by
  unfold liveL; rw [clAt_nat, h]
theorem liveL_far (l : List Cl) (a : Int) (h : a ≤ 0 ∨ (l.length : Int) < a) : liveL l a = false := by
  unfold liveL clAt
  split
  · rename_i c hc
    split at hc
    · have := (List.getElem?_eq_some_iff.1 hc).1; omega
    · cases hc
  · rfl
section
variable (l : List Cl) (A : Option Addr) (c B : Nat) (w : World)
set_option maxRecDepth 100000 in
set_option maxHeartbeats 1000000 in
theorem live_any (a : Int) (h : Hp w B A l) (hn : l.length ≤ 1000000) : Calls Try.prog 36 #[.slice A l.length c, .int .i64 a] w fun e w' => e = .returned (.bool (liveL l a)) ∧ w = w' := by
  have hcs : a ≤ 0 ∨ (0 < a ∧ (l.length : Int) < a) ∨ ∃ k : Nat, a = (k : Int) + 1 ∧ k < l.length := by
    by_cases h0 : 0 < a
    · by_cases h1 : a ≤ l.length
      · exact .inr (.inr ⟨(a - 1).toNat, by omega, by omega⟩)
      · exact .inr (.inl ⟨h0, by omega⟩)
    · exact .inl (by omega)
  rcases hcs with h0 | ⟨h0, h1⟩ | ⟨k, rfl, hk⟩
  · have HL := Lib.hid (liveL_far l a (.inl h0))
    clear h
    go_enter Try.func36, Try.ntmps36
    go_wp2
    go_ret
    exact ⟨by rw [HL.out]; rfl, rfl⟩
  · have HL := Lib.hid (liveL_far l a (.inr h1))
    clear h
    go_enter Try.func36, Try.ntmps36
    go_wp2
    go_ret
    exact ⟨by rw [HL.out]; rfl, rfl⟩
  · obtain ⟨x, hx⟩ : ∃ o, l[k]? = some o := ⟨_, List.getElem?_eq_getElem hk⟩
    have HL := Lib.hid (liveL_nat l k x hx)
    obtain ⟨b, o, rfl, _, hbl, hc⟩ := h.1.at_ hx
    have e6 := hc 6 _ rfl
    have f3 : (k : Int) < (l.length : Int) := by omega
    clear hc hx h
    go_enter Try.func36, Try.ntmps36
    go_wp2
    go_ret
    exact ⟨by rw [HL.out]; rfl, rfl⟩
def askL (l : List Cl) (a : Int) : Int := if a = 0 then 2 else if a < 1 ∨ (l.length : Int) < a then 10 else match clAt l a with | some c => if c.dead then 7 else 0 | none => 0
theorem askL_live (l : List Cl) (a : Int) : (askL l a == 0) = liveL l a := by
  unfold askL
  by_cases h0 : a = 0
  · rw [if_pos h0, liveL_far l a (.inl (by omega))]; rfl
  · rw [if_neg h0]
    by_cases h1 : a < 1 ∨ (l.length : Int) < a
    · rw [if_pos h1, liveL_far l a (by omega)]; rfl
    · rw [if_neg h1]
      unfold liveL
      cases hc : clAt l a with
      | some c => cases hd : c.dead <;> simp [hd]
      | none =>
        unfold clAt at hc
        rw [if_pos (by omega)] at hc
        have := List.getElem?_eq_none_iff.1 hc
        omega
set_option maxRecDepth 100000 in
set_option maxHeartbeats 1000000 in
theorem ask_any (a : Int) (h : Hp w B A l) (hn : l.length ≤ 1000000) : Calls Try.prog 50 #[.slice A l.length c, .int .i64 a] w fun e w' => e = .returned (.int .i64 (askL l a)) ∧ w = w' := by
  have hcs : a = 0 ∨ a < 0 ∨ (0 < a ∧ (l.length : Int) < a) ∨ ∃ k : Nat, a = (k : Int) + 1 ∧ k < l.length := by
    by_cases h0 : 0 < a
    · by_cases h1 : a ≤ l.length
      · exact .inr (.inr (.inr ⟨(a - 1).toNat, by omega, by omega⟩))
      · exact .inr (.inr (.inl ⟨h0, by omega⟩))
    · omega
  rcases hcs with rfl | h0 | ⟨h0, h1⟩ | ⟨k, rfl, hk⟩
  · clear h
    go_enter Try.func50, Try.ntmps50
    go_wp2
    go_ret
    exact ⟨rfl, rfl⟩
  · have HL := Lib.hid (show askL l a = 10 by unfold askL; rw [if_neg (by omega), if_pos (by omega)])
    have e0 : ((a : Int) == 0) = false := by simp; omega
    have h1 : a < 1 := by omega
    clear h
    go_enter Try.func50, Try.ntmps50
    go_wp2
    go_ret
    exact ⟨by rw [HL.out]; rfl, rfl⟩
  · have HL := Lib.hid (show askL l a = 10 by unfold askL; rw [if_neg (by omega), if_pos (by omega)])
    have e0 : ((a : Int) == 0) = false := by simp; omega
    clear h
    go_enter Try.func50, Try.ntmps50
    go_wp2
    go_ret
    exact ⟨by rw [HL.out]; rfl, rfl⟩
  · obtain ⟨x, hx⟩ : ∃ o, l[k]? = some o := ⟨_, List.getElem?_eq_getElem hk⟩
    have HL := Lib.hid (show askL l ((k : Int) + 1) = if x.dead then 7 else 0 by unfold askL; rw [if_neg (by omega), if_neg (by omega), clAt_nat, hx])
    obtain ⟨b, o, rfl, _, hbl, hc⟩ := h.1.at_ hx
    have e6 := hc 6 _ rfl
    have f3 : (k : Int) < (l.length : Int) := by omega
    have e0 : ((k : Int) + 1 == 0) = false := by simp; omega
    clear hc hx h
    cases hd : x.dead
    all_goals
      rw [hd] at HL e6
      go_enter Try.func50, Try.ntmps50
      go_wp2
      go_ret
      exact ⟨by rw [HL.out]; rfl, rfl⟩
set_option maxHeartbeats 1000000 in
theorem r45live_any (a : Int) (h : Hp w B A l) (hn : l.length ≤ 1000000) : Calls Try.prog 37 #[.slice A l.length c, .int .i64 a] w fun e w' => e = .returned (.bool (liveL l a)) ∧ w = w' := by
  have HL := Lib.hid (askL_live l a)
  go_enter Try.func37, Try.ntmps37
  go_wp2_with (go_at_call 50; refine (ask_any l A c B _ a h hn).mono ?_; rintro e w' ⟨rfl, rfl⟩)
  go_ret
  exact ⟨by rw [← HL.out]; rfl, rfl⟩
end
end Go.Proofs.Ytgjpbhgobjlneaa
