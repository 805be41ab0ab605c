/- The law PathWay. Conditions: the numbers are ints. -/
import Derived.Test.YtgjpbhgobjlneaaPath20
namespace Go.Proofs.Ytgjpbhgobjlneaa
open Go.RowKit Go.Sort
section
variable (l : List Cl) (A : Option Addr) (c B : Nat) (w : World)
theorem r45Way_any (tx ar : Int) (h : Hp w B A l) (hn : l.length ≤ 1000000) : Calls Try.prog 25 #[.slice A l.length c, .int .i64 tx, .int .i64 ar] w (IntsPost (wayL l tx ar) w) := by
  cases hf : fitL l ar tx
  · exact r45Way_off l A c B w tx ar h hn hf
  · obtain ⟨t, _, rfl⟩ := fitL_nat hf
    exact r45Way_on l A c B w t ar h hn hf
theorem wildL_len (hn : l.length ≤ 1000000) : (wildL l).length ≤ 1000000 := Nat.le_trans (wildTo_len0 l l 0) hn
set_option maxRecDepth 100000 in
set_option maxHeartbeats 1000000 in
theorem law45Way_far (tx ar : Int) (h1 : SlB Cl.cells 7 w w.heap.size A l) (hn : l.length ≤ 9223372036854775807) (hg : greatL l = true) : Calls Try.prog 6 #[.slice A l.length c, .int .i64 tx, .int .i64 ar] w fun e w' => e = .returned (.bool true) ∧ Grw w w' := by
  have H := Lib.hid h1
  have HG := Lib.hid hg
  clear h1 hg
  go_enter Try.func6, Try.ntmps6
  go_wp2_with (first
    | (go_at_call 15; refine (l45great_any l A c _ w H.out hn).mono ?_; rintro e w' ⟨rfl, rfl⟩; rw [HG.out])
    | (go_at_call 16; refine (awake45 _).mono ?_; rintro e w' ⟨rfl, hg⟩; have HQ := Lib.hid hg; clear hg))
  go_ret
  exact ⟨rfl, HQ.out⟩
set_option maxRecDepth 100000 in
set_option maxHeartbeats 8000000 in
theorem law45Way_near (tx ar : Int) (h : Hp w w.heap.size A l) (hn : l.length ≤ 25) (how : ∀ c ∈ l, (Lit.int .i64 c.o0).wf = true) (htx : (Lit.int .i64 tx).wf = true) (hg : greatL l = false) : Calls Try.prog 6 #[.slice A l.length c, .int .i64 tx, .int .i64 ar] w fun e w' => e = .returned (.bool true) ∧ Grw w w' := by
  have H := Lib.hid h
  have HG := Lib.hid hg
  have hn' : l.length ≤ 1000000 := by omega
  have HYL := Lib.hid (show (wayL l tx ar).length ≤ 1000000 by
    have := climb_len (spreadL l (rootsL l) ar (sNamesL l)) (spreadL l (rootsL l) ar (sNamesL l)).length tx
    have h2 := (Neat.spread l (rootsL l) ar (sNamesL l)).len
    unfold wayL wayBy
    split
    · rw [List.length_reverse]; omega
    · simp)
  have HZL := Lib.hid (wildL_len l hn')
  have HS1 := Lib.hid (show (wayL l tx ar == wayL l tx ar) = true by simp)
  have HS2 := Lib.hid (show (wildL l == wildL l) = true by simp)
  have HOW := Lib.hid how
  clear h hg how
  go_enter Try.func6, Try.ntmps6
  go_wp2_with (first
    | (go_at_call 15; refine (l45great_any l A c _ w H.out.1 (by omega)).mono ?_; rintro e w' ⟨rfl, rfl⟩; rw [HG.out])
    | (go_at_call 24; refine (pWay_any l A c _ w tx ar H.out hn' htx).mono ?_; rintro e v1 ⟨A1, s1, rfl, hq, hr⟩; have HB1 := Lib.hid hq; have HR1 := Lib.hid (own_slb hr); clear hr hq)
    | (go_at_call 25; refine (r45Way_any l A c _ _ tx ar (H.out.grw HB1.out) hn').mono ?_; rintro e v2 ⟨A2, s2, rfl, hq, hr⟩; have HQ2 := Lib.hid hq; have HB2 := Lib.hid (HB1.out.trans hq); have HR2 := Lib.hid (own_slb hr); clear hr hq)
    | (go_at_call_of 17 (Value.slice A1 (wayL l tx ar).length s1); refine (l45same_any (wayL l tx ar) (wayL l tx ar) A1 A2 s1 s2 _ _ _ (HR1.out.grw HQ2.out) HR2.out HYL.out).mono ?_; rintro e v3 ⟨rfl, hq⟩; have HB3 := Lib.hid (HB2.out.trans hq); clear hq; rw [HS1.out])
    | (go_at_call 26; refine (pWild_any l A c _ _ (H.out.grw HB3.out) hn' HOW.out).mono ?_; rintro e v4 ⟨A4, s4, rfl, hq, hr⟩; have HB4 := Lib.hid (HB3.out.trans hq); have HR4 := Lib.hid (own_slb hr); clear hr hq)
    | (go_at_call 27; refine (r45Wild_any l A c _ _ (H.out.grw HB4.out) hn').mono ?_; rintro e v5 ⟨A5, s5, rfl, hq, hr⟩; have HQ5 := Lib.hid hq; have HB5 := Lib.hid (HB4.out.trans hq); have HR5 := Lib.hid (own_slb hr); clear hr hq)
    | (go_at_call 17; refine (l45same_any (wildL l) (wildL l) A4 A5 s4 s5 _ _ _ (HR4.out.grw HQ5.out) HR5.out HZL.out).mono ?_; rintro e v6 ⟨rfl, hq⟩; have HB6 := Lib.hid (HB5.out.trans hq); clear hq; rw [HS2.out])
    | (go_at_call 16; refine (awake45 _).mono ?_; rintro e w' ⟨rfl, hg⟩; have HQ := Lib.hid hg; clear hg))
  go_ret
  exact ⟨rfl, HB6.out.trans HQ.out⟩
end
end Go.Proofs.Ytgjpbhgobjlneaa
