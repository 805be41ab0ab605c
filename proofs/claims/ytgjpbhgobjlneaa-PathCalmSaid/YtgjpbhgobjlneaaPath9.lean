/- The walk of path.Wild. Conditions: fewer than a million objects; the owners' numbers are ints. -/
import Derived.Test.YtgjpbhgobjlneaaPath8
namespace Go.Proofs.Ytgjpbhgobjlneaa
open Go.RowKit Go.Sort
theorem cells_all {w : World} {b : Nat} {cs : Array Value} {t : TypeId} (h : w.heap[b]? = some (.cells cs t)) : ∀ i, w.cell? ⟨b, i, none⟩ = cs[i]? := by
  intro i; simp [World.cell?, h]
structure WS (l : List Cl) (w1 w : World) (mb n : Nat) (f : Int → Option Value) (OA : Option Addr) (oc : Nat) (acc : List Int) : Prop where
  im : IM Try.prog 3 w mb n f
  own : w.ownsRow w1.heap.size 3 1 (.slice OA acc.length oc) acc.length (acc.map (Value.int .i64))
  ch : Ch l w mb (.slice OA acc.length oc) f
  grw : Grw w1 w
  mbl : w1.heap.size ≤ mb
theorem WS.up {l : List Cl} {w1 w w' : World} {mb n : Nat} {f : Int → Option Value} {OA : Option Addr} {oc : Nat} {acc : List Int} (h : WS l w1 w mb n f OA oc acc) (g : Grw w w') : WS l w1 w' mb n f OA oc acc :=
  ⟨h.im.grw g, own_grw h.own g, h.ch.grw g, h.grw.trans g, h.mbl⟩
theorem WS.put {l : List Cl} {w1 w : World} {mb n : Nat} {f f' : Int → Option Value} {OA : Option Addr} {oc : Nat} {acc : List Int} (h : WS l w1 w mb n f OA oc acc) {ob : Obj} (hi : IM Try.prog 3 (pb w mb ob) mb (n + 1) f') (hc : Ch l w mb (.slice OA acc.length oc) f') : WS l w1 (pb w mb ob) mb (n + 1) f' OA oc acc :=
  ⟨hi, h.own.kept (grownBy_pb w mb ob) (.inr (map_row h.im h.own).symm), hc.pb ob, .of_below (below_pb h.grw.below h.mbl ob), h.mbl⟩
theorem WS.app {l : List Cl} {w1 w w9 : World} {mb n g cap : Nat} {f : Int → Option Value} {OA : Option Addr} {oc : Nat} {acc : List Int} {x : Int} {tmp : Obj} (h : WS l w1 w mb n f OA oc acc) (hgr : (w.alloc tmp).grownBy w9 (Value.slice OA acc.length oc).ownBlock) (hw : (Value.slice OA acc.length oc).ownBlock = some g ∨ g = w.heap.size + 1)
    (ho : w9.ownsRow w1.heap.size 3 1 (.slice (some ⟨g, 0, none⟩) (acc.length + 1) cap) (acc.length + 1) (acc.map (Value.int .i64) ++ [.int .i64 x])) : WS l w1 w9 mb n f (some ⟨g, 0, none⟩) cap (acc ++ [x]) := by
  have e : (acc ++ [x]).length = acc.length + 1 := by simp
  exact ⟨(h.im.alloc tmp).grown hgr (map_row h.im h.own), by rw [e]; simpa using ho, by rw [e]; exact h.ch.app hgr hw, Grw.grown (row := (Value.slice OA acc.length oc).ownBlock) (h.grw.alloc tmp) hgr (own_beyond h.own), h.mbl⟩
section
variable (l : List Cl) (A : Option Addr) (c B : Nat) (w : World)
theorem reachL_len (ar : Int) : (RL l ar).length ≤ l.length := by
  unfold RL reachL
  rw [sortL_len, List.length_map]
  exact (Neat.spread _ _ _ _).len
theorem reachL_sorted (ar : Int) : (RL l ar).Pairwise (· ≤ ·) := sortL_sorted _
set_option maxRecDepth 100000 in
set_option maxHeartbeats 8000000 in
theorem pWild_any (h : Hp w B A l) (hn : l.length ≤ 1000000) (how : ∀ c ∈ l, (Lit.int .i64 c.o0).wf = true) : Calls Try.prog 26 #[.slice A l.length c] w (IntsPost (wildL l) w) := by
  obtain ⟨i0, hi, hz0, hz1, hz2⟩ := info_parts infoI
  have H := Lib.hid h
  have HRL := Lib.hid (Nat.le_trans (rootsL_len l) hn)
  have HRW := Lib.hid (rootsL_wf hn)
  have HOWS := Lib.hid how
  have HZ := Lib.hid (show ∀ u : World, (zeroValue 39).run Try.prog u = .ok (.slice none 0 0) u from fun u => Try.zeroValue39 u)
  have hmm := @run_makeMap Try.prog
  clear h how
  go_enter Try.func26, Try.ntmps26
  go_wp2_with (go_at_call 20; refine (pRoots_any l A c B _ H.out hn).mono ?_; rintro e w1 ⟨RA, rc, rfl, hg1, ho1⟩; have HG1 := Lib.hid hg1; have HRS := Lib.hid (own_slb ho1); clear hg1 ho1)
  obtain ⟨mb, hmb⟩ : ∃ mb, w1.heap.size = mb := ⟨_, rfl⟩
  have HM0 := Lib.hid (show WS l w1 (w1.alloc (.map #[] 0)) mb 0 (fun _ => none) none 0 [] by rw [← hmb]; exact ⟨IM.made _ _ _, World.ownsRow_nil _ _ _ _, Ch.start, (Grw.refl _).alloc _, Nat.le_refl _⟩)
  obtain ⟨W0, hW0⟩ : ∃ W0, w1.alloc (.map #[] 0) = W0 := ⟨_, rfl⟩
  rw [hW0] at HM0 ⊢
  rw [hmb]
  clear hW0 hmm hmb
  go_loopw [3, 17] (fun out i wr => ∃ (k n : Nat) (f : Int → Option Value) (OA : Option Addr) (oc : Nat), k ≤ l.length ∧ n ≤ k ∧ i = .int .i64 k ∧ out = .slice OA (wildTo l 0 (l.take k)).length oc ∧ WS l w1 wr mb n f OA oc (wildTo l 0 (l.take k))) (fun _ i _ => l.length - (intOf i).toNat)
  case atStart => exact ⟨0, 0, _, none, 0, Nat.zero_le _, Nat.le_refl _, rfl, rfl, HM0.out⟩
  case round =>
    obtain ⟨k, n, f, OA, oc, hkl, hnk, rfl, rfl, hws⟩ := hrel
    by_cases hlt : k < l.length
    · obtain ⟨x, hx⟩ : ∃ o, l[k]? = some o := ⟨_, List.getElem?_eq_getElem hlt⟩
      obtain ⟨b, o, rfl, _, hbl, hc⟩ := ((H.out.grw HG1.out).1.grw hws.grw).at_ hx
      have d0 := hc 0 _ rfl
      have d1 := hc 1 _ rfl
      have d2 := hc 2 _ rfl
      have d3 := hc 3 _ rfl
      have d4 := hc 4 _ rfl
      have d5 := hc 5 _ rfl
      have d6 := hc 6 _ rfl
      simp only [Nat.add_zero] at d0
      have g3 : (k : Int) < (l.length : Int) := by omega
      have HP := Lib.hid (wildTo_snoc (L := l) hx)
      have hpl := wildTo_len l l k
      obtain ⟨acc, hacc⟩ : ∃ acc, wildTo l 0 (l.take k) = acc := ⟨_, rfl⟩
      rw [hacc] at hws hpl HP ⊢
      have HWS := Lib.hid hws
      have HOW := Lib.hid (HOWS.out x (List.mem_of_getElem? hx))
      have hn1 : n < maxLen := by unfold maxLen; omega
      clear hc hx hws hacc
      cases hd : x.dead
      · by_cases h0 : x.o0 ≤ 0
        · have HWB := Lib.hid (show wildB l k x = false by unfold wildB; rw [hd]; simp; intro h; omega)
          rw [hd] at d6
          clear hd
          go_wp2
          go_roundw
          case rel => exact ⟨k + 1, n, f, OA, oc, by omega, by omega, by go_num, by rw [HP.out, HWB.out]; simp, by rw [HP.out, HWB.out]; simpa using HWS.out.up ((Grw.refl _).alloc _)⟩
          case measure => simp [intOf]; omega
        · have h1 : 0 < x.o0 := by omega
          have HWB0 := Lib.hid (show wildB l k x = (RL l x.o0).contains ((k : Int) + 1) by unfold wildB; rw [hd, decide_eq_true h1]; rfl)
          rw [hd] at d6
          clear hd h1
          cases hf : f x.o0 with
          | none =>
            have T1 := Lib.hid hf
            clear hf
            cases hwd : (RL l x.o0).contains ((k : Int) + 1)
            · have HWD := Lib.hid hwd
              have HWB := Lib.hid (HWB0.out.trans hwd)
              clear hwd
              go_wp2_with (first
                | (at_lookup; refine wpList_look _ rfl _ _ 73 rfl 3 39 Try.underlying3 Try.underlying73 (HZ.out _) _ _ _ rfl (HWS.out.up ((Grw.refl _).alloc _)).im _ HOW.out rfl ?_; rw [T1.out])
                | (go_at_call 22; refine (pReach_any l _ c B _ (rootsL l) RA rc _ x.o0 (H.out.grw (HG1.out.trans (HWS.out.grw.alloc _))) hn (HRS.out.grw (HWS.out.grw.alloc _)) HRL.out HRW.out).mono ?_; rintro e w2 ⟨NA, nc, rfl, hg2, ho2⟩; rw [show reachL l (rootsL l) x.o0 = RL l x.o0 from rfl] at ho2 ⊢; have HW2 := Lib.hid (HWS.out.up (((Grw.refl _).alloc _).trans hg2)); have HO2 := Lib.hid ho2; have hs2 := hg2.below.size; have c9 : w2.cell? ⟨wr.heap.size, 1, none⟩ = some (.int .i64 x.o0) := (World.cell?_of_block (a := ⟨wr.heap.size, 1, none⟩) (hg2.below.block _ (by simp))).trans ((cells_all (World.alloc_heap_new _ _) 1).trans rfl); clear hg2 ho2)
                | (at_mapUpdate; refine wpList_mput _ rfl _ _ _ 73 rfl 3 39 Try.underlying3 Try.underlying73 _ _ _ rfl HW2.out.im hn1 _ HOW.out rfl (.slice NA (RL l x.o0).length nc) rfl ?_; intro ob him; have HW5 := Lib.hid (HW2.out.put him (HW2.out.ch.add HO2.out (by rw [World.size_alloc]; have := HWS.out.im.lt; omega) (fun j hj => by rw [World.size_alloc]; have := (HWS.out.own.lt j hj).2; omega))); clear him)
                | (go_at_call 44; refine (search_any _ (RL l x.o0) NA nc ((k : Int) + 1) _ (Rw.of_own (ok := fun b => b ≠ mb) HO2.out (fun b hb _ => by rw [World.size_alloc] at hb; have := HWS.out.im.lt; omega) |>.keep fun b hb ho => ⟨pb_get_other _ _ _ _ ho, by rw [pb_size]; exact hb, trivial⟩) (Nat.le_trans (reachL_len l _) hn) (reachL_sorted l _)).mono ?_; rintro e w3 ⟨⟨m, rfl⟩, hq⟩; rw [HWD.out]; have HS3 := Lib.hid (show WS l w1 w3 mb (n + 1) (upd f x.o0 (.slice NA (RL l x.o0).length nc)) OA oc acc by obtain ⟨q, rfl⟩ := hq; exact WS.up (HW5.out) ((Grw.refl _).drewN q)); have hs3 := HS3.out.grw.below.size; clear hq))
              go_roundw
              case rel => exact ⟨k + 1, n + 1, _, OA, oc, by omega, by omega, by go_num, by rw [HP.out, HWB.out]; simp, by rw [HP.out, HWB.out]; simpa using HS3.out⟩
              case measure => simp [intOf]; omega
            · have HWD := Lib.hid hwd
              have HWB := Lib.hid (HWB0.out.trans hwd)
              clear hwd
              go_wp2_with (first
                | (at_lookup; refine wpList_look _ rfl _ _ 73 rfl 3 39 Try.underlying3 Try.underlying73 (HZ.out _) _ _ _ rfl (HWS.out.up ((Grw.refl _).alloc _)).im _ HOW.out rfl ?_; rw [T1.out])
                | (go_at_call 22; refine (pReach_any l _ c B _ (rootsL l) RA rc _ x.o0 (H.out.grw (HG1.out.trans (HWS.out.grw.alloc _))) hn (HRS.out.grw (HWS.out.grw.alloc _)) HRL.out HRW.out).mono ?_; rintro e w2 ⟨NA, nc, rfl, hg2, ho2⟩; rw [show reachL l (rootsL l) x.o0 = RL l x.o0 from rfl] at ho2 ⊢; have HW2 := Lib.hid (HWS.out.up (((Grw.refl _).alloc _).trans hg2)); have HO2 := Lib.hid ho2; have hs2 := hg2.below.size; have c9 : w2.cell? ⟨wr.heap.size, 1, none⟩ = some (.int .i64 x.o0) := (World.cell?_of_block (a := ⟨wr.heap.size, 1, none⟩) (hg2.below.block _ (by simp))).trans ((cells_all (World.alloc_heap_new _ _) 1).trans rfl); clear hg2 ho2)
                | (at_mapUpdate; refine wpList_mput _ rfl _ _ _ 73 rfl 3 39 Try.underlying3 Try.underlying73 _ _ _ rfl HW2.out.im hn1 _ HOW.out rfl (.slice NA (RL l x.o0).length nc) rfl ?_; intro ob him; have HW5 := Lib.hid (HW2.out.put him (HW2.out.ch.add HO2.out (by rw [World.size_alloc]; have := HWS.out.im.lt; omega) (fun j hj => by rw [World.size_alloc]; have := (HWS.out.own.lt j hj).2; omega))); clear him)
                | (go_at_call 44; refine (search_any _ (RL l x.o0) NA nc ((k : Int) + 1) _ (Rw.of_own (ok := fun b => b ≠ mb) HO2.out (fun b hb _ => by rw [World.size_alloc] at hb; have := HWS.out.im.lt; omega) |>.keep fun b hb ho => ⟨pb_get_other _ _ _ _ ho, by rw [pb_size]; exact hb, trivial⟩) (Nat.le_trans (reachL_len l _) hn) (reachL_sorted l _)).mono ?_; rintro e w3 ⟨⟨m, rfl⟩, hq⟩; rw [HWD.out]; have HS3 := Lib.hid (show WS l w1 w3 mb (n + 1) (upd f x.o0 (.slice NA (RL l x.o0).length nc)) OA oc acc by obtain ⟨q, rfl⟩ := hq; exact WS.up (HW5.out) ((Grw.refl _).drewN q)); have hs3 := HS3.out.grw.below.size; clear hq)
                | (at_builtin
                   refine wpList_append_lies _ rfl _ _ 39 rfl (w1.heap.size) 3 i0 _ 1 8 Try.underlying39 hi hz0 hz1 hz2 rfl (by decide) (.slice OA acc.length oc) (acc.length) (acc.map (Value.int .i64)) rfl ((own_alloc HS3.out.own _)) ⟨(w3).heap.size, 0, none⟩ 1 1 [.int .i64 ((k : Int) + 1)] rfl rfl ?c1 ?c2 ?c6 ?c3 ?c4 ?c5 ((w3).heap.size + 1) ?c7 ?_
                   case c1 => exact news_alloc _ #[_] _ _ (by simp [wext_size])
                   case c2 => simp [Value.oneCell']
                   case c6 => decide
                   case c3 => unfold maxLen; omega
                   case c4 => omega
                   case c5 => simp [wext_size]; omega
                   case c7 => simp
                   intro g cap w9 hown1 hgrow hw _
                   (have HW9 := Lib.hid (HS3.out.app hgrow hw hown1); clear hown1 hgrow hw)))
              go_roundw
              case rel => exact ⟨k + 1, n + 1, _, some ⟨g, 0, none⟩, cap, by omega, by omega, by go_num, by rw [HP.out, HWB.out]; simp, by rw [HP.out, HWB.out]; exact HW9.out⟩
              case measure => simp [intOf]; omega
          | some v =>
            obtain ⟨VA, vc, rfl, hrw⟩ := HWS.out.ch _ _ hf
            have T1 := Lib.hid hf
            have HRWX := Lib.hid hrw
            clear hf hrw
            cases hwd : (RL l x.o0).contains ((k : Int) + 1)
            · have HWD := Lib.hid hwd
              have HWB := Lib.hid (HWB0.out.trans hwd)
              clear hwd
              go_wp2_with (first
                | (at_lookup; refine wpList_look _ rfl _ _ 73 rfl 3 39 Try.underlying3 Try.underlying73 (HZ.out _) _ _ _ rfl (HWS.out.up ((Grw.refl _).alloc _)).im _ HOW.out rfl ?_; rw [T1.out])
                | (go_at_call 44; refine (search_any _ (RL l x.o0) VA vc ((k : Int) + 1) _ (HRWX.out.keep fun b hb ho => ⟨Below.heap_alloc _ _ _ hb, by rw [World.size_alloc]; omega, ho⟩) (Nat.le_trans (reachL_len l _) hn) (reachL_sorted l _)).mono ?_; rintro e w3 ⟨⟨m, rfl⟩, hq⟩; rw [HWD.out]; have HS3 := Lib.hid (show WS l w1 w3 mb n f OA oc acc by obtain ⟨q, rfl⟩ := hq; exact WS.up (HWS.out.up ((Grw.refl _).alloc _)) ((Grw.refl _).drewN q)); have hs3 := HS3.out.grw.below.size; clear hq))
              go_roundw
              case rel => exact ⟨k + 1, n, f, OA, oc, by omega, by omega, by go_num, by rw [HP.out, HWB.out]; simp, by rw [HP.out, HWB.out]; simpa using HS3.out⟩
              case measure => simp [intOf]; omega
            · have HWD := Lib.hid hwd
              have HWB := Lib.hid (HWB0.out.trans hwd)
              clear hwd
              go_wp2_with (first
                | (at_lookup; refine wpList_look _ rfl _ _ 73 rfl 3 39 Try.underlying3 Try.underlying73 (HZ.out _) _ _ _ rfl (HWS.out.up ((Grw.refl _).alloc _)).im _ HOW.out rfl ?_; rw [T1.out])
                | (go_at_call 44; refine (search_any _ (RL l x.o0) VA vc ((k : Int) + 1) _ (HRWX.out.keep fun b hb ho => ⟨Below.heap_alloc _ _ _ hb, by rw [World.size_alloc]; omega, ho⟩) (Nat.le_trans (reachL_len l _) hn) (reachL_sorted l _)).mono ?_; rintro e w3 ⟨⟨m, rfl⟩, hq⟩; rw [HWD.out]; have HS3 := Lib.hid (show WS l w1 w3 mb n f OA oc acc by obtain ⟨q, rfl⟩ := hq; exact WS.up (HWS.out.up ((Grw.refl _).alloc _)) ((Grw.refl _).drewN q)); have hs3 := HS3.out.grw.below.size; clear hq)
                | (at_builtin
                   refine wpList_append_lies _ rfl _ _ 39 rfl (w1.heap.size) 3 i0 _ 1 8 Try.underlying39 hi hz0 hz1 hz2 rfl (by decide) (.slice OA acc.length oc) (acc.length) (acc.map (Value.int .i64)) rfl ((own_alloc HS3.out.own _)) ⟨(w3).heap.size, 0, none⟩ 1 1 [.int .i64 ((k : Int) + 1)] rfl rfl ?c1 ?c2 ?c6 ?c3 ?c4 ?c5 ((w3).heap.size + 1) ?c7 ?_
                   case c1 => exact news_alloc _ #[_] _ _ (by simp [wext_size])
                   case c2 => simp [Value.oneCell']
                   case c6 => decide
                   case c3 => unfold maxLen; omega
                   case c4 => omega
                   case c5 => simp [wext_size]; omega
                   case c7 => simp
                   intro g cap w9 hown1 hgrow hw _
                   (have HW9 := Lib.hid (HS3.out.app hgrow hw hown1); clear hown1 hgrow hw)))
              go_roundw
              case rel => exact ⟨k + 1, n, f, some ⟨g, 0, none⟩, cap, by omega, by omega, by go_num, by rw [HP.out, HWB.out]; simp, by rw [HP.out, HWB.out]; exact HW9.out⟩
              case measure => simp [intOf]; omega
      · have HWB := Lib.hid (show wildB l k x = false by unfold wildB; rw [hd]; rfl)
        rw [hd] at d6
        clear hd
        by_cases h0 : x.o0 ≤ 0
        all_goals
          go_wp2
          go_roundw
          case rel => exact ⟨k + 1, n, f, OA, oc, by omega, by omega, by go_num, by rw [HP.out, HWB.out]; simp, by rw [HP.out, HWB.out]; simpa using HWS.out.up ((Grw.refl _).alloc _)⟩
          case measure => simp [intOf]; omega
    · obtain rfl : k = l.length := by omega
      have HT := Lib.hid (List.take_of_length_le (Nat.le_refl l.length))
      rw [HT.out] at hws ⊢
      have HWS := Lib.hid hws
      clear hws
      go_wp2
      go_ret
      exact ⟨_, _, rfl, HG1.out.trans HWS.out.grw, own_mono HWS.out.own HG1.out.below.size⟩
end
end Go.Proofs.Ytgjpbhgobjlneaa
