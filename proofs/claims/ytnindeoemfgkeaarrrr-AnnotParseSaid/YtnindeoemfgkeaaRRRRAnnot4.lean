/- Contracts of annot's reader: param, one. -/
import Derived.Test.YtnindeoemfgkeaaRRRRAnnot3
namespace Go.Proofs.YtnindeoemfgkeaaRRRR
open Go.RowKit
section
variable (toks : List Tok) (ps : List (List UInt8)) (A PA : Option Addr) (c pc g B : Nat) (at_ fe fa k : Int) (w : World)
set_option maxRecDepth 100000 in
set_option maxHeartbeats 2000000 in
theorem aParam_none (hr : Rd toks ps A PA B g w) (ha : I64 at_) (h0 : idxIn (tokAt toks at_).text ps 0 = 0) :
    Calls Try.prog 73 #[.pointer (some ⟨g, 0, none⟩)] (sb w g 109 #[.slice A toks.length c, .int .i64 (at_), .slice PA ps.length pc, .int .i64 (fe), .int .i64 (fa)]) fun e w' =>
      e = .returned (.tuple #[.agg #[.int .i64 0, .int .i64 0], .bool false]) ∧ Grw (sb w g 109 #[.slice A toks.length c, .int .i64 (at_), .slice PA ps.length pc, .int .i64 (4), .int .i64 ((tokAt toks at_).pos)]) w' := by
  have hg := hr.hg
  have H0 := Lib.hid h0
  clear h0
  go_enter Try.func73, Try.ntmps73
  go_wp2_with fail
  go_region_held3 (fun w' => w'.cell? ⟨g, 2, none⟩ = some (.slice PA ps.length pc)) (first | (simp [go_sem, *]; done) | go_keep)
    (first
    | (go_at_call 68; refine (aLook_zero toks ps A PA c pc g B at_ fe fa _ (by repeat (first | exact hr | apply Rd.ext | apply Rd.alloc | apply Rd.sb | apply Rd.drewN | apply Rd.drew)) (by repeat (first | exact blk_sb _ _ _ _ hg | exact hg | apply blk_ext | apply blk_alloc | apply blk_drewN | apply blk_drew)) ha).mono ?_; rintro e w' ⟨rfl, hq⟩; obtain ⟨xh, xd, rfl⟩ := hq)
    | (go_at_call 86; refine (oFind_any ps PA pc B _ _ (by exact (show Rd toks ps A PA B g _ from by repeat (first | exact hr | apply Rd.ext | apply Rd.alloc | apply Rd.sb | apply Rd.drewN | apply Rd.drew)).hp) hr.hm).mono ?_; rintro e w' ⟨rfl, rfl⟩; rw [bs_data, H0.out]))
  go_wp2_with (go_at_call 70; refine (aBad_any toks ps A PA c pc g B at_ fe fa _ _ (by repeat (first | exact hr | apply Rd.ext | apply Rd.alloc | apply Rd.sb | apply Rd.drewN | apply Rd.drew)) (by repeat (first | exact blk_sb _ _ _ _ hg | exact hg | apply blk_ext | apply blk_alloc | apply blk_drewN | apply blk_drew)) ha).mono ?_; rintro e w' ⟨rfl, hq⟩; obtain ⟨yh, yd, rfl⟩ := hq)
  exact bodyPost_ret (v := .tuple #[.agg #[.int .i64 0, .int .i64 0], .bool false]) (by simp [results, Try.results73, go_sem]) rfl ⟨rfl, by first | exact Grw.refl _ | (repeat (first | exact Grw.refl _ | apply Grw.ext | apply Grw.alloc | apply Grw.drewN | apply Grw.drew)); done⟩
set_option maxRecDepth 100000 in
set_option maxHeartbeats 2000000 in
theorem aParam_some (hr : Rd toks ps A PA B g w) (ha : I64 at_) (h0 : idxIn (tokAt toks at_).text ps 0 ≠ 0) :
    Calls Try.prog 73 #[.pointer (some ⟨g, 0, none⟩)] (sb w g 109 #[.slice A toks.length c, .int .i64 (at_), .slice PA ps.length pc, .int .i64 (fe), .int .i64 (fa)]) fun e w' =>
      e = .returned (.tuple #[.agg #[.int .i64 3, .int .i64 (idxIn (tokAt toks at_).text ps 0)], .bool true]) ∧ Grw (sb w g 109 #[.slice A toks.length c, .int .i64 (at_), .slice PA ps.length pc, .int .i64 (fe), .int .i64 (fa)]) w' := by
  have hg := hr.hg
  obtain ⟨m, hm⟩ : ∃ m, idxIn (tokAt toks at_).text ps 0 = m + 1 := ⟨_, (Nat.succ_pred h0).symm⟩
  have H0 := Lib.hid hm
  rw [hm]
  clear h0 hm
  go_enter Try.func73, Try.ntmps73
  go_wp2_with fail
  go_region_held3 (fun w' => w'.cell? ⟨g, 2, none⟩ = some (.slice PA ps.length pc)) (first | (simp [go_sem, *]; done) | go_keep)
    (first
    | (go_at_call 68; refine (aLook_zero toks ps A PA c pc g B at_ fe fa _ (by repeat (first | exact hr | apply Rd.ext | apply Rd.alloc | apply Rd.sb | apply Rd.drewN | apply Rd.drew)) (by repeat (first | exact blk_sb _ _ _ _ hg | exact hg | apply blk_ext | apply blk_alloc | apply blk_drewN | apply blk_drew)) ha).mono ?_; rintro e w' ⟨rfl, hq⟩; obtain ⟨xh, xd, rfl⟩ := hq)
    | (go_at_call 86; refine (oFind_any ps PA pc B _ _ (by exact (show Rd toks ps A PA B g _ from by repeat (first | exact hr | apply Rd.ext | apply Rd.alloc | apply Rd.sb | apply Rd.drewN | apply Rd.drew)).hp) hr.hm).mono ?_; rintro e w' ⟨rfl, rfl⟩; rw [bs_data, H0.out]))
  go_wp2
  exact bodyPost_ret (v := .tuple #[.agg #[.int .i64 3, .int .i64 ((m + 1 : Nat) : Int)], .bool true]) (by simp [results, Try.results73, go_sem]) rfl ⟨rfl, by first | exact Grw.refl _ | (repeat (first | exact Grw.refl _ | apply Grw.ext | apply Grw.alloc | apply Grw.drewN | apply Grw.drew)); done⟩

/-- An owner behind a class, so many having been read: the error, the owner. -/
def own1 (t : Tok) (ps : List (List UInt8)) (n : Nat) : Int × (Int × Int) :=
  if t.kind = 1 then
    if idxIn t.text ps 0 = 0 then (4, (0, 0)) else if n = 3 then (10, (3, idxIn t.text ps 0)) else (0, (3, idxIn t.text ps 0))
  else if knownO t = 0 ∨ knownO t = 6 then (3, (knownO t, 0)) else if n = 3 then (10, (knownO t, 0)) else (0, (knownO t, 0))
theorem knownO_cases (t : Tok) : knownO t = 0 ∨ knownO t = 1 ∨ knownO t = 2 ∨ knownO t = 4 ∨ knownO t = 5 ∨ knownO t = 6 := by
  unfold knownO ownW
  repeat' split
  all_goals simp
theorem aParam_any (hr : Rd toks ps A PA B g w) (hb : w.heap[g]? = some (.cells #[.slice A toks.length c, .int .i64 (at_), .slice PA ps.length pc, .int .i64 (fe), .int .i64 (fa)] 109)) (ha : I64 at_) :
    Calls Try.prog 73 #[.pointer (some ⟨g, 0, none⟩)] w fun e w' =>
      (idxIn (tokAt toks at_).text ps 0 = 0 → e = .returned (.tuple #[.agg #[.int .i64 0, .int .i64 0], .bool false]) ∧ Grw (sb w g 109 #[.slice A toks.length c, .int .i64 (at_), .slice PA ps.length pc, .int .i64 (4), .int .i64 ((tokAt toks at_).pos)]) w') ∧
      (idxIn (tokAt toks at_).text ps 0 ≠ 0 → e = .returned (.tuple #[.agg #[.int .i64 3, .int .i64 (idxIn (tokAt toks at_).text ps 0)], .bool true]) ∧ Grw w w') := by
  by_cases h0 : idxIn (tokAt toks at_).text ps 0 = 0
  · have := aParam_none toks ps A PA c pc g B at_ fe fa w hr ha h0
    rw [sb_self w g _ _ hb] at this
    exact this.mono fun e w' h => ⟨fun _ => h, fun h' => absurd h0 h'⟩
  · have := aParam_some toks ps A PA c pc g B at_ fe fa w hr ha h0
    rw [sb_self w g _ _ hb] at this
    exact this.mono fun e w' h => ⟨fun h' => absurd h' h0, fun _ => h⟩
set_option maxRecDepth 100000 in
set_option maxHeartbeats 4000000 in
theorem aOne_sb (n : Nat) (hn3 : n ≤ 3) (hr : Rd toks ps A PA B g w) (ha : I64 at_) :
    Calls Try.prog 75 #[.pointer (some ⟨g, 0, none⟩), .int .i64 n] (sb w g 109 #[.slice A toks.length c, .int .i64 (at_), .slice PA ps.length pc, .int .i64 (fe), .int .i64 (fa)]) fun e w' =>
      ((own1 (tokAt toks at_) ps n).1 = 0 → e = .returned (.tuple #[.agg #[.int .i64 (own1 (tokAt toks at_) ps n).2.1, .int .i64 (own1 (tokAt toks at_) ps n).2.2], .bool true]) ∧ Grw (sb w g 109 #[.slice A toks.length c, .int .i64 (w64 (at_ + 1)), .slice PA ps.length pc, .int .i64 (fe), .int .i64 (fa)]) w') ∧
      ((own1 (tokAt toks at_) ps n).1 ≠ 0 → (∃ x y, e = .returned (.tuple #[.agg #[.int .i64 x, .int .i64 y], .bool false])) ∧ Grw (sb w g 109 #[.slice A toks.length c, .int .i64 (at_), .slice PA ps.length pc, .int .i64 ((own1 (tokAt toks at_) ps n).1), .int .i64 ((tokAt toks at_).pos)]) w') := by
  have hg := hr.hg
  obtain ⟨kv, hk⟩ : ∃ kv, knownO (tokAt toks at_) = kv := ⟨_, rfl⟩
  have hkc := knownO_cases (tokAt toks at_)
  rw [hk] at hkc
  have HK := Lib.hid hk
  have hw := I64_w64 (at_ + 1)
  by_cases h1 : (tokAt toks at_).kind = 1
  · have b1 : ((tokAt toks at_).kind == 1) = true := by simpa using h1
    by_cases h0 : idxIn (tokAt toks at_).text ps 0 = 0
    · have HO := Lib.hid (show own1 (tokAt toks at_) ps n = (4, (0, 0)) by simp only [own1, if_pos h1, if_pos h0])
      have H0 := Lib.hid h0
      clear h0 h1 hk hkc
      go_enter Try.func75, Try.ntmps75
      go_wp2_with (first
        | (go_at_call 68; refine (aLook_zero toks ps A PA c pc g B at_ fe fa _ (by repeat (first | exact hr | apply Rd.ext | apply Rd.alloc | apply Rd.sb | apply Rd.drewN | apply Rd.drew)) (by repeat (first | exact blk_sb _ _ _ _ hg | exact hg | apply blk_ext | apply blk_alloc | apply blk_drewN | apply blk_drew)) ha).mono ?_; rintro e w' ⟨rfl, hq⟩; obtain ⟨xh, xd, rfl⟩ := hq)
        | (go_at_call 71; refine (aKnown_any _ _ _ _).mono ?_; rintro e w' ⟨rfl, hq⟩; obtain ⟨yh, yd, rfl⟩ := hq; rw [show knownO ⟨(tokAt toks at_).kind, (tokAt toks at_).text, (tokAt toks at_).pos⟩ = kv from HK.out])
        | (go_at_call 73; refine (aParam_any toks ps A PA c pc g B at_ fe fa _ (by repeat (first | exact hr | apply Rd.ext | apply Rd.alloc | apply Rd.sb | apply Rd.drewN | apply Rd.drew)) (by repeat (first | exact blk_sb _ _ _ _ hg | exact hg | apply blk_ext | apply blk_alloc | apply blk_drewN | apply blk_drew)) ha).mono ?_; rintro e w' hq; obtain ⟨rfl, hq2⟩ := hq.1 H0.out; clear hq; obtain ⟨zh, zd, rfl⟩ := hq2))
      exact bodyPost_ret (v := .tuple #[.agg #[.int .i64 0, .int .i64 0], .bool false]) (by simp [results, Try.results75, go_sem]) rfl ⟨by rw [HO.out]; exact fun h => absurd h (by simp), fun _ => ⟨⟨_, _, rfl⟩, by rw [HO.out]; first | exact Grw.refl _ | (repeat (first | exact Grw.refl _ | apply Grw.ext | apply Grw.alloc | apply Grw.drewN | apply Grw.drew)); done⟩⟩
    · have H0 := Lib.hid h0
      by_cases h3 : n = 3
      · have HO := Lib.hid (show own1 (tokAt toks at_) ps n = ((10 : Int), (3 : Int), ((idxIn (tokAt toks at_).text ps 0 : Nat) : Int)) by simp only [own1, if_pos h1, if_neg h0, if_pos h3])
        have b3 : ((n : Int) == 3) = true := by subst h3; rfl
        clear h0 h1 hk hkc h3
        go_enter Try.func75, Try.ntmps75
        go_wp2_with (first
          | (go_at_call 68; refine (aLook_zero toks ps A PA c pc g B at_ fe fa _ (by repeat (first | exact hr | apply Rd.ext | apply Rd.alloc | apply Rd.sb | apply Rd.drewN | apply Rd.drew)) (by repeat (first | exact blk_sb _ _ _ _ hg | exact hg | apply blk_ext | apply blk_alloc | apply blk_drewN | apply blk_drew)) ha).mono ?_; rintro e w' ⟨rfl, hq⟩; obtain ⟨xh, xd, rfl⟩ := hq)
          | (go_at_call 71; refine (aKnown_any _ _ _ _).mono ?_; rintro e w' ⟨rfl, hq⟩; obtain ⟨yh, yd, rfl⟩ := hq; rw [show knownO ⟨(tokAt toks at_).kind, (tokAt toks at_).text, (tokAt toks at_).pos⟩ = kv from HK.out])
          | (go_at_call 73; refine (aParam_any toks ps A PA c pc g B at_ fe fa _ (by repeat (first | exact hr | apply Rd.ext | apply Rd.alloc | apply Rd.sb | apply Rd.drewN | apply Rd.drew)) (by repeat (first | exact blk_sb _ _ _ _ hg | exact hg | apply blk_ext | apply blk_alloc | apply blk_drewN | apply blk_drew)) ha).mono ?_; rintro e w' hq; obtain ⟨rfl, hq2⟩ := hq.2 H0.out; clear hq; obtain ⟨zh, zd, rfl⟩ := hq2))
        go_region_held3 (fun w' => w'.cell? ⟨yh.size + (xh.size + (w.heap.size + 1) + 1), 0, none⟩ = some (.int .i64 3) ∧ w'.cell? ⟨yh.size + (xh.size + (w.heap.size + 1) + 1), 1, none⟩ = some (.int .i64 (idxIn (tokAt toks at_).text ps 0))) (first | (simp [go_sem, *]; done) | go_keep)
          (first
          | (go_at_call 70; refine (aBad_any toks ps A PA c pc g B at_ fe fa _ _ (by repeat (first | exact hr | apply Rd.ext | apply Rd.alloc | apply Rd.sb | apply Rd.drewN | apply Rd.drew)) (by repeat (first | exact blk_sb _ _ _ _ hg | exact hg | apply blk_ext | apply blk_alloc | apply blk_drewN | apply blk_drew)) ha).mono ?_; rintro e w' ⟨rfl, hq⟩; obtain ⟨vh, vd, rfl⟩ := hq))
        go_wp2
        exact bodyPost_ret (v := .tuple #[.agg #[.int .i64 3, .int .i64 (idxIn (tokAt toks at_).text ps 0)], .bool false]) (by simp [results, Try.results75, go_sem]) rfl ⟨by rw [HO.out]; exact fun h => absurd h (by simp), fun _ => ⟨⟨_, _, rfl⟩, by rw [HO.out]; first | exact Grw.refl _ | (repeat (first | exact Grw.refl _ | apply Grw.ext | apply Grw.alloc | apply Grw.drewN | apply Grw.drew)); done⟩⟩
      · have HO := Lib.hid (show own1 (tokAt toks at_) ps n = ((0 : Int), (3 : Int), ((idxIn (tokAt toks at_).text ps 0 : Nat) : Int)) by simp only [own1, if_pos h1, if_neg h0, if_neg h3])
        have b3 : ((n : Int) == 3) = false := by simp; omega
        obtain ⟨m, hm⟩ : ∃ m : Int, ((idxIn (tokAt toks at_).text ps 0 : Nat) : Int) = m := ⟨_, rfl⟩
        have HM := Lib.hid hm
        clear h0 h1 hk hkc h3 hm
        go_enter Try.func75, Try.ntmps75
        go_wp2_with (first
          | (go_at_call 68; refine (aLook_zero toks ps A PA c pc g B at_ fe fa _ (by repeat (first | exact hr | apply Rd.ext | apply Rd.alloc | apply Rd.sb | apply Rd.drewN | apply Rd.drew)) (by repeat (first | exact blk_sb _ _ _ _ hg | exact hg | apply blk_ext | apply blk_alloc | apply blk_drewN | apply blk_drew)) ha).mono ?_; rintro e w' ⟨rfl, hq⟩; obtain ⟨xh, xd, rfl⟩ := hq)
          | (go_at_call 71; refine (aKnown_any _ _ _ _).mono ?_; rintro e w' ⟨rfl, hq⟩; obtain ⟨yh, yd, rfl⟩ := hq; rw [show knownO ⟨(tokAt toks at_).kind, (tokAt toks at_).text, (tokAt toks at_).pos⟩ = kv from HK.out])
          | (go_at_call 73; refine (aParam_any toks ps A PA c pc g B at_ fe fa _ (by repeat (first | exact hr | apply Rd.ext | apply Rd.alloc | apply Rd.sb | apply Rd.drewN | apply Rd.drew)) (by repeat (first | exact blk_sb _ _ _ _ hg | exact hg | apply blk_ext | apply blk_alloc | apply blk_drewN | apply blk_drew)) ha).mono ?_; rintro e w' hq; obtain ⟨rfl, hq2⟩ := hq.2 H0.out; clear hq; obtain ⟨zh, zd, rfl⟩ := hq2; rw [HM.out]))
        exact bodyPost_ret (v := .tuple #[.agg #[.int .i64 3, .int .i64 m], .bool true]) (by simp [results, Try.results75, go_sem]) rfl ⟨fun _ => ⟨by rw [HO.out, HM.out], by first | exact Grw.refl _ | (repeat (first | exact Grw.refl _ | apply Grw.ext | apply Grw.alloc | apply Grw.drewN | apply Grw.drew)); done⟩, by rw [HO.out]; exact fun h => absurd rfl h⟩
  · have b1 : ((tokAt toks at_).kind == 1) = false := by simpa using h1
    by_cases hbad : kv = 0 ∨ kv = 6
    · have HO := Lib.hid (show own1 (tokAt toks at_) ps n = ((3 : Int), kv, (0 : Int)) by simp only [own1, if_neg h1, hk, if_pos hbad])
      rcases hbad with rfl | rfl
      · clear h1 hk hkc
        go_enter Try.func75, Try.ntmps75
        go_wp2_with (first
          | (go_at_call 68; refine (aLook_zero toks ps A PA c pc g B at_ fe fa _ (by repeat (first | exact hr | apply Rd.ext | apply Rd.alloc | apply Rd.sb | apply Rd.drewN | apply Rd.drew)) (by repeat (first | exact blk_sb _ _ _ _ hg | exact hg | apply blk_ext | apply blk_alloc | apply blk_drewN | apply blk_drew)) ha).mono ?_; rintro e w' ⟨rfl, hq⟩; obtain ⟨xh, xd, rfl⟩ := hq)
          | (go_at_call 71; refine (aKnown_any _ _ _ _).mono ?_; rintro e w' ⟨rfl, hq⟩; obtain ⟨yh, yd, rfl⟩ := hq; rw [show knownO ⟨(tokAt toks at_).kind, (tokAt toks at_).text, (tokAt toks at_).pos⟩ = 0 from HK.out]))
        go_region_held3 (fun w' => w'.cell? ⟨yh.size + (xh.size + (w.heap.size + 1) + 1), 0, none⟩ = some (.int .i64 0) ∧ w'.cell? ⟨yh.size + (xh.size + (w.heap.size + 1) + 1), 1, none⟩ = some (.int .i64 0)) (first | (simp [go_sem, *]; done) | go_keep)
          (first
          | (go_at_call 70; refine (aBad_any toks ps A PA c pc g B at_ fe fa _ _ (by repeat (first | exact hr | apply Rd.ext | apply Rd.alloc | apply Rd.sb | apply Rd.drewN | apply Rd.drew)) (by repeat (first | exact blk_sb _ _ _ _ hg | exact hg | apply blk_ext | apply blk_alloc | apply blk_drewN | apply blk_drew)) ha).mono ?_; rintro e w' ⟨rfl, hq⟩; obtain ⟨vh, vd, rfl⟩ := hq))
        go_wp2
        exact bodyPost_ret (v := .tuple #[.agg #[.int .i64 0, .int .i64 0], .bool false]) (by simp [results, Try.results75, go_sem]) rfl ⟨by rw [HO.out]; exact fun h => absurd h (by simp), fun _ => ⟨⟨_, _, rfl⟩, by rw [HO.out]; first | exact Grw.refl _ | (repeat (first | exact Grw.refl _ | apply Grw.ext | apply Grw.alloc | apply Grw.drewN | apply Grw.drew)); done⟩⟩
      · clear h1 hk hkc
        go_enter Try.func75, Try.ntmps75
        go_wp2_with (first
          | (go_at_call 68; refine (aLook_zero toks ps A PA c pc g B at_ fe fa _ (by repeat (first | exact hr | apply Rd.ext | apply Rd.alloc | apply Rd.sb | apply Rd.drewN | apply Rd.drew)) (by repeat (first | exact blk_sb _ _ _ _ hg | exact hg | apply blk_ext | apply blk_alloc | apply blk_drewN | apply blk_drew)) ha).mono ?_; rintro e w' ⟨rfl, hq⟩; obtain ⟨xh, xd, rfl⟩ := hq)
          | (go_at_call 71; refine (aKnown_any _ _ _ _).mono ?_; rintro e w' ⟨rfl, hq⟩; obtain ⟨yh, yd, rfl⟩ := hq; rw [show knownO ⟨(tokAt toks at_).kind, (tokAt toks at_).text, (tokAt toks at_).pos⟩ = 6 from HK.out]))
        go_region_held3 (fun w' => w'.cell? ⟨yh.size + (xh.size + (w.heap.size + 1) + 1), 0, none⟩ = some (.int .i64 6) ∧ w'.cell? ⟨yh.size + (xh.size + (w.heap.size + 1) + 1), 1, none⟩ = some (.int .i64 0)) (first | (simp [go_sem, *]; done) | go_keep)
          (first
          | (go_at_call 70; refine (aBad_any toks ps A PA c pc g B at_ fe fa _ _ (by repeat (first | exact hr | apply Rd.ext | apply Rd.alloc | apply Rd.sb | apply Rd.drewN | apply Rd.drew)) (by repeat (first | exact blk_sb _ _ _ _ hg | exact hg | apply blk_ext | apply blk_alloc | apply blk_drewN | apply blk_drew)) ha).mono ?_; rintro e w' ⟨rfl, hq⟩; obtain ⟨vh, vd, rfl⟩ := hq))
        go_wp2
        exact bodyPost_ret (v := .tuple #[.agg #[.int .i64 6, .int .i64 0], .bool false]) (by simp [results, Try.results75, go_sem]) rfl ⟨by rw [HO.out]; exact fun h => absurd h (by simp), fun _ => ⟨⟨_, _, rfl⟩, by rw [HO.out]; first | exact Grw.refl _ | (repeat (first | exact Grw.refl _ | apply Grw.ext | apply Grw.alloc | apply Grw.drewN | apply Grw.drew)); done⟩⟩
    · have k0 : (kv == 0) = false := by simp; omega
      have k6 : (kv == 6) = false := by simp; omega
      by_cases h3 : n = 3
      · have HO := Lib.hid (show own1 (tokAt toks at_) ps n = ((10 : Int), kv, (0 : Int)) by simp only [own1, if_neg h1, hk, if_neg hbad, if_pos h3])
        have b3 : ((n : Int) == 3) = true := by subst h3; rfl
        clear h1 hk hkc hbad h3
        go_enter Try.func75, Try.ntmps75
        go_wp2_with (first
          | (go_at_call 68; refine (aLook_zero toks ps A PA c pc g B at_ fe fa _ (by repeat (first | exact hr | apply Rd.ext | apply Rd.alloc | apply Rd.sb | apply Rd.drewN | apply Rd.drew)) (by repeat (first | exact blk_sb _ _ _ _ hg | exact hg | apply blk_ext | apply blk_alloc | apply blk_drewN | apply blk_drew)) ha).mono ?_; rintro e w' ⟨rfl, hq⟩; obtain ⟨xh, xd, rfl⟩ := hq)
          | (go_at_call 71; refine (aKnown_any _ _ _ _).mono ?_; rintro e w' ⟨rfl, hq⟩; obtain ⟨yh, yd, rfl⟩ := hq; rw [show knownO ⟨(tokAt toks at_).kind, (tokAt toks at_).text, (tokAt toks at_).pos⟩ = kv from HK.out]))
        go_region_held3 (fun w' => w'.cell? ⟨yh.size + (xh.size + (w.heap.size + 1) + 1), 0, none⟩ = some (.int .i64 kv) ∧ w'.cell? ⟨yh.size + (xh.size + (w.heap.size + 1) + 1), 1, none⟩ = some (.int .i64 0)) (first | (simp [go_sem, *]; done) | go_keep)
          (first
          | (go_at_call 70; refine (aBad_any toks ps A PA c pc g B at_ fe fa _ _ (by repeat (first | exact hr | apply Rd.ext | apply Rd.alloc | apply Rd.sb | apply Rd.drewN | apply Rd.drew)) (by repeat (first | exact blk_sb _ _ _ _ hg | exact hg | apply blk_ext | apply blk_alloc | apply blk_drewN | apply blk_drew)) ha).mono ?_; rintro e w' ⟨rfl, hq⟩; obtain ⟨vh, vd, rfl⟩ := hq))
        go_wp2
        exact bodyPost_ret (v := .tuple #[.agg #[.int .i64 kv, .int .i64 0], .bool false]) (by simp [results, Try.results75, go_sem]) rfl ⟨by rw [HO.out]; exact fun h => absurd h (by simp), fun _ => ⟨⟨_, _, rfl⟩, by rw [HO.out]; first | exact Grw.refl _ | (repeat (first | exact Grw.refl _ | apply Grw.ext | apply Grw.alloc | apply Grw.drewN | apply Grw.drew)); done⟩⟩
      · have HO := Lib.hid (show own1 (tokAt toks at_) ps n = ((0 : Int), kv, (0 : Int)) by simp only [own1, if_neg h1, hk, if_neg hbad, if_neg h3])
        have b3 : ((n : Int) == 3) = false := by simp; omega
        clear h1 hk hkc hbad h3
        go_enter Try.func75, Try.ntmps75
        go_wp2_with (first
          | (go_at_call 68; refine (aLook_zero toks ps A PA c pc g B at_ fe fa _ (by repeat (first | exact hr | apply Rd.ext | apply Rd.alloc | apply Rd.sb | apply Rd.drewN | apply Rd.drew)) (by repeat (first | exact blk_sb _ _ _ _ hg | exact hg | apply blk_ext | apply blk_alloc | apply blk_drewN | apply blk_drew)) ha).mono ?_; rintro e w' ⟨rfl, hq⟩; obtain ⟨xh, xd, rfl⟩ := hq)
          | (go_at_call 71; refine (aKnown_any _ _ _ _).mono ?_; rintro e w' ⟨rfl, hq⟩; obtain ⟨yh, yd, rfl⟩ := hq; rw [show knownO ⟨(tokAt toks at_).kind, (tokAt toks at_).text, (tokAt toks at_).pos⟩ = kv from HK.out]))
        exact bodyPost_ret (v := .tuple #[.agg #[.int .i64 kv, .int .i64 0], .bool true]) (by simp [results, Try.results75, go_sem]) rfl ⟨fun _ => ⟨by rw [HO.out], by first | exact Grw.refl _ | (repeat (first | exact Grw.refl _ | apply Grw.ext | apply Grw.alloc | apply Grw.drewN | apply Grw.drew)); done⟩, by rw [HO.out]; exact fun h => absurd rfl h⟩
end
end Go.Proofs.YtnindeoemfgkeaaRRRR
