/- The contract of iso.Apply: what an event is by some pairs; nothing that was there is written. Conditions: the pairs' and the event's numbers are ints. -/
import Derived.Test.YtgjpbhgobjlneaaIsoB0
import Derived.Test.YtgjpbhgobjlneaaFen
namespace Go.Proofs.Ytgjpbhgobjlneaa
open Go.RowKit Go.Shelf
attribute [local go_sem] Oper.semAt_some
def Ev.okA (e : Ev) : Prop := ∀ o : Off, (Lit.int .i64 (e.num o)).wf = true
def PairsOk (m : List (Int × Int)) : Prop := ∀ p ∈ m, (Lit.int .i64 p.1).wf = true ∧ (Lit.int .i64 p.2).wf = true
def Ev.zero : Ev := ⟨0, 0, 0, [], false, 0, 0, 0, 0, 0⟩
def applyR (m : List (Int × Int)) (e : Ev) : Ev := if (appL m e).2 then (appL m e).1 else Ev.zero
def toV (m : List (Int × Int)) (i : Int) : Option Value := (toF m i).map (Value.int .i64)
theorem IM.mono {P : Program} {k : TypeId} {w : World} {b n n' : Nat} {f : Int → Option Value} (h : IM P k w b n f) (hn : n ≤ n') : IM P k w b n' f := by
  obtain ⟨D, h, r⟩ := h; exact ⟨D, h.mono hn, r⟩
theorem thF_drop {m : List (Int × Int)} {k : Nat} {p : Int × Int} (h : m[k]? = some p) : upd (thF (m.drop (k + 1))) p.1 (.int .i64 p.2) = thF (m.drop k) := by
  obtain ⟨h1, h2⟩ := List.getElem?_eq_some_iff.1 h
  funext j
  rw [List.drop_eq_getElem_cons h1, h2]
  unfold upd thF fstF
  by_cases hj : j = p.1
  · subst hj; simp
  · rw [if_neg hj, List.find?_cons, beq_eq_false_iff_ne.2 (fun e => hj e.symm)]
theorem thF_zero (m : List (Int × Int)) : upd (thF m) 0 (.int .i64 0) = toV m := by
  funext j
  unfold upd toV toF thF
  by_cases hj : j = 0
  · subst hj; simp
  · rw [if_neg hj, if_neg hj]; cases fstF m j <;> rfl
theorem toF_wf {m : List (Int × Int)} (hm : PairsOk m) (i : Int) : (Lit.int .i64 ((toF m i).getD 0)).wf = true := by
  unfold toF
  by_cases h : i = 0
  · rw [if_pos h]; rfl
  · rw [if_neg h]
    cases hf : fstF m i with
    | none => rfl
    | some p => exact (hm p (fstF_some hf).1).2
theorem put_okA {e : Ev} (h : e.okA) (o : Off) {v : Int} (hv : (Lit.int .i64 v).wf = true) : (e.put o v).okA := by
  intro o'
  obtain ⟨o, ho⟩ := o
  obtain ⟨o', ho'⟩ := o'
  have h' := h ⟨o', ho'⟩
  rcases ho with rfl | rfl | rfl | rfl | rfl | rfl | rfl <;> rcases ho' with rfl | rfl | rfl | rfl | rfl | rfl | rfl <;> first | exact hv | exact h'
theorem put_arr (e : Ev) (o : Off) (v : Int) : e.arr.setIfInBounds o.1 (.int .i64 v) = (e.put o v).arr := by
  obtain ⟨o, ho⟩ := o
  rcases ho with rfl | rfl | rfl | rfl | rfl | rfl | rfl <;> rfl
theorem put_ref (e : Ev) (o : Off) (v : Int) : (e.put o v).ref = e.ref := by
  obtain ⟨o, ho⟩ := o
  rcases ho with rfl | rfl | rfl | rfl | rfl | rfl | rfl <;> rfl
theorem fold_ok {m : List (Int × Int)} (hm : PairsOk m) : ∀ (l : List Off) (s : Ev × Bool), s.1.okA → (l.foldl (app1 m) s).1.okA ∧ (l.foldl (app1 m) s).1.ref = s.1.ref
  | [], s, h => ⟨h, rfl⟩
  | o :: l, s, h => by
    have := fold_ok hm l (app1 m s o) (put_okA h o (toF_wf hm _))
    exact ⟨this.1, this.2.trans (put_ref _ _ _)⟩
theorem own_block' {β : Type} (b : Nat) (cs : β → Array Value) (t : TypeId) : Own (fun (s : β) W => W.heap[b]? = some (.cells (cs s) t)) := by
  intro s X Y row h hg hr
  refine (hg.block b (Array.getElem?_eq_some_iff.1 h).1 (fun e => ?_)).trans h
  obtain ⟨o, ho, hc⟩ := hr b e.symm
  rw [h] at ho; cases ho; cases hc
theorem own_IM {β : Type} (P : Program) (k : TypeId) (b n B : Nat) (f : Int → Option Value) (hb : b < B) : OwnFrom B (fun (_ : β) W => IM P k W b n f) := by
  intro s X Y row h hg hr
  exact h.keep (hg.block b h.lt (fun e => by have := (hr b e.symm).1; omega))
/-- What Apply's loop keeps. -/
def InvA (s : Nat) (m : List (Int × Int)) (e : Ev) (w : World) (pre : List Off) (W : World) : Prop :=
  ((((W.heap[s]? = some (.cells (pre.foldl (app1 m) (e, true)).1.arr 35) ∧ W.heap[s + 4]? = some (.cells #[.bool (pre.foldl (app1 m) (e, true)).2] 4)) ∧ W.heap[s + 1]? = some (.cells Ev.zero.arr 35)) ∧
    W.heap[s + 3]? = some (.cells #[.map (some (s + 2))] 56)) ∧ W.heap[s + 5]? = some (.cells #[.pointer (some ⟨s, 0, none⟩)] 65)) ∧ IM Try.prog 3 W (s + 2) (m.length + 1) (toV m) ∧ Below s w W
theorem invA_own (s B : Nat) (m : List (Int × Int)) (e : Ev) (w : World) (hs : s ≤ w.heap.size) (hB : s + 6 ≤ B) : OwnFrom B (InvA s m e w) :=
  OwnFrom.and (OwnFrom.and (OwnFrom.and (OwnFrom.and (OwnFrom.and (Own.from (own_block' s (fun pre : List Off => (pre.foldl (app1 m) (e, true)).1.arr) 35) _) (Own.from (own_block' (s + 4) (fun pre : List Off => #[.bool (pre.foldl (app1 m) (e, true)).2]) 4) _)) (Own.from (own_block _ _ _) _)) (Own.from (own_block _ _ _) _)) (Own.from (own_block _ _ _) _))
    (OwnFrom.and (own_IM _ _ _ _ _ _ (by omega)) (ownFrom_below hs (by omega)))
/-- What the loop that fills the map keeps. -/
def LoopA (s : Nat) (m : List (Int × Int)) (e : Ev) (w : World) (k : Nat) (W : World) : Prop :=
  W.heap[s]? = some (.cells e.arr 35) ∧ W.heap[s + 1]? = some (.cells Ev.zero.arr 35) ∧ W.heap[s + 3]? = some (.cells #[.map (some (s + 2))] 56) ∧ IM Try.prog 3 W (s + 2) (m.length - k) (thF (m.drop k)) ∧ W.heap.size = s + 4 ∧ Below s w W
theorem loopA_start (m : List (Int × Int)) (e : Ev) (w : World) : LoopA w.heap.size m e w m.length ((((w.alloc (.cells e.arr 35)).alloc (.cells Ev.zero.arr 35)).alloc (.map #[] 0)).alloc (.cells #[.map (some (w.heap.size + 2))] 56)) := by
  refine ⟨?_, ?_, block_alloc _ _ _ (by simp), ?_, by simp, ?_⟩
  · exact (Below.heap_alloc _ _ _ (by simp; try omega)).trans ((Below.heap_alloc _ _ _ (by simp; try omega)).trans ((Below.heap_alloc _ _ _ (by simp)).trans (block_alloc _ _ _ rfl)))
  · exact (Below.heap_alloc _ _ _ (by simp; try omega)).trans ((Below.heap_alloc _ _ _ (by simp)).trans (block_alloc _ _ _ (by simp)))
  · rw [List.drop_eq_nil_of_le (Nat.le_refl _), Nat.sub_self]
    have h := (IM.made ((w.alloc (.cells e.arr 35)).alloc (.cells Ev.zero.arr 35)) Try.prog 3).alloc (.cells #[.map (some (w.heap.size + 2))] 56)
    simp only [World.size_alloc, Nat.add_assoc, Nat.reduceAdd] at h
    exact h
  · exact ((((Below.refl _ w).alloc (Nat.le_refl _) _).alloc (by simp) _).alloc (by simp; omega) _).alloc (by simp; omega) _
theorem toV_get (m : List (Int × Int)) (i : Int) : (toV m i).getD (.int .i64 0) = .int .i64 ((toF m i).getD 0) := by unfold toV; cases toF m i <;> rfl
theorem toV_some (m : List (Int × Int)) (i : Int) : (toV m i).isSome = (toF m i).isSome := by unfold toV; cases toF m i <;> rfl
theorem set10 (l : List Value) (h : l.length = 10) (v0 v1 v2 v3 v4 v5 v6 v7 v8 v9 : Value) : (((((((((l.set 0 v0).set 1 v1).set 2 v2).set 3 v3).set 4 v4).set 5 v5).set 6 v6).set 7 v7).set 8 v8).set 9 v9 = [v0, v1, v2, v3, v4, v5, v6, v7, v8, v9] := by
  obtain _ | ⟨a0, l⟩ := l <;> simp at h
  obtain _ | ⟨a1, l⟩ := l <;> simp at h
  obtain _ | ⟨a2, l⟩ := l <;> simp at h
  obtain _ | ⟨a3, l⟩ := l <;> simp at h
  obtain _ | ⟨a4, l⟩ := l <;> simp at h
  obtain _ | ⟨a5, l⟩ := l <;> simp at h
  obtain _ | ⟨a6, l⟩ := l <;> simp at h
  obtain _ | ⟨a7, l⟩ := l <;> simp at h
  obtain _ | ⟨a8, l⟩ := l <;> simp at h
  obtain _ | ⟨a9, l⟩ := l <;> simp at h
  subst h
  rfl
theorem store10 {w : World} {g : Nat} {t : TypeId} {cs : Array Value} (h : w.heap[g]? = some (.cells cs t)) (v0 v1 v2 v3 v4 v5 v6 v7 v8 v9 : Value) (hs : cs.size = 10 := by rfl) :
    ((((((((((w.setCell ⟨g, 0, none⟩ v0).setCell ⟨g, 1, none⟩ v1).setCell ⟨g, 2, none⟩ v2).setCell ⟨g, 3, none⟩ v3).setCell ⟨g, 4, none⟩ v4).setCell ⟨g, 5, none⟩ v5).setCell ⟨g, 6, none⟩ v6).setCell ⟨g, 7, none⟩ v7).setCell ⟨g, 8, none⟩ v8).setCell ⟨g, 9, none⟩ v9) = sb w g t #[v0, v1, v2, v3, v4, v5, v6, v7, v8, v9] := by
  have e : w = sb w g t cs := (sb_self w g t cs h).symm
  rw [show (w.setCell ⟨g, 0, none⟩ v0) = sb w g t (cs.setIfInBounds 0 v0) by conv => lhs; rw [e, sb_setCell]]
  simp only [sb_setCell]
  refine congrArg (sb w g t) (Array.ext' ?_)
  simp only [Array.toList_setIfInBounds]
  exact set10 _ (by rw [Array.length_toList]; exact hs) ..
theorem applyCells {W : World} {g D : Nat} {t : TypeId} {cs cs' : Array Value} {o o' : Obj} (h : W.heap[g]? = some (.cells cs' t)) (hK : (sb W g t cs).heap[D]? = some o) (ho : o.isCells = false := by rfl) : ∀ i, ((sb W g t cs).putObj D o').cell? ⟨g, i, none⟩ = cs[i]? := by
  intro i
  have hg := sb_get_same W g t cs (Array.getElem?_eq_some_iff.1 h).1
  have hne : g ≠ D := by
    rintro rfl
    rw [hg] at hK; cases hK; cases ho
  rw [World.cell?_of_block (a := ⟨g, i, none⟩) (World.putObj_heap_other hne)]
  exact cells_all hg i
theorem applyBelow {w W : World} {D : Nat} {t : TypeId} {cs : Array Value} {o o' : Obj} (hb : Below w.heap.size w W) (_hK : (sb W (w.heap.size + 1) t cs).heap[D]? = some o) (hD : w.heap.size ≤ D) : Below w.heap.size w ((sb W (w.heap.size + 1) t cs).putObj D o') := by
  have h1 : Below w.heap.size w (sb W (w.heap.size + 1) t cs) := ⟨hb.os, hb.tape, hb.output, by rw [sb_size]; exact hb.size, fun k hk => (sb_get_other _ _ _ _ _ (by omega)).trans (hb.block k hk)⟩
  exact h1.grown (grownBy_putObj' _ D o') (by have := h1.size; omega) (fun k e => by cases e; exact hD)
/-- What a round leaves. -/
def AppStep (s : Nat) (w W : World) (m : List (Int × Int)) (cur : Ev) (x : Off) (v : Int) (al : Bool) (W' : World) : Prop :=
  ((((W'.heap[s]? = some (.cells (cur.put x v).arr 35) ∧ W'.heap[s + 4]? = some (.cells #[.bool al] 4)) ∧ W'.heap[s + 1]? = some (.cells Ev.zero.arr 35)) ∧
    W'.heap[s + 3]? = some (.cells #[.map (some (s + 2))] 56)) ∧ W'.heap[s + 5]? = some (.cells #[.pointer (some ⟨s, 0, none⟩)] 65)) ∧ IM Try.prog 3 W' (s + 2) (m.length + 1) (toV m) ∧ Below s w W' ∧ (∀ B, KeepsFrom B W W')
theorem apply_step {s : Nat} {w W : World} {m : List (Int × Int)} {cur : Ev} {al : Bool} (hb0 : W.heap[s]? = some (.cells cur.arr 35)) (hb1 : W.heap[s + 1]? = some (.cells Ev.zero.arr 35)) (hb3 : W.heap[s + 3]? = some (.cells #[.map (some (s + 2))] 56))
    (hb4 : W.heap[s + 4]? = some (.cells #[.bool al] 4)) (hb5 : W.heap[s + 5]? = some (.cells #[.pointer (some ⟨s, 0, none⟩)] 65)) (him : IM Try.prog 3 W (s + 2) (m.length + 1) (toV m)) (hbw : Below s w W) (x : Off) (v : Int) (al' : Bool) :
    AppStep s w W m cur x v al' ((W.drew.setCell ⟨s + 4, 0, none⟩ (.bool al')).setCell ⟨s, x.1, none⟩ (.int .i64 v)) := by
  have k : ∀ i, i ≠ s → i ≠ s + 4 → ((W.drew.setCell ⟨s + 4, 0, none⟩ (.bool al')).setCell ⟨s, x.1, none⟩ (.int .i64 v)).heap[i]? = W.heap[i]? := fun i h1 h2 =>
    (Below.heap_setCell _ _ _ i h1).trans (Below.heap_setCell _ _ _ i h2)
  refine ⟨⟨⟨⟨⟨?_, ?_⟩, (k _ (by omega) (by omega)).trans hb1⟩, (k _ (by omega) (by omega)).trans hb3⟩, (k _ (by omega) (by omega)).trans hb5⟩, him.keep (k _ (by omega) (by omega)), ?_, fun B => ?_⟩
  · rw [setCell_block (cs := cur.arr) (t := 35) ((Below.heap_setCell W.drew _ _ s (by simp)).trans hb0), put_arr]
  · refine (Below.heap_setCell _ _ _ (s + 4) (by simp)).trans ?_
    rw [setCell_block (w := W.drew) hb4]; rfl
  · exact ((below_draw hbw).setCell (p := ⟨s + 4, 0, none⟩) (by simp) _).setCell (p := ⟨s, x.1, none⟩) (Nat.le_refl _) _
  · exact (((KeepsOthers.drew W).trans (KeepsOthers.setCell _ _ _)).trans (KeepsOthers.setCell _ _ _)).from _
theorem applyEnd {s B : Nat} {w W W' : World} {m : List (Int × Int)} {e cur : Ev} {al b : Bool} {pre : List Off} {x : Off} {v : Int} (h : AppStep s w W m cur x v (al && b) W') (hs : (pre ++ [x]).foldl (app1 m) (e, true) = app1 m (cur, al) x)
    (hf : cur.okA ∧ cur.ref = e.ref) (hv : (toF m (cur.num x)).getD 0 = v ∧ (toF m (cur.num x)).isSome = b) (_h : 0 ≤ 0) : KeepsFrom B W W' ∧ KpE (s + 5) s e.ref W W' ∧ InvA s m e w (pre ++ [x]) W' := by
  obtain ⟨h1, h2, h3, h4⟩ := h
  refine ⟨h4 B, fun _ => ⟨Boxed.cell h1.2, ?_⟩, ?_⟩
  · rw [cells_all h1.1.1.1.1, ← hf.2, ← put_ref cur x v]; rfl
  · unfold InvA
    rw [hs]
    unfold app1
    rw [hv.1, hv.2]
    exact ⟨h1, h2, h3⟩
set_option maxRecDepth 100000 in
set_option maxHeartbeats 1000000 in
theorem apply_in (F : Fence) (n : Nat) (hA : F.fn 14) (hN : F.fn 35) (hN1 : F.fn 49) (hro : F.round = none) (hn : 3 ≤ n) (m : List (Int × Int)) (A : Option Addr) (c : Nat) (e : Ev) (w : World)
    (hm : SlB pairC 2 w w.heap.size A m) (hok : PairsOk m) (he : e.okA) (hl : m.length ≤ 1000000) :
    CallsIn F n Try.prog 14 #[.slice A m.length c, .agg e.arr] w fun E W' => E = .returned (.tuple #[.agg (applyR m e).arr, .bool (appL m e).2]) ∧ Below w.heap.size w W' := by
  have h1 : 1 ≤ n := by omega
  have hmix : Try.prog.follows .mixedOrders = true := by kernel_rfl
  have hmm := @run_makeMap Try.prog
  refine callsIn_of_wp_marks Try.func14 rfl hA ?_ hro
  simp only [Try.ntmps14, List.size_toArray, List.length_cons, List.length_nil, Nat.reduceAdd, Nat.reduceSub, Array.replicate_succ, Array.replicate_zero, List.push_toArray, List.append_toArray, List.nil_append, List.cons_append]
  gi_wp2
  simp only [Nat.add_assoc, Nat.reduceAdd]
  obtain ⟨W0, hW0⟩ : ∃ W0, (((w.alloc (.cells e.arr 35)).alloc (.cells Ev.zero.arr 35)).alloc (.map #[] 0)).alloc (.cells #[.map (some (w.heap.size + 2))] 56) = W0 := ⟨_, rfl⟩
  have HI0 : Hid (LoopA w.heap.size m e w m.length W0) := Lib.hid (by rw [← hW0]; exact loopA_start m e w)
  have hrw : (((w.alloc (.cells e.arr 35)).alloc (.cells #[.int .i64 0, .int .i64 0, .int .i64 0, .string ⟨#[]⟩, .bool false, .int .i64 0, .int .i64 0, .int .i64 0, .int .i64 0, .int .i64 0] 35)).alloc (.map #[] 0)).alloc (.cells #[.map (some (w.heap.size + 2))] 56) = W0 := hW0
  rw [hrw]
  clear hW0 hrw hmm
  have HE := Lib.hid he
  have HOK := Lib.hid hok
  have HM := Lib.hid hm
  clear he hok hm
  gi_loopw [7] (fun i wr => ∃ j : Int, -1 ≤ j ∧ j < m.length ∧ i = .int .i64 j ∧ LoopA w.heap.size m e w (j + 1).toNat wr) (fun i _ => (intOf i + 1).toNat)
  case atStart => exact ⟨(m.length : Int) - 1, by omega, by omega, rfl, by have := HI0.out; rw [show ((m.length : Int) - 1 + 1).toNat = m.length by omega]; exact this⟩
  case round =>
    obtain ⟨j, hj0, hj1, rfl, hinv⟩ := hrel
    by_cases hj : 0 ≤ j
    · obtain ⟨k, rfl⟩ : ∃ k : Nat, j = k := ⟨j.toNat, by omega⟩
      rw [show ((k : Int) + 1).toNat = k + 1 by omega] at hinv
      obtain ⟨hb0, hb1, hb3, him, hsz, hbw⟩ := hinv
      have hk : k < m.length := by omega
      obtain ⟨p, hp⟩ : ∃ o, m[k]? = some o := ⟨_, List.getElem?_eq_getElem hk⟩
      obtain ⟨b1, ob, rfl, _, hbl, hc⟩ := (HM.out.grw (.of_below hbw)).at_ hp
      have e0 := hc 0 _ rfl
      have e1 := hc 1 _ rfl
      simp only [Nat.add_zero] at e0
      have c3 : wr.cell? ⟨w.heap.size + 3, 0, none⟩ = some (.map (some (w.heap.size + 2))) := Boxed.cell hb3
      have HD := Lib.hid (thF_drop hp)
      have HWP := Lib.hid (HOK.out p (List.mem_of_getElem? hp))
      have HI := Lib.hid him
      have HB := Lib.hid (And.intro hb0 (And.intro hb1 (And.intro hb3 (And.intro hsz hbw))))
      have f3 : (k : Int) < (m.length : Int) := by omega
      have hlim : m.length - (k + 1) < maxLen := by unfold maxLen; omega
      clear hb0 hb1 hb3 him hsz hbw hc hp
      gi_wp2
      refine wpIn_tail 11 (by kernel_rfl) (by kernel_rfl) (by kernel_rfl) ?_
      simp only [List.take_succ_cons, List.take_zero, List.drop_succ_cons, List.drop_zero]
      repeat (go_big_quiet_step (fail))
      refine wpQuiet_nil ?_
      refine wpList_mput _ rfl _ _ _ 56 rfl 3 3 Try.underlying3 Try.underlying56 _ _ _ rfl (HI.out.drew) hlim _ HWP.out.1 rfl (.int .i64 p.2) rfl ?_
      intro ob' him2
      rw [HD.out, show m.length - (k + 1) + 1 = m.length - k by omega] at him2
      have HN : Hid (LoopA w.heap.size m e w k (pb wr.drew (w.heap.size + 2) ob')) := Lib.hid ⟨(pb_get_other _ _ _ _ (by omega)).trans HB.out.1, (pb_get_other _ _ _ _ (by omega)).trans HB.out.2.1, (pb_get_other _ _ _ _ (by omega)).trans HB.out.2.2.1, him2, by rw [pb_size]; exact HB.out.2.2.2.1, below_pb (below_draw HB.out.2.2.2.2) (by omega) _⟩
      clear him2
      refine wpList_nil ?_
      dsimp only [NrmQ]
      gi_wp2
      exact ⟨⟨(k : Int) - 1, by omega, by omega, rfl, by rw [show ((k : Int) - 1 + 1).toNat = k by omega]; exact HN.out⟩, by simp [intOf]⟩
    · obtain rfl : j = -1 := by omega
      obtain ⟨hb0, hb1, hb3, him, hsz, hbw⟩ := hinv
      rw [show ((-1 : Int) + 1).toNat = 0 by rfl, List.drop_zero] at him
      have c3 : wr.cell? ⟨w.heap.size + 3, 0, none⟩ = some (.map (some (w.heap.size + 2))) := Boxed.cell hb3
      have HI := Lib.hid him
      have HB := Lib.hid (And.intro hb0 (And.intro hb1 (And.intro hb3 (And.intro hsz hbw))))
      have HTZ := Lib.hid (thF_zero m)
      have hlim : m.length < maxLen := by unfold maxLen; omega
      clear hb0 hb1 hb3 him hbw HM HI0
      have hj : ((-1 : Int) ≥ 0) = False := by simp
      gi_wp2_with (first
        | (refine wpListIn_mput _ rfl _ _ _ 56 rfl 3 3 Try.underlying3 Try.underlying56 _ _ _ rfl HI.out hlim 0 rfl rfl (.int .i64 0) rfl ?_; intro ob' him2; rw [HTZ.out] at him2; have HI2 := Lib.hid him2; clear him2)
        | (gi_at_call 35; refine (numbers_in F (n - 1) hN hro _ _).mono ?_; rintro E w' ⟨rfl, rfl⟩))
      obtain ⟨W1, hW1⟩ : ∃ W1, ((pb wr (w.heap.size + 2) ob').alloc (.cells #[.bool true] 4)).alloc (.cells #[.pointer (some ⟨w.heap.size, 0, none⟩)] 65) = W1 := ⟨_, rfl⟩
      rw [hW1]
      simp only [Nat.add_assoc, Nat.reduceAdd]
      have hsz1 : W1.heap.size = w.heap.size + 6 := by rw [← hW1]; simp [pb_size, hsz]
      have HINV : Hid (InvA w.heap.size m e w [] W1) := Lib.hid (by
        rw [← hW1]
        refine ⟨⟨⟨⟨⟨?_, ?_⟩, ?_⟩, ?_⟩, ?_⟩, ?_, ?_⟩
        · exact (Below.heap_alloc _ _ _ (by simp [pb_size, hsz]; try omega)).trans ((Below.heap_alloc _ _ _ (by simp [pb_size, hsz]; try omega)).trans ((pb_get_other _ _ _ _ (by omega)).trans HB.out.1))
        · exact (Below.heap_alloc _ _ _ (by simp [pb_size, hsz])).trans (block_alloc _ _ _ (by simp [pb_size, hsz]))
        · exact (Below.heap_alloc _ _ _ (by simp [pb_size, hsz]; try omega)).trans ((Below.heap_alloc _ _ _ (by simp [pb_size, hsz]; try omega)).trans ((pb_get_other _ _ _ _ (by omega)).trans HB.out.2.1))
        · exact (Below.heap_alloc _ _ _ (by simp [pb_size, hsz]; try omega)).trans ((Below.heap_alloc _ _ _ (by simp [pb_size, hsz]; try omega)).trans ((pb_get_other _ _ _ _ (by omega)).trans HB.out.2.2.1))
        · exact block_alloc _ _ _ (by simp [pb_size, hsz])
        · exact (HI2.out.alloc _).alloc _
        · exact (((below_pb HB.out.2.2.2.2 (by omega) _).alloc (by simp [pb_size, hsz]) _).alloc (by simp [pb_size, hsz]; omega) _))
      have hP1 : W1.cell? ⟨w.heap.size + 5, 0, none⟩ = some (.pointer (some ⟨w.heap.size, 0, none⟩)) := Boxed.cell HINV.out.1.2
      have hR1 : W1.cell? ⟨w.heap.size, 4, none⟩ = some (.bool e.ref) := by rw [cells_all HINV.out.1.1.1.1.1 4]; rfl
      clear hW1 HB HI2 HI hsz
      have KB : ∀ (W : World) (l : Nat) (o o' : Obj), W1.heap.size ≤ l → W.heap[l]? = some o → o.isCells = false → o.isWalk = false → KpE (w.heap.size + 5) w.heap.size e.ref W (W.putObj l o') := fun W l o o' _ h1 h2 _ => KpE.book W l o o' h1 h2
      refine wpIn_rangeFunc_ownG hro h1 (gf := 49) (lb := #[.pointer (some ⟨w.heap.size + 5, 0, none⟩)]) rfl hN1 (enters_of Try.func49 (by kernel_rfl) rfl)
        (numbers1_stops F (n - 1) hN1 hro (by omega) (w.heap.size + 5) w.heap.size e.ref W1 (by omega) (by omega) hP1 hR1) (fun h k => KpE.trans h k) KB (Below.refl _ _) (fun _ => rfl)
        (InvA w.heap.size m e w) (fun _ _ _ => False) (invA_own w.heap.size _ m e w (Nat.le_refl _) (by omega)) (fun _ _ _ _ _ hs _ _ => hs) HINV.out
        (fun x => { tmps := #[.slice A m.length c, .agg e.arr, undef, .pointer (some ⟨w.heap.size, 0, none⟩), .pointer (some ⟨w.heap.size + 1, 0, none⟩), .bool false, .pointer (some ⟨w.heap.size + 3, 0, none⟩), .int .i64 (-1), .pointer (some ⟨w.heap.size + 4, 0, none⟩), .pointer (some ⟨w.heap.size, x.1, none⟩), undef, undef, .map (some (w.heap.size + 2)), .slice A m.length c, .int .i64 m.length, .int .i64 (m.length - 1), .int .i64 (-1), .bool false, u18, u19, u20, u21, u22, u23, u24, u25, u26, u27, u28, u29, u30, .map (some (w.heap.size + 2)), .func (.func 49) #[] #[.pointer (some ⟨w.heap.size + 5, 0, none⟩)], .pointer (some ⟨w.heap.size, x.1, none⟩), undef, undef, undef, undef, undef, undef, undef, undef, undef, undef, undef, undef, undef, undef, undef, undef, undef, undef, undef], defers := [] }) ?assign ?body ?done ?stop
      case assign =>
        intro l x W K hK
        gi_wp2
        exact hK
      case body =>
        rintro l pre x W ⟨⟨⟨⟨⟨hb0, hb4⟩, hb1⟩, hb3⟩, hb5⟩, him, hbw⟩ hlt
        have HFO := Lib.hid (fold_ok HOK.out pre (e, true) HE.out)
        have HSN : Hid ((pre ++ [x]).foldl (app1 m) (e, true) = app1 m (pre.foldl (app1 m) (e, true)) x) := Lib.hid (by rw [List.foldl_append]; rfl)
        obtain ⟨⟨cur, al⟩, hst⟩ : ∃ s, pre.foldl (app1 m) (e, true) = s := ⟨_, rfl⟩
        rw [hst] at hb0 hb4 HFO HSN
        dsimp only at hb0 hb4
        have c3 : W.cell? ⟨w.heap.size + 3, 0, none⟩ = some (.map (some (w.heap.size + 2))) := Boxed.cell hb3
        have c4 : W.cell? ⟨w.heap.size + 4, 0, none⟩ = some (.bool al) := Boxed.cell hb4
        have d4 : W.frozen? ⟨w.heap.size + 4, 0, none⟩ = false := Boxed.frozen hb4
        have c0 : W.cell? ⟨w.heap.size, x.1, none⟩ = some (.int .i64 (cur.num x)) := by
          rw [cells_all hb0, Ev.arr_cells]; simpa using cur.num_at x
        have d0 : W.frozen? ⟨w.heap.size, x.1, none⟩ = false := by simp [World.frozen?, hb0]
        obtain ⟨v, hv⟩ : ∃ v, (toF m (cur.num x)).getD 0 = v := ⟨_, rfl⟩
        obtain ⟨b, hb⟩ : ∃ b, (toF m (cur.num x)).isSome = b := ⟨_, rfl⟩
        have hlook : (Instr.lookup 56 (.map (some (w.heap.size + 2))) (.int .i64 (cur.num x)) true).run Try.prog W.drew = .ok (.tuple #[.int .i64 v, .bool b]) W.drew := by
          rw [(him.drew).look Try.underlying3 Try.underlying56 (zero_int _) (HFO.out.1 x), toV_get, toV_some, hv, hb]
        have HN := Lib.hid (apply_step hb0 hb1 hb3 hb4 hb5 him hbw x v (al && b))
        have HV := Lib.hid (And.intro hv hb)
        clear hb0 hb1 hb3 hb4 hb5 him hbw hst hv hb HINV hP1 hR1 KB
        cases al
        · gi_wp2
          gi_region_o
          all_goals gi_wp2
          all_goals exact applyEnd HN.out HSN.out HFO.out HV.out (by omega)
        · gi_wp2
          gi_region_o
          all_goals gi_wp2
          all_goals exact applyEnd HN.out HSN.out HFO.out HV.out (by omega)
      case done =>
        rintro D ys W hD rfl ⟨⟨⟨⟨⟨hb0, hb4⟩, hb1⟩, hb3⟩, hb5⟩, him, hbw⟩ hK
        have HAP : Hid ((offR e.ref).foldl (app1 m) (e, true) = appL m e) := Lib.hid rfl
        rw [HAP.out] at hb0 hb4
        obtain ⟨⟨cur, al⟩, hst⟩ : ∃ s, appL m e = s := ⟨_, rfl⟩
        have HR : Hid ((if al then cur else Ev.zero) = applyR m e) := Lib.hid (by unfold applyR; rw [hst])
        rw [hst] at hb0 hb4
        dsimp only at hb0 hb4
        have HST := Lib.hid hst
        have c4 : W.cell? ⟨w.heap.size + 4, 0, none⟩ = some (.bool al) := Boxed.cell hb4
        have cl0 := cells_all hb0
        have cl1 := cells_all hb1
        have fr1 : ∀ i, W.frozen? ⟨w.heap.size + 1, i, none⟩ = false := fun i => by simp [World.frozen?, hb1]
        have HB := Lib.hid (And.intro hb0 (And.intro hb1 hbw))
        have HKK := Lib.hid hK
        have HD := Lib.hid hD
        clear hb0 hb1 hb3 hb4 hb5 him hbw hst hK HINV hP1 hR1 KB hD
        simp only [Ev.arr, Ev.zero] at cl0 cl1
        cases al
        · gi_wp2
          have hs10 := store10 (w := W) (g := w.heap.size + 1) (t := 35) HB.out.2.1 (.int .i64 0) (.int .i64 0) (.int .i64 0) (.string ⟨#[]⟩) (.bool false) (.int .i64 0) (.int .i64 0) (.int .i64 0) (.int .i64 0) (.int .i64 0)
          rw [hs10]
          have hK2 : (sb W (w.heap.size + 1) 35 Ev.zero.arr).heap[D]? = some (.deferred (some [])) := (sb_get_other _ _ _ _ _ (by have := HD.out; omega)).trans HKK.out
          refine ⟨by simp, .inl ⟨_, _, rfl, run_takeDeferred hK2, ?_⟩⟩
          have hcf := applyCells (o' := .deferred none) HB.out.2.1 hK2
          have hbf := applyBelow (o' := .deferred none) (cs := Ev.zero.arr) HB.out.2.2 hK2 (by have := HD.out; omega)
          obtain ⟨Wf, hWf⟩ : ∃ Wf, (sb W (w.heap.size + 1) 35 #[.int .i64 0, .int .i64 0, .int .i64 0, .string ⟨#[]⟩, .bool false, .int .i64 0, .int .i64 0, .int .i64 0, .int .i64 0, .int .i64 0]).putObj D (.deferred none) = Wf := ⟨_, rfl⟩
          replace hcf : ∀ i, Wf.cell? ⟨w.heap.size + 1, i, none⟩ = Ev.zero.arr[i]? := by rw [← hWf]; exact hcf
          replace hbf : Below w.heap.size w Wf := by rw [← hWf]; exact hbf
          rw [hWf]
          clear hWf hK2 hs10 cl0 cl1 fr1
          simp only [Ev.arr, Ev.zero] at hcf
          refine ⟨.tuple #[.agg Ev.zero.arr, .bool false], by simp [results, Try.results14, go_sem, hcf, Ev.arr, Ev.zero], ?_, hbf⟩
          rw [HST.out, ← HR.out]; rfl
        · gi_wp2
          have hs10 := store10 (w := W) (g := w.heap.size + 1) (t := 35) HB.out.2.1 (.int .i64 cur.kind) (.int .i64 cur.who) (.int .i64 cur.obj) (.string (bs cur.name)) (.bool cur.ref) (.int .i64 cur.n) (.int .i64 cur.o0) (.int .i64 cur.o1) (.int .i64 cur.o2) (.int .i64 cur.o3)
          rw [hs10]
          have hK2 : (sb W (w.heap.size + 1) 35 cur.arr).heap[D]? = some (.deferred (some [])) := (sb_get_other _ _ _ _ _ (by have := HD.out; omega)).trans HKK.out
          refine ⟨by simp, .inl ⟨_, _, rfl, run_takeDeferred hK2, ?_⟩⟩
          have hcf := applyCells (o' := .deferred none) HB.out.2.1 hK2
          have hbf := applyBelow (o' := .deferred none) (cs := cur.arr) HB.out.2.2 hK2 (by have := HD.out; omega)
          obtain ⟨Wf, hWf⟩ : ∃ Wf, (sb W (w.heap.size + 1) 35 #[.int .i64 cur.kind, .int .i64 cur.who, .int .i64 cur.obj, .string (bs cur.name), .bool cur.ref, .int .i64 cur.n, .int .i64 cur.o0, .int .i64 cur.o1, .int .i64 cur.o2, .int .i64 cur.o3]).putObj D (.deferred none) = Wf := ⟨_, rfl⟩
          replace hcf : ∀ i, Wf.cell? ⟨w.heap.size + 1, i, none⟩ = cur.arr[i]? := by rw [← hWf]; exact hcf
          replace hbf : Below w.heap.size w Wf := by rw [← hWf]; exact hbf
          rw [hWf]
          clear hWf hK2 hs10 cl0 cl1 fr1
          simp only [Ev.arr] at hcf
          refine ⟨.tuple #[.agg cur.arr, .bool true], by simp [results, Try.results14, go_sem, hcf, Ev.arr], ?_, hbf⟩
          rw [HST.out, ← HR.out]; rfl
      case stop =>
        rintro D c pre W _ _ h _
        exact h.elim
end Go.Proofs.Ytgjpbhgobjlneaa
