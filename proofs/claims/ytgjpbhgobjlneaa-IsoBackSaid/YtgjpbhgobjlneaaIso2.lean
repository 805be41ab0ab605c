/- The contract of iso.list: an event's numbers, in order; nothing that was there is written. Conditions: none. -/
import Derived.Test.YtgjpbhgobjlneaaIso1
import Derived.Test.YtgjpbhgobjlneaaFen
namespace Go.Proofs.Ytgjpbhgobjlneaa
open Go.RowKit Go.Shelf
attribute [local go_sem] Oper.semAt_some
attribute [local go_sem ↓ 2000] builtin_appS
attribute [local go_sem] run_appS
theorem numbers1_stops (F : Fence) (n : Nat) (hF : F.fn 49) (hro : F.round = none) (hn : 1 ≤ n) (Bn b : Nat) (r : Bool) (w : World) (hB : Bn < w.heap.size) (hb : b < w.heap.size)
    (hc : w.cell? ⟨Bn, 0, none⟩ = some (.pointer (some ⟨b, 0, none⟩))) (hr : w.cell? ⟨b, 4, none⟩ = some (.bool r)) :
    SeqStopsK F n Try.prog 49 #[.pointer (some ⟨Bn, 0, none⟩)] (fun x : Off => #[.pointer (some ⟨b, x.1, none⟩)]) (KpE Bn b r) (fun ys => ys = offR r) (fun _ => True) 7 w := fun l J Jx W hW _ _ hY h0 =>
  numbers1_in F n hF hro hn l Bn b r J Jx hY W ((hW.cell (p := ⟨Bn, 0, none⟩) hB).trans hc) ((hW.cell (p := ⟨b, 4, none⟩) hb).trans hr) h0
theorem info_int : (Try.prog.info? 3).map (fun i => (i.zero, i.size, i.bytes)) = some (some (.int .i64 0), 1, 8) := by kernel_rfl
theorem own_block (b : Nat) (cs : Array Value) (t : TypeId) {β : Type} : Own (fun (_ : β) W => W.heap[b]? = some (.cells cs t)) := by
  intro s X Y row h hg hr
  refine (hg.block b (Array.getElem?_eq_some_iff.1 h).1 (fun e => ?_)).trans h
  obtain ⟨o, ho, hc⟩ := hr b e.symm
  rw [h] at ho; cases ho; cases hc
theorem offR_len (r : Bool) : (offR r).length ≤ 7 := by cases r <;> decide
theorem block_not_row {W : World} {B : Nat} {t e : TypeId} {cs : Array Value} (h : W.heap[B]? = some (.cells cs t)) (hte : t ≠ e) {base size k : Nat} {v : Value} {xs : List Value} (hr : W.ownsRow base e size v k xs) : some B ≠ v.ownBlock := by
  rcases hr.2 with ⟨rfl, _⟩ | ⟨g, cap, cur, rfl, _, hgb, _⟩
  · simp [Value.ownBlock]
  · intro e'
    obtain rfl : B = g := by simpa [Value.ownBlock] using e'
    rw [h] at hgb
    simp at hgb
    exact hte hgb.2
theorem grown_keep {W w1 : World} {b : Nat} {o : Obj} {v : Value} {tmp : Obj} (h : W.heap[b]? = some o) (hg : (W.alloc tmp).grownBy w1 v.ownBlock) (hne : some b ≠ v.ownBlock) {p : Addr} (hp : b ≠ p.block) (u : Value) : (w1.setCell p u).heap[b]? = some o :=
  (Below.heap_setCell w1 p u b hp).trans ((hg.block b (by simp; have := (Array.getElem?_eq_some_iff.1 h).1; omega) hne).trans ((Below.heap_alloc W tmp b (Array.getElem?_eq_some_iff.1 h).1).trans h))
def Ev.arr (e : Ev) : Array Value := #[.int .i64 e.kind, .int .i64 e.who, .int .i64 e.obj, .string (bs e.name), .bool e.ref, .int .i64 e.n, .int .i64 e.o0, .int .i64 e.o1, .int .i64 e.o2, .int .i64 e.o3]
theorem Ev.arr_cells (e : Ev) : e.arr = e.cells.toArray := rfl
set_option maxRecDepth 100000 in
set_option maxHeartbeats 4000000 in
theorem list_in (F : Fence) (n : Nat) (hL : F.fn 47) (hN : F.fn 35) (hN1 : F.fn 49) (hro : F.round = none) (hn : 3 ≤ n) (e : Ev) (w : World) :
    CallsIn F n Try.prog 47 #[.agg e.arr] w fun E W' => ∃ A c, E = .returned (.slice A e.nums.length c) ∧ W'.ownsRow w.heap.size 3 1 (.slice A e.nums.length c) e.nums.length (e.nums.map (Value.int .i64)) ∧ Below w.heap.size w W' := by
  have h1 : 1 ≤ n := by omega
  have hmix : Try.prog.follows .mixedOrders = true := by kernel_rfl
  obtain ⟨i0, hi, hz0, hz1, hz2⟩ := info_parts info_int
  refine callsIn_of_wp_marks Try.func47 rfl hL ?_ hro
  simp only [Try.ntmps47, List.size_toArray, List.length_cons, List.length_nil, Nat.reduceAdd, Nat.reduceSub, Array.replicate_succ, Array.replicate_zero, List.push_toArray, List.append_toArray, List.nil_append, List.cons_append]
  gi_wp2_with (gi_at_call 35; refine (numbers_in F (n - 1) hN hro _ _).mono ?_; rintro E w' ⟨rfl, rfl⟩)
  have bO := Boxed.new (w.alloc (.cells e.arr 35)) 39 (.slice none 0 0)
  have bN := Boxed.new ((w.alloc (.cells e.arr 35)).alloc (.cells #[.slice none 0 0] 39)) 65 (.pointer (some ⟨w.heap.size, 0, none⟩))
  rw [World.size_alloc] at bO bN
  rw [World.size_alloc] at bN
  obtain ⟨W0, hW0⟩ : ∃ W0, ((w.alloc (.cells e.arr 35)).alloc (.cells #[.slice none 0 0] 39)).alloc (.cells #[.pointer (some ⟨w.heap.size, 0, none⟩)] 65) = W0 := ⟨_, rfl⟩
  have hsz : W0.heap.size = w.heap.size + 3 := by rw [← hW0]; simp
  have hE : W0.heap[w.heap.size]? = some (.cells e.arr 35) := by
    rw [← hW0]
    exact (Below.heap_alloc _ _ _ (by simp; omega)).trans ((Below.heap_alloc _ _ _ (by simp)).trans (block_alloc w _ _ rfl))
  have hO : Boxed W0 (w.heap.size + 1) 39 (.slice none 0 0) := by rw [← hW0]; exact bO.alloc _
  have hN3 : W0.heap[w.heap.size + 2]? = some (.cells #[.pointer (some ⟨w.heap.size, 0, none⟩)] 65) := by rw [← hW0]; exact bN
  have hN2 : W0.cell? ⟨w.heap.size + 2, 0, none⟩ = some (.pointer (some ⟨w.heap.size, 0, none⟩)) := Boxed.cell hN3
  have hB0 : Below w.heap.size w W0 := by rw [← hW0]; exact (((Below.refl _ w).alloc (Nat.le_refl _) _).alloc (by simp) _).alloc (by simp; omega) _
  have hR0 : W0.cell? ⟨w.heap.size, 4, none⟩ = some (.bool e.ref) := by simp [World.cell?, hE, Ev.arr]
  rw [hW0]
  clear bO bN hW0
  have KB : ∀ (W : World) (l : Nat) (o o' : Obj), W0.heap.size ≤ l → W.heap[l]? = some o → o.isCells = false → o.isWalk = false → KpE (w.heap.size + 2) w.heap.size e.ref W (W.putObj l o') := fun W l o o' _ h1 h2 _ => KpE.book W l o o' h1 h2
  refine wpIn_rangeFunc_ownG hro h1 (gf := 49) (lb := #[.pointer (some ⟨w.heap.size + 2, 0, none⟩)]) rfl hN1 (enters_of Try.func49 (by kernel_rfl) rfl)
    (numbers1_stops F (n - 1) hN1 hro (by omega) (w.heap.size + 2) w.heap.size e.ref W0 (by omega) (by omega) hN2 hR0) (fun h k => KpE.trans h k) KB (Below.refl _ _) (fun _ => rfl)
    (fun pre W => ((∃ v, Boxed W (w.heap.size + 1) 39 v ∧ W.ownsRow w.heap.size 3 1 v pre.length ((pre.map e.num).map (Value.int .i64)) ∧ (v = .slice none 0 0 ↔ pre = [])) ∧ W.heap[w.heap.size]? = some (.cells e.arr 35) ∧ W.heap[w.heap.size + 2]? = some (.cells #[.pointer (some ⟨w.heap.size, 0, none⟩)] 65)) ∧ Below w.heap.size w W)
    (fun _ _ _ => False)
    (OwnFrom.and (OwnFrom.and (Own.from (holdsRow_own w.heap.size (w.heap.size + 1) 39 3 1 (fun pre : List Off => pre.length) (fun pre => (pre.map e.num).map (Value.int .i64)) (fun pre v => v = .slice none 0 0 ↔ pre = [])) _) (OwnFrom.and (Own.from (own_block _ _ _) _) (Own.from (own_block _ _ _) _))) (ownFrom_below (Nat.le_refl _) (by omega)))
    (fun _ _ _ _ _ hs _ _ => hs)
    ⟨⟨⟨_, hO, World.ownsRow_nil _ _ _ _, by simp⟩, hE, hN3⟩, hB0⟩
    (fun x => { tmps := #[.agg e.arr, .pointer (some ⟨w.heap.size, 0, none⟩), .slice none 0 0, .pointer (some ⟨w.heap.size + 1, 0, none⟩), .pointer (some ⟨w.heap.size, x.1, none⟩), .func (.func 49) #[] #[.pointer (some ⟨w.heap.size + 2, 0, none⟩)], .pointer (some ⟨w.heap.size, x.1, none⟩), undef, undef, undef, undef, undef, undef, undef], defers := [] }) ?assign ?body ?done ?stop
  case assign =>
    intro l x W K hK
    gi_wp2
    exact hK
  case body =>
    rintro l pre x W ⟨⟨⟨v, hv, hrow, hnil⟩, hE, hP⟩, hB⟩ hlt
    have hc := hv.cell
    have hc0 : W.cell? ⟨w.heap.size, x.1, none⟩ = some (.int .i64 (e.num x)) := by
      have := e.num_at x
      simp only [World.cell?, hE, Ev.arr_cells]
      simpa using this
    obtain ⟨v', w1, hrun, hown', hgrow, _⟩ := run_append_own (P := Try.prog) (W.drew.alloc (.cells #[.int .i64 (e.num x)] 3)) w.heap.size 39 39 3 i0 (.int .i64 0) 1 8 Try.underlying39 hi hz0 hz1 hz2 rfl (by decide) v pre.length _ (hrow.drew.alloc _) ⟨W.heap.size, 0, none⟩ 1 1 [.int .i64 (e.num x)] rfl (cell_one_new _ _ _) (by simp [Value.oneCell']) (by unfold maxLen; omega) (by omega) (by have := hB.size; simp; omega)
    replace hrun : appR Try.prog #[39, 39] 39 #[v, .slice (some ⟨W.heap.size, 0, none⟩) 1 1] (W.alloc (.cells #[.int .i64 (e.num x)] 3)).drew = .ok v' w1 := hrun
    obtain ⟨g', cap', rfl⟩ := ownsRow_succ hown'
    obtain ⟨hv1, hv2, hr2, hk2, hb2⟩ := Boxed.appended (W := W.drew) hv (by decide) hrow hB.size (by omega) hown' hgrow
    have hc1 := hv1.cell
    have hf1 := hv1.frozen
    have hE' := grown_keep (p := ⟨w.heap.size + 1, 0, none⟩) (W := W.drew) hE hgrow (block_not_row (W := W.drew) hE (by decide) hrow) (by simp) (.slice (some ⟨g', 0, none⟩) (pre.length + 1) cap')
    have hP' := grown_keep (p := ⟨w.heap.size + 1, 0, none⟩) (W := W.drew) hP hgrow (block_not_row (W := W.drew) hP (by decide) hrow) (by simp) (.slice (some ⟨g', 0, none⟩) (pre.length + 1) cap')
    have hlv := hv.lt
    have hl0 : w.heap.size < W.heap.size := by omega
    have HK : KpE (w.heap.size + 2) w.heap.size e.ref W (w1.setCell ⟨w.heap.size + 1, 0, none⟩ (.slice (some ⟨g', 0, none⟩) (pre.length + 1) cap')) := fun _ => ⟨Boxed.cell hP', by simp [World.cell?, hE', Ev.arr]⟩
    have HK2 : KeepsFrom W0.heap.size W (w1.setCell ⟨w.heap.size + 1, 0, none⟩ (.slice (some ⟨g', 0, none⟩) (pre.length + 1) cap')) := ((KeepsOthers.drew W).trans hk2).from _
    have HB : Below w.heap.size w (w1.setCell ⟨w.heap.size + 1, 0, none⟩ (.slice (some ⟨g', 0, none⟩) (pre.length + 1) cap')) := hB.trans ⟨hb2.os, hb2.tape, hb2.output, hb2.size, hb2.block⟩
    have hr3 : (w1.setCell ⟨w.heap.size + 1, 0, none⟩ (.slice (some ⟨g', 0, none⟩) (pre.length + 1) cap')).ownsRow w.heap.size 3 1 (.slice (some ⟨g', 0, none⟩) (pre.length + 1) cap') (pre ++ [x]).length (((pre ++ [x]).map e.num).map (Value.int .i64)) := by
      simpa using hr2
    have HX : ∃ v, Boxed (w1.setCell ⟨w.heap.size + 1, 0, none⟩ (.slice (some ⟨g', 0, none⟩) (pre.length + 1) cap')) (w.heap.size + 1) 39 v ∧ (w1.setCell ⟨w.heap.size + 1, 0, none⟩ (.slice (some ⟨g', 0, none⟩) (pre.length + 1) cap')).ownsRow w.heap.size 3 1 v (pre ++ [x]).length (((pre ++ [x]).map e.num).map (Value.int .i64)) ∧ (v = .slice none 0 0 ↔ pre ++ [x] = []) := ⟨_, hv2, hr3, by simp⟩
    have HD := Lib.hid (And.intro HK2 (And.intro HK (And.intro (And.intro (And.intro HX (And.intro hE' hP')) HB) trivial)))
    clear HX HK2 HK HB hr3 hE' hP' hk2 hb2 hr2 hv2 hB hrow hown' hgrow hnil hE hP hv1 KB hN3 hO hB0 hv
    gi_wp2
    gi_region_o
    all_goals gi_wp2
    all_goals exact ⟨HD.out.1, HD.out.2.1, HD.out.2.2.1⟩
  case done =>
    rintro D ys W hD rfl ⟨⟨⟨v, hv, hrow, hnil⟩, _⟩, hB⟩ hK
    have hc := hv.cell
    rw [e.offs_nums] at hrow
    have hlen : (offR e.ref).length = e.nums.length := by rw [← e.offs_nums, List.length_map]
    rw [hlen] at hrow
    have hne : e.nums ≠ [] := by unfold Ev.nums; simp
    obtain ⟨A, c, rfl⟩ : ∃ A c, v = .slice A e.nums.length c := by
      rcases hrow.2 with ⟨h1, h2⟩ | ⟨g, cap, _, h1, _⟩
      · exact absurd (List.length_eq_zero_iff.1 h2) hne
      · exact ⟨_, _, h1⟩
    have HR := Lib.hid (And.intro hrow (And.intro hB (And.intro hnil hlen)))
    clear hrow hB hnil hlen hne
    gi_wp2
    refine ⟨by simp, .inl ⟨_, _, rfl, run_takeDeferred hK, ?_⟩⟩
    exact ⟨_, results_tmp rfl _ _ _, A, c, rfl, ownsRow_putObj HR.out.1 _ hK rfl, HR.out.2.1.trans (belowK_b (w := w) (Nat.le_refl _) W D _ _ (by omega) hK rfl rfl)⟩
  case stop =>
    rintro D c pre W _ _ h _
    exact h.elim
end Go.Proofs.Ytgjpbhgobjlneaa
