/- Plain helpers, no program in sight: a map keyed by ints that a call has made, known as a function from ints to values. Conditions: none. -/
import Derived.Test.YtgjpbhgobjlneaaLib2
import Derived.Maps.OwnIn
import Derived.Maps.Own
import Derived.Maps.OwnSet
namespace Go.Proofs.Ytgjpbhgobjlneaa
open Go.RowKit
open Go.Maps (Keyed)
/-- The world with block b replaced by whatever. -/
def pb (w : World) (b : Nat) (o : Obj) : World := { w with heap := w.heap.setIfInBounds b o }
section
variable (w : World) (g : Nat) (o : Obj)
@[go_sem] theorem pb_size : (pb w g o).heap.size = w.heap.size := by simp [pb]
@[go_sem ↓] theorem lt_pb (n : Nat) : (n < (pb w g o).heap.size) = (n < w.heap.size) := by rw [pb_size]
theorem pb_get_same (h : g < w.heap.size) : (pb w g o).heap[g]? = some o := by simp [pb, h]
@[go_sem] theorem pb_get_other (n : Nat) (h : n ≠ g) : (pb w g o).heap[n]? = w.heap[n]? := by
  simp only [pb]; rw [Array.getElem?_setIfInBounds, if_neg (fun e => h e.symm)]
@[go_sem] theorem pb_cell_other (n i : Nat) (h : n ≠ g) : (pb w g o).cell? ⟨n, i, none⟩ = w.cell? ⟨n, i, none⟩ :=
  World.cell?_of_block (a := ⟨n, i, none⟩) (pb_get_other w g o n h)
@[go_sem] theorem pb_frozen_other (n i : Nat) (h : n ≠ g) : (pb w g o).frozen? ⟨n, i, none⟩ = w.frozen? ⟨n, i, none⟩ :=
  World.frozen?_of_block (a := ⟨n, i, none⟩) (pb_get_other w g o n h)
@[go_sem] theorem pb_drew : pb w.drew g o = (pb w g o).drew := rfl
@[go_sem] theorem pb_drewN (n : Nat) : pb (w.drewN n) g o = (pb w g o).drewN n := rfl
@[go_sem] theorem pb_pb (o' : Obj) : pb (pb w g o) g o' = pb w g o' := by simp [pb]
theorem grownBy_pb : w.grownBy (pb w g o) (some g) := ⟨rfl, rfl, rfl, by simp [pb], fun k _ hk => pb_get_other w g o k (fun e => hk (by rw [e]))⟩
end
theorem below_pb {B : Nat} {a w : World} (h : Below B a w) {b : Nat} (hb : B ≤ b) (o : Obj) : Below B a (pb w b o) :=
  ⟨h.os, h.tape, h.output, by rw [pb_size]; exact h.size, fun k hk => (pb_get_other w b o k (by omega)).trans (h.block k hk)⟩

def heldR (v : Value) : Option (DataW Value × List MemPlace) := some (.held v, [])
/-- Block b of w is a map of at most n entries, keyed by ints, that answers as f. -/
def IM (P : Program) (k : TypeId) (w : World) (b n : Nat) (f : Int → Option Value) : Prop :=
  ∃ D : DataW Value, w.ownsMap P k heldR b n D ∧ ∀ i, (Lit.int .i64 i).wf = true → (∀ z, D.atKey (.int .i64 i) (.held z) = .held ((f i).getD z)) ∧ Maps.has D (.int .i64 i) = (f i).isSome
def upd (f : Int → Option Value) (i : Int) (v : Value) : Int → Option Value := fun j => if j = i then some v else f j
section
variable {P : Program} {k t e : TypeId} {w : World} {b n : Nat} {f : Int → Option Value}
theorem IM.made (w : World) (P : Program) (k : TypeId) : IM P k (w.alloc (.map #[] 0)) w.heap.size 0 (fun _ => none) :=
  ⟨_, World.ownsMap_made w P k heldR, fun _ _ => ⟨fun _ => rfl, rfl⟩⟩
theorem IM.lt (h : IM P k w b n f) : b < w.heap.size := by obtain ⟨D, h, _⟩ := h; exact h.lt
theorem IM.keep {w' : World} (h : IM P k w b n f) (hk : w'.heap[b]? = w.heap[b]?) : IM P k w' b n f := by
  obtain ⟨D, ⟨es, clock, hb, r⟩, q⟩ := h
  exact ⟨D, ⟨es, clock, hk.trans hb, r⟩, q⟩
theorem IM.below {B : Nat} {w' : World} (h : IM P k w b n f) (hb : Below B w w') (hB : b < B) : IM P k w' b n f := h.keep (hb.block b hB)
theorem IM.grw {w' : World} (h : IM P k w b n f) (g : Grw w w') : IM P k w' b n f := h.keep (g.below.block b h.lt)
theorem IM.grown {w' : World} {row : Option Nat} (h : IM P k w b n f) (hg : w.grownBy w' row) (hne : some b ≠ row) : IM P k w' b n f := h.keep (hg.block b h.lt hne)
theorem IM.setCell (h : IM P k w b n f) {p : Addr} (hp : b ≠ p.block) (v : Value) : IM P k (w.setCell p v) b n f := h.keep (Below.heap_setCell w p v b hp)
theorem IM.onsb (h : IM P k w b n f) {g : Nat} (hg : b ≠ g) (t : TypeId) (cs : Array Value) : IM P k (sb w g t cs) b n f := h.keep (sb_get_other w g t cs b hg)
theorem IM.onpb (h : IM P k w b n f) {g : Nat} (hg : b ≠ g) (o : Obj) : IM P k (pb w g o) b n f := h.keep (pb_get_other w g o b hg)
theorem IM.alloc (h : IM P k w b n f) (o : Obj) : IM P k (w.alloc o) b n f := h.keep (Below.heap_alloc w o b h.lt)
theorem IM.drew (h : IM P k w b n f) : IM P k w.drew b n f := h
theorem IM.drewN (h : IM P k w b n f) (m : Nat) : IM P k (w.drewN m) b n f := h
theorem IM.ext (h : IM P k w b n f) (xh : Array Obj) (xd : Nat) : IM P k (wext w xh xd) b n f := h.keep (wext_heap_lt w xh xd b h.lt)
theorem IM.look (h : IM P k w b n f) (hk : P.underlying k = some (.int .i64)) (ht : P.underlying t = some (.map k e)) {z : Value} (hz : (zeroValue e).run P w = .ok z w) {i : Int} (hi : (Lit.int .i64 i).wf = true) :
    (Instr.lookup t (.map (some b)) (.int .i64 i) true).run P w = .ok (.tuple #[(f i).getD z, .bool (f i).isSome]) w := by
  obtain ⟨D, ho, hf⟩ := h
  obtain ⟨v, ps, h1, h2⟩ := ho.look_ok (Maps.int_keyed hk) ht hz (zd := .held z) (zp := []) rfl (Maps.keyOf_int_mk hk hi)
  obtain ⟨h3, h4⟩ := hf i hi
  rw [h3 z, heldR] at h2
  simp only [Option.some.injEq, Prod.mk.injEq, DataW.held.injEq] at h2
  rw [h1, h2.1, h4]
theorem IM.look1 (h : IM P k w b n f) (hk : P.underlying k = some (.int .i64)) (ht : P.underlying t = some (.map k e)) {z : Value} (hz : (zeroValue e).run P w = .ok z w) {i : Int} (hi : (Lit.int .i64 i).wf = true) :
    (Instr.lookup t (.map (some b)) (.int .i64 i) false).run P w = .ok ((f i).getD z) w := by
  obtain ⟨D, ho, hf⟩ := h
  obtain ⟨v, ps, h1, h2⟩ := ho.lookup (Maps.int_keyed hk) ht hz (zd := .held z) (zp := []) rfl (Maps.keyOf_int_mk hk hi)
  obtain ⟨h3, h4⟩ := hf i hi
  rw [h3 z, heldR] at h2
  simp only [Option.some.injEq, Prod.mk.injEq, DataW.held.injEq] at h2
  rw [h1, h2.1]
theorem IM.store (h : IM P k w b n f) (hk : P.underlying k = some (.int .i64)) (ht : P.underlying t = some (.map k e)) (hn : n < maxLen) {i : Int} (hi : (Lit.int .i64 i).wf = true) (v : Value) :
    ∃ o, (Instr.mapUpdate t (.map (some b)) (.int .i64 i) v).run P w = .ok () (pb w b o) ∧ IM P k (pb w b o) b (n + 1) (upd f i v) := by
  obtain ⟨D, ho, hf⟩ := h
  have hM := ho.isMap
  obtain ⟨w', h1, h2, es, clock, es', clock', h3, h4⟩ := ho.store (d := .held v) (ps := []) (Maps.int_keyed hk) ht hn (Maps.keyOf_int_mk hk hi) rfl
  subst h4
  have hkl : WideAt.IsKeyLit (.int .i64 i) := (Maps.int_keyed hk).key (Maps.keyOf_int_mk hk hi)
  refine ⟨_, h1, _, h2, fun j hj => ?_⟩
  obtain ⟨h5, h6⟩ := hf j hj
  by_cases hji : j = i
  · subst hji
    rw [upd, if_pos rfl]
    exact ⟨fun z => Maps.atKey_put_same hM hkl _ _, Maps.has_put_same hM hkl _⟩
  · rw [upd, if_neg hji]
    have hne : Lit.int .i64 j ≠ Lit.int .i64 i := by simpa using hji
    exact ⟨fun z => (Maps.atKey_put_other hne _ _).trans (h5 z), (Maps.has_put_other hne _).trans h6⟩
theorem findIdx_stamp {es : Array MapEntry} (hn : (es.toList.map (·.born)).Nodup) {j : Nat} {x : MapEntry} (h : es[j]? = some x) (q : Nat) (hq : x.born = q) :
    es.findIdx? (fun y => ((y.born : Nat) : Int) == ((q : Nat) : Int)) = some j := by
  subst hq
  obtain ⟨hj, hx⟩ := Array.getElem?_eq_some_iff.1 h
  rw [Array.findIdx?_eq_some_iff_getElem]
  refine ⟨hj, by rw [hx]; simp, fun i hij => ?_⟩
  simp only [Bool.not_eq_true, beq_eq_false_iff_ne, ne_eq, Int.natCast_inj]
  intro e
  have := List.pairwise_iff_getElem.1 hn i j (by simp; omega) (by simp; omega) hij
  simp [hx, e] at this
theorem IM.entry (h : IM P k w b n f) (hk : P.underlying k = some (.int .i64)) (ht : P.underlying t = some (.map k e)) {z : Value} (hz : ∀ u : World, (zeroValue e).run P u = .ok z u) (hn : n < maxLen) {i : Int} (hi : (Lit.int .i64 i).wf = true) :
    ∃ (v0 : Value) (st : Nat) (o1 : Obj), (Instr.mapEntry t (.map (some b)) (.int .i64 i)).run P w = .ok (.tuple #[v0, goInt st]) (pb w b o1) ∧
      ∀ (w2 : World) (val : Value), w2.heap[b]? = some o1 → ∃ o2, (Instr.entryStore t (.map (some b)) (goInt st) val).run P w2 = .ok () (pb w2 b o2) ∧ IM P k (pb w2 b o2) b (n + 1) (upd f i val) := by
  have hS := fun v => h.store hk ht hn hi v
  obtain ⟨D, ⟨es, clock, hb, F, _, _⟩, _⟩ := h
  have K := Maps.int_keyed hk
  have hkey := Maps.keyOf_int_mk hk hi
  obtain ⟨s1, s2, _⟩ := F.stamped
  have key : ∀ (es1 : Array MapEntry) (c1 j st : Nat) (x : MapEntry) (v0 : Value), (Instr.mapEntry t (.map (some b)) (.int .i64 i)).run P w = .ok (.tuple #[v0, goInt st]) (pb w b (.map es1 c1)) → (es1.toList.map (·.born)).Nodup → es1[j]? = some x → x.born = st →
      (∀ val, (Instr.mapUpdate t (.map (some b)) (.int .i64 i) val).run P w = .ok () (pb w b (.map (es1.modify j fun y => { y with val := val }) c1))) →
      ∃ (v0 : Value) (st : Nat) (o1 : Obj), (Instr.mapEntry t (.map (some b)) (.int .i64 i)).run P w = .ok (.tuple #[v0, goInt st]) (pb w b o1) ∧
      ∀ (w2 : World) (val : Value), w2.heap[b]? = some o1 → ∃ o2, (Instr.entryStore t (.map (some b)) (goInt st) val).run P w2 = .ok () (pb w2 b o2) ∧ IM P k (pb w2 b o2) b (n + 1) (upd f i val) := by
    intro es1 c1 j st x v0 h1 hnd hx hst hup
    refine ⟨v0, st, _, h1, fun w2 val hw2 => ⟨.map (es1.modify j fun y => { y with val := val }) c1, ?_, ?_⟩⟩
    · simp [Instr.entryStore, MapKept.run_getObj_map hw2, asInt, asIntOf, goInt, findIdx_stamp hnd hx st hst, MapKept.run_setObj_map _ hw2, Result.andThen, pb]
    · obtain ⟨o, ho, hIM⟩ := hS val
      rw [hup val] at ho
      have e1 := congrArg (fun r : Result Unit => match r with | .ok _ u => u.heap[b]? | _ => none) ho
      have hbl : b < w.heap.size := (Array.getElem?_eq_some_iff.1 hb).1
      have hbl2 : b < w2.heap.size := (Array.getElem?_eq_some_iff.1 hw2).1
      simp only [pb_get_same w b _ hbl, Option.some.injEq] at e1
      subst e1
      exact hIM.keep ((pb_get_same w2 b _ hbl2).trans (pb_get_same w b _ hbl).symm)
  rcases K.find w hkey es.toList F.keys with ⟨h1, h2⟩ | ⟨j, x, h1, h2, h3⟩
  · refine key (es.push ⟨.int .i64 i, z, clock⟩) (clock + 1) es.size clock ⟨.int .i64 i, z, clock⟩ z ?_ ?_ (by simp) rfl fun val => ?_
    · simp [Instr.mapEntry, run_underlying ht, MapKept.run_getObj_map hb, K.check w false hkey, h1, hz, MapKept.run_setObj_map _ hb, Result.andThen, pb]
    · rw [Array.toList_push, List.map_append]
      refine List.nodup_append.2 ⟨s2, by simp, fun a ha c hc e1 => ?_⟩
      simp only [List.map_cons, List.map_nil, List.mem_singleton] at hc
      obtain ⟨x, hx, rfl⟩ := List.mem_map.1 ha
      have := s1 x hx
      omega
    · have hm : (es.push ⟨.int .i64 i, z, clock⟩).modify es.size (fun y => { y with val := val }) = es.push ⟨.int .i64 i, val, clock⟩ := by
        apply Array.ext_getElem?
        intro q
        rw [Array.getElem?_modify]
        by_cases hq : es.size = q
        · subst hq; simp
        · rw [if_neg hq, Array.getElem?_push, Array.getElem?_push, if_neg (fun e => hq e.symm), if_neg (fun e => hq e.symm)]
      rw [hm]
      simp [Instr.mapUpdate, run_underlying ht, MapKept.run_getObj_map hb, K.check w false hkey, h1, MapKept.run_setObj_map _ hb, Result.andThen, pb]
  · have hj : es[j]? = some x := by rw [← Array.getElem?_toList]; exact h2
    obtain ⟨hlt, hxe⟩ := Array.getElem?_eq_some_iff.1 hj
    have hsame : es.modify j (fun y => { y with key := .int .i64 i }) = es := by
      apply Array.ext_getElem?
      intro q
      rw [Array.getElem?_modify]
      by_cases hq : j = q
      · subst hq; rw [if_pos rfl, hj]; simp [← h3]
      · rw [if_neg hq]
    refine key es clock j x.born x x.val ?_ s2 hj rfl fun val => ?_
    · simp [Instr.mapEntry, run_underlying ht, MapKept.run_getObj_map hb, K.check w false hkey, h1, hj, h3, K.stays w hkey, hsame, MapKept.run_setObj_map _ hb, Result.andThen, pb]
    · have hm : es.modify j (fun y => { y with val := val }) = es.modify j (fun y => { y with key := .int .i64 i, val := val }) := by
        apply Array.ext_getElem?
        intro q
        rw [Array.getElem?_modify, Array.getElem?_modify]
        by_cases hq : j = q
        · subst hq; rw [if_pos rfl, if_pos rfl, hj]; simp [← h3]
        · rw [if_neg hq, if_neg hq]
      rw [hm]
      simp [Instr.mapUpdate, run_underlying ht, MapKept.run_getObj_map hb, K.check w false hkey, h1, hj, h3, K.stays w hkey, MapKept.run_setObj_map _ hb, Result.andThen, pb]
end
section
variable {F : Fence} {nF : Nat} {P : Program} (w : World) {ops : Array Oper} {rest : List Oper} {o : Oper} {a : Act} {Q : Exit → Act → World → Prop} {k t e : TypeId} {b n : Nat} {f : Int → Option Value}
theorem wpList_look (hg : o.guard = none) (m x : Operand) (t : TypeId) (hop : o.op = Op.lookup t m x true) (k e : TypeId) (hk : P.underlying k = some (.int .i64)) (ht : P.underlying t = some (.map k e)) {z : Value} (hz : (zeroValue e).run P w = .ok z w)
    (b n : Nat) (f : Int → Option Value) (hm : a.eval m = .map (some b)) (h : IM P k w b n f) (i : Int) (hi : (Lit.int .i64 i).wf = true) (hx : a.eval x = .int .i64 i)
    (hK : wpList P ops Q rest (a.put o.dst (.tuple #[(f i).getD z, .bool (f i).isSome])) w) : wpList P ops Q (o :: rest) a w := by
  refine wpList_plain hg fun K' hK' => ?_
  unfold Oper.wp
  simp [execOp, hop, hm, hx, h.look hk ht hz hi, Result.andThen]
  exact hK' _ _ hK
theorem wpList_look1 (hg : o.guard = none) (m x : Operand) (t : TypeId) (hop : o.op = Op.lookup t m x false) (k e : TypeId) (hk : P.underlying k = some (.int .i64)) (ht : P.underlying t = some (.map k e)) {z : Value} (hz : (zeroValue e).run P w = .ok z w)
    (b n : Nat) (f : Int → Option Value) (hm : a.eval m = .map (some b)) (h : IM P k w b n f) (i : Int) (hi : (Lit.int .i64 i).wf = true) (hx : a.eval x = .int .i64 i)
    (hK : wpList P ops Q rest (a.put o.dst ((f i).getD z)) w) : wpList P ops Q (o :: rest) a w := by
  refine wpList_plain hg fun K' hK' => ?_
  unfold Oper.wp
  simp [execOp, hop, hm, hx, h.look1 hk ht hz hi, Result.andThen]
  exact hK' _ _ hK
theorem wpList_mput (hg : o.guard = none) (m x v : Operand) (t : TypeId) (hop : o.op = Op.mapUpdate t m x v) (k e : TypeId) (hk : P.underlying k = some (.int .i64)) (ht : P.underlying t = some (.map k e))
    (b n : Nat) (f : Int → Option Value) (hm : a.eval m = .map (some b)) (h : IM P k w b n f) (hn : n < maxLen) (i : Int) (hi : (Lit.int .i64 i).wf = true) (hx : a.eval x = .int .i64 i) (u : Value) (hv : a.eval v = u)
    (hK : ∀ ob, IM P k (pb w b ob) b (n + 1) (upd f i u) → wpList P ops Q rest (a.put o.dst undef) (pb w b ob)) : wpList P ops Q (o :: rest) a w := by
  refine wpList_plain hg fun K' hK' => ?_
  obtain ⟨ob, h1, h2⟩ := h.store hk ht hn hi u
  unfold Oper.wp
  simp [execOp, hop, hm, hx, hv, h1, Result.andThen]
  exact hK' _ _ (hK ob h2)
theorem wpList_entry (hg : o.guard = none) (m x : Operand) (t : TypeId) (hop : o.op = Op.mapEntry t m x) (k e : TypeId) (hk : P.underlying k = some (.int .i64)) (ht : P.underlying t = some (.map k e)) {z : Value} (hz : ∀ u : World, (zeroValue e).run P u = .ok z u)
    (b n : Nat) (f : Int → Option Value) (hm : a.eval m = .map (some b)) (h : IM P k w b n f) (hn : n < maxLen) (i : Int) (hi : (Lit.int .i64 i).wf = true) (hx : a.eval x = .int .i64 i)
    (hK : ∀ v0 st o1, (∀ (w2 : World) (val : Value), w2.heap[b]? = some o1 → ∃ o2, (Instr.entryStore t (.map (some b)) (.int .i64 (st : Nat)) val).run P w2 = .ok () (pb w2 b o2) ∧ IM P k (pb w2 b o2) b (n + 1) (upd f i val)) →
      wpList P ops Q rest (a.put o.dst (.tuple #[v0, .int .i64 (st : Nat)])) (pb w b o1)) : wpList P ops Q (o :: rest) a w := by
  refine wpList_plain hg fun K' hK' => ?_
  obtain ⟨v0, st, o1, h1, h2⟩ := h.entry hk ht hz hn hi
  unfold Oper.wp
  simp [execOp, hop, hm, hx, h1, Result.andThen]
  exact hK' _ _ (hK v0 st o1 h2)
theorem wpList_estore (hg : o.guard = none) (m x v : Operand) (t : TypeId) (hop : o.op = Op.entryStore t m x v) (b : Nat) (st u : Value) (ob : Obj) (hm : a.eval m = .map (some b)) (hx : a.eval x = st) (hv : a.eval v = u)
    (h1 : (Instr.entryStore t (.map (some b)) st u).run P w = .ok () (pb w b ob))
    (hK : wpList P ops Q rest (a.put o.dst undef) (pb w b ob)) : wpList P ops Q (o :: rest) a w := by
  refine wpList_plain hg fun K' hK' => ?_
  unfold Oper.wp
  simp [execOp, hop, hm, hx, hv, h1, Result.andThen]
  exact hK' _ _ hK
theorem wpListIn_look (hg : o.guard = none) (m x : Operand) (t : TypeId) (hop : o.op = Op.lookup t m x true) (k e : TypeId) (hk : P.underlying k = some (.int .i64)) (ht : P.underlying t = some (.map k e)) {z : Value} (hz : (zeroValue e).run P w = .ok z w)
    (b n : Nat) (f : Int → Option Value) (hm : a.eval m = .map (some b)) (h : IM P k w b n f) (i : Int) (hi : (Lit.int .i64 i).wf = true) (hx : a.eval x = .int .i64 i)
    (hK : wpListIn F nF P ops Q rest (a.put o.dst (.tuple #[(f i).getD z, .bool (f i).isSome])) w) : wpListIn F nF P ops Q (o :: rest) a w := by
  refine wpListIn_plain hg fun K' hK' => ?_
  unfold Oper.wpIn
  refine ⟨by simp [Oper.about, hop], ?_⟩
  rw [Oper.semAt_plain F _ _ (by rw [hop]; intro c hc'; cases hc')]
  simp [execOp, hop, hm, hx, h.look hk ht hz hi, Result.andThen]
  exact hK' _ _ hK
theorem wpListIn_mput (hg : o.guard = none) (m x v : Operand) (t : TypeId) (hop : o.op = Op.mapUpdate t m x v) (k e : TypeId) (hk : P.underlying k = some (.int .i64)) (ht : P.underlying t = some (.map k e))
    (b n : Nat) (f : Int → Option Value) (hm : a.eval m = .map (some b)) (h : IM P k w b n f) (hn : n < maxLen) (i : Int) (hi : (Lit.int .i64 i).wf = true) (hx : a.eval x = .int .i64 i) (u : Value) (hv : a.eval v = u)
    (hK : ∀ ob, IM P k (pb w b ob) b (n + 1) (upd f i u) → wpListIn F nF P ops Q rest (a.put o.dst undef) (pb w b ob)) : wpListIn F nF P ops Q (o :: rest) a w := by
  refine wpListIn_plain hg fun K' hK' => ?_
  obtain ⟨ob, h1, h2⟩ := h.store hk ht hn hi u
  unfold Oper.wpIn
  refine ⟨by simp [Oper.about, hop], ?_⟩
  rw [Oper.semAt_plain F _ _ (by rw [hop]; intro c hc'; cases hc')]
  simp [execOp, hop, hm, hx, hv, h1, Result.andThen]
  exact hK' _ _ (hK ob h2)
end
end Go.Proofs.Ytgjpbhgobjlneaa
