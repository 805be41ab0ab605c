/- Calls that are handed several of the caller's own blocks, may turn them, and leave new ones, on plain data. No program in sight. Conditions: none. -/
import Derived.Test.YtofmlhpcobjfcaaDoorMg8
import Derived.Test.YtofmlhpcobjfcaaDoorMg9
import Derived.Test.YtofmlhpcobjfcaaDoorMg10
import Derived.Test.YtofmlhpcobjfcaaDoorMg20
import Derived.Test.YtofmlhpcobjfcaaDoorMg21
import Derived.Test.YtofmlhpcobjfcaaDoorMg11
import Derived.Test.YtofmlhpcobjfcaaDoorMg27
import Derived.Test.YtofmlhpcobjfcaaDoorMg28
set_option linter.unusedVariables false
set_option linter.unusedSimpArgs false
namespace Go.Proofs.YtofmlhpcobjfcaaDoor
open Go.RowKit
/-! ### Blocks by other numbers -/
/-! ### A row with some places turned, and more behind it -/
/-! ### Views -/
section
variable {V : Vw} {σ : List Nat} {st0 : List Bx}
end
/-! ### Back -/
/-! ### Numbers of the caller's, and of the callee's -/
/-! ### Calls -/
section
variable {P : Program} {C : Cx P} {ops : Array Oper} {r : List Oper} {e : Nat → D} {st : List Bx} {dst : Option Nat} {ty : TypeId} {pos : String} {after : Array Edge} {K : (Nat → D) → List Bx → Prop} {f : FuncId} {y : Operand} {xs : List Operand} {caps : List A} {tys : Array TypeId} {vs ds : List D} {σ : List Nat} {bs st0 st1 st' : List Bx} {d d' g : D}
end
/-! ### How such a one is walked -/
end Go.Proofs.YtofmlhpcobjfcaaDoor
namespace Go.Proofs.YtofmlhpcobjfcaaDoor
open Go.RowKit
theorem run_lit0 {P : Program} {w : World} {t e : TypeId} {ie : TypeInfo} (hu : P.underlying t = some (.slice e)) (hie : P.info? e = some ie) : (Instr.buildSlice t 0 #[]).run P w = .ok (.slice (some ⟨w.heap.size, 0, none⟩) 0 0) (w.alloc (.cells #[] e)) := by
  simp [Instr.buildSlice, run_underlying hu, sizeOf, typeInfo, hie, newRow, Instr.fill]
  congr 2
  apply Array.eq_empty_of_size_eq_zero; simp
theorem run_equalNil {P : Program} {w : World} {T el : TypeId} {a : Option Addr} {l c : Nat} (hu : P.underlying T = some (.slice el)) (d : Nat) : (Op.equalIn (d + 1) T (.slice a l c) (.slice none 0 0)).run P w = .ok a.isNone w := by
  simp only [Op.equalIn, Sem.run_bind, run_underlying hu, Result.andThen_ok]
  cases a <;> rfl
theorem run_eqNil {P : Program} {w : World} {T el : TypeId} {a : Option Addr} {l c : Nat} (hu : P.underlying T = some (.slice el)) (q : Bool) : (binOp (bif q then .neq else .eql) T (.slice a l c) (.slice none 0 0)).run P w = .ok (.bool (a.isNone != q)) w := by
  have h : (Op.equal T (.slice a l c) (.slice none 0 0)).run P w = .ok a.isNone w := run_equalNil hu 9999
  cases q
  · show (do pure (.bool (← Op.equal T (.slice a l c) (.slice none 0 0)) : Value) : Sem Value).run P w = _
    rw [Sem.run_bind, h, Result.andThen_ok, Sem.run_pure]; cases a <;> rfl
  · show (do pure (.bool (!(← Op.equal T (.slice a l c) (.slice none 0 0))) : Value) : Sem Value).run P w = _
    rw [Sem.run_bind, h, Result.andThen_ok, Sem.run_pure]; cases a <;> rfl
theorem guard_nil {P : Program} {w : World} {T : TypeId} {a : Option Addr} {l c : Nat} (q : Bool) (x y : Operand) : (eqGuard (bif q then .neq else .eql) T x y (.slice a l c) (.slice none 0 0)).run P w = .ok () w := by cases q <;> rfl
section
variable {P : Program} {C : Cx P} {ops : Array Oper} {r : List Oper} {st : List Bx} {e : Nat → D} {o : Oper} {dst : Option Nat} {ty : TypeId} {pos : String} {after : Array Edge} {K : (Nat → D) → List Bx → Prop} {T T' : TypeId} {n bs : Nat} {zr : List A}
theorem OpG.lit0 (ho : o.op = .buildSlice T 0 ⟨[]⟩) (hn : es P T = some n) (hn0 : 0 < n) (hz : zrT P T = some zr) (hzl : zr.length = n) (hby : byt P T = some bs) : OpG P st e o (.a (.own st.length 0)) (st ++ [.arr 0 n []]) := by
  intro ρ V hst hok hu
  subst hst
  obtain ⟨el, inf, z, hel, hinfo, hzz, hsz, hzc, hbs, hzr⟩ := slT hn hz hzl hby
  have hexec : (execOp ρ o).run P V.w = ((Instr.buildSlice T 0 #[]).run P V.w).andThen fun v w => .ok (.value v) w := by
    simp only [execOp, ho, Sem.run_bind, Sem.run_pure]
    congr 3
    apply Array.eq_empty_of_size_eq_zero; simp
  rw [hexec, run_lit0 hel hinfo, Result.andThen_ok]
  have hnewc : (V.w.alloc (.cells #[] el)).heap[V.w.heap.size]? = some (.cells #[] el (0, 0)) := block_alloc _ _ _ rfl
  have hown := own_push (V := V) hok.len #[] el n 0 [] hnewc (by simp) (Nat.le_refl 0)
  exact .val (Step.pushA hok #[] el n 0 [] ((Grw.refl V.w).alloc _) hnewc (by simp) hn0 (Nat.le_refl 0) (fun k row hk => by simp at hk) (fun k row j y hk => by simp at hk)) (.a _ _ hown)
theorem RS.lit0 {len : Nat} (hl : len = 0) (hn : es P T = some n) (hn0 : 0 < n) (hz : zrT P T = some zr) (hzl : zr.length = n) (hby : byt P T = some bs) (k : RS C ops r (putE e dst (.a (.own st.length 0))) (st ++ [.arr 0 n []]) K) : RS C ops (⟨dst, .buildSlice T len ⟨[]⟩, ty, pos, after, none⟩ :: r) e st K := by
  subst hl
  exact .inl ⟨_, _, .inl ⟨rfl, OpG.lit0 rfl hn hn0 hz hzl hby⟩, k⟩
theorem sl_inv {V : Vw} {rows : List (List A)} {u : Value} (h : RepD V (.a (.sl rows)) u) : ∃ a l c, u = .slice a l c ∧ (0 < rows.length → a.isNone = false) := by
  cases h with
  | a _ _ h => cases h with
    | c _ _ h => cases h with
      | sl0 a c => exact ⟨a, 0, c, rfl, fun h => by simp at h⟩
      | sl rows n b o c val _ _ _ _ _ _ => exact ⟨_, _, _, rfl, fun _ => rfl⟩
theorem nl_inv {V : Vw} {u : Value} (h : RepD V (.a .nl) u) : u = .slice none 0 0 := by
  cases h with
  | a _ _ h => cases h with
    | c _ _ h => cases h; rfl
theorem RS.eqNil {rows : List (List A)} {q : Bool} {op : BinOp} {x : Operand} {g : D} (hq : op = bif q then .neq else .eql) (hx : evO e x = .a (.sl rows)) (hT : isSl P T = true) (hg : e 1000000 = g) (h : ∀ b, (0 < rows.length → b = q) → RS C ops r (upd (putE e dst (.a (.v (.bool b)))) 1000000 g) st K) :
    RS C ops (⟨dst, .binOp op T x (.const (.slice none 0 0)) T', ty, pos, after, none⟩ :: r) e st K := by
  refine .inr ⟨rfl, fun d st' g' => st' = st ∧ g' = g ∧ ∃ b, (0 < rows.length → b = q) ∧ d = .a (.v (.bool b)), ?_, ?_⟩
  · intro ρ V Nx hst hok hsep hnx henv hu
    subst hst
    rw [hg] at henv
    have h1 := hu x (by simp [usedO, Op.operands])
    rw [hx] at h1
    have h2 := hu (.const (.slice none 0 0)) (by simp [usedO, Op.operands])
    have h2 : ρ (.const (.slice none 0 0)) = .slice none 0 0 := nl_inv h2
    obtain ⟨a, l, c, ha, hne⟩ := sl_inv h1
    obtain ⟨el, hel⟩ : ∃ el, P.underlying T = some (.slice el) := by
      unfold isSl at hT
      split at hT
      · exact ⟨_, by assumption⟩
      · cases hT
    have hrun : (execOp ρ ⟨dst, .binOp op T x (.const (.slice none 0 0)) T', ty, pos, after, none⟩).run P V.w = .ok (.value (.bool (a.isNone != q))) V.w := by
      simp only [execOp, ha, h2, hq, Sem.run_bind, guard_nil, run_eqNil hel, Result.andThen_ok, Sem.run_pure]
    rw [hrun]
    exact ⟨_, V.st, g, V.x, V.bl, ⟨rfl, rfl, _, fun h => by rw [hne h]; cases q <;> rfl, rfl⟩, .refl hok, henv, .v rfl⟩
  · rintro d st' g' ⟨rfl, rfl, b, hb, rfl⟩
    exact h b hb
/-! ### Maps -/
variable {m kx x i : Operand} {j : Nat} {k : KS} {wd : Bool} {es2 : List (Value × List A)} {kv : Value} {z row : List A} {ok : Bool}
end
end Go.Proofs.YtofmlhpcobjfcaaDoor
namespace Go.Proofs.YtofmlhpcobjfcaaDoor
open Go.RowKit
/-! ### What the reckoning turns to -/
section
variable {σ : List Nat} {i k n m o : Nat} {x : A} {l r : List A} {d : D} {ds : List D} {b : Bx} {bs : List Bx} {st : List Bx} {es : List (Value × List A)} {wd : Bool} {q : KS}
@[go_sem] theorem seeA_own {v : Nat} : seeA st (.own i v) = (match st[i]? with | some (.arr ver' _ rows) => if v = ver' then .sl rows else .own i v | _ => .own i v) := rfl
end
theorem allLen_map {α : Type} {f : α → List A} {n : Nat} (h : ∀ x, (f x).length = n) (l : List α) : allLen n (l.map f) = true := by simp [allLen, h]
@[go_sem] theorem allLen_str {l : List (List UInt8)} : allLen 1 (l.map strAt) = true := allLen_map (f := strAt) (fun _ => rfl) l
@[go_sem] theorem allLen_ow {l : List (Int × Int)} : allLen 2 (l.map owAt) = true := allLen_map (f := owAt) (fun _ => rfl) l
attribute [go_sem] List.getD_cons_zero List.getD_cons_succ List.length_append List.length_singleton List.length_replicate List.append_nil
/-! ### Short rules -/
section
variable {P : Program} {C : Cx P} {ops : Array Oper} {r : List Oper} {st st' : List Bx} {e : Nat → D} {dst : Option Nat} {ty : TypeId} {pos : String} {after : Array Edge} {K : (Nat → D) → List Bx → Prop} {T T' : TypeId} {n bs i ver : Nat} {zr : List A} {rows rows2 rows' : List (List A)} {s x y : Operand} {f : FuncId} {xs : List Operand} {tys : Array TypeId} {d d' g : D} {ds vs : List D} {st0 st1 bs' : List Bx} {m kx ix : Operand} {j : Nat} {k : KS} {wd : Bool} {es2 es3 : List (Value × List A)} {kv : Value} {z row : List A} {ok : Bool}
theorem RS.aO (k : RS C ops r (putE e dst (.a (.own i (ver + 1)))) (st.set i (.arr (ver + 1) n rows')) K) (hs : evO e s = .a (.own i ver) := by (simp only [go_sem, simprocAttr, fx]) <;> rfl) (ha : st[i]? = some (.arr ver n rows) := by (simp only [go_sem, simprocAttr, fx]) <;> rfl) (hx : rowsOf st (evO e x) = some rows2 := by (simp only [go_sem, simprocAttr, fx]) <;> rfl) (hn : es P T = some n := by (simp only [go_sem]) <;> rfl) (hz : zrT P T = some zr := by (simp only [go_sem]) <;> rfl) (hzl : zr.length = n := by (simp only [go_sem]) <;> rfl) (hby : byt P T = some bs := by (simp only [go_sem]) <;> rfl) (hl2 : allLen n rows2 = true := by (simp only [go_sem, simprocAttr, fx]) <;> rfl)
    (hb1 : (rows.length + rows2.length) * bs ≤ 140737488355328 := by (try simp only [go_sem]); omega) (hb2 : rows.length + rows2.length ≤ 4611686018427387904 := by (try simp only [go_sem]); omega) (hr : rows ++ rows2 = rows' := by (simp only [go_sem, simprocAttr, fx]) <;> rfl) : RS C ops (⟨dst, .call ⟨.builtin .append, ⟨[s, x]⟩, ⟨[T, T]⟩⟩, ty, pos, after, none⟩ :: r) e st K := RS.appO hs ha hx hn hz hzl hby hl2 hb1 hb2 hr k
theorem RS.mS {len : Nat} {kl kc : IntKind} (k : RS C ops r (putE e dst (.a (.own st.length 0))) (st ++ [.arr 0 n (List.replicate len zr)]) K) (hx : evO e x = .a (.v (.int kl (len : Nat))) := by (simp only [go_sem, simprocAttr, fx]) <;> rfl) (hy : evO e y = .a (.v (.int kc (len : Nat))) := by (simp only [go_sem, simprocAttr, fx]) <;> rfl) (hn : es P T = some n := by (simp only [go_sem]) <;> rfl) (hn0 : 0 < n := by decide) (hz : zrT P T = some zr := by (simp only [go_sem]) <;> rfl) (hzl : zr.length = n := by (simp only [go_sem]) <;> rfl) (hcl : zr.all clA = true := by (simp only [go_sem]) <;> rfl) (hby : byt P T = some bs := by (simp only [go_sem]) <;> rfl)
    (hb1 : len * bs ≤ 281474976710656 := by (try simp only [go_sem]); omega) (hb2 : len ≤ 4611686018427387904 := by (try simp only [go_sem]); omega) : RS C ops (⟨dst, .makeSlice T x y, ty, pos, after, none⟩ :: r) e st K := RS.mk hx hy hn hn0 hz hzl hcl hby hb1 hb2 k
theorem RS.l0 {len : Nat} (k : RS C ops r (putE e dst (.a (.own st.length 0))) (st ++ [.arr 0 n []]) K) (hl : len = 0 := by rfl) (hn : es P T = some n := by (simp only [go_sem]) <;> rfl) (hn0 : 0 < n := by decide) (hz : zrT P T = some zr := by (simp only [go_sem]) <;> rfl) (hzl : zr.length = n := by (simp only [go_sem]) <;> rfl) (hby : byt P T = some bs := by (simp only [go_sem]) <;> rfl) : RS C ops (⟨dst, .buildSlice T len ⟨[]⟩, ty, pos, after, none⟩ :: r) e st K := RS.lit0 hl hn hn0 hz hzl hby k
theorem RS.sE {z off : Nat} {row xs : List A} (k : RS C ops r (putE e dst .undef) (st.set i (.arr ver n rows')) K) (hx : evO e x = .a (.ep i ver z off) := by (simp only [go_sem, simprocAttr, fx]) <;> rfl) (ha : st[i]? = some (.arr ver n rows) := by (simp only [go_sem, simprocAttr, fx]) <;> rfl) (hz : rows[z]? = some row := by (simp only [go_sem, simprocAttr, fx]) <;> rfl) (hy : dCells (evO e y) = some xs := by (simp only [go_sem, simprocAttr, fx]) <;> rfl) (hc : xs.all clA = true := by (simp only [go_sem, simprocAttr, fx]) <;> rfl) (hT : szo P T = some xs.length := by (simp only [go_sem, simprocAttr, fx]) <;> rfl) (hle : off + xs.length ≤ row.length := by simp only [go_sem, simprocAttr, fx])
    (hr : rows.set z (putRow row off xs) = rows' := by (simp only [go_sem, simprocAttr, fx]) <;> rfl) : RS C ops (⟨dst, .store T x y, ty, pos, after, none⟩ :: r) e st K := RS.stoE hx ha hz hy hc hT hle hr k
theorem RS.eN (h : ∀ b, (0 < rows.length → b = false) → RS C ops r (upd (putE e dst (.a (.v (.bool b)))) 1000000 g) st K) (hx : evO e x = .a (.sl rows) := by (simp only [go_sem, simprocAttr, fx]) <;> rfl) (hT : isSl P T = true := by simp only [go_sem]) (hg : e 1000000 = g := by (simp only [go_sem, simprocAttr]) <;> rfl) : RS C ops (⟨dst, .binOp .eql T x (.const (.slice none 0 0)) T', ty, pos, after, none⟩ :: r) e st K := RS.eqNil (q := false) rfl hx hT hg h
/-- A call through a value. -/
theorem RS.cvv {caps : List A} (hy : evO e y = .a (.fn f caps) := by (simp only [go_sem, simprocAttr, fx]) <;> rfl) (hx : xs.map (evO e) ++ caps.map D.a = ds := by (simp only [go_sem, simprocAttr, fx]) <;> rfl) (hc : ds.all clD = true := by simp only [go_sem, List.all_cons, List.all_nil, Bool.and_true, fx]) (hp : DPure P f ds d) (h : RS C ops r (putE e dst d) st K) : RS C ops (⟨dst, .call ⟨.value y, ⟨xs⟩, tys⟩, ty, pos, after, none⟩ :: r) e st K := RS.callv hy hx hc hp h
end
/-! ### How such a one ends -/
section
variable {P : Program} {n t : Nat} {O : D → List Bx → D → Prop} {e : Nat → D} {st : List Bx} {rs : List ResultVar} {d : D} {ds : List D}
end
end Go.Proofs.YtofmlhpcobjfcaaDoor
namespace Go.Proofs.YtofmlhpcobjfcaaDoor
open Go.RowKit
/-- So many are done, the others are empty yet. -/
def part {α : Type} (f : α → List A) (z : List A) (l : List α) (k : Nat) : List (List A) := (l.take k).map f ++ List.replicate (l.length - k) z
theorem part_0 {α : Type} (f : α → List A) (z : List A) (l : List α) : part f z l 0 = List.replicate l.length z := by simp [part]
theorem part_all {α : Type} (f : α → List A) (z : List A) (l : List α) : part f z l l.length = l.map f := by simp [part]
theorem part_len {α : Type} (f : α → List A) (z : List A) (l : List α) {k : Nat} (h : k ≤ l.length) : (part f z l k).length = l.length := by simp [part]; omega
theorem part_get {α : Type} (f : α → List A) (z : List A) (l : List α) {k : Nat} (h : k < l.length) : (part f z l k)[k]? = some z := by
  unfold part
  rw [List.getElem?_append_right (by simp; omega)]
  simp only [List.length_map, List.length_take, Nat.min_eq_left (Nat.le_of_lt h), Nat.sub_self]
  rw [List.getElem?_replicate, if_pos (by omega)]
theorem part_set {α : Type} (f : α → List A) (z : List A) (l : List α) {k : Nat} {x : α} (h : l[k]? = some x) : (part f z l k).set k (f x) = part f z l (k + 1) := by
  have hlt := (List.getElem?_eq_some_iff.1 h).1
  unfold part
  rw [List.set_append, if_neg (by simp; omega), List.take_add_one, h]
  simp only [List.length_map, List.length_take, Nat.min_eq_left (Nat.le_of_lt hlt), Nat.sub_self, Option.toList, List.map_append, List.map_cons, List.map_nil, List.append_assoc]
  congr 1
  rw [show l.length - k = (l.length - (k + 1)) + 1 by omega, List.replicate_succ, List.set_cons_zero]; rfl
set_option maxRecDepth 100000 in
set_option maxHeartbeats 4000000 in
theorem pblVar (g : Vr → Vr) (l : List Vr) (fn : FuncId) (hn : l.length ≤ 1048576) (hf : ∀ k ∈ l, DPure Tryd.prog fn [.r (Vr.at k)] (.r (Vr.at (g k)))) : DPure Tryd.prog 48 [.a (.sl (l.map Vr.at)), .a (.fn fn [])] (.a (.sl ((l.map g).map Vr.at))) := by
  refine DPure.go Tryd.func48 rfl Tryd.ntmps48 rfl rfl rfl (fun C hro => ?_)
  have fx := trivial
  repeat' (first | refine WP.seq ?_ | (refine WP.rg [0, 1, 4, 5, 6, 7, 11, 12, 13, 14] ?_; simp only [RSr_mk]) | refine RS.fnT ?_ | (refine RS.fn ?_; try simp only [thenQ_n, blockQ_n]) | (refine RS.aO ?_; refine RS.rn ?_; simp only [RSr_mk]) | (refine RS.aN ?_; refine RS.rn ?_; simp only [RSr_mk]) | (refine RS.mS ?_; refine RS.rn ?_; simp only [RSr_mk]) | (refine RS.l0 ?_; refine RS.rn ?_; simp only [RSr_mk]) | (refine RS.li ?_; refine RS.rn ?_; simp only [RSr_mk]) | (refine RS.sE ?_; refine RS.rn ?_; simp only [RSr_mk]) | (refine RS.mE ?_; refine RS.rn ?_; simp only [RSr_mk]) | (refine RS.eS ?_; refine RS.rn ?_; simp only [RSr_mk]) | (refine RS.mU ?_; refine RS.rn ?_; simp only [RSr_mk]) | (refine RS.mM ?_; refine RS.rn ?_; simp only [RSr_mk]) | (refine RS.lk ?_; refine RS.rn ?_; simp only [RSr_mk]) | ((refine WP.cn (fun hc => ?_) (fun hc => ?_)) <;> try exact Bool.noConfusion hc) | (refine WP.skip ?_; try simp only [thenQ_n, blockQ_n]) | (refine WP.exit ?_; try simp only [thenQ_e, blockQ_e, blockQ_o, ne_eq, Nat.reduceEqDiff, not_false_eq_true, reduceCtorEq, thenQ_n, blockQ_n]) | refine WP.block ?_ | (refine WP.ret ?_; (try simp only [thenQ_r, blockQ_r])) | refine ret3 ?_ | refine retC3 ?_)
  refine WP.loopX (α := { k : Nat // k ≤ l.length }) (fun y => [(0, .a (.sl (l.map Vr.at))), (1, .a (.fn fn [])), (4, .a .nl), (5, .a (.own 0 0)), (11, .a (.sl (l.map Vr.at))), (12, .a (.v (.int .i64 (l.length : Nat)))), (13, .a (.v (.int .i64 (y.1 : Nat))))]) (fun y => [.arr 0 13 (part (fun x => Vr.at (g x)) (Vr.at Vr.zero) l y.1)]) (fun y => l.length - y.1) ⟨0, by omega⟩ (by simp only [Agree, go_sem, simprocAttr]; first | done | rfl) (by simp only [part_0]) ?_
  rintro ⟨k, hk⟩
  dsimp only
  by_cases hlt : k < l.length
  · have hlt2 : decide ((k : Int) < ((l.length : Nat) : Int)) = true := decide_eq_true (by omega)
    obtain ⟨z, hz⟩ : ∃ z, l[k]? = some z := ⟨_, List.getElem?_eq_getElem hlt⟩
    have hzm : z ∈ l := List.mem_of_getElem? hz
    have hzt := take_snocA hz
    have hix : ∀ q2, ixD (some 13) q2 (.a (.sl (l.map Vr.at))) (.a (.v (.int .i64 (k : Int)))) = some (.a (.ref (Vr.at z) 0)) := fun q2 => ixD_at rfl (by rw [List.getElem?_map, hz]; rfl) (by simp only [go_sem])
    have hpg := part_get (fun x => Vr.at (g x)) (Vr.at Vr.zero) l hlt
    have hps := part_set (fun x => Vr.at (g x)) (Vr.at Vr.zero) l hz
    have hwu := wrap64n (k := k) (by omega)
    have hix2 : ∀ q2 r, ixS (.arr 0 13 (part (fun x => Vr.at (g x)) (Vr.at Vr.zero) l k) :: r) (some 13) q2 (.a (.own 0 0)) (.a (.v (.int .i64 (k : Nat)))) = some (.a (.ep 0 0 k 0)) := fun q2 r => ixS_own rfl rfl (by rw [part_len _ _ _ hk]; exact hlt) rfl
    replace fx := And.intro hlt2 (And.intro hix (And.intro hwu (And.intro hpg (And.intro hps (And.intro hix2 trivial)))))
    repeat' (first | refine WP.seq ?_ | (refine WP.rg [0, 1, 4, 5, 6, 7, 11, 12, 13, 14] ?_; simp only [RSr_mk]) | refine RS.fnT ?_ | (refine RS.fn ?_; try simp only [thenQ_n, blockQ_n]) | (refine RS.cl (hp := by exact hf z hzm) (h := ?_); refine RS.rn ?_; simp only [RSr_mk]) | (refine RS.cvv (hp := by exact hf z hzm) (h := ?_); refine RS.rn ?_; simp only [RSr_mk]) | (refine RS.aO ?_; refine RS.rn ?_; simp only [RSr_mk]) | (refine RS.aN ?_; refine RS.rn ?_; simp only [RSr_mk]) | (refine RS.mS ?_; refine RS.rn ?_; simp only [RSr_mk]) | (refine RS.l0 ?_; refine RS.rn ?_; simp only [RSr_mk]) | (refine RS.li ?_; refine RS.rn ?_; simp only [RSr_mk]) | (refine RS.sE ?_; refine RS.rn ?_; simp only [RSr_mk]) | (refine RS.mE ?_; refine RS.rn ?_; simp only [RSr_mk]) | (refine RS.eS ?_; refine RS.rn ?_; simp only [RSr_mk]) | (refine RS.mU ?_; refine RS.rn ?_; simp only [RSr_mk]) | (refine RS.mM ?_; refine RS.rn ?_; simp only [RSr_mk]) | (refine RS.lk ?_; refine RS.rn ?_; simp only [RSr_mk]) | ((refine WP.cn (fun hc => ?_) (fun hc => ?_)) <;> try exact Bool.noConfusion hc) | (refine WP.skip ?_; try simp only [thenQ_n, blockQ_n]) | (refine WP.exit ?_; try simp only [thenQ_e, blockQ_e, blockQ_o, ne_eq, Nat.reduceEqDiff, not_false_eq_true, reduceCtorEq, thenQ_n, blockQ_n]) | refine WP.block ?_ | (refine WP.ret ?_; (try simp only [thenQ_r, blockQ_r])) | refine ret3 ?_ | refine retC3 ?_)
    refine ⟨⟨k + 1, by omega⟩, [.cell (Vr.at z)], by dsimp only; omega, by simp only [Agree, go_sem, simprocAttr], rfl, by simp only [nrE, nrD, List.all_cons, List.all_nil, go_sem, simprocAttr], by simp only [go_sem]⟩
  obtain rfl : k = l.length := by omega
  have hlt2 : decide ((l.length : Int) < (l.length : Int)) = false := decide_eq_false (by omega)
  have hpa := part_all (fun x => Vr.at (g x)) (Vr.at Vr.zero) l
  replace fx := And.intro hlt2 (And.intro hpa trivial)
  repeat' (first | refine WP.seq ?_ | (refine WP.rg [0, 1, 4, 5, 6, 7, 11, 12, 13, 14] ?_; simp only [RSr_mk]) | refine RS.fnT ?_ | (refine RS.fn ?_; try simp only [thenQ_n, blockQ_n]) | (refine RS.aO ?_; refine RS.rn ?_; simp only [RSr_mk]) | (refine RS.aN ?_; refine RS.rn ?_; simp only [RSr_mk]) | (refine RS.mS ?_; refine RS.rn ?_; simp only [RSr_mk]) | (refine RS.l0 ?_; refine RS.rn ?_; simp only [RSr_mk]) | (refine RS.li ?_; refine RS.rn ?_; simp only [RSr_mk]) | (refine RS.sE ?_; refine RS.rn ?_; simp only [RSr_mk]) | (refine RS.mE ?_; refine RS.rn ?_; simp only [RSr_mk]) | (refine RS.eS ?_; refine RS.rn ?_; simp only [RSr_mk]) | (refine RS.mU ?_; refine RS.rn ?_; simp only [RSr_mk]) | (refine RS.mM ?_; refine RS.rn ?_; simp only [RSr_mk]) | (refine RS.lk ?_; refine RS.rn ?_; simp only [RSr_mk]) | ((refine WP.cn (fun hc => ?_) (fun hc => ?_)) <;> try exact Bool.noConfusion hc) | (refine WP.skip ?_; try simp only [thenQ_n, blockQ_n]) | (refine WP.exit ?_; try simp only [thenQ_e, blockQ_e, blockQ_o, ne_eq, Nat.reduceEqDiff, not_false_eq_true, reduceCtorEq, thenQ_n, blockQ_n]) | refine WP.block ?_ | (refine WP.ret ?_; (try simp only [thenQ_r, blockQ_r])) | refine ret3 ?_ | refine retC3 ?_)
  simp only [List.map_map]; rfl
set_option maxRecDepth 100000 in
set_option maxHeartbeats 4000000 in
theorem pblExpr (g : Ex → Ex) (l : List Ex) (fn : FuncId) (hn : l.length ≤ 1048576) (hf : ∀ k ∈ l, DPure Tryd.prog fn [.r (Ex.at k)] (.r (Ex.at (g k)))) : DPure Tryd.prog 90 [.a (.sl (l.map Ex.at)), .a (.fn fn [])] (.a (.sl ((l.map g).map Ex.at))) := by
  refine DPure.go Tryd.func90 rfl Tryd.ntmps90 rfl rfl rfl (fun C hro => ?_)
  have fx := trivial
  repeat' (first | refine WP.seq ?_ | (refine WP.rg [0, 1, 4, 5, 6, 7, 11, 12, 13, 14] ?_; simp only [RSr_mk]) | refine RS.fnT ?_ | (refine RS.fn ?_; try simp only [thenQ_n, blockQ_n]) | (refine RS.aO ?_; refine RS.rn ?_; simp only [RSr_mk]) | (refine RS.aN ?_; refine RS.rn ?_; simp only [RSr_mk]) | (refine RS.mS ?_; refine RS.rn ?_; simp only [RSr_mk]) | (refine RS.l0 ?_; refine RS.rn ?_; simp only [RSr_mk]) | (refine RS.li ?_; refine RS.rn ?_; simp only [RSr_mk]) | (refine RS.sE ?_; refine RS.rn ?_; simp only [RSr_mk]) | (refine RS.mE ?_; refine RS.rn ?_; simp only [RSr_mk]) | (refine RS.eS ?_; refine RS.rn ?_; simp only [RSr_mk]) | (refine RS.mU ?_; refine RS.rn ?_; simp only [RSr_mk]) | (refine RS.mM ?_; refine RS.rn ?_; simp only [RSr_mk]) | (refine RS.lk ?_; refine RS.rn ?_; simp only [RSr_mk]) | ((refine WP.cn (fun hc => ?_) (fun hc => ?_)) <;> try exact Bool.noConfusion hc) | (refine WP.skip ?_; try simp only [thenQ_n, blockQ_n]) | (refine WP.exit ?_; try simp only [thenQ_e, blockQ_e, blockQ_o, ne_eq, Nat.reduceEqDiff, not_false_eq_true, reduceCtorEq, thenQ_n, blockQ_n]) | refine WP.block ?_ | (refine WP.ret ?_; (try simp only [thenQ_r, blockQ_r])) | refine ret3 ?_ | refine retC3 ?_)
  refine WP.loopX (α := { k : Nat // k ≤ l.length }) (fun y => [(0, .a (.sl (l.map Ex.at))), (1, .a (.fn fn [])), (4, .a .nl), (5, .a (.own 0 0)), (11, .a (.sl (l.map Ex.at))), (12, .a (.v (.int .i64 (l.length : Nat)))), (13, .a (.v (.int .i64 (y.1 : Nat))))]) (fun y => [.arr 0 4 (part (fun x => Ex.at (g x)) (Ex.at Ex.zero) l y.1)]) (fun y => l.length - y.1) ⟨0, by omega⟩ (by simp only [Agree, go_sem, simprocAttr]; first | done | rfl) (by simp only [part_0]) ?_
  rintro ⟨k, hk⟩
  dsimp only
  by_cases hlt : k < l.length
  · have hlt2 : decide ((k : Int) < ((l.length : Nat) : Int)) = true := decide_eq_true (by omega)
    obtain ⟨z, hz⟩ : ∃ z, l[k]? = some z := ⟨_, List.getElem?_eq_getElem hlt⟩
    have hzm : z ∈ l := List.mem_of_getElem? hz
    have hzt := take_snocA hz
    have hix : ∀ q2, ixD (some 4) q2 (.a (.sl (l.map Ex.at))) (.a (.v (.int .i64 (k : Int)))) = some (.a (.ref (Ex.at z) 0)) := fun q2 => ixD_at rfl (by rw [List.getElem?_map, hz]; rfl) (by simp only [go_sem])
    have hpg := part_get (fun x => Ex.at (g x)) (Ex.at Ex.zero) l hlt
    have hps := part_set (fun x => Ex.at (g x)) (Ex.at Ex.zero) l hz
    have hwu := wrap64n (k := k) (by omega)
    have hix2 : ∀ q2 r, ixS (.arr 0 4 (part (fun x => Ex.at (g x)) (Ex.at Ex.zero) l k) :: r) (some 4) q2 (.a (.own 0 0)) (.a (.v (.int .i64 (k : Nat)))) = some (.a (.ep 0 0 k 0)) := fun q2 r => ixS_own rfl rfl (by rw [part_len _ _ _ hk]; exact hlt) rfl
    replace fx := And.intro hlt2 (And.intro hix (And.intro hwu (And.intro hpg (And.intro hps (And.intro hix2 trivial)))))
    repeat' (first | refine WP.seq ?_ | (refine WP.rg [0, 1, 4, 5, 6, 7, 11, 12, 13, 14] ?_; simp only [RSr_mk]) | refine RS.fnT ?_ | (refine RS.fn ?_; try simp only [thenQ_n, blockQ_n]) | (refine RS.cl (hp := by exact hf z hzm) (h := ?_); refine RS.rn ?_; simp only [RSr_mk]) | (refine RS.cvv (hp := by exact hf z hzm) (h := ?_); refine RS.rn ?_; simp only [RSr_mk]) | (refine RS.aO ?_; refine RS.rn ?_; simp only [RSr_mk]) | (refine RS.aN ?_; refine RS.rn ?_; simp only [RSr_mk]) | (refine RS.mS ?_; refine RS.rn ?_; simp only [RSr_mk]) | (refine RS.l0 ?_; refine RS.rn ?_; simp only [RSr_mk]) | (refine RS.li ?_; refine RS.rn ?_; simp only [RSr_mk]) | (refine RS.sE ?_; refine RS.rn ?_; simp only [RSr_mk]) | (refine RS.mE ?_; refine RS.rn ?_; simp only [RSr_mk]) | (refine RS.eS ?_; refine RS.rn ?_; simp only [RSr_mk]) | (refine RS.mU ?_; refine RS.rn ?_; simp only [RSr_mk]) | (refine RS.mM ?_; refine RS.rn ?_; simp only [RSr_mk]) | (refine RS.lk ?_; refine RS.rn ?_; simp only [RSr_mk]) | ((refine WP.cn (fun hc => ?_) (fun hc => ?_)) <;> try exact Bool.noConfusion hc) | (refine WP.skip ?_; try simp only [thenQ_n, blockQ_n]) | (refine WP.exit ?_; try simp only [thenQ_e, blockQ_e, blockQ_o, ne_eq, Nat.reduceEqDiff, not_false_eq_true, reduceCtorEq, thenQ_n, blockQ_n]) | refine WP.block ?_ | (refine WP.ret ?_; (try simp only [thenQ_r, blockQ_r])) | refine ret3 ?_ | refine retC3 ?_)
    refine ⟨⟨k + 1, by omega⟩, [.cell (Ex.at z)], by dsimp only; omega, by simp only [Agree, go_sem, simprocAttr], rfl, by simp only [nrE, nrD, List.all_cons, List.all_nil, go_sem, simprocAttr], by simp only [go_sem]⟩
  obtain rfl : k = l.length := by omega
  have hlt2 : decide ((l.length : Int) < (l.length : Int)) = false := decide_eq_false (by omega)
  have hpa := part_all (fun x => Ex.at (g x)) (Ex.at Ex.zero) l
  replace fx := And.intro hlt2 (And.intro hpa trivial)
  repeat' (first | refine WP.seq ?_ | (refine WP.rg [0, 1, 4, 5, 6, 7, 11, 12, 13, 14] ?_; simp only [RSr_mk]) | refine RS.fnT ?_ | (refine RS.fn ?_; try simp only [thenQ_n, blockQ_n]) | (refine RS.aO ?_; refine RS.rn ?_; simp only [RSr_mk]) | (refine RS.aN ?_; refine RS.rn ?_; simp only [RSr_mk]) | (refine RS.mS ?_; refine RS.rn ?_; simp only [RSr_mk]) | (refine RS.l0 ?_; refine RS.rn ?_; simp only [RSr_mk]) | (refine RS.li ?_; refine RS.rn ?_; simp only [RSr_mk]) | (refine RS.sE ?_; refine RS.rn ?_; simp only [RSr_mk]) | (refine RS.mE ?_; refine RS.rn ?_; simp only [RSr_mk]) | (refine RS.eS ?_; refine RS.rn ?_; simp only [RSr_mk]) | (refine RS.mU ?_; refine RS.rn ?_; simp only [RSr_mk]) | (refine RS.mM ?_; refine RS.rn ?_; simp only [RSr_mk]) | (refine RS.lk ?_; refine RS.rn ?_; simp only [RSr_mk]) | ((refine WP.cn (fun hc => ?_) (fun hc => ?_)) <;> try exact Bool.noConfusion hc) | (refine WP.skip ?_; try simp only [thenQ_n, blockQ_n]) | (refine WP.exit ?_; try simp only [thenQ_e, blockQ_e, blockQ_o, ne_eq, Nat.reduceEqDiff, not_false_eq_true, reduceCtorEq, thenQ_n, blockQ_n]) | refine WP.block ?_ | (refine WP.ret ?_; (try simp only [thenQ_r, blockQ_r])) | refine ret3 ?_ | refine retC3 ?_)
  simp only [List.map_map]; rfl
set_option maxRecDepth 100000 in
set_option maxHeartbeats 4000000 in
theorem pblStmt (g : St → St) (l : List St) (fn : FuncId) (hn : l.length ≤ 1048576) (hf : ∀ k ∈ l, DPure Tryd.prog fn [.r (St.at k)] (.r (St.at (g k)))) : DPure Tryd.prog 69 [.a (.sl (l.map St.at)), .a (.fn fn [])] (.a (.sl ((l.map g).map St.at))) := by
  refine DPure.go Tryd.func69 rfl Tryd.ntmps69 rfl rfl rfl (fun C hro => ?_)
  have fx := trivial
  repeat' (first | refine WP.seq ?_ | (refine WP.rg [0, 1, 4, 5, 6, 7, 11, 12, 13, 14] ?_; simp only [RSr_mk]) | refine RS.fnT ?_ | (refine RS.fn ?_; try simp only [thenQ_n, blockQ_n]) | (refine RS.aO ?_; refine RS.rn ?_; simp only [RSr_mk]) | (refine RS.aN ?_; refine RS.rn ?_; simp only [RSr_mk]) | (refine RS.mS ?_; refine RS.rn ?_; simp only [RSr_mk]) | (refine RS.l0 ?_; refine RS.rn ?_; simp only [RSr_mk]) | (refine RS.li ?_; refine RS.rn ?_; simp only [RSr_mk]) | (refine RS.sE ?_; refine RS.rn ?_; simp only [RSr_mk]) | (refine RS.mE ?_; refine RS.rn ?_; simp only [RSr_mk]) | (refine RS.eS ?_; refine RS.rn ?_; simp only [RSr_mk]) | (refine RS.mU ?_; refine RS.rn ?_; simp only [RSr_mk]) | (refine RS.mM ?_; refine RS.rn ?_; simp only [RSr_mk]) | (refine RS.lk ?_; refine RS.rn ?_; simp only [RSr_mk]) | ((refine WP.cn (fun hc => ?_) (fun hc => ?_)) <;> try exact Bool.noConfusion hc) | (refine WP.skip ?_; try simp only [thenQ_n, blockQ_n]) | (refine WP.exit ?_; try simp only [thenQ_e, blockQ_e, blockQ_o, ne_eq, Nat.reduceEqDiff, not_false_eq_true, reduceCtorEq, thenQ_n, blockQ_n]) | refine WP.block ?_ | (refine WP.ret ?_; (try simp only [thenQ_r, blockQ_r])) | refine ret3 ?_ | refine retC3 ?_)
  refine WP.loopX (α := { k : Nat // k ≤ l.length }) (fun y => [(0, .a (.sl (l.map St.at))), (1, .a (.fn fn [])), (4, .a .nl), (5, .a (.own 0 0)), (11, .a (.sl (l.map St.at))), (12, .a (.v (.int .i64 (l.length : Nat)))), (13, .a (.v (.int .i64 (y.1 : Nat))))]) (fun y => [.arr 0 23 (part (fun x => St.at (g x)) (St.at St.zero) l y.1)]) (fun y => l.length - y.1) ⟨0, by omega⟩ (by simp only [Agree, go_sem, simprocAttr]; first | done | rfl) (by simp only [part_0]) ?_
  rintro ⟨k, hk⟩
  dsimp only
  by_cases hlt : k < l.length
  · have hlt2 : decide ((k : Int) < ((l.length : Nat) : Int)) = true := decide_eq_true (by omega)
    obtain ⟨z, hz⟩ : ∃ z, l[k]? = some z := ⟨_, List.getElem?_eq_getElem hlt⟩
    have hzm : z ∈ l := List.mem_of_getElem? hz
    have hzt := take_snocA hz
    have hix : ∀ q2, ixD (some 23) q2 (.a (.sl (l.map St.at))) (.a (.v (.int .i64 (k : Int)))) = some (.a (.ref (St.at z) 0)) := fun q2 => ixD_at rfl (by rw [List.getElem?_map, hz]; rfl) (by simp only [go_sem])
    have hpg := part_get (fun x => St.at (g x)) (St.at St.zero) l hlt
    have hps := part_set (fun x => St.at (g x)) (St.at St.zero) l hz
    have hwu := wrap64n (k := k) (by omega)
    have hix2 : ∀ q2 r, ixS (.arr 0 23 (part (fun x => St.at (g x)) (St.at St.zero) l k) :: r) (some 23) q2 (.a (.own 0 0)) (.a (.v (.int .i64 (k : Nat)))) = some (.a (.ep 0 0 k 0)) := fun q2 r => ixS_own rfl rfl (by rw [part_len _ _ _ hk]; exact hlt) rfl
    replace fx := And.intro hlt2 (And.intro hix (And.intro hwu (And.intro hpg (And.intro hps (And.intro hix2 trivial)))))
    repeat' (first | refine WP.seq ?_ | (refine WP.rg [0, 1, 4, 5, 6, 7, 11, 12, 13, 14] ?_; simp only [RSr_mk]) | refine RS.fnT ?_ | (refine RS.fn ?_; try simp only [thenQ_n, blockQ_n]) | (refine RS.cl (hp := by exact hf z hzm) (h := ?_); refine RS.rn ?_; simp only [RSr_mk]) | (refine RS.cvv (hp := by exact hf z hzm) (h := ?_); refine RS.rn ?_; simp only [RSr_mk]) | (refine RS.aO ?_; refine RS.rn ?_; simp only [RSr_mk]) | (refine RS.aN ?_; refine RS.rn ?_; simp only [RSr_mk]) | (refine RS.mS ?_; refine RS.rn ?_; simp only [RSr_mk]) | (refine RS.l0 ?_; refine RS.rn ?_; simp only [RSr_mk]) | (refine RS.li ?_; refine RS.rn ?_; simp only [RSr_mk]) | (refine RS.sE ?_; refine RS.rn ?_; simp only [RSr_mk]) | (refine RS.mE ?_; refine RS.rn ?_; simp only [RSr_mk]) | (refine RS.eS ?_; refine RS.rn ?_; simp only [RSr_mk]) | (refine RS.mU ?_; refine RS.rn ?_; simp only [RSr_mk]) | (refine RS.mM ?_; refine RS.rn ?_; simp only [RSr_mk]) | (refine RS.lk ?_; refine RS.rn ?_; simp only [RSr_mk]) | ((refine WP.cn (fun hc => ?_) (fun hc => ?_)) <;> try exact Bool.noConfusion hc) | (refine WP.skip ?_; try simp only [thenQ_n, blockQ_n]) | (refine WP.exit ?_; try simp only [thenQ_e, blockQ_e, blockQ_o, ne_eq, Nat.reduceEqDiff, not_false_eq_true, reduceCtorEq, thenQ_n, blockQ_n]) | refine WP.block ?_ | (refine WP.ret ?_; (try simp only [thenQ_r, blockQ_r])) | refine ret3 ?_ | refine retC3 ?_)
    refine ⟨⟨k + 1, by omega⟩, [.cell (St.at z)], by dsimp only; omega, by simp only [Agree, go_sem, simprocAttr], rfl, by simp only [nrE, nrD, List.all_cons, List.all_nil, go_sem, simprocAttr], by simp only [go_sem]⟩
  obtain rfl : k = l.length := by omega
  have hlt2 : decide ((l.length : Int) < (l.length : Int)) = false := decide_eq_false (by omega)
  have hpa := part_all (fun x => St.at (g x)) (St.at St.zero) l
  replace fx := And.intro hlt2 (And.intro hpa trivial)
  repeat' (first | refine WP.seq ?_ | (refine WP.rg [0, 1, 4, 5, 6, 7, 11, 12, 13, 14] ?_; simp only [RSr_mk]) | refine RS.fnT ?_ | (refine RS.fn ?_; try simp only [thenQ_n, blockQ_n]) | (refine RS.aO ?_; refine RS.rn ?_; simp only [RSr_mk]) | (refine RS.aN ?_; refine RS.rn ?_; simp only [RSr_mk]) | (refine RS.mS ?_; refine RS.rn ?_; simp only [RSr_mk]) | (refine RS.l0 ?_; refine RS.rn ?_; simp only [RSr_mk]) | (refine RS.li ?_; refine RS.rn ?_; simp only [RSr_mk]) | (refine RS.sE ?_; refine RS.rn ?_; simp only [RSr_mk]) | (refine RS.mE ?_; refine RS.rn ?_; simp only [RSr_mk]) | (refine RS.eS ?_; refine RS.rn ?_; simp only [RSr_mk]) | (refine RS.mU ?_; refine RS.rn ?_; simp only [RSr_mk]) | (refine RS.mM ?_; refine RS.rn ?_; simp only [RSr_mk]) | (refine RS.lk ?_; refine RS.rn ?_; simp only [RSr_mk]) | ((refine WP.cn (fun hc => ?_) (fun hc => ?_)) <;> try exact Bool.noConfusion hc) | (refine WP.skip ?_; try simp only [thenQ_n, blockQ_n]) | (refine WP.exit ?_; try simp only [thenQ_e, blockQ_e, blockQ_o, ne_eq, Nat.reduceEqDiff, not_false_eq_true, reduceCtorEq, thenQ_n, blockQ_n]) | refine WP.block ?_ | (refine WP.ret ?_; (try simp only [thenQ_r, blockQ_r])) | refine ret3 ?_ | refine retC3 ?_)
  simp only [List.map_map]; rfl
set_option maxRecDepth 100000 in
set_option maxHeartbeats 4000000 in
theorem pblMeth (g : Me → Me) (l : List Me) (fn : FuncId) (hn : l.length ≤ 1048576) (hf : ∀ k ∈ l, DPure Tryd.prog fn [.r (Me.at k)] (.r (Me.at (g k)))) : DPure Tryd.prog 50 [.a (.sl (l.map Me.at)), .a (.fn fn [])] (.a (.sl ((l.map g).map Me.at))) := by
  refine DPure.go Tryd.func50 rfl Tryd.ntmps50 rfl rfl rfl (fun C hro => ?_)
  have fx := trivial
  repeat' (first | refine WP.seq ?_ | (refine WP.rg [0, 1, 4, 5, 6, 7, 11, 12, 13, 14] ?_; simp only [RSr_mk]) | refine RS.fnT ?_ | (refine RS.fn ?_; try simp only [thenQ_n, blockQ_n]) | (refine RS.aO ?_; refine RS.rn ?_; simp only [RSr_mk]) | (refine RS.aN ?_; refine RS.rn ?_; simp only [RSr_mk]) | (refine RS.mS ?_; refine RS.rn ?_; simp only [RSr_mk]) | (refine RS.l0 ?_; refine RS.rn ?_; simp only [RSr_mk]) | (refine RS.li ?_; refine RS.rn ?_; simp only [RSr_mk]) | (refine RS.sE ?_; refine RS.rn ?_; simp only [RSr_mk]) | (refine RS.mE ?_; refine RS.rn ?_; simp only [RSr_mk]) | (refine RS.eS ?_; refine RS.rn ?_; simp only [RSr_mk]) | (refine RS.mU ?_; refine RS.rn ?_; simp only [RSr_mk]) | (refine RS.mM ?_; refine RS.rn ?_; simp only [RSr_mk]) | (refine RS.lk ?_; refine RS.rn ?_; simp only [RSr_mk]) | ((refine WP.cn (fun hc => ?_) (fun hc => ?_)) <;> try exact Bool.noConfusion hc) | (refine WP.skip ?_; try simp only [thenQ_n, blockQ_n]) | (refine WP.exit ?_; try simp only [thenQ_e, blockQ_e, blockQ_o, ne_eq, Nat.reduceEqDiff, not_false_eq_true, reduceCtorEq, thenQ_n, blockQ_n]) | refine WP.block ?_ | (refine WP.ret ?_; (try simp only [thenQ_r, blockQ_r])) | refine ret3 ?_ | refine retC3 ?_)
  refine WP.loopX (α := { k : Nat // k ≤ l.length }) (fun y => [(0, .a (.sl (l.map Me.at))), (1, .a (.fn fn [])), (4, .a .nl), (5, .a (.own 0 0)), (11, .a (.sl (l.map Me.at))), (12, .a (.v (.int .i64 (l.length : Nat)))), (13, .a (.v (.int .i64 (y.1 : Nat))))]) (fun y => [.arr 0 17 (part (fun x => Me.at (g x)) (Me.at Me.zero) l y.1)]) (fun y => l.length - y.1) ⟨0, by omega⟩ (by simp only [Agree, go_sem, simprocAttr]; first | done | rfl) (by simp only [part_0]) ?_
  rintro ⟨k, hk⟩
  dsimp only
  by_cases hlt : k < l.length
  · have hlt2 : decide ((k : Int) < ((l.length : Nat) : Int)) = true := decide_eq_true (by omega)
    obtain ⟨z, hz⟩ : ∃ z, l[k]? = some z := ⟨_, List.getElem?_eq_getElem hlt⟩
    have hzm : z ∈ l := List.mem_of_getElem? hz
    have hzt := take_snocA hz
    have hix : ∀ q2, ixD (some 17) q2 (.a (.sl (l.map Me.at))) (.a (.v (.int .i64 (k : Int)))) = some (.a (.ref (Me.at z) 0)) := fun q2 => ixD_at rfl (by rw [List.getElem?_map, hz]; rfl) (by simp only [go_sem])
    have hpg := part_get (fun x => Me.at (g x)) (Me.at Me.zero) l hlt
    have hps := part_set (fun x => Me.at (g x)) (Me.at Me.zero) l hz
    have hwu := wrap64n (k := k) (by omega)
    have hix2 : ∀ q2 r, ixS (.arr 0 17 (part (fun x => Me.at (g x)) (Me.at Me.zero) l k) :: r) (some 17) q2 (.a (.own 0 0)) (.a (.v (.int .i64 (k : Nat)))) = some (.a (.ep 0 0 k 0)) := fun q2 r => ixS_own rfl rfl (by rw [part_len _ _ _ hk]; exact hlt) rfl
    replace fx := And.intro hlt2 (And.intro hix (And.intro hwu (And.intro hpg (And.intro hps (And.intro hix2 trivial)))))
    repeat' (first | refine WP.seq ?_ | (refine WP.rg [0, 1, 4, 5, 6, 7, 11, 12, 13, 14] ?_; simp only [RSr_mk]) | refine RS.fnT ?_ | (refine RS.fn ?_; try simp only [thenQ_n, blockQ_n]) | (refine RS.cl (hp := by exact hf z hzm) (h := ?_); refine RS.rn ?_; simp only [RSr_mk]) | (refine RS.cvv (hp := by exact hf z hzm) (h := ?_); refine RS.rn ?_; simp only [RSr_mk]) | (refine RS.aO ?_; refine RS.rn ?_; simp only [RSr_mk]) | (refine RS.aN ?_; refine RS.rn ?_; simp only [RSr_mk]) | (refine RS.mS ?_; refine RS.rn ?_; simp only [RSr_mk]) | (refine RS.l0 ?_; refine RS.rn ?_; simp only [RSr_mk]) | (refine RS.li ?_; refine RS.rn ?_; simp only [RSr_mk]) | (refine RS.sE ?_; refine RS.rn ?_; simp only [RSr_mk]) | (refine RS.mE ?_; refine RS.rn ?_; simp only [RSr_mk]) | (refine RS.eS ?_; refine RS.rn ?_; simp only [RSr_mk]) | (refine RS.mU ?_; refine RS.rn ?_; simp only [RSr_mk]) | (refine RS.mM ?_; refine RS.rn ?_; simp only [RSr_mk]) | (refine RS.lk ?_; refine RS.rn ?_; simp only [RSr_mk]) | ((refine WP.cn (fun hc => ?_) (fun hc => ?_)) <;> try exact Bool.noConfusion hc) | (refine WP.skip ?_; try simp only [thenQ_n, blockQ_n]) | (refine WP.exit ?_; try simp only [thenQ_e, blockQ_e, blockQ_o, ne_eq, Nat.reduceEqDiff, not_false_eq_true, reduceCtorEq, thenQ_n, blockQ_n]) | refine WP.block ?_ | (refine WP.ret ?_; (try simp only [thenQ_r, blockQ_r])) | refine ret3 ?_ | refine retC3 ?_)
    refine ⟨⟨k + 1, by omega⟩, [.cell (Me.at z)], by dsimp only; omega, by simp only [Agree, go_sem, simprocAttr], rfl, by simp only [nrE, nrD, List.all_cons, List.all_nil, go_sem, simprocAttr], by simp only [go_sem]⟩
  obtain rfl : k = l.length := by omega
  have hlt2 : decide ((l.length : Int) < (l.length : Int)) = false := decide_eq_false (by omega)
  have hpa := part_all (fun x => Me.at (g x)) (Me.at Me.zero) l
  replace fx := And.intro hlt2 (And.intro hpa trivial)
  repeat' (first | refine WP.seq ?_ | (refine WP.rg [0, 1, 4, 5, 6, 7, 11, 12, 13, 14] ?_; simp only [RSr_mk]) | refine RS.fnT ?_ | (refine RS.fn ?_; try simp only [thenQ_n, blockQ_n]) | (refine RS.aO ?_; refine RS.rn ?_; simp only [RSr_mk]) | (refine RS.aN ?_; refine RS.rn ?_; simp only [RSr_mk]) | (refine RS.mS ?_; refine RS.rn ?_; simp only [RSr_mk]) | (refine RS.l0 ?_; refine RS.rn ?_; simp only [RSr_mk]) | (refine RS.li ?_; refine RS.rn ?_; simp only [RSr_mk]) | (refine RS.sE ?_; refine RS.rn ?_; simp only [RSr_mk]) | (refine RS.mE ?_; refine RS.rn ?_; simp only [RSr_mk]) | (refine RS.eS ?_; refine RS.rn ?_; simp only [RSr_mk]) | (refine RS.mU ?_; refine RS.rn ?_; simp only [RSr_mk]) | (refine RS.mM ?_; refine RS.rn ?_; simp only [RSr_mk]) | (refine RS.lk ?_; refine RS.rn ?_; simp only [RSr_mk]) | ((refine WP.cn (fun hc => ?_) (fun hc => ?_)) <;> try exact Bool.noConfusion hc) | (refine WP.skip ?_; try simp only [thenQ_n, blockQ_n]) | (refine WP.exit ?_; try simp only [thenQ_e, blockQ_e, blockQ_o, ne_eq, Nat.reduceEqDiff, not_false_eq_true, reduceCtorEq, thenQ_n, blockQ_n]) | refine WP.block ?_ | (refine WP.ret ?_; (try simp only [thenQ_r, blockQ_r])) | refine ret3 ?_ | refine retC3 ?_)
  simp only [List.map_map]; rfl
set_option maxRecDepth 100000 in
set_option maxHeartbeats 4000000 in
theorem pblClass (g : Cs → Cs) (l : List Cs) (fn : FuncId) (hn : l.length ≤ 1048576) (hf : ∀ k ∈ l, DPure Tryd.prog fn [.r (Cs.at k)] (.r (Cs.at (g k)))) : DPure Tryd.prog 24 [.a (.sl (l.map Cs.at)), .a (.fn fn [])] (.a (.sl ((l.map g).map Cs.at))) := by
  refine DPure.go Tryd.func24 rfl Tryd.ntmps24 rfl rfl rfl (fun C hro => ?_)
  have fx := trivial
  repeat' (first | refine WP.seq ?_ | (refine WP.rg [0, 1, 4, 5, 6, 7, 11, 12, 13, 14] ?_; simp only [RSr_mk]) | refine RS.fnT ?_ | (refine RS.fn ?_; try simp only [thenQ_n, blockQ_n]) | (refine RS.aO ?_; refine RS.rn ?_; simp only [RSr_mk]) | (refine RS.aN ?_; refine RS.rn ?_; simp only [RSr_mk]) | (refine RS.mS ?_; refine RS.rn ?_; simp only [RSr_mk]) | (refine RS.l0 ?_; refine RS.rn ?_; simp only [RSr_mk]) | (refine RS.li ?_; refine RS.rn ?_; simp only [RSr_mk]) | (refine RS.sE ?_; refine RS.rn ?_; simp only [RSr_mk]) | (refine RS.mE ?_; refine RS.rn ?_; simp only [RSr_mk]) | (refine RS.eS ?_; refine RS.rn ?_; simp only [RSr_mk]) | (refine RS.mU ?_; refine RS.rn ?_; simp only [RSr_mk]) | (refine RS.mM ?_; refine RS.rn ?_; simp only [RSr_mk]) | (refine RS.lk ?_; refine RS.rn ?_; simp only [RSr_mk]) | ((refine WP.cn (fun hc => ?_) (fun hc => ?_)) <;> try exact Bool.noConfusion hc) | (refine WP.skip ?_; try simp only [thenQ_n, blockQ_n]) | (refine WP.exit ?_; try simp only [thenQ_e, blockQ_e, blockQ_o, ne_eq, Nat.reduceEqDiff, not_false_eq_true, reduceCtorEq, thenQ_n, blockQ_n]) | refine WP.block ?_ | (refine WP.ret ?_; (try simp only [thenQ_r, blockQ_r])) | refine ret3 ?_ | refine retC3 ?_)
  refine WP.loopX (α := { k : Nat // k ≤ l.length }) (fun y => [(0, .a (.sl (l.map Cs.at))), (1, .a (.fn fn [])), (4, .a .nl), (5, .a (.own 0 0)), (11, .a (.sl (l.map Cs.at))), (12, .a (.v (.int .i64 (l.length : Nat)))), (13, .a (.v (.int .i64 (y.1 : Nat))))]) (fun y => [.arr 0 7 (part (fun x => Cs.at (g x)) (Cs.at Cs.zero) l y.1)]) (fun y => l.length - y.1) ⟨0, by omega⟩ (by simp only [Agree, go_sem, simprocAttr]; first | done | rfl) (by simp only [part_0]) ?_
  rintro ⟨k, hk⟩
  dsimp only
  by_cases hlt : k < l.length
  · have hlt2 : decide ((k : Int) < ((l.length : Nat) : Int)) = true := decide_eq_true (by omega)
    obtain ⟨z, hz⟩ : ∃ z, l[k]? = some z := ⟨_, List.getElem?_eq_getElem hlt⟩
    have hzm : z ∈ l := List.mem_of_getElem? hz
    have hzt := take_snocA hz
    have hix : ∀ q2, ixD (some 7) q2 (.a (.sl (l.map Cs.at))) (.a (.v (.int .i64 (k : Int)))) = some (.a (.ref (Cs.at z) 0)) := fun q2 => ixD_at rfl (by rw [List.getElem?_map, hz]; rfl) (by simp only [go_sem])
    have hpg := part_get (fun x => Cs.at (g x)) (Cs.at Cs.zero) l hlt
    have hps := part_set (fun x => Cs.at (g x)) (Cs.at Cs.zero) l hz
    have hwu := wrap64n (k := k) (by omega)
    have hix2 : ∀ q2 r, ixS (.arr 0 7 (part (fun x => Cs.at (g x)) (Cs.at Cs.zero) l k) :: r) (some 7) q2 (.a (.own 0 0)) (.a (.v (.int .i64 (k : Nat)))) = some (.a (.ep 0 0 k 0)) := fun q2 r => ixS_own rfl rfl (by rw [part_len _ _ _ hk]; exact hlt) rfl
    replace fx := And.intro hlt2 (And.intro hix (And.intro hwu (And.intro hpg (And.intro hps (And.intro hix2 trivial)))))
    repeat' (first | refine WP.seq ?_ | (refine WP.rg [0, 1, 4, 5, 6, 7, 11, 12, 13, 14] ?_; simp only [RSr_mk]) | refine RS.fnT ?_ | (refine RS.fn ?_; try simp only [thenQ_n, blockQ_n]) | (refine RS.cl (hp := by exact hf z hzm) (h := ?_); refine RS.rn ?_; simp only [RSr_mk]) | (refine RS.cvv (hp := by exact hf z hzm) (h := ?_); refine RS.rn ?_; simp only [RSr_mk]) | (refine RS.aO ?_; refine RS.rn ?_; simp only [RSr_mk]) | (refine RS.aN ?_; refine RS.rn ?_; simp only [RSr_mk]) | (refine RS.mS ?_; refine RS.rn ?_; simp only [RSr_mk]) | (refine RS.l0 ?_; refine RS.rn ?_; simp only [RSr_mk]) | (refine RS.li ?_; refine RS.rn ?_; simp only [RSr_mk]) | (refine RS.sE ?_; refine RS.rn ?_; simp only [RSr_mk]) | (refine RS.mE ?_; refine RS.rn ?_; simp only [RSr_mk]) | (refine RS.eS ?_; refine RS.rn ?_; simp only [RSr_mk]) | (refine RS.mU ?_; refine RS.rn ?_; simp only [RSr_mk]) | (refine RS.mM ?_; refine RS.rn ?_; simp only [RSr_mk]) | (refine RS.lk ?_; refine RS.rn ?_; simp only [RSr_mk]) | ((refine WP.cn (fun hc => ?_) (fun hc => ?_)) <;> try exact Bool.noConfusion hc) | (refine WP.skip ?_; try simp only [thenQ_n, blockQ_n]) | (refine WP.exit ?_; try simp only [thenQ_e, blockQ_e, blockQ_o, ne_eq, Nat.reduceEqDiff, not_false_eq_true, reduceCtorEq, thenQ_n, blockQ_n]) | refine WP.block ?_ | (refine WP.ret ?_; (try simp only [thenQ_r, blockQ_r])) | refine ret3 ?_ | refine retC3 ?_)
    refine ⟨⟨k + 1, by omega⟩, [.cell (Cs.at z)], by dsimp only; omega, by simp only [Agree, go_sem, simprocAttr], rfl, by simp only [nrE, nrD, List.all_cons, List.all_nil, go_sem, simprocAttr], by simp only [go_sem]⟩
  obtain rfl : k = l.length := by omega
  have hlt2 : decide ((l.length : Int) < (l.length : Int)) = false := decide_eq_false (by omega)
  have hpa := part_all (fun x => Cs.at (g x)) (Cs.at Cs.zero) l
  replace fx := And.intro hlt2 (And.intro hpa trivial)
  repeat' (first | refine WP.seq ?_ | (refine WP.rg [0, 1, 4, 5, 6, 7, 11, 12, 13, 14] ?_; simp only [RSr_mk]) | refine RS.fnT ?_ | (refine RS.fn ?_; try simp only [thenQ_n, blockQ_n]) | (refine RS.aO ?_; refine RS.rn ?_; simp only [RSr_mk]) | (refine RS.aN ?_; refine RS.rn ?_; simp only [RSr_mk]) | (refine RS.mS ?_; refine RS.rn ?_; simp only [RSr_mk]) | (refine RS.l0 ?_; refine RS.rn ?_; simp only [RSr_mk]) | (refine RS.li ?_; refine RS.rn ?_; simp only [RSr_mk]) | (refine RS.sE ?_; refine RS.rn ?_; simp only [RSr_mk]) | (refine RS.mE ?_; refine RS.rn ?_; simp only [RSr_mk]) | (refine RS.eS ?_; refine RS.rn ?_; simp only [RSr_mk]) | (refine RS.mU ?_; refine RS.rn ?_; simp only [RSr_mk]) | (refine RS.mM ?_; refine RS.rn ?_; simp only [RSr_mk]) | (refine RS.lk ?_; refine RS.rn ?_; simp only [RSr_mk]) | ((refine WP.cn (fun hc => ?_) (fun hc => ?_)) <;> try exact Bool.noConfusion hc) | (refine WP.skip ?_; try simp only [thenQ_n, blockQ_n]) | (refine WP.exit ?_; try simp only [thenQ_e, blockQ_e, blockQ_o, ne_eq, Nat.reduceEqDiff, not_false_eq_true, reduceCtorEq, thenQ_n, blockQ_n]) | refine WP.block ?_ | (refine WP.ret ?_; (try simp only [thenQ_r, blockQ_r])) | refine ret3 ?_ | refine retC3 ?_)
  simp only [List.map_map]; rfl
set_option maxRecDepth 100000 in
set_option maxHeartbeats 4000000 in
theorem pclStr (l : List (List UInt8)) (hn : l.length ≤ 1048576) : DPure Tryd.prog 46 [.a (.sl (l.map strAt))] (.a (.sl (l.map strAt))) := by
  refine DPure.go Tryd.func46 rfl Tryd.ntmps46 rfl rfl rfl (fun C hro => ?_)
  have fx := trivial
  repeat' (first | refine WP.seq ?_ | (refine WP.rg [0, 2, 4] ?_; simp only [RSr_mk]) | refine RS.fnT ?_ | (refine RS.fn ?_; try simp only [thenQ_n, blockQ_n]) | (refine RS.aO ?_; refine RS.rn ?_; simp only [RSr_mk]) | (refine RS.aN ?_; refine RS.rn ?_; simp only [RSr_mk]) | (refine RS.mS ?_; refine RS.rn ?_; simp only [RSr_mk]) | (refine RS.l0 ?_; refine RS.rn ?_; simp only [RSr_mk]) | (refine RS.li ?_; refine RS.rn ?_; simp only [RSr_mk]) | (refine RS.sE ?_; refine RS.rn ?_; simp only [RSr_mk]) | (refine RS.mE ?_; refine RS.rn ?_; simp only [RSr_mk]) | (refine RS.eS ?_; refine RS.rn ?_; simp only [RSr_mk]) | (refine RS.mU ?_; refine RS.rn ?_; simp only [RSr_mk]) | (refine RS.mM ?_; refine RS.rn ?_; simp only [RSr_mk]) | (refine RS.lk ?_; refine RS.rn ?_; simp only [RSr_mk]) | ((refine WP.cn (fun hc => ?_) (fun hc => ?_)) <;> try exact Bool.noConfusion hc) | (refine WP.skip ?_; try simp only [thenQ_n, blockQ_n]) | (refine WP.exit ?_; try simp only [thenQ_e, blockQ_e, blockQ_o, ne_eq, Nat.reduceEqDiff, not_false_eq_true, reduceCtorEq, thenQ_n, blockQ_n]) | refine WP.block ?_ | (refine WP.ret ?_; (try simp only [thenQ_r, blockQ_r])) | refine ret3 ?_ | refine retC3 ?_)
  refine RS.eN fun b hb => ?_
  refine RS.run2 (by simp only [go_sem, simprocAttr, thenQ_n]; first | done | rfl) ?_; simp only [RSr_mk]
  repeat' (first | refine WP.seq ?_ | (refine WP.rg [0, 2, 4] ?_; simp only [RSr_mk]) | refine RS.fnT ?_ | (refine RS.fn ?_; try simp only [thenQ_n, blockQ_n]) | (refine RS.aO ?_; refine RS.rn ?_; simp only [RSr_mk]) | (refine RS.aN ?_; refine RS.rn ?_; simp only [RSr_mk]) | (refine RS.mS ?_; refine RS.rn ?_; simp only [RSr_mk]) | (refine RS.l0 ?_; refine RS.rn ?_; simp only [RSr_mk]) | (refine RS.li ?_; refine RS.rn ?_; simp only [RSr_mk]) | (refine RS.sE ?_; refine RS.rn ?_; simp only [RSr_mk]) | (refine RS.mE ?_; refine RS.rn ?_; simp only [RSr_mk]) | (refine RS.eS ?_; refine RS.rn ?_; simp only [RSr_mk]) | (refine RS.mU ?_; refine RS.rn ?_; simp only [RSr_mk]) | (refine RS.mM ?_; refine RS.rn ?_; simp only [RSr_mk]) | (refine RS.lk ?_; refine RS.rn ?_; simp only [RSr_mk]) | ((refine WP.cn (fun hc => ?_) (fun hc => ?_)) <;> try exact Bool.noConfusion hc) | (refine WP.skip ?_; try simp only [thenQ_n, blockQ_n]) | (refine WP.exit ?_; try simp only [thenQ_e, blockQ_e, blockQ_o, ne_eq, Nat.reduceEqDiff, not_false_eq_true, reduceCtorEq, thenQ_n, blockQ_n]) | refine WP.block ?_ | (refine WP.ret ?_; (try simp only [thenQ_r, blockQ_r])) | refine ret3 ?_ | refine retC3 ?_)
  · cases l with
    | nil => rfl
    | cons => exact absurd (hb (by simp)) (by rw [hc]; simp)
  · rfl
set_option maxRecDepth 100000 in
set_option maxHeartbeats 4000000 in
theorem pclOwn (l : List (Int × Int)) (hn : l.length ≤ 1048576) : DPure Tryd.prog 47 [.a (.sl (l.map owAt))] (.a (.sl (l.map owAt))) := by
  refine DPure.go Tryd.func47 rfl Tryd.ntmps47 rfl rfl rfl (fun C hro => ?_)
  have fx := trivial
  repeat' (first | refine WP.seq ?_ | (refine WP.rg [0, 2, 4] ?_; simp only [RSr_mk]) | refine RS.fnT ?_ | (refine RS.fn ?_; try simp only [thenQ_n, blockQ_n]) | (refine RS.aO ?_; refine RS.rn ?_; simp only [RSr_mk]) | (refine RS.aN ?_; refine RS.rn ?_; simp only [RSr_mk]) | (refine RS.mS ?_; refine RS.rn ?_; simp only [RSr_mk]) | (refine RS.l0 ?_; refine RS.rn ?_; simp only [RSr_mk]) | (refine RS.li ?_; refine RS.rn ?_; simp only [RSr_mk]) | (refine RS.sE ?_; refine RS.rn ?_; simp only [RSr_mk]) | (refine RS.mE ?_; refine RS.rn ?_; simp only [RSr_mk]) | (refine RS.eS ?_; refine RS.rn ?_; simp only [RSr_mk]) | (refine RS.mU ?_; refine RS.rn ?_; simp only [RSr_mk]) | (refine RS.mM ?_; refine RS.rn ?_; simp only [RSr_mk]) | (refine RS.lk ?_; refine RS.rn ?_; simp only [RSr_mk]) | ((refine WP.cn (fun hc => ?_) (fun hc => ?_)) <;> try exact Bool.noConfusion hc) | (refine WP.skip ?_; try simp only [thenQ_n, blockQ_n]) | (refine WP.exit ?_; try simp only [thenQ_e, blockQ_e, blockQ_o, ne_eq, Nat.reduceEqDiff, not_false_eq_true, reduceCtorEq, thenQ_n, blockQ_n]) | refine WP.block ?_ | (refine WP.ret ?_; (try simp only [thenQ_r, blockQ_r])) | refine ret3 ?_ | refine retC3 ?_)
  refine RS.eN fun b hb => ?_
  refine RS.run2 (by simp only [go_sem, simprocAttr, thenQ_n]; first | done | rfl) ?_; simp only [RSr_mk]
  repeat' (first | refine WP.seq ?_ | (refine WP.rg [0, 2, 4] ?_; simp only [RSr_mk]) | refine RS.fnT ?_ | (refine RS.fn ?_; try simp only [thenQ_n, blockQ_n]) | (refine RS.aO ?_; refine RS.rn ?_; simp only [RSr_mk]) | (refine RS.aN ?_; refine RS.rn ?_; simp only [RSr_mk]) | (refine RS.mS ?_; refine RS.rn ?_; simp only [RSr_mk]) | (refine RS.l0 ?_; refine RS.rn ?_; simp only [RSr_mk]) | (refine RS.li ?_; refine RS.rn ?_; simp only [RSr_mk]) | (refine RS.sE ?_; refine RS.rn ?_; simp only [RSr_mk]) | (refine RS.mE ?_; refine RS.rn ?_; simp only [RSr_mk]) | (refine RS.eS ?_; refine RS.rn ?_; simp only [RSr_mk]) | (refine RS.mU ?_; refine RS.rn ?_; simp only [RSr_mk]) | (refine RS.mM ?_; refine RS.rn ?_; simp only [RSr_mk]) | (refine RS.lk ?_; refine RS.rn ?_; simp only [RSr_mk]) | ((refine WP.cn (fun hc => ?_) (fun hc => ?_)) <;> try exact Bool.noConfusion hc) | (refine WP.skip ?_; try simp only [thenQ_n, blockQ_n]) | (refine WP.exit ?_; try simp only [thenQ_e, blockQ_e, blockQ_o, ne_eq, Nat.reduceEqDiff, not_false_eq_true, reduceCtorEq, thenQ_n, blockQ_n]) | refine WP.block ?_ | (refine WP.ret ?_; (try simp only [thenQ_r, blockQ_r])) | refine ret3 ?_ | refine retC3 ?_)
  · cases l with
    | nil => rfl
    | cons => exact absurd (hb (by simp)) (by rw [hc]; simp)
  · rfl
end Go.Proofs.YtofmlhpcobjfcaaDoor
namespace Go.Proofs.YtofmlhpcobjfcaaDoor
open Go.RowKit
set_option maxRecDepth 100000 in
set_option maxHeartbeats 4000000 in
theorem pbVar (v : Vr) : DPure Tryd.prog 49 [.r (Vr.at v)] (.r (Vr.at v.bare)) := by
  refine DPure.go Tryd.func49 rfl Tryd.ntmps49 rfl rfl rfl (fun C hro => ?_)
  have fx := trivial
  repeat' (first | refine WP.seq ?_ | (refine WP.rg [0, 1, 2] ?_; simp only [RSr_mk]) | refine RS.fnT ?_ | (refine RS.fn ?_; try simp only [thenQ_n, blockQ_n]) | (refine RS.aO ?_; refine RS.rn ?_; simp only [RSr_mk]) | (refine RS.aN ?_; refine RS.rn ?_; simp only [RSr_mk]) | (refine RS.mS ?_; refine RS.rn ?_; simp only [RSr_mk]) | (refine RS.l0 ?_; refine RS.rn ?_; simp only [RSr_mk]) | (refine RS.li ?_; refine RS.rn ?_; simp only [RSr_mk]) | (refine RS.sE ?_; refine RS.rn ?_; simp only [RSr_mk]) | (refine RS.mE ?_; refine RS.rn ?_; simp only [RSr_mk]) | (refine RS.eS ?_; refine RS.rn ?_; simp only [RSr_mk]) | (refine RS.mU ?_; refine RS.rn ?_; simp only [RSr_mk]) | (refine RS.mM ?_; refine RS.rn ?_; simp only [RSr_mk]) | (refine RS.lk ?_; refine RS.rn ?_; simp only [RSr_mk]) | ((refine WP.cn (fun hc => ?_) (fun hc => ?_)) <;> try exact Bool.noConfusion hc) | (refine WP.skip ?_; try simp only [thenQ_n, blockQ_n]) | (refine WP.exit ?_; try simp only [thenQ_e, blockQ_e, blockQ_o, ne_eq, Nat.reduceEqDiff, not_false_eq_true, reduceCtorEq, thenQ_n, blockQ_n]) | refine WP.block ?_ | (refine WP.ret ?_; (try simp only [thenQ_r, blockQ_r])) | refine ret3 ?_ | refine retC3 ?_)
  rfl
set_option maxRecDepth 100000 in
set_option maxHeartbeats 4000000 in
theorem pbExpr : ∀ (m : Nat) (e : Ex), e.sz ≤ m → e.sz ≤ 1048576 → DPure Tryd.prog 89 [.r (Ex.at e)] (.r (Ex.at e))
  | 0, e, h, _ => by have := e.sz_pos; omega
  | m + 1, e, h, hz => by
    have hl := Ex.szs_len e.kids
    have hs := Ex.sz_eq e
    have hk : ∀ k ∈ e.kids, DPure Tryd.prog 89 [.r (Ex.at k)] (.r (Ex.at (id k))) := fun k hk => pbExpr m k (by have := Ex.kid_lt hk; omega) (by have := Ex.kid_lt hk; omega)
    refine DPure.go Tryd.func89 rfl Tryd.ntmps89 rfl rfl rfl (fun C hro => ?_)
    have fx := trivial
    repeat' (first | refine WP.seq ?_ | (refine WP.rg [0, 1, 2] ?_; simp only [RSr_mk]) | refine RS.fnT ?_ | (refine RS.fn ?_; try simp only [thenQ_n, blockQ_n]) | (refine RS.cl (hp := by exact pblExpr id e.kids 89 (by omega) hk) (h := ?_); refine RS.rn ?_; simp only [RSr_mk]) | (refine RS.cvv (hp := by exact pblExpr id e.kids 89 (by omega) hk) (h := ?_); refine RS.rn ?_; simp only [RSr_mk]) | (refine RS.aO ?_; refine RS.rn ?_; simp only [RSr_mk]) | (refine RS.aN ?_; refine RS.rn ?_; simp only [RSr_mk]) | (refine RS.mS ?_; refine RS.rn ?_; simp only [RSr_mk]) | (refine RS.l0 ?_; refine RS.rn ?_; simp only [RSr_mk]) | (refine RS.li ?_; refine RS.rn ?_; simp only [RSr_mk]) | (refine RS.sE ?_; refine RS.rn ?_; simp only [RSr_mk]) | (refine RS.mE ?_; refine RS.rn ?_; simp only [RSr_mk]) | (refine RS.eS ?_; refine RS.rn ?_; simp only [RSr_mk]) | (refine RS.mU ?_; refine RS.rn ?_; simp only [RSr_mk]) | (refine RS.mM ?_; refine RS.rn ?_; simp only [RSr_mk]) | (refine RS.lk ?_; refine RS.rn ?_; simp only [RSr_mk]) | ((refine WP.cn (fun hc => ?_) (fun hc => ?_)) <;> try exact Bool.noConfusion hc) | (refine WP.skip ?_; try simp only [thenQ_n, blockQ_n]) | (refine WP.exit ?_; try simp only [thenQ_e, blockQ_e, blockQ_o, ne_eq, Nat.reduceEqDiff, not_false_eq_true, reduceCtorEq, thenQ_n, blockQ_n]) | refine WP.block ?_ | (refine WP.ret ?_; (try simp only [thenQ_r, blockQ_r])) | refine ret3 ?_ | refine retC3 ?_)
    simp only [List.map_id]
    cases e; rfl
set_option maxRecDepth 100000 in
set_option maxHeartbeats 4000000 in
theorem pbStmt : ∀ (m : Nat) (s : St), s.sz ≤ m → s.sz ≤ 1048576 → DPure Tryd.prog 70 [.r (St.at s)] (.r (St.at s.bare))
  | 0, s, h, _ => by have := s.sz_pos; omega
  | m + 1, s, h, hz => by
    have hl1 := Ex.szs_len s.args
    have hl2 := St.szs_len s.body
    have hl3 := St.szs_len s.els
    have hs := St.sz_eq s
    have hk1 : ∀ k ∈ s.args, DPure Tryd.prog 89 [.r (Ex.at k)] (.r (Ex.at (id k))) := fun k hk => pbExpr k.sz k (Nat.le_refl _) (by have := Ex.szs_mem hk; omega)
    have hk2 : ∀ k ∈ s.body, DPure Tryd.prog 70 [.r (St.at k)] (.r (St.at k.bare)) := fun k hk => pbStmt m k (by have := St.body_lt hk; omega) (by have := St.body_lt hk; omega)
    have hk3 : ∀ k ∈ s.els, DPure Tryd.prog 70 [.r (St.at k)] (.r (St.at k.bare)) := fun k hk => pbStmt m k (by have := St.els_lt hk; omega) (by have := St.els_lt hk; omega)
    refine DPure.go Tryd.func70 rfl Tryd.ntmps70 rfl rfl rfl (fun C hro => ?_)
    have fx := trivial
    repeat' (first | refine WP.seq ?_ | (refine WP.rg [0, 1, 2, 8] ?_; simp only [RSr_mk]) | refine RS.fnT ?_ | (refine RS.fn ?_; try simp only [thenQ_n, blockQ_n]) | (refine RS.cl (hp := by first | exact peSame s.e.sz s.e Ex.zero (Nat.le_refl _) (by omega) | exact pbExpr s.e.sz s.e (Nat.le_refl _) (by omega) | exact pblExpr id s.args 89 (by omega) hk1 | exact pblStmt St.bare s.body 70 (by omega) hk2 | exact pblStmt St.bare s.els 70 (by omega) hk3) (h := ?_); refine RS.rn ?_; simp only [RSr_mk]) | (refine RS.cvv (hp := by first | exact peSame s.e.sz s.e Ex.zero (Nat.le_refl _) (by omega) | exact pbExpr s.e.sz s.e (Nat.le_refl _) (by omega) | exact pblExpr id s.args 89 (by omega) hk1 | exact pblStmt St.bare s.body 70 (by omega) hk2 | exact pblStmt St.bare s.els 70 (by omega) hk3) (h := ?_); refine RS.rn ?_; simp only [RSr_mk]) | (refine RS.aO ?_; refine RS.rn ?_; simp only [RSr_mk]) | (refine RS.aN ?_; refine RS.rn ?_; simp only [RSr_mk]) | (refine RS.mS ?_; refine RS.rn ?_; simp only [RSr_mk]) | (refine RS.l0 ?_; refine RS.rn ?_; simp only [RSr_mk]) | (refine RS.li ?_; refine RS.rn ?_; simp only [RSr_mk]) | (refine RS.sE ?_; refine RS.rn ?_; simp only [RSr_mk]) | (refine RS.mE ?_; refine RS.rn ?_; simp only [RSr_mk]) | (refine RS.eS ?_; refine RS.rn ?_; simp only [RSr_mk]) | (refine RS.mU ?_; refine RS.rn ?_; simp only [RSr_mk]) | (refine RS.mM ?_; refine RS.rn ?_; simp only [RSr_mk]) | (refine RS.lk ?_; refine RS.rn ?_; simp only [RSr_mk]) | ((refine WP.cn (fun hc => ?_) (fun hc => ?_)) <;> try exact Bool.noConfusion hc) | (refine WP.skip ?_; try simp only [thenQ_n, blockQ_n]) | (refine WP.exit ?_; try simp only [thenQ_e, blockQ_e, blockQ_o, ne_eq, Nat.reduceEqDiff, not_false_eq_true, reduceCtorEq, thenQ_n, blockQ_n]) | refine WP.block ?_ | (refine WP.ret ?_; (try simp only [thenQ_r, blockQ_r])) | refine ret3 ?_ | refine retC3 ?_)
    all_goals rw [St.bare_eq s, List.map_id, ← St.bares_map, ← St.bares_map]
set_option maxRecDepth 100000 in
set_option maxHeartbeats 4000000 in
theorem pbMethod (m : Me) (hz : m.sz ≤ 1048576) : DPure Tryd.prog 51 [.r (Me.at m)] (.r (Me.at m.bare)) := by
  have h1 := Me.szH hz
  have hl := St.szs_len m.body
  have hk1 : ∀ l : List Vr, ∀ k ∈ l, DPure Tryd.prog 49 [.r (Vr.at k)] (.r (Vr.at k.bare)) := fun _ k _ => pbVar k
  have hk2 : ∀ k ∈ m.body, DPure Tryd.prog 70 [.r (St.at k)] (.r (St.at k.bare)) := fun k hk => pbStmt k.sz k (Nat.le_refl _) (by have := St.szs_mem hk; omega)
  refine DPure.go Tryd.func51 rfl Tryd.ntmps51 rfl rfl rfl (fun C hro => ?_)
  have fx := trivial
  repeat' (first | refine WP.seq ?_ | (refine WP.rg [0, 1, 2] ?_; simp only [RSr_mk]) | refine RS.fnT ?_ | (refine RS.fn ?_; try simp only [thenQ_n, blockQ_n]) | (refine RS.cl (hp := by first | exact pblVar Vr.bare m.params 49 (by omega) (hk1 _) | exact pblVar Vr.bare m.locals 49 (by omega) (hk1 _) | exact pblStmt St.bare m.body 70 (by omega) hk2) (h := ?_); refine RS.rn ?_; simp only [RSr_mk]) | (refine RS.cvv (hp := by first | exact pblVar Vr.bare m.params 49 (by omega) (hk1 _) | exact pblVar Vr.bare m.locals 49 (by omega) (hk1 _) | exact pblStmt St.bare m.body 70 (by omega) hk2) (h := ?_); refine RS.rn ?_; simp only [RSr_mk]) | (refine RS.aO ?_; refine RS.rn ?_; simp only [RSr_mk]) | (refine RS.aN ?_; refine RS.rn ?_; simp only [RSr_mk]) | (refine RS.mS ?_; refine RS.rn ?_; simp only [RSr_mk]) | (refine RS.l0 ?_; refine RS.rn ?_; simp only [RSr_mk]) | (refine RS.li ?_; refine RS.rn ?_; simp only [RSr_mk]) | (refine RS.sE ?_; refine RS.rn ?_; simp only [RSr_mk]) | (refine RS.mE ?_; refine RS.rn ?_; simp only [RSr_mk]) | (refine RS.eS ?_; refine RS.rn ?_; simp only [RSr_mk]) | (refine RS.mU ?_; refine RS.rn ?_; simp only [RSr_mk]) | (refine RS.mM ?_; refine RS.rn ?_; simp only [RSr_mk]) | (refine RS.lk ?_; refine RS.rn ?_; simp only [RSr_mk]) | ((refine WP.cn (fun hc => ?_) (fun hc => ?_)) <;> try exact Bool.noConfusion hc) | (refine WP.skip ?_; try simp only [thenQ_n, blockQ_n]) | (refine WP.exit ?_; try simp only [thenQ_e, blockQ_e, blockQ_o, ne_eq, Nat.reduceEqDiff, not_false_eq_true, reduceCtorEq, thenQ_n, blockQ_n]) | refine WP.block ?_ | (refine WP.ret ?_; (try simp only [thenQ_r, blockQ_r])) | refine ret3 ?_ | refine retC3 ?_)
  rfl
set_option maxRecDepth 100000 in
set_option maxHeartbeats 4000000 in
theorem pbClass (c : Cs) (hz : c.sz ≤ 1048576) : DPure Tryd.prog 25 [.r (Cs.at c)] (.r (Cs.at c.bare)) := by
  have hp := sumOf_len (f := fun s : List UInt8 => s.length + 1) (fun _ => Nat.succ_pos _) c.params
  have hf := sumOf_len Vr.sz_pos c.fields
  have hm := sumOf_len Me.sz_pos c.methods
  have hs : c.sz = 1 + c.name.length + c.super.length + sumOf (fun s : List UInt8 => s.length + 1) c.params + c.above.length + sumOf Vr.sz c.fields + sumOf Me.sz c.methods := rfl
  have hk1 : ∀ k ∈ c.fields, DPure Tryd.prog 49 [.r (Vr.at k)] (.r (Vr.at k.bare)) := fun k _ => pbVar k
  have hk2 : ∀ k ∈ c.methods, DPure Tryd.prog 51 [.r (Me.at k)] (.r (Me.at k.bare)) := fun k hk => pbMethod k (by have := sumOf_mem (f := Me.sz) hk; omega)
  refine DPure.go Tryd.func25 rfl Tryd.ntmps25 rfl rfl rfl (fun C hro => ?_)
  have fx := trivial
  repeat' (first | refine WP.seq ?_ | (refine WP.rg [0, 1, 2] ?_; simp only [RSr_mk]) | refine RS.fnT ?_ | (refine RS.fn ?_; try simp only [thenQ_n, blockQ_n]) | (refine RS.cl (hp := by first | exact pclStr c.params (by omega) | exact pclOwn c.above (by omega) | exact pblVar Vr.bare c.fields 49 (by omega) hk1 | exact pblMeth Me.bare c.methods 51 (by omega) hk2) (h := ?_); refine RS.rn ?_; simp only [RSr_mk]) | (refine RS.cvv (hp := by first | exact pclStr c.params (by omega) | exact pclOwn c.above (by omega) | exact pblVar Vr.bare c.fields 49 (by omega) hk1 | exact pblMeth Me.bare c.methods 51 (by omega) hk2) (h := ?_); refine RS.rn ?_; simp only [RSr_mk]) | (refine RS.aO ?_; refine RS.rn ?_; simp only [RSr_mk]) | (refine RS.aN ?_; refine RS.rn ?_; simp only [RSr_mk]) | (refine RS.mS ?_; refine RS.rn ?_; simp only [RSr_mk]) | (refine RS.l0 ?_; refine RS.rn ?_; simp only [RSr_mk]) | (refine RS.li ?_; refine RS.rn ?_; simp only [RSr_mk]) | (refine RS.sE ?_; refine RS.rn ?_; simp only [RSr_mk]) | (refine RS.mE ?_; refine RS.rn ?_; simp only [RSr_mk]) | (refine RS.eS ?_; refine RS.rn ?_; simp only [RSr_mk]) | (refine RS.mU ?_; refine RS.rn ?_; simp only [RSr_mk]) | (refine RS.mM ?_; refine RS.rn ?_; simp only [RSr_mk]) | (refine RS.lk ?_; refine RS.rn ?_; simp only [RSr_mk]) | ((refine WP.cn (fun hc => ?_) (fun hc => ?_)) <;> try exact Bool.noConfusion hc) | (refine WP.skip ?_; try simp only [thenQ_n, blockQ_n]) | (refine WP.exit ?_; try simp only [thenQ_e, blockQ_e, blockQ_o, ne_eq, Nat.reduceEqDiff, not_false_eq_true, reduceCtorEq, thenQ_n, blockQ_n]) | refine WP.block ?_ | (refine WP.ret ?_; (try simp only [thenQ_r, blockQ_r])) | refine ret3 ?_ | refine retC3 ?_)
  rfl
set_option maxRecDepth 100000 in
set_option maxHeartbeats 4000000 in
theorem pBare (l : List Cs) (hz : sumOf Cs.sz l ≤ 1048576) : DPure Tryd.prog 8 [.a (.sl (l.map Cs.at))] (.a (.sl ((l.map Cs.bare).map Cs.at))) := by
  have hl := sumOf_len Cs.sz_pos l
  have hk : ∀ k ∈ l, DPure Tryd.prog 25 [.r (Cs.at k)] (.r (Cs.at k.bare)) := fun k hk => pbClass k (by have := sumOf_mem (f := Cs.sz) hk; omega)
  refine DPure.go Tryd.func8 rfl Tryd.ntmps8 rfl rfl rfl (fun C hro => ?_)
  have fx := trivial
  repeat' (first | refine WP.seq ?_ | (refine WP.rg [0, 2] ?_; simp only [RSr_mk]) | refine RS.fnT ?_ | (refine RS.fn ?_; try simp only [thenQ_n, blockQ_n]) | (refine RS.cl (hp := by exact pblClass Cs.bare l 25 (by omega) hk) (h := ?_); refine RS.rn ?_; simp only [RSr_mk]) | (refine RS.cvv (hp := by exact pblClass Cs.bare l 25 (by omega) hk) (h := ?_); refine RS.rn ?_; simp only [RSr_mk]) | (refine RS.aO ?_; refine RS.rn ?_; simp only [RSr_mk]) | (refine RS.aN ?_; refine RS.rn ?_; simp only [RSr_mk]) | (refine RS.mS ?_; refine RS.rn ?_; simp only [RSr_mk]) | (refine RS.l0 ?_; refine RS.rn ?_; simp only [RSr_mk]) | (refine RS.li ?_; refine RS.rn ?_; simp only [RSr_mk]) | (refine RS.sE ?_; refine RS.rn ?_; simp only [RSr_mk]) | (refine RS.mE ?_; refine RS.rn ?_; simp only [RSr_mk]) | (refine RS.eS ?_; refine RS.rn ?_; simp only [RSr_mk]) | (refine RS.mU ?_; refine RS.rn ?_; simp only [RSr_mk]) | (refine RS.mM ?_; refine RS.rn ?_; simp only [RSr_mk]) | (refine RS.lk ?_; refine RS.rn ?_; simp only [RSr_mk]) | ((refine WP.cn (fun hc => ?_) (fun hc => ?_)) <;> try exact Bool.noConfusion hc) | (refine WP.skip ?_; try simp only [thenQ_n, blockQ_n]) | (refine WP.exit ?_; try simp only [thenQ_e, blockQ_e, blockQ_o, ne_eq, Nat.reduceEqDiff, not_false_eq_true, reduceCtorEq, thenQ_n, blockQ_n]) | refine WP.block ?_ | (refine WP.ret ?_; (try simp only [thenQ_r, blockQ_r])) | refine ret3 ?_ | refine retC3 ?_)
  rfl
end Go.Proofs.YtofmlhpcobjfcaaDoor
namespace Go.Proofs.YtofmlhpcobjfcaaDoor
open Go.RowKit
set_option maxRecDepth 100000 in
set_option maxHeartbeats 8000000 in
theorem pLawBare (p : List Cs) (hp : sumOf Cs.sz p ≤ 1048576) : DPure Tryd.prog 3 [.a (.sl (p.map Cs.at))] (.a (.v (.bool true))) := by
  have hl := sumOf_len Cs.sz_pos p
  have hb : sumOf Cs.sz (p.map Cs.bare) ≤ 1048576 := by rw [bare_sz]; exact hp
  refine DPure.go Tryd.func3 rfl Tryd.ntmps3 rfl rfl rfl (fun C hro => ?_)
  have fx := trivial
  repeat' (first | refine WP.seq ?_ | (refine WP.rg [0, 2, 3, 4, 5, 7, 16, 31] ?_; simp only [RSr_mk]) | refine RS.fnT ?_ | (refine RS.fn ?_; try simp only [thenQ_n, blockQ_n]) | (refine RS.cl (hp := by first | exact pHeavy p hp | exact pAwake | exact pBare p hp | exact pBare (p.map Cs.bare) hb) (h := ?_); refine RS.rn ?_; simp only [RSr_mk]) | (refine RS.cvv (hp := by first | exact pHeavy p hp | exact pAwake | exact pBare p hp | exact pBare (p.map Cs.bare) hb) (h := ?_); refine RS.rn ?_; simp only [RSr_mk]) | (refine RS.aO ?_; refine RS.rn ?_; simp only [RSr_mk]) | (refine RS.aN ?_; refine RS.rn ?_; simp only [RSr_mk]) | (refine RS.mS ?_; refine RS.rn ?_; simp only [RSr_mk]) | (refine RS.l0 ?_; refine RS.rn ?_; simp only [RSr_mk]) | (refine RS.li ?_; refine RS.rn ?_; simp only [RSr_mk]) | (refine RS.sE ?_; refine RS.rn ?_; simp only [RSr_mk]) | (refine RS.mE ?_; refine RS.rn ?_; simp only [RSr_mk]) | (refine RS.eS ?_; refine RS.rn ?_; simp only [RSr_mk]) | (refine RS.mU ?_; refine RS.rn ?_; simp only [RSr_mk]) | (refine RS.mM ?_; refine RS.rn ?_; simp only [RSr_mk]) | (refine RS.lk ?_; refine RS.rn ?_; simp only [RSr_mk]) | ((refine WP.cn (fun hc => ?_) (fun hc => ?_)) <;> try exact Bool.noConfusion hc) | (refine WP.skip ?_; try simp only [thenQ_n, blockQ_n]) | (refine WP.exit ?_; try simp only [thenQ_e, blockQ_e, blockQ_o, ne_eq, Nat.reduceEqDiff, not_false_eq_true, reduceCtorEq, thenQ_n, blockQ_n]) | refine WP.block ?_ | (refine WP.ret ?_; (try simp only [thenQ_r, blockQ_r])) | refine ret3 ?_ | refine retC3 ?_)
  · rfl
  obtain ⟨q, hq⟩ : ∃ q, q = p.map Cs.bare := ⟨_, rfl⟩
  obtain ⟨r, hr⟩ : ∃ r, r = (p.map Cs.bare).map Cs.bare := ⟨_, rfl⟩
  rw [← hr, ← hq]
  rw [← hq] at hb
  have hql : q.length = p.length := by rw [hq, List.length_map]
  have hne : ((((q.map Cs.at).length : Nat) : Int) != (((p.map Cs.at).length : Nat) : Int)) = false := by simp [hql]
  have hne1 : (((q.length : Nat) : Int) != ((p.length : Nat) : Int)) = false := by simp [hql]
  refine WP.loop (α := { k : Nat // k ≤ q.length }) (fun y => [(0, .a (.sl (p.map Cs.at))), (2, .a (.v (.bool false))), (3, .a (.sl (q.map Cs.at))), (4, .a (.sl (r.map Cs.at))), (5, .a (.v (.int .i64 (y.1 : Nat))))]) (fun _ => []) (fun y => q.length - y.1) ⟨0, by omega⟩ (by simp only [Agree, go_sem, simprocAttr]; first | done | rfl) rfl ?_
  rintro ⟨k, hk⟩
  dsimp only
  by_cases hlt : k < q.length
  · have hlt2 : decide ((k : Int) < ((q.length : Nat) : Int)) = true := decide_eq_true (by omega)
    obtain ⟨z, hz⟩ : ∃ z, q[k]? = some z := ⟨_, List.getElem?_eq_getElem hlt⟩
    have hzm : z ∈ q := List.mem_of_getElem? hz
    have hzt := take_snocA hz
    have hix : ∀ q2, ixD (some 7) q2 (.a (.sl (q.map Cs.at))) (.a (.v (.int .i64 (k : Int)))) = some (.a (.ref (Cs.at z) 0)) := fun q2 => ixD_at rfl (by rw [List.getElem?_map, hz]; rfl) (by simp only [go_sem])
    have hat : (z.at_ != 0) = false := by
      rw [hq, List.mem_map] at hzm
      obtain ⟨y, _, rfl⟩ := hzm
      rfl
    have hwu := wrap64n (k := k) (by omega)
    replace fx := And.intro hlt2 (And.intro hix (And.intro hwu (And.intro hne1 (And.intro hat trivial))))
    repeat' (first | refine WP.seq ?_ | (refine WP.rg [0, 2, 3, 4, 5, 7, 16, 31] ?_; simp only [RSr_mk]) | refine RS.fnT ?_ | (refine RS.fn ?_; try simp only [thenQ_n, blockQ_n]) | (refine RS.aO ?_; refine RS.rn ?_; simp only [RSr_mk]) | (refine RS.aN ?_; refine RS.rn ?_; simp only [RSr_mk]) | (refine RS.mS ?_; refine RS.rn ?_; simp only [RSr_mk]) | (refine RS.l0 ?_; refine RS.rn ?_; simp only [RSr_mk]) | (refine RS.li ?_; refine RS.rn ?_; simp only [RSr_mk]) | (refine RS.sE ?_; refine RS.rn ?_; simp only [RSr_mk]) | (refine RS.mE ?_; refine RS.rn ?_; simp only [RSr_mk]) | (refine RS.eS ?_; refine RS.rn ?_; simp only [RSr_mk]) | (refine RS.mU ?_; refine RS.rn ?_; simp only [RSr_mk]) | (refine RS.mM ?_; refine RS.rn ?_; simp only [RSr_mk]) | (refine RS.lk ?_; refine RS.rn ?_; simp only [RSr_mk]) | ((refine WP.cn (fun hc => ?_) (fun hc => ?_)) <;> try exact Bool.noConfusion hc) | (refine WP.skip ?_; try simp only [thenQ_n, blockQ_n]) | (refine WP.exit ?_; try simp only [thenQ_e, blockQ_e, blockQ_o, ne_eq, Nat.reduceEqDiff, not_false_eq_true, reduceCtorEq, thenQ_n, blockQ_n]) | refine WP.block ?_ | (refine WP.ret ?_; (try simp only [thenQ_r, blockQ_r])) | refine ret3 ?_ | refine retC3 ?_)
    refine ⟨⟨k + 1, by omega⟩, by dsimp only; omega, by simp only [Agree, go_sem, simprocAttr], rfl⟩
  obtain rfl : k = q.length := by omega
  have hlt2 : decide ((q.length : Int) < (q.length : Int)) = false := decide_eq_false (by omega)
  replace fx := And.intro hlt2 trivial
  repeat' (first | refine WP.seq ?_ | (refine WP.rg [0, 2, 3, 4, 5, 7, 16, 31] ?_; simp only [RSr_mk]) | refine RS.fnT ?_ | (refine RS.fn ?_; try simp only [thenQ_n, blockQ_n]) | (refine RS.cl (hp := by first | exact pAwake | exact pzSame p q hp | exact pLikes p q false hp | exact pLikes q r true hb | exact pzRight p hp | exact pzRight q hb) (h := ?_); refine RS.rn ?_; simp only [RSr_mk]) | (refine RS.cvv (hp := by first | exact pAwake | exact pzSame p q hp | exact pLikes p q false hp | exact pLikes q r true hb | exact pzRight p hp | exact pzRight q hb) (h := ?_); refine RS.rn ?_; simp only [RSr_mk]) | (refine RS.aO ?_; refine RS.rn ?_; simp only [RSr_mk]) | (refine RS.aN ?_; refine RS.rn ?_; simp only [RSr_mk]) | (refine RS.mS ?_; refine RS.rn ?_; simp only [RSr_mk]) | (refine RS.l0 ?_; refine RS.rn ?_; simp only [RSr_mk]) | (refine RS.li ?_; refine RS.rn ?_; simp only [RSr_mk]) | (refine RS.sE ?_; refine RS.rn ?_; simp only [RSr_mk]) | (refine RS.mE ?_; refine RS.rn ?_; simp only [RSr_mk]) | (refine RS.eS ?_; refine RS.rn ?_; simp only [RSr_mk]) | (refine RS.mU ?_; refine RS.rn ?_; simp only [RSr_mk]) | (refine RS.mM ?_; refine RS.rn ?_; simp only [RSr_mk]) | (refine RS.lk ?_; refine RS.rn ?_; simp only [RSr_mk]) | ((refine WP.cn (fun hc => ?_) (fun hc => ?_)) <;> try exact Bool.noConfusion hc) | (refine WP.skip ?_; try simp only [thenQ_n, blockQ_n]) | (refine WP.exit ?_; try simp only [thenQ_e, blockQ_e, blockQ_o, ne_eq, Nat.reduceEqDiff, not_false_eq_true, reduceCtorEq, thenQ_n, blockQ_n]) | refine WP.block ?_ | (refine WP.ret ?_; (try simp only [thenQ_r, blockQ_r])) | refine ret3 ?_ | refine retC3 ?_)
  subst hr; subst hq
  exact bool_eq (by rw [like_bare, bare_bare, like_refl, right_bare]; simp)
end Go.Proofs.YtofmlhpcobjfcaaDoor
