/- Calls that are handed several of the caller's own blocks, may turn them, and leave new ones, on plain data. No program in sight. Conditions: none. -/
import Derived.Test.YtofmlhpcobjfcaaDoorMg8
set_option linter.unusedVariables false
set_option linter.unusedSimpArgs false
namespace Go.Proofs.YtofmlhpcobjfcaaDoor
open Go.RowKit
/-! ### Blocks by other numbers -/
def rnN (σ : List Nat) (i : Nat) : Nat := σ.getD i 0
def rnA (σ : List Nat) : A → A
  | .ptr i o => .ptr (rnN σ i) o
  | .own i v => .own (rnN σ i) v
  | .ep i v z o => .ep (rnN σ i) v z o
  | .mp i => .mp (rnN σ i)
  | .fn f caps => .fn f (rnL caps)
  | x => x
  where rnL : List A → List A
  | [] => []
  | x :: r => rnA σ x :: rnL r
def rnD (σ : List Nat) : D → D
  | .a x => .a (rnA σ x)
  | .r row => .r (row.map (rnA σ))
  | .t ds => .t (rnDs ds)
  | d => d
  where rnDs : List D → List D
  | [] => []
  | x :: r => rnD σ x :: rnDs r
theorem rnDs_map (σ : List Nat) : ∀ l : List D, rnD.rnDs σ l = l.map (rnD σ)
  | [] => rfl
  | x :: r => by rw [rnD.rnDs, rnDs_map σ r, List.map_cons]
def rnB (σ : List Nat) : Bx → Bx
  | .cell row => .cell (row.map (rnA σ))
  | .map k wd es => .map k wd (es.map fun e => (e.1, e.2.map (rnA σ)))
  | b => b
theorem RepD.rn {U V : Vw} {σ : List Nat} (hA : ∀ a u, RepA U a u → RepA V (rnA σ a) u) {d : D} {u : Value} (h : RepD U d u) : RepD V (rnD σ d) u := by
  induction h with
  | junk v => exact .junk v
  | undef => exact .undef
  | a x u h => exact .a _ _ (hA _ _ h)
  | r row vs hl h =>
    refine .r _ vs (by rw [hl, List.length_map]) fun j x hj => ?_
    rw [List.getElem?_map, Option.map_eq_some_iff] at hj
    obtain ⟨z, h1, rfl⟩ := hj
    exact hA _ _ (h j z h1)
  | t ds vs hl _ ih =>
    rw [rnD, rnDs_map]
    refine .t _ vs (by rw [hl, List.length_map]) fun j d hj => ?_
    rw [List.getElem?_map, Option.map_eq_some_iff] at hj
    obtain ⟨z, h1, rfl⟩ := hj
    exact ih j z h1
/-- Is no block from number m on named? -/
def nrM (m : Nat) : D → Bool
  | .junk | .undef => true
  | .a x => nrA m x
  | .r row => row.all (nrA m)
  | .t ds => nrMs ds
  where nrMs : List D → Bool
  | [] => true
  | x :: r => nrM m x && nrMs r
/-! ### A row with some places turned, and more behind it -/
def mrg {α : Type} : List Nat → List α → List α → List α
  | [], l, m => l ++ m
  | _ :: _, l, [] => l
  | i :: r, l, x :: m => mrg r (l.set i x) m
/-- The numbers of the blocks, new ones too. -/
def rnX (σ : List Nat) (k n : Nat) : List Nat := σ ++ List.range' k n
/-! ### Views -/
def lb (V : Vw) (σ : List Nat) : List Nat := σ.map fun i => V.bl.getD i 0
structure LOk (st : List Bx) (σ : List Nat) (st0 : List Bx) : Prop where
  nd : σ.Nodup
  len : σ.length = st0.length
  at_ : ∀ (j i : Nat), σ[j]? = some i → st[i]? = (st0[j]?).map (rnB σ)
  live : ∀ (j : Nat) (y : Bx), st0[j]? = some y → y.live = true
  nr : nrS σ.length st0 = true
section
variable {V : Vw} {σ : List Nat} {st0 : List Bx}
theorem LOk.get (h : LOk V.st σ st0) {j i : Nat} (hj : σ[j]? = some i) : ∃ y, st0[j]? = some y ∧ V.st[i]? = some (rnB σ y) ∧ y.live = true := by
  have hlt := (List.getElem?_eq_some_iff.1 hj).1
  obtain ⟨y, hy⟩ : ∃ y, st0[j]? = some y := ⟨_, List.getElem?_eq_getElem (by rw [← h.len]; exact hlt)⟩
  exact ⟨y, hy, by rw [h.at_ j i hj, hy]; rfl, h.live j y hy⟩
theorem LOk.lt (h : LOk V.st σ st0) {i : Nat} (hi : i ∈ σ) : i < V.st.length := by
  obtain ⟨j, hj⟩ := List.getElem?_of_mem hi
  obtain ⟨y, _, h2, _⟩ := h.get hj
  exact (List.getElem?_eq_some_iff.1 h2).1
theorem MRep.rn {U : Vw} (hA : ∀ a u, RepA U a u → RepA V (rnA σ a) u) {wd : Bool} {row : List A} {v : Value} (h : MRep U wd row v) : MRep V wd (row.map (rnA σ)) v := by
  cases wd with
  | false => obtain ⟨x, h1, h2⟩ := h; subst h1; exact ⟨_, rfl, hA _ _ h2⟩
  | true =>
    obtain ⟨vs, h1, h2, h3⟩ := h
    refine ⟨vs, h1, by rw [h2, List.length_map], fun j x hj => ?_⟩
    rw [List.getElem?_map, Option.map_eq_some_iff] at hj
    obtain ⟨z, k1, rfl⟩ := hj
    exact hA _ _ (h3 j z k1)
end
/-! ### Back -/
theorem StepX.drop {on : Prop} {Nx : Nat → Prop} {V : Vw} {w : World} {x : Nat → Prop} {bl : List Nat} {st ex : List Bx} (h : StepX on Nx V ⟨w, x, bl, st ++ ex⟩) (hs : nrS st.length st = true) (hV : V.st.length ≤ st.length) : StepX on Nx V ⟨w, x, bl.take st.length, st⟩ :=
  ⟨h.le.drop hV, h.ok.drop hs, h.fr, fun b hb => h.new b (List.mem_of_mem_take hb), fun hsep b hb => h.sep hsep b (List.mem_of_mem_take hb), h.xs, h.xn⟩
/-! ### Numbers of the caller's, and of the callee's -/
def unN (σ : List Nat) (i : Nat) : Nat := σ.idxOf i
def unA (σ : List Nat) : A → A
  | .ptr i o => .ptr (unN σ i) o
  | .own i v => .own (unN σ i) v
  | .ep i v z o => .ep (unN σ i) v z o
  | .mp i => .mp (unN σ i)
  | .fn f caps => .fn f (unL caps)
  | x => x
  where unL : List A → List A
  | [] => []
  | x :: r => unA σ x :: unL r
/-- Are all blocks that are named lent? -/
def inA (σ : List Nat) : A → Bool
  | .ptr i _ => σ.contains i
  | .own i _ => σ.contains i
  | .ep i _ _ _ => σ.contains i
  | .mp i => σ.contains i
  | .fn _ caps => inL caps
  | _ => true
  where inL : List A → Bool
  | [] => true
  | x :: r => inA σ x && inL r
def unD (σ : List Nat) : D → D
  | .a x => .a (unA σ x)
  | .r row => .r (row.map (unA σ))
  | d => d
def inD (σ : List Nat) : D → Bool
  | .a x => inA σ x
  | .r row => row.all (inA σ)
  | _ => false
def unB (σ : List Nat) : Bx → Bx
  | .cell row => .cell (row.map (unA σ))
  | .map k wd es => .map k wd (es.map fun e => (e.1, e.2.map (unA σ)))
  | b => b
def inB (σ : List Nat) : Bx → Bool
  | .cell row => row.all (inA σ)
  | .arr _ _ _ => true
  | .map _ _ es => es.all fun e => e.2.all (inA σ)
  | .gone => false
/-- May these blocks be lent? -/
def lendOk (σ : List Nat) (bs : List Bx) (vs : List D) : Bool := decide σ.Nodup && !σ.isEmpty && bs.all (inB σ) && vs.all (inD σ)
/-! ### Calls -/
/-- What one does that is handed some blocks: what it answers, and what the blocks hold then (new ones behind them). -/
structure DM (P : Program) (f : FuncId) (ds : List D) (st0 : List Bx) (d : D) (st1 : List Bx) : Prop where
  nr : nrS st1.length st1 = true
  nd : nrM st1.length d = true
  le : st0.length ≤ st1.length
  go : DG (.none P) f ds st0 .junk fun d1 s1 _ => d1 = d ∧ ∃ ex, s1 = st1 ++ ex
section
variable {P : Program} {C : Cx P} {ops : Array Oper} {r : List Oper} {e : Nat → D} {st : List Bx} {dst : Option Nat} {ty : TypeId} {pos : String} {after : Array Edge} {K : (Nat → D) → List Bx → Prop} {f : FuncId} {y : Operand} {xs : List Operand} {caps : List A} {tys : Array TypeId} {vs ds : List D} {σ : List Nat} {bs st0 st1 st' : List Bx} {d d' g : D}
end
/-! ### How such a one is walked -/
def resM1 (P : Program) (n : Nat) (e : Nat → D) (st : List Bx) : ResultVar → Option D
  | .tmp t => if t < n then some (e t) else none
  | .cell t T => if t < n then (match e t with
    | .a (.ptr i off) => (match st[i]?, ldk P T with
      | some (.cell row), some k => ldRow k row off
      | _, _ => none)
    | _ => none) else none
def resM (P : Program) (n : Nat) (e : Nat → D) (st : List Bx) (l : List ResultVar) (d : D) : Prop :=
  match l with
  | [r] => resM1 P n e st r = some d
  | l => ∃ ds, d = .t ds ∧ l.map (resM1 P n e st) = ds.map some
theorem resM1_run {P : Program} {C : Cx P} {V : Vw} {tm : Array Value} {n : Nat} {e : Nat → D} (hm : M C V tm n e) {r : ResultVar} {d : D} (h : resM1 P n e V.st r = some d) :
    ∃ v, (match r with | .tmp t => (pure (tm.getD t Go.undef) : Sem Value) | .cell a t => do loadVar t (← asAddr (tm.getD a Go.undef))).run P V.w = .ok v V.w ∧ RepD V d v := by
  cases r with
  | tmp t =>
    simp only [resM1] at h
    split at h
    · rename_i ht
      injection h with h; subst h
      exact ⟨_, rfl, hm.slot t ht⟩
    · cases h
  | cell t T =>
    simp only [resM1] at h
    split at h
    · rename_i ht
      have hs := hm.slot t ht
      split at h
      · rename_i i off he
        rw [he] at hs
        split at h
        · rename_i row k hst hk
          change ∃ v, ((asAddr (tm.getD t Go.undef)).bind fun a => loadVar T a).run P V.w = .ok v V.w ∧ RepD V d v
          generalize tm.getD t Go.undef = u at *
          cases hs with
          | a _ _ h => cases h with
            | c _ _ h => cases h
            | ptr _ _ b hi hb =>
              obtain ⟨cs, T', h1, h2, h3⟩ := hm.ok.cell i row b hst (hb row hst)
              have hcell : ∀ j x, row[j]? = some x → V.w.cell? ⟨b, 0 + j, none⟩ = some (cs.getD j Go.undef) := fun j x hj => by
                have hlt := (List.getElem?_eq_some_iff.1 hj).1
                rw [Nat.zero_add, cell_of_row V.w b j cs T' (0, 0) h1, Array.getD_eq_getD_getElem?, Array.getElem?_eq_getElem (by omega)]; rfl
              obtain ⟨v, hr, hv⟩ := run_ld (off := off) hk h _ hcell h3
              rw [Nat.zero_add] at hr
              have hr' : (loadVar T ⟨b, off, none⟩).run P V.w = .ok v V.w := by simpa [Instr.loadAt, Instr.sureAddr] using hr
              exact ⟨v, hr', hv⟩
        · cases h
      · cases h
    · cases h
theorem run_resultsM {P : Program} {C : Cx P} {V : Vw} {fn : Func} {tm : Array Value} {n : Nat} {e : Nat → D} (hm : M C V tm n e) {d : D} (h : resM P n e V.st fn.results.toList d) : ∃ v, (results fn tm).run P V.w = .ok v V.w ∧ RepD V d v := by
  have many : ∀ (l : List ResultVar) (ds : List D), l.map (resM1 P n e V.st) = ds.map some →
      ∃ vs : List Value, (l.mapM (m := Sem) fun r => match r with | .tmp t => (pure (tm.getD t Go.undef) : Sem Value) | .cell a t => do loadVar t (← asAddr (tm.getD a Go.undef))).run P V.w = .ok vs V.w ∧ vs.length = ds.length ∧ ∀ j d, ds[j]? = some d → RepD V d (vs.getD j Go.undef) := by
    intro l
    induction l with
    | nil =>
      intro ds h
      cases ds with
      | nil => exact ⟨[], rfl, rfl, fun j d hd => by simp at hd⟩
      | cons => simp at h
    | cons r l ih =>
      intro ds h
      cases ds with
      | nil => simp at h
      | cons d ds =>
        simp only [List.map_cons, List.cons.injEq] at h
        obtain ⟨v, h1, h2⟩ := resM1_run hm h.1
        obtain ⟨vs, h3, h4, h5⟩ := ih ds h.2
        refine ⟨v :: vs, ?_, by simp [h4], fun j d' hd => ?_⟩
        · rw [List.mapM_cons, Sem.run_bind, h1, Result.andThen_ok, Sem.run_bind, h3]; rfl
        · cases j with
          | zero => simp at hd; subst hd; exact h2
          | succ j => exact h5 j d' (by simpa using hd)
  have toList : (results fn tm).run P V.w = ((fn.results.toList.mapM (m := Sem) fun r => match r with | .tmp t => (pure (tm.getD t Go.undef) : Sem Value) | .cell a t => do loadVar t (← asAddr (tm.getD a Go.undef))).run P V.w).andThen fun vs w => .ok (if h : vs.toArray.size = 1 then vs.toArray[0] else .tuple vs.toArray) w := by
    unfold results
    rw [Array.mapM_eq_mapM_toList, Sem.run_bind, map_eq_pure_bind, Sem.run_bind]
    generalize (List.mapM (m := Sem) _ fn.results.toList).run P V.w = r
    cases r <;> rfl
  unfold resM at h
  split at h
  · rename_i r hr
    obtain ⟨v, h1, h2⟩ := resM1_run hm h
    refine ⟨v, ?_, h2⟩
    rw [toList, hr, List.mapM_cons, Sem.run_bind, h1]
    rfl
  · rename_i l hl
    obtain ⟨ds, rfl, h1⟩ := h
    obtain ⟨vs, h3, h4, h5⟩ := many _ ds h1
    refine ⟨.tuple vs.toArray, ?_, .t ds vs h4 h5⟩
    rw [toList, h3, Result.andThen_ok]
    have hne : ¬ vs.toArray.size = 1 := by
      intro h
      have hlen : fn.results.toList.length = ds.length := by have := congrArg List.length h1; simpa using this
      simp at h
      have : fn.results.toList.length = 1 := by omega
      obtain ⟨r, hr⟩ := List.length_eq_one_iff.1 this
      exact hl r hr
    rw [dif_neg hne]
def retM (P : Program) (n : Nat) (rs : List ResultVar) (O : D → List Bx → D → Prop) : Exit → (Nat → D) → List Bx → Prop
  | .normal, e, st | .ret, e, st => ∃ d, resM P n e st rs d ∧ O d st (e 1000000)
  | _, _, _ => False
theorem DG.introM {P : Program} {E : Env P} {f : FuncId} {fn : Func} {c : Code} {n : Nat} {rs : List ResultVar} {ds : List D} {st0 : List Bx} {g : D} {O : D → List Bx → D → Prop} (hf : P.funcs[f]? = some fn) (hb : fn.body = some c) (hn : fn.ntmps = n) (hr : fn.results = ⟨rs⟩) (hnm : (fn.name == "runtime.NumGoroutine") = false) (hl : (decide (ds.length ≤ n) && decide (n ≤ 1000000)) = true)
    (h : ∀ (V0 : Vw) (Kb Nx : Nat → Prop), WP (⟨V0, Kb, True, none, E, Nx⟩ : Cx P) n c (retM P n rs O) (upd (argsFrom 0 ds) 1000000 g) st0) : DG E f ds st0 g O := by
  rw [Bool.and_eq_true, decide_eq_true_iff, decide_eq_true_iff] at hl
  refine ⟨callFunc_of hf hb hnm, fun V Nx vs hst hok hsep hnx henv hvl hrr => ?_⟩
  subst hst
  have hsat : Sat (⟨V, fun b => b ∈ V.bl ∨ (V.x b ∧ ¬ Nx b), True, none, E, Nx⟩ : Cx P) V { tmps := vs.toArray ++ Array.replicate (fn.ntmps - vs.toArray.size) Go.undef, defers := [] } n (upd (argsFrom 0 ds) 1000000 g) := by
    refine ⟨[], ⟨rfl, by simp, fun D hD => by simp at hD⟩, ⟨by simp; omega, fun t ht => ?_, hok, .refl _, .refl _ _, fun b hb => .inl (.inl hb), hsep, fun _ h => h, fun _ b h h' => .inl (.inr ⟨h, h'⟩), fun _ h => .inl h, hnx, fun b hb => (hnx b hb).1⟩, ?_⟩
    · have : upd (argsFrom 0 ds) 1000000 g t = argsFrom 0 ds t := if_neg (by omega)
      rw [this]
      exact slots_args (by omega) hvl hrr t
    · have : upd (argsFrom 0 ds) 1000000 g 1000000 = g := if_pos rfl
      rw [this]
      exact henv.less fun b (hb : Nx b ∨ b ∈ ([] : List Nat)) => hb.elim id fun h => by simp at h
  refine calls_WP (C := (⟨V, fun b => b ∈ V.bl ∨ (V.x b ∧ ¬ Nx b), True, none, E, Nx⟩ : Cx P)) (RQ := fun e st => ∃ d, resM P n e st rs d ∧ O d st (e 1000000)) hf hb rfl hsat ((h V _ Nx).mono fun ex e st hq => ?_) ?_
  · cases ex with
    | normal => exact hq
    | ret => exact hq
    | _ => exact hq
  · rintro tm V' e' hm henv' ⟨d, hres, hO⟩
    have hres' : resM P n e' V'.st fn.results.toList d := by rw [hr]; exact hres
    obtain ⟨v, h1, h2⟩ := run_resultsM hm hres'
    refine ⟨v, h1, v, rfl, d, V'.st, e' 1000000, V'.x, V'.bl, hO, ⟨hm.le, hm.ok, ⟨hm.fr.os, hm.fr.tape, hm.fr.output, hm.fr.size, fun b hb hn => hm.fr.block b hb fun h => hn (h.imp id fun h => ⟨trivial, h.1, h.2⟩)⟩, fun b hb => ?_, fun _ => hm.sep, hm.x0, hm.xg⟩, henv', h2⟩
    rcases hm.low b hb with (h | h) | h
    · exact .inl h
    · exact absurd (hm.x0 b h.1) (hm.sep b hb)
    · exact .inr h
theorem DM.intro {P : Program} {f : FuncId} {fn : Func} {c : Code} {n : Nat} {rs : List ResultVar} {ds : List D} {st0 : List Bx} {d : D} {st1 : List Bx} (hf : P.funcs[f]? = some fn) (hb : fn.body = some c) (hn : fn.ntmps = n) (hr : fn.results = ⟨rs⟩) (hnm : (fn.name == "runtime.NumGoroutine") = false) (hl : (decide (ds.length ≤ n) && decide (n ≤ 1000000)) = true)
    (hnr : (nrS st1.length st1 && nrM st1.length d && decide (st0.length ≤ st1.length)) = true)
    (h : ∀ (V0 : Vw) (Kb Nx : Nat → Prop), WP (⟨V0, Kb, True, none, .none P, Nx⟩ : Cx P) n c (retM P n rs fun d1 s1 _ => d1 = d ∧ ∃ ex, s1 = st1 ++ ex) (upd (argsFrom 0 ds) 1000000 .junk) st0) : DM P f ds st0 d st1 := by
  simp only [Bool.and_eq_true, decide_eq_true_iff] at hnr
  exact ⟨hnr.1.1, hnr.1.2, hnr.2, DG.introM hf hb hn hr hnm hl h⟩
end Go.Proofs.YtofmlhpcobjfcaaDoor
