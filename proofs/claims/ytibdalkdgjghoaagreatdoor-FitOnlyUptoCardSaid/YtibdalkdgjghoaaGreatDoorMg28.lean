/- fit.all: one question behind the other, on plain data. Conditions: none. -/
import Derived.Test.YtibdalkdgjghoaaGreatDoorMg20
import Derived.Test.YtibdalkdgjghoaaGreatDoorMg13
set_option linter.unusedVariables false
set_option linter.unusedSimpArgs false
namespace Go.Proofs.YtibdalkdgjghoaaGreatDoor
open Go.RowKit
def fnOf : A → Option (FuncId × List A)
  | .fn f caps => some (f, caps)
  | .fm f caps => some (f, caps)
  | _ => none
/-- What comes of the questions, up to the first error. -/
inductive AllR (P : Program) (j : Nat) (row : List A) : List A → List Bx → Int → List Bx → Prop
  | nil (st : List Bx) : AllR P j row [] st 0 st
  | stop (x : A) (f : FuncId) (caps : List A) (r : List A) (st st1 : List Bx) (z : Int) : fnOf x = some (f, caps) → DM P f (caps.map D.a) st (.a (.v (.int .i64 z))) st1 → (z != 0) = true → AllR P j row (x :: r) st z st1
  | go (x : A) (f : FuncId) (caps : List A) (r : List A) (st st1 st2 : List Bx) (z : Int) : fnOf x = some (f, caps) → DM P f (caps.map D.a) st (.a (.v (.int .i64 0))) st1 → st1[j]? = some (.cell row) → st1.all Bx.live = true → AllR P j row r st1 z st2 → AllR P j row (x :: r) st z st2
theorem AllR.nr {P : Program} {j : Nat} {row l : List A} {st st' : List Bx} {z : Int} (h : AllR P j row l st z st') : nrS st.length st = true → nrS st'.length st' = true ∧ st.length ≤ st'.length := by
  induction h with
  | nil st => exact fun h => ⟨h, Nat.le_refl _⟩
  | stop x f caps r st st1 z _ hd _ => exact fun _ => ⟨hd.nr, hd.le⟩
  | go x f caps r st st1 st2 z _ hd _ _ _ ih => exact fun _ => ⟨(ih hd.nr).1, Nat.le_trans hd.le (ih hd.nr).2⟩
section
variable {P : Program} {C : Cx P} {ops : Array Oper} {r : List Oper} {e : Nat → D} {st st1 : List Bx} {dst : Option Nat} {ty : TypeId} {pos : String} {after : Array Edge} {K : (Nat → D) → List Bx → Prop} {f : FuncId} {y : Operand} {tys : Array TypeId} {d : D} {caps : List A} {x : A}
theorem RS.callA (hy : evO e y = .a x) (hf : fnOf x = some (f, caps)) (hlv : st.all Bx.live = true) (hnr : nrS st.length st = true) (hvn : caps.all (nrA st.length) = true) (hg : e 1000000 = .junk) (hp : DM P f (caps.map D.a) st d st1) (hne : 0 < st1.length) (h : RS C ops r (upd (putE e dst d) 1000000 .junk) st1 K) : RS C ops (⟨dst, .call ⟨.value y, ⟨[]⟩, tys⟩, ty, pos, after, none⟩ :: r) e st K := by
  have hvn2 : (caps.map D.a).all (nrI st.length) = true := by rw [List.all_map]; exact hvn
  cases x with
  | fn f' caps' =>
    injection hf with hf; injection hf with h1 h2; subst h1; subst h2
    exact RS.callvI hy rfl hlv hnr hvn2 hg hp hne h
  | fm f' caps' =>
    injection hf with hf; injection hf with h1 h2; subst h1; subst h2
    have hle := hp.le
    rw [List.all_eq_true] at hlv hvn2
    refine RS.callbM (List.range st.length) (bs := st) (ds := caps'.map D.a) (vs := caps'.map D.a) (st0 := st) (d := d) (st1 := st1) hy (by simp) ?_ ?_ ?_ ?_ hg hp hne ?_ ?_ h
    · refine List.ext_getElem? fun q => ?_
      rw [List.getElem?_map]
      by_cases hq : q < st.length
      · rw [List.getElem?_range hq, Option.map_some, List.getD_eq_getElem?_getD, List.getElem?_eq_getElem hq]; rfl
      · rw [List.getElem?_eq_none (by rw [rng_len]; omega), List.getElem?_eq_none (by omega)]; rfl
    · simp only [lendOk, Bool.and_eq_true, decide_eq_true_iff]
      exact ⟨⟨List.nodup_range, List.all_eq_true.2 fun b hb => (rnB_id (nrS_mem hnr b hb)).2.2 (hlv b hb)⟩, List.all_eq_true.2 fun d hd => (unD_id (hvn2 d hd)).2⟩
    · refine Eq.trans (List.map_congr_left fun d hd => (unD_id (hvn2 d hd)).1) (List.map_id' _)
    · exact map_idB fun b hb => (rnB_id (nrS_mem hnr b hb)).2.1
    · rw [rng_len, rnX_id, show st.length + (st1.length - st.length) = st1.length by omega]
      exact rnD_id _ hp.nd
    · rw [rng_len, rnX_id, show st.length + (st1.length - st.length) = st1.length by omega]
      rw [map_idB fun b hb => (rnB_id (nrS_mem hp.nr b hb)).1]
      exact mrg_id hle
  | _ => cases hf
theorem fnOf_nr {n : Nat} {x : A} (h : fnOf x = some (f, caps)) (hn : nrA n x = true) : caps.all (nrA n) = true := by
  have key : ∀ l : List A, nrA.nrL n l = true → l.all (nrA n) = true := fun l => by
    induction l with
    | nil => intro _; rfl
    | cons y l ih => intro h; rw [nrA.nrL, Bool.and_eq_true] at h; rw [List.all_cons, h.1, ih h.2]; rfl
  cases x with
  | fn f' caps' => injection h with h; injection h with h1 h2; subst h2; exact key _ hn
  | fm f' caps' => injection h with h; injection h with h1 h2; subst h2; exact key _ hn
  | _ => cases h
end
set_option maxRecDepth 100000 in
set_option maxHeartbeats 8000000 in
theorem pAll (j : Nat) (row : List A) (st0 st' : List Bx) (z : Int) (hn : row.length ≤ 1048576) (hj0 : st0[j]? = some (.cell row)) (hlv0 : st0.all Bx.live = true) (hnr0 : nrS st0.length st0 = true) (hA0 : AllR Tryz.prog j row row st0 z st') : DM Tryz.prog 117 [.a (.cs j 0 row.length)] st0 (.a (.v (.int .i64 z))) st' := by
  obtain ⟨hnrE, hleE⟩ := hA0.nr hnr0
  refine DM.intro Tryz.func117 rfl Tryz.ntmps117 rfl rfl rfl (by rw [hnrE, decide_eq_true hleE]; rfl) (fun V0 Kb Nx => ?_)
  have fx := trivial
  repeat' (first | refine WP.seq ?_ | (refine WP.rg [0, 2, 4, 5, 6, 7, 8, 9, 15] ?_; simp only [RSr_mk]) | refine RS.fnT ?_ | (refine RS.fn ?_; try simp only [thenQ_n, blockQ_n]) | (refine RS.lC ?_; refine RS.rn ?_; simp only [RSr_mk]) | (refine RS.xC ?_; refine RS.rn ?_; simp only [RSr_mk]) | ((refine WP.cn (fun hc => ?_) (fun hc => ?_)) <;> try exact Bool.noConfusion hc) | (refine WP.skip ?_; try simp only [thenQ_n, blockQ_n]) | (refine WP.exit ?_; try simp only [thenQ_e, blockQ_e, blockQ_o, ne_eq, Nat.reduceEqDiff, not_false_eq_true, reduceCtorEq, thenQ_n, blockQ_n]) | refine WP.block ?_ | (refine WP.ret ?_; (try simp only [thenQ_r, blockQ_r])) | refine ret3 ?_)
  refine WP.loop (α := { y : Nat × List Bx // y.1 ≤ row.length ∧ AllR Tryz.prog j row (row.drop y.1) y.2 z st' ∧ y.2[j]? = some (.cell row) ∧ y.2.all Bx.live = true ∧ nrS y.2.length y.2 = true }) (fun y => [(6, .a (.cs j 0 row.length)), (7, .a (.v (.int .i64 (row.length : Nat)))), (8, .a (.v (.int .i64 (y.1.1 : Nat))))]) (fun y => y.1.2) (fun y => row.length - y.1.1) ⟨(0, st0), by omega, hA0, hj0, hlv0, hnr0⟩ (by simp only [Agree, go_sem, simprocAttr]; first | done | rfl) rfl ?_
  rintro ⟨⟨k, st⟩, hk, hA, hj, hlv, hnr⟩
  dsimp only at hk hA hj hlv hnr ⊢
  by_cases hlt : k < row.length
  · have hlt2 : decide ((k : Int) < ((row.length : Nat) : Int)) = true := decide_eq_true (by omega)
    obtain ⟨x, hx⟩ : ∃ x, row[k]? = some x := ⟨_, List.getElem?_eq_getElem hlt⟩
    have hwu := wrap64n (k := k) (by omega)
    have hof : 0 + (k : Int).toNat * 1 = k := by omega
    have hof2 : 0 + k * 1 = k := by omega
    have hld : ldRow none row k = some (.a x) := by unfold ldRow; rw [hx]; rfl
    have hdr : row.drop k = x :: row.drop (k + 1) := by rw [List.drop_eq_getElem_cons hlt]; congr 1; exact (List.getElem?_eq_some_iff.1 hx).2
    rw [hdr] at hA
    replace fx := And.intro hlt2 (And.intro hof (And.intro hof2 (And.intro hj (And.intro hld (And.intro hwu trivial)))))
    repeat' (first | refine WP.seq ?_ | (refine WP.rg [0, 2, 4, 5, 6, 7, 8, 9, 15] ?_; simp only [RSr_mk]) | refine RS.fnT ?_ | (refine RS.fn ?_; try simp only [thenQ_n, blockQ_n]) | (refine RS.lC ?_; refine RS.rn ?_; simp only [RSr_mk]) | (refine RS.xC ?_; refine RS.rn ?_; simp only [RSr_mk]) | ((refine WP.cn (fun hc => ?_) (fun hc => ?_)) <;> try exact Bool.noConfusion hc) | (refine WP.skip ?_; try simp only [thenQ_n, blockQ_n]) | (refine WP.exit ?_; try simp only [thenQ_e, blockQ_e, blockQ_o, ne_eq, Nat.reduceEqDiff, not_false_eq_true, reduceCtorEq, thenQ_n, blockQ_n]) | refine WP.block ?_ | (refine WP.ret ?_; (try simp only [thenQ_r, blockQ_r])) | refine ret3 ?_)
    have hxr : nrA st.length x = true := by
      have h1 := nrS_mem hnr _ (List.mem_of_getElem? hj)
      rw [nrS, Bool.and_eq_true] at h1
      exact List.all_eq_true.1 h1.1 x (List.mem_of_getElem? hx)
    cases hA with
    | stop _ f caps _ _ _ _ hf hd hz =>
      have h1 : 0 < st'.length := by have := (List.getElem?_eq_some_iff.1 hj).1; have := hd.le; omega
      refine RS.callA (by (simp only [go_sem, simprocAttr, fx]) <;> rfl) hf hlv hnr (fnOf_nr hf hxr) (by (simp only [go_sem, simprocAttr]) <;> rfl) hd h1 ?_
      refine RS.run2 (by simp only [go_sem, simprocAttr, thenQ_n]; first | done | rfl) ?_; simp only [RSr_mk]
      replace fx := And.intro hz trivial
      repeat' (first | refine WP.seq ?_ | (refine WP.rg [0, 2, 4, 5, 6, 7, 8, 9, 15] ?_; simp only [RSr_mk]) | refine RS.fnT ?_ | (refine RS.fn ?_; try simp only [thenQ_n, blockQ_n]) | (refine RS.lC ?_; refine RS.rn ?_; simp only [RSr_mk]) | (refine RS.xC ?_; refine RS.rn ?_; simp only [RSr_mk]) | ((refine WP.cn (fun hc => ?_) (fun hc => ?_)) <;> try exact Bool.noConfusion hc) | (refine WP.skip ?_; try simp only [thenQ_n, blockQ_n]) | (refine WP.exit ?_; try simp only [thenQ_e, blockQ_e, blockQ_o, ne_eq, Nat.reduceEqDiff, not_false_eq_true, reduceCtorEq, thenQ_n, blockQ_n]) | refine WP.block ?_ | (refine WP.ret ?_; (try simp only [thenQ_r, blockQ_r])) | refine ret3 ?_)
      refine retM1 ?_
      exact ⟨rfl, [], (List.append_nil _).symm⟩
    | go _ f caps _ _ st1 _ _ hf hd hj1 hl1 hA =>
      have h1 : 0 < st1.length := by have := (List.getElem?_eq_some_iff.1 hj).1; have := hd.le; omega
      have hw0 : ((0 : Int) != 0) = false := rfl
      refine RS.callA (by (simp only [go_sem, simprocAttr, fx]) <;> rfl) hf hlv hnr (fnOf_nr hf hxr) (by (simp only [go_sem, simprocAttr]) <;> rfl) hd h1 ?_
      refine RS.run2 (by simp only [go_sem, simprocAttr, thenQ_n]; first | done | rfl) ?_; simp only [RSr_mk]
      replace fx := And.intro hw0 (And.intro hwu trivial)
      repeat' (first | refine WP.seq ?_ | (refine WP.rg [0, 2, 4, 5, 6, 7, 8, 9, 15] ?_; simp only [RSr_mk]) | refine RS.fnT ?_ | (refine RS.fn ?_; try simp only [thenQ_n, blockQ_n]) | (refine RS.lC ?_; refine RS.rn ?_; simp only [RSr_mk]) | (refine RS.xC ?_; refine RS.rn ?_; simp only [RSr_mk]) | ((refine WP.cn (fun hc => ?_) (fun hc => ?_)) <;> try exact Bool.noConfusion hc) | (refine WP.skip ?_; try simp only [thenQ_n, blockQ_n]) | (refine WP.exit ?_; try simp only [thenQ_e, blockQ_e, blockQ_o, ne_eq, Nat.reduceEqDiff, not_false_eq_true, reduceCtorEq, thenQ_n, blockQ_n]) | refine WP.block ?_ | (refine WP.ret ?_; (try simp only [thenQ_r, blockQ_r])) | refine ret3 ?_)
      refine ⟨⟨(k + 1, st1), by dsimp only; omega, hA, hj1, hl1, hd.nr⟩, by dsimp only; omega, by simp only [Agree, go_sem, simprocAttr], rfl⟩
  · obtain rfl : k = row.length := by omega
    rw [List.drop_length] at hA
    cases hA
    have hlt2 : decide ((row.length : Int) < ((row.length : Nat) : Int)) = false := decide_eq_false (by omega)
    replace fx := And.intro hlt2 trivial
    repeat' (first | refine WP.seq ?_ | (refine WP.rg [0, 2, 4, 5, 6, 7, 8, 9, 15] ?_; simp only [RSr_mk]) | refine RS.fnT ?_ | (refine RS.fn ?_; try simp only [thenQ_n, blockQ_n]) | (refine RS.lC ?_; refine RS.rn ?_; simp only [RSr_mk]) | (refine RS.xC ?_; refine RS.rn ?_; simp only [RSr_mk]) | ((refine WP.cn (fun hc => ?_) (fun hc => ?_)) <;> try exact Bool.noConfusion hc) | (refine WP.skip ?_; try simp only [thenQ_n, blockQ_n]) | (refine WP.exit ?_; try simp only [thenQ_e, blockQ_e, blockQ_o, ne_eq, Nat.reduceEqDiff, not_false_eq_true, reduceCtorEq, thenQ_n, blockQ_n]) | refine WP.block ?_ | (refine WP.ret ?_; (try simp only [thenQ_r, blockQ_r])) | refine ret3 ?_)
    refine retM1 ?_
    exact ⟨rfl, [], (List.append_nil _).symm⟩
end Go.Proofs.YtibdalkdgjghoaaGreatDoor
