/- kind.Unique, shape.want, Fits and Gives on plain data. Conditions: at most 2^20 classes. -/
import Derived.Test.YtibdalkdgjghoaaGreatDoorMc17
import Derived.Test.YtibdalkdgjghoaaGreatDoorMc20
import Derived.Test.YtibdalkdgjghoaaGreatDoorMc19
import Derived.Test.YtibdalkdgjghoaaGreatDoorMc21
import Derived.Test.YtibdalkdgjghoaaGreatDoorMc26
import Derived.Test.YtibdalkdgjghoaaGreatDoorMc28
set_option linter.unusedVariables false
set_option maxRecDepth 100000
set_option maxHeartbeats 8000000
set_option linter.unusedSimpArgs false
namespace Go.Proofs.YtibdalkdgjghoaaGreatDoor
open Go.RowKit
def uniqB (t : Ty) : Bool := t.kind == 2 && t.o0.1 == 6
def wantB (e : Int) (t : Ty) : Bool := if (e == 13) = true then t.kind == 2 else if (e == 14) = true then (t.kind == 2 || t.kind == 3) else t.kind == 1
def fitsI (p : List Cs) (f t : Ty) : Int :=
 if (t.kind == 1 && f.kind == 1) = true then 0 else if (t.kind != 2) = true then 14 else if (f.kind == 3) = true then 0 else if (f.kind != 2) = true then 14
 else if uniqB f = true then 22 else if uniqB t = true then 22 else if (!belowB p f.cls t.cls) = true then 15 else 0
def givesI (p : List Cs) (f t : Ty) : Int :=
 if (f.kind != 2) = true then 14 else if (t.kind != 2) = true then 14 else if (!uniqB f) = true then 22 else if (!belowB p f.cls t.cls) = true then 15 else 0
theorem pUnique (t : Ty) : DPure Tryz.prog 52 [.r (Ty.at t)] (.a (.v (.bool (uniqB t)))) := by
 refine DPure.go Tryz.func52 rfl Tryz.ntmps52 rfl rfl rfl (fun C hro => ?_)
 have fx := trivial
 repeat' (first | refine WP.seq ?_ | (refine WP.rg [0, 1, 2] ?_; simp only [RSr_mk]) | refine RS.fnT ?_ | (refine RS.fn ?_; try simp only [thenQ_n, blockQ_n]) | (refine RS.pk ?_; refine RS.rn ?_; simp only [RSr_mk]) | (refine RS.gF ?_; refine RS.rn ?_; simp only [RSr_mk]) | (refine RS.xC ?_; refine RS.rn ?_; simp only [RSr_mk]) | (refine WP.ret ?_; (try simp only [thenQ_r, blockQ_r])) | refine ret3 ?_)
 rfl
theorem pFits (p : List Cs) (f t : Ty) (hn : p.length ≤ 1048576) : DPure Tryz.prog 54 [.a (.sl (p.map Cs.at)), .r (Ty.at f), .r (Ty.at t)] (.a (.v (.int .i64 (fitsI p f t)))) := by
 refine DPure.go Tryz.func54 rfl Tryz.ntmps54 rfl rfl rfl (fun C hro => ?_)
 have fx := trivial
 repeat' (first | refine WP.seq ?_ | (refine WP.rg [0, 1, 2, 4, 5, 6, 7, 16, 20, 24, 28, 33] ?_; simp only [RSr_mk]) | refine RS.fnT ?_ | (refine RS.fn ?_; try simp only [thenQ_n, blockQ_n]) | (refine RS.cl (hp := by first | exact pUnique f | exact pUnique t | exact pBelow p f.cls t.cls hn) (h := ?_); refine RS.rn ?_; simp only [RSr_mk]) | (refine RS.cL (hp := by first | exact pUnique f | exact pUnique t | exact pBelow p f.cls t.cls hn) (h := ?_); refine RS.rn ?_; simp only [RSr_mk]) | (refine RS.pk ?_; refine RS.rn ?_; simp only [RSr_mk]) | (refine RS.gF ?_; refine RS.rn ?_; simp only [RSr_mk]) | ((refine WP.cn (fun hc => ?_) (fun hc => ?_)) <;> try exact Bool.noConfusion hc) | (refine WP.skip ?_; try simp only [thenQ_n, blockQ_n]) | refine WP.block ?_ | (refine WP.ret ?_; (try simp only [thenQ_r, blockQ_r])) | refine ret3 ?_)
 all_goals (refine int_eq ?_; unfold fitsI; simp_all)
theorem pGives (p : List Cs) (f t : Ty) (hn : p.length ≤ 1048576) : DPure Tryz.prog 53 [.a (.sl (p.map Cs.at)), .r (Ty.at f), .r (Ty.at t)] (.a (.v (.int .i64 (givesI p f t)))) := by
 refine DPure.go Tryz.func53 rfl Tryz.ntmps53 rfl rfl rfl (fun C hro => ?_)
 have fx := trivial
 repeat' (first | refine WP.seq ?_ | (refine WP.rg [0, 1, 2, 4, 5, 6, 7, 14, 18] ?_; simp only [RSr_mk]) | refine RS.fnT ?_ | (refine RS.fn ?_; try simp only [thenQ_n, blockQ_n]) | (refine RS.cl (hp := by first | exact pUnique f | exact pBelow p f.cls t.cls hn) (h := ?_); refine RS.rn ?_; simp only [RSr_mk]) | (refine RS.cL (hp := by first | exact pUnique f | exact pBelow p f.cls t.cls hn) (h := ?_); refine RS.rn ?_; simp only [RSr_mk]) | ((refine WP.cn (fun hc => ?_) (fun hc => ?_)) <;> try exact Bool.noConfusion hc) | (refine WP.skip ?_; try simp only [thenQ_n, blockQ_n]) | refine WP.block ?_ | (refine WP.ret ?_; (try simp only [thenQ_r, blockQ_r])) | refine ret3 ?_)
 all_goals (refine int_eq ?_; unfold givesI; simp_all)
theorem pWant (e : Int) (t : Ty) : DPure Tryz.prog 111 [.a (.v (.int .i64 e)), .r (Ty.at t)] (.a (.v (.bool (wantB e t)))) := by
 refine DPure.go Tryz.func111 rfl Tryz.ntmps111 rfl rfl rfl (fun C hro => ?_)
 have fx := trivial
 repeat' (first | refine WP.seq ?_ | (refine WP.rg [0, 1, 3, 4, 5, 6, 11] ?_; simp only [RSr_mk]) | refine RS.fnT ?_ | (refine RS.fn ?_; try simp only [thenQ_n, blockQ_n]) | (refine RS.pk ?_; refine RS.rn ?_; simp only [RSr_mk]) | (refine RS.gF ?_; refine RS.rn ?_; simp only [RSr_mk]) | ((refine WP.cn (fun hc => ?_) (fun hc => ?_)) <;> try exact Bool.noConfusion hc) | (refine WP.skip ?_; try simp only [thenQ_n, blockQ_n]) | refine WP.block ?_ | (refine WP.ret ?_; (try simp only [thenQ_r, blockQ_r])) | refine ret3 ?_)
 all_goals (refine bool_eq ?_; unfold wantB; simp_all)
theorem retMCT {P : Program} {n : Nat} {e : Nat → D} {st : List Bx} {O : D → List Bx → D → Prop} {d1 d2 : D} {t u i off : Nat} {T : TypeId} {row : List A} {k : Option Nat} (h : O (.t [d1, d2]) st (e 1000000)) (he : e t = .a (.ptr i off) := by (simp only [go_sem, simprocAttr, fx]) <;> rfl) (hs : st[i]? = some (.cell row) := by (simp only [go_sem, simprocAttr, fx]) <;> rfl) (hk : ldk P T = some k := by (simp only [go_sem]) <;> rfl) (hd : ldRow k row off = some d1 := by (simp only [go_sem, simprocAttr, fx]) <;> rfl) (ht : decide (t < n) = true := by rfl) (he2 : e u = d2 := by (simp only [go_sem, simprocAttr, fx]) <;> rfl) (hu : decide (u < n) = true := by rfl) : retM P n [.cell t T, .tmp u] O .ret e st := by
 refine ⟨.t [d1, d2], ⟨[d1, d2], rfl, ?_⟩, h⟩
 simp only [List.map_cons, List.map_nil, resM1]
 rw [if_pos (of_decide_eq_true ht), if_pos (of_decide_eq_true hu), he, he2]
 simp only [hs, hk, hd]
def tyK (k : Int) : Ty := ⟨k, [], 0, (0, 0), (0, 0), (0, 0), (0, 0)⟩
mutual
def shT (c : Cs) (m : Me) : Ex → Ty × Int
 | ⟨k, _, s, l⟩ => if (k == 2) = true then (if (typeT c m s).2 = true then ((typeT c m s).1, 0) else (Ty.zero, 13)) else if (k == 3) = true then (thisT c, 0) else if (k == 4) = true then (tyK 3, 0) else shsT c m k false l
def shsT (c : Cs) (m : Me) (k : Int) (u : Bool) : List Ex → Ty × Int
 | [] => if (u && k == 14) = true then (Ty.zero, 22) else (tyK 1, 0)
 | e :: r => if ((shT c m e).2 == 0 && !wantB k (shT c m e).1) = true then (Ty.zero, 14) else if ((shT c m e).2 != 0) = true then (Ty.zero, (shT c m e).2) else shsT c m k (u || uniqB (shT c m e).1) r
end
theorem shT_eq (c : Cs) (m : Me) (e : Ex) : shT c m e = if (e.kind == 2) = true then (if (typeT c m e.name).2 = true then ((typeT c m e.name).1, 0) else (Ty.zero, 13)) else if (e.kind == 3) = true then (thisT c, 0) else if (e.kind == 4) = true then (tyK 3, 0) else shsT c m e.kind false e.kids := by
 obtain ⟨k, n, s, l⟩ := e; rw [shT]
theorem tyZ : [A.v (.int .i64 0), .v (.string (bs [])), .v (.int .i64 0), .v (.int .i64 0), .v (.int .i64 0), .v (.int .i64 0), .v (.int .i64 0), .v (.int .i64 0), .v (.int .i64 0), .v (.int .i64 0), .v (.int .i64 0)] = Ty.at Ty.zero := rfl
theorem pShOf1 (c : Cs) (m : Me) (hcp : c.params.length ≤ 1048576) (ha : m.params.length ≤ 1048576) (hb : m.locals.length ≤ 1048576) : ∀ (n : Nat) (e : Ex), e.sz ≤ n → e.sz ≤ 1048576 → DM Tryz.prog 109 [.r (Ex.at e), .a (.ptr 0 0), .a (.ptr 1 0), .a (.ptr 2 0)] [.cell (Cs.at c), .cell (Me.at m), .cell [.fn 109 [.ptr 0 0, .ptr 1 0, .ptr 2 0]]] (.t [.r (Ty.at (shT c m e).1), .a (.v (.int .i64 (shT c m e).2))]) [.cell (Cs.at c), .cell (Me.at m), .cell [.fn 109 [.ptr 0 0, .ptr 1 0, .ptr 2 0]]]
 | 0, e, h, _ => by have := e.sz_pos; omega
 | n + 1, e, h, hz => by
  have IH : ∀ k ∈ e.kids, _ := fun k hk => pShOf1 c m hcp ha hb n k (by have := Ex.kid_lt hk; omega) (by have := Ex.kid_lt hk; omega)
  have hlen : e.kids.length ≤ 1048576 := by have := Ex.szs_len e.kids; have := e.sz_eq; omega
  rw [shT_eq]
  refine DM.intro Tryz.func109 rfl Tryz.ntmps109 rfl rfl rfl (by simp only [go_sem, simprocAttr]) (fun V0 Kb Nx => ?_)
  have fx := trivial
  replace fx := And.intro tyZ trivial
  repeat' (first | refine WP.seq ?_ | (refine WP.rg [0, 1, 2, 3, 4, 5, 6, 7, 8, 9, 11, 12, 13, 15, 16, 27, 30, 34, 38, 39, 40, 41, 58, 60, 64, 74] ?_; simp only [RSr_mk]) | refine RS.fnT ?_ | (refine RS.fn ?_; try simp only [thenQ_n, blockQ_n]) | (refine RS.cl (hp := by first | exact pType c m e.name hcp ha hb | exact pThis c hcp) (h := ?_); refine RS.rn ?_; simp only [RSr_mk]) | (refine RS.cvv (hp := by first | exact pType c m e.name hcp ha hb | exact pThis c hcp) (h := ?_); refine RS.rn ?_; simp only [RSr_mk]) | (refine RS.cL (hp := by first | exact pType c m e.name hcp ha hb | exact pThis c hcp) (h := ?_); refine RS.rn ?_; simp only [RSr_mk]) | (refine RS.cV (hp := by first | exact pType c m e.name hcp ha hb | exact pThis c hcp) (h := ?_); refine RS.rn ?_; simp only [RSr_mk]) | (refine RS.sE ?_; refine RS.rn ?_; simp only [RSr_mk]) | (refine RS.pk ?_; refine RS.rn ?_; simp only [RSr_mk]) | (refine RS.gF ?_; refine RS.rn ?_; simp only [RSr_mk]) | (refine RS.lC ?_; refine RS.rn ?_; simp only [RSr_mk]) | (refine RS.xC ?_; refine RS.rn ?_; simp only [RSr_mk]) | ((refine WP.cn (fun hc => ?_) (fun hc => ?_)) <;> try exact Bool.noConfusion hc) | (refine WP.skip ?_; try simp only [thenQ_n, blockQ_n]) | (refine WP.exit ?_; try simp only [thenQ_e, blockQ_e, blockQ_o, ne_eq, Nat.reduceEqDiff, not_false_eq_true, reduceCtorEq, thenQ_n, blockQ_n]) | refine WP.block ?_ | (refine WP.ret ?_; (try simp only [thenQ_r, blockQ_r])) | refine ret3 ?_ | refine retCT ?_)
  ·refine retMCT ?_
   exact ⟨by rw [if_pos (by assumption), if_neg (by simpa using hc)], _, rfl⟩
  ·refine retMCT ?_
   exact ⟨by rw [if_pos (by assumption), if_pos (by simpa using hc)], _, rfl⟩
  ·rename_i h2
   refine retMCT ?_
   exact ⟨by rw [if_neg (by rw [h2]; exact Bool.false_ne_true), if_pos hc], _, rfl⟩
  ·rename_i h2 h3
   refine retMCT ?_
   exact ⟨by rw [if_neg (by rw [h2]; exact Bool.false_ne_true), if_neg (by rw [h3]; exact Bool.false_ne_true), if_pos hc]; rfl, _, rfl⟩
  rename_i h2 h3
  rw [if_neg (by rw [h2]; exact Bool.false_ne_true), if_neg (by rw [h3]; exact Bool.false_ne_true), if_neg (by rw [hc]; exact Bool.false_ne_true)]
  clear h2 h3 hc
  refine WP.loopX (α := { y : Nat × Nat // y.1 ≤ e.kids.length ∧ y.2 ≤ y.1 ∧ shsT c m e.kind false e.kids = shsT c m e.kind (decide (0 < y.2)) (e.kids.drop y.1) }) (fun y => [(1, .a (.ptr 0 0)), (2, .a (.ptr 1 0)), (3, .a (.ptr 2 0)), (4, .a (.ptr 3 0)), (5, .a (.ptr 4 0)), (9, .a (.v (.int .i64 (y.1.2 : Nat)))), (38, .a (.sl (e.kids.map Ex.at))), (39, .a (.v (.int .i64 (e.kids.length : Nat)))), (40, .a (.v (.int .i64 (y.1.1 : Nat))))]) (fun y => [.cell (Cs.at c), .cell (Me.at m), .cell [.fn 109 [.ptr 0 0, .ptr 1 0, .ptr 2 0]], .cell (Ex.at e), .cell (Ty.at Ty.zero)]) (fun y => e.kids.length - y.1.1) ⟨(0, 0), by omega, by omega, rfl⟩ (by simp only [Agree, go_sem, simprocAttr]; first | done | rfl) rfl ?_
  rintro ⟨⟨k, u⟩, hk, hu, hinv⟩
  dsimp only at hk hu hinv ⊢
  by_cases hlt : k < e.kids.length
  ·have hlt2 : decide ((k : Int) < ((e.kids.length : Nat) : Int)) = true := decide_eq_true (by omega)
   obtain ⟨z, hz⟩ : ∃ z, e.kids[k]? = some z := ⟨_, List.getElem?_eq_getElem hlt⟩
   have hzm : z ∈ e.kids := List.mem_of_getElem? hz
   have hzt := take_snocA hz
   have hix : ∀ q2, ixD (some 4) q2 (.a (.sl (e.kids.map Ex.at))) (.a (.v (.int .i64 (k : Int)))) = some (.a (.ref (Ex.at z) 0)) := fun q2 => ixD_at rfl (by rw [List.getElem?_map, hz]; rfl) (by simp only [go_sem])
   have hwu := wrap64n (k := k) (by omega)
   have hwv := wrap64n (k := u) (by omega)
   have hdr : e.kids.drop k = z :: e.kids.drop (k + 1) := by rw [List.drop_eq_getElem_cons hlt]; congr 1; exact (List.getElem?_eq_some_iff.1 hz).2
   rw [hdr, shsT] at hinv
   have hIz := IH z hzm
   generalize shT c m z = R at hIz hinv
   clear IH
   replace fx := And.intro hlt2 (And.intro hix (And.intro hwu (And.intro hwv (And.intro tyZ trivial))))
   repeat' (first | refine WP.seq ?_ | (refine WP.rg [0, 1, 2, 3, 4, 5, 6, 7, 8, 9, 11, 12, 13, 15, 16, 27, 30, 34, 38, 39, 40, 41, 58, 60, 64, 74] ?_; simp only [RSr_mk]) | refine RS.fnT ?_ | (refine RS.fn ?_; try simp only [thenQ_n, blockQ_n]) | (refine RS.cl (hp := by first | exact pWant e.kind R.1 | exact pUnique R.1) (h := ?_); refine RS.rn ?_; simp only [RSr_mk]) | (refine RS.cvv (hp := by first | exact pWant e.kind R.1 | exact pUnique R.1) (h := ?_); refine RS.rn ?_; simp only [RSr_mk]) | (refine RS.cL (hp := by first | exact pWant e.kind R.1 | exact pUnique R.1) (h := ?_); refine RS.rn ?_; simp only [RSr_mk]) | (refine RS.cV (hp := by first | exact pWant e.kind R.1 | exact pUnique R.1) (h := ?_); refine RS.rn ?_; simp only [RSr_mk]) | (refine RS.cM [0, 1, 2] (hp := by exact hIz) (h := ?_); refine RS.rn ?_; simp only [RSr_mk]) | (refine RS.cvM [0, 1, 2] (hp := by exact hIz) (h := ?_); refine RS.rn ?_; simp only [RSr_mk]) | (refine RS.sE ?_; refine RS.rn ?_; simp only [RSr_mk]) | (refine RS.pk ?_; refine RS.rn ?_; simp only [RSr_mk]) | (refine RS.gF ?_; refine RS.rn ?_; simp only [RSr_mk]) | (refine RS.lC ?_; refine RS.rn ?_; simp only [RSr_mk]) | (refine RS.xC ?_; refine RS.rn ?_; simp only [RSr_mk]) | ((refine WP.cn (fun hc => ?_) (fun hc => ?_)) <;> try exact Bool.noConfusion hc) | (refine WP.skip ?_; try simp only [thenQ_n, blockQ_n]) | (refine WP.exit ?_; try simp only [thenQ_e, blockQ_e, blockQ_o, ne_eq, Nat.reduceEqDiff, not_false_eq_true, reduceCtorEq, thenQ_n, blockQ_n]) | refine WP.block ?_ | (refine WP.ret ?_; (try simp only [thenQ_r, blockQ_r])) | refine ret3 ?_ | refine retCT ?_)
   ·refine retMCT ?_
    exact ⟨by rw [hinv, if_pos (by assumption)], _, rfl⟩
   ·rename_i h4
    refine retMCT ?_
    exact ⟨by rw [hinv, if_neg (by rw [h4]; exact Bool.false_ne_true), if_pos hc], _, rfl⟩
   ·rename_i h5 h4
    rw [if_neg (by rw [h5]; exact Bool.false_ne_true), if_neg (by rw [h4]; exact Bool.false_ne_true), hc, Bool.or_true] at hinv
    refine ⟨⟨(k + 1, u + 1), by dsimp only; omega, by dsimp only; omega, by rw [hinv, decide_eq_true (by dsimp only; omega)]⟩, _, by dsimp only; omega, by simp only [Agree, go_sem, simprocAttr], rfl, by simp only [nrE, nrD, List.all_cons, List.all_nil, go_sem, simprocAttr], by simp only [go_sem, simprocAttr]⟩
   ·rename_i h5 h4
    rw [if_neg (by rw [h5]; exact Bool.false_ne_true), if_neg (by rw [h4]; exact Bool.false_ne_true), hc, Bool.or_false] at hinv
    refine ⟨⟨(k + 1, u), by dsimp only; omega, by dsimp only; omega, hinv⟩, _, by dsimp only; omega, by simp only [Agree, go_sem, simprocAttr], rfl, by simp only [nrE, nrD, List.all_cons, List.all_nil, go_sem, simprocAttr], by simp only [go_sem, simprocAttr]⟩
  ·obtain rfl : k = e.kids.length := by omega
   have hlt2 : decide ((e.kids.length : Int) < (e.kids.length : Int)) = false := decide_eq_false (by omega)
   have hub : decide ((u : Int) > 0) = decide (0 < u) := by
    by_cases h : 0 < u
    ·rw [decide_eq_true h]; exact decide_eq_true (by omega)
    ·rw [decide_eq_false h]; exact decide_eq_false (by omega)
   rw [List.drop_length, shsT] at hinv
   clear IH
   replace fx := And.intro hlt2 (And.intro tyZ (And.intro hub trivial))
   repeat' (first | refine WP.seq ?_ | (refine WP.rg [0, 1, 2, 3, 4, 5, 6, 7, 8, 9, 11, 12, 13, 15, 16, 27, 30, 34, 38, 39, 40, 41, 58, 60, 64, 74] ?_; simp only [RSr_mk]) | refine RS.fnT ?_ | (refine RS.fn ?_; try simp only [thenQ_n, blockQ_n]) | (refine RS.sE ?_; refine RS.rn ?_; simp only [RSr_mk]) | (refine RS.pk ?_; refine RS.rn ?_; simp only [RSr_mk]) | (refine RS.gF ?_; refine RS.rn ?_; simp only [RSr_mk]) | (refine RS.lC ?_; refine RS.rn ?_; simp only [RSr_mk]) | (refine RS.xC ?_; refine RS.rn ?_; simp only [RSr_mk]) | ((refine WP.cn (fun hc => ?_) (fun hc => ?_)) <;> try exact Bool.noConfusion hc) | (refine WP.skip ?_; try simp only [thenQ_n, blockQ_n]) | (refine WP.exit ?_; try simp only [thenQ_e, blockQ_e, blockQ_o, ne_eq, Nat.reduceEqDiff, not_false_eq_true, reduceCtorEq, thenQ_n, blockQ_n]) | refine WP.block ?_ | (refine WP.ret ?_; (try simp only [thenQ_r, blockQ_r])) | refine ret3 ?_ | refine retCT ?_)
   ·refine retMCT ?_
    exact ⟨by rw [hinv, if_pos hc], _, rfl⟩
   ·refine retMCT ?_
    exact ⟨by rw [hinv, if_neg (by rw [hc]; exact Bool.false_ne_true)]; rfl, _, rfl⟩
def oneT (c : Cs) (m : Me) (e : Ex) : Ty × Int := if e.rightB = true then shT c m e else (Ty.zero, 28)
theorem pShOf (c : Cs) (m : Me) (e : Ex) (hcp : c.params.length ≤ 1048576) (ha : m.params.length ≤ 1048576) (hb : m.locals.length ≤ 1048576) (hz : e.sz ≤ 1048576) : DPure Tryz.prog 51 [.r (Cs.at c), .r (Me.at m), .r (Ex.at e)] (.t [.r (Ty.at (oneT c m e).1), .a (.v (.int .i64 (oneT c m e).2))]) := by
 have hq := pShOf1 c m hcp ha hb _ e (Nat.le_refl _) hz
 unfold oneT
 generalize shT c m e = R at hq
 refine DPure.go Tryz.func51 rfl Tryz.ntmps51 rfl rfl rfl (fun C hro => ?_)
 have fx := trivial
 replace fx := And.intro tyZ trivial
 repeat' (first | refine WP.seq ?_ | (refine WP.rg [0, 1, 2, 3, 4, 5, 6, 7, 8, 11] ?_; simp only [RSr_mk]) | refine RS.fnT ?_ | (refine RS.fn ?_; try simp only [thenQ_n, blockQ_n]) | (refine RS.cl (hp := by exact peRight e hz) (h := ?_); refine RS.rn ?_; simp only [RSr_mk]) | (refine RS.cvv (hp := by exact peRight e hz) (h := ?_); refine RS.rn ?_; simp only [RSr_mk]) | (refine RS.cL (hp := by exact peRight e hz) (h := ?_); refine RS.rn ?_; simp only [RSr_mk]) | (refine RS.cV (hp := by exact peRight e hz) (h := ?_); refine RS.rn ?_; simp only [RSr_mk]) | (refine RS.cM [0, 1, 4] (hp := by exact hq) (h := ?_); refine RS.rn ?_; simp only [RSr_mk]) | (refine RS.cvM [0, 1, 4] (hp := by exact hq) (h := ?_); refine RS.rn ?_; simp only [RSr_mk]) | (refine RS.sE ?_; refine RS.rn ?_; simp only [RSr_mk]) | ((refine WP.cn (fun hc => ?_) (fun hc => ?_)) <;> try exact Bool.noConfusion hc) | (refine WP.skip ?_; try simp only [thenQ_n, blockQ_n]) | (refine WP.ret ?_; (try simp only [thenQ_r, blockQ_r])) | refine ret3 ?_ | refine retCT ?_)
 ·rw [if_neg (by simpa using hc)]
 ·rw [if_pos (by simpa using hc)]
end Go.Proofs.YtibdalkdgjghoaaGreatDoor
