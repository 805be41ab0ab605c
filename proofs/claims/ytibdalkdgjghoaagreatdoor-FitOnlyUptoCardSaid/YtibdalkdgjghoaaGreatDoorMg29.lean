/- scope.This on plain data. Conditions: at most 2^20 parameters. -/
import Derived.Test.YtibdalkdgjghoaaGreatDoorMg17
import Derived.Test.YtibdalkdgjghoaaGreatDoorMg18
import Derived.Test.YtibdalkdgjghoaaGreatDoorMg19
import Derived.Test.YtibdalkdgjghoaaGreatDoorMg20
import Derived.Test.YtibdalkdgjghoaaGreatDoorMg25
import Derived.Test.YtibdalkdgjghoaaGreatDoorMg27
import Derived.Test.YtibdalkdgjghoaaGreatDoorMg28
set_option linter.unusedVariables false
set_option linter.unusedSimpArgs false
namespace Go.Proofs.YtibdalkdgjghoaaGreatDoor
open Go.RowKit
def ownAt (c : Cs) (k : Nat) : Int × Int := (thisL c).getD k (0, 0)
def thisT (c : Cs) : Ty := ⟨2, c.name, ((min (c.params.length + 1) 4 : Nat) : Int) - 1, ownAt c 0, ownAt c 1, ownAt c 2, ownAt c 3⟩
set_option maxRecDepth 100000 in
set_option maxHeartbeats 4000000 in
theorem pThis (c : Cs) (hc : c.params.length ≤ 1048576) : DPure Tryz.prog 110 [.r (Cs.at c)] (.r (Ty.at (thisT c))) := by
  have htz : Ty.at Ty.zero = [.v (.int .i64 0), .v (.string (bs [])), .v (.int .i64 0), .v (.int .i64 0), .v (.int .i64 0), .v (.int .i64 0), .v (.int .i64 0), .v (.int .i64 0), .v (.int .i64 0), .v (.int .i64 0), .v (.int .i64 0)] := rfl
  have hal : allLen 2 ((thisL c).map owAt) = true := allLen_ow
  have hln : (thisL c).length = c.params.length + 1 := by simp [thisL]
  have hwr : IntKind.i64.wrap (((min (thisL c).length 4 : Nat) : Int) - 1) = ((min (c.params.length + 1) 4 : Nat) : Int) - 1 := by rw [hln]; exact wrap64 (by omega) (by omega)
  have hpr : putRow [A.v (.int .i64 0), .v (.int .i64 0), .v (.int .i64 0), .v (.int .i64 0), .v (.int .i64 0), .v (.int .i64 0), .v (.int .i64 0), .v (.int .i64 0)] 0 (List.take (min (thisL c).length 4) ((thisL c).map owAt)).flatten = [.v (.int .i64 (ownAt c 0).1), .v (.int .i64 (ownAt c 0).2), .v (.int .i64 (ownAt c 1).1), .v (.int .i64 (ownAt c 1).2), .v (.int .i64 (ownAt c 2).1), .v (.int .i64 (ownAt c 2).2), .v (.int .i64 (ownAt c 3).1), .v (.int .i64 (ownAt c 3).2)] := by
    rw [hln]
    unfold ownAt thisL
    generalize c.params.length = n
    match n with
    | 0 => rfl
    | 1 => rfl
    | 2 => rfl
    | k + 3 =>
      rw [show min (k + 3 + 1) 4 = 4 by omega, show k + 3 = (((k + 1) + 1) + 1) from rfl]
      simp [List.range_succ_eq_map, owAt, putRow]
  refine DPure.go Tryz.func110 rfl Tryz.ntmps110 rfl rfl rfl (fun C hro => ?_)
  have fx := trivial
  replace fx := And.intro htz (And.intro hal (And.intro hwr (And.intro hpr trivial)))
  repeat' (first | refine WP.seq ?_ | (refine WP.rg [0, 1, 2, 3] ?_; simp only [RSr_mk]) | refine RS.fnT ?_ | (refine RS.fn ?_; try simp only [thenQ_n, blockQ_n]) | (refine RS.cl (hp := by exact pThisL c hc) (h := ?_); refine RS.rn ?_; simp only [RSr_mk]) | (refine RS.cL (hp := by exact pThisL c hc) (h := ?_); refine RS.rn ?_; simp only [RSr_mk]) | (refine RS.sE ?_; refine RS.rn ?_; simp only [RSr_mk]) | (refine RS.sN ?_; refine RS.rn ?_; simp only [RSr_mk]) | (refine RS.sC ?_; refine RS.rn ?_; simp only [RSr_mk]) | (refine RS.cC ?_; refine RS.rn ?_; simp only [RSr_mk]) | (refine WP.ret ?_; (try simp only [thenQ_r, blockQ_r])) | refine retC3 ?_ | ((first | refine WP.dw (id := 2) 4 [0, 1, 2, 3] ?_); simp only [RQr_mk, List.drop_succ_cons, List.drop_zero, List.drop_nil]) | (refine RQ.nil ?_; refine RS.rn ?_; simp only [RSr_mk]) | (refine RQ.cl (hp := by exact pThisL c hc) (h := ?_); refine RQ.rn ?_; simp only [RQr_mk]) | (refine RQ.cL (hp := by exact pThisL c hc) (h := ?_); refine RQ.rn ?_; simp only [RQr_mk]) | (refine RQ.sC ?_; refine RQ.rn ?_; simp only [RQr_mk]))
  rfl
end Go.Proofs.YtibdalkdgjghoaaGreatDoor
namespace Go.Proofs.YtibdalkdgjghoaaGreatDoor
open Go.RowKit
theorem placeI_get (m : Me) (s : List UInt8) : placeI m s = -1 ∨ ∃ (j : Nat) (z : Vr), (m.params ++ m.locals)[j]? = some z ∧ z.name = s ∧ placeI m s = (j : Int) := by
  rcases varI_get m.params s with h | ⟨j, z, h1, h2, h3⟩
  · rcases varI_get m.locals s with g | ⟨k, y, g1, g2, g3⟩
    · exact .inl (by unfold placeI; rw [if_neg (by omega), if_pos (by omega)])
    · refine .inr ⟨m.params.length + k, y, ?_, g2, ?_⟩
      · rw [List.getElem?_append_right (by omega), Nat.add_sub_cancel_left]; exact g1
      · unfold placeI; rw [if_neg (by omega), if_neg (by omega), g3]; omega
  · refine .inr ⟨j, z, ?_, h2, ?_⟩
    · rw [List.getElem?_append_left (List.getElem?_eq_some_iff.1 h1).1]; exact h1
    · unfold placeI; rw [if_pos (by omega), h3]
def thisS : List UInt8 := [116, 104, 105, 115]
/-- A name's type, and whether it has one. -/
def typeT (c : Cs) (m : Me) (s : List UInt8) : Ty × Bool :=
  if (s == thisS) = true then (thisT c, true) else if placeI m s < 0 then (Ty.zero, false) else ((((m.params ++ m.locals)[(placeI m s).toNat]?).map Vr.ty).getD Ty.zero, true)
set_option maxRecDepth 100000 in
set_option maxHeartbeats 4000000 in
theorem pType (c : Cs) (m : Me) (s : List UInt8) (hc : c.params.length ≤ 1048576) (ha : m.params.length ≤ 1048576) (hb : m.locals.length ≤ 1048576) : DPure Tryz.prog 103 [.r (Cs.at c), .r (Me.at m), .a (.v (.string (bs s)))] (.t [.r (Ty.at (typeT c m s).1), .a (.v (.bool (typeT c m s).2))]) := by
  have htb : (thisS == thisS) = true := rfl
  cases hT : (s == thisS) with
  | true =>
    have hts : (s == [116, 104, 105, 115]) = true := hT
    rw [show typeT c m s = (thisT c, true) by unfold typeT; rw [if_pos hT]]
    have hq := pThis c hc
    generalize thisT c = T at hq ⊢
    dsimp only
    refine DPure.go Tryz.func103 rfl Tryz.ntmps103 rfl rfl rfl (fun C hro => ?_)
    have fx := trivial
    replace fx := And.intro hts trivial
    repeat' (first | refine WP.seq ?_ | (refine WP.rg [0, 1, 2, 3, 4, 6, 7, 8, 10, 17] ?_; simp only [RSr_mk]) | refine RS.fnT ?_ | (refine RS.fn ?_; try simp only [thenQ_n, blockQ_n]) | (refine RS.cl (hp := by exact hq) (h := ?_); refine RS.rn ?_; simp only [RSr_mk]) | (refine RS.cL (hp := by exact hq) (h := ?_); refine RS.rn ?_; simp only [RSr_mk]) | (refine RS.sE ?_; refine RS.rn ?_; simp only [RSr_mk]) | (refine RS.xC ?_; refine RS.rn ?_; simp only [RSr_mk]) | ((refine WP.cn (fun hc => ?_) (fun hc => ?_)) <;> try exact Bool.noConfusion hc) | (refine WP.skip ?_; try simp only [thenQ_n, blockQ_n]) | (refine WP.ret ?_; (try simp only [thenQ_r, blockQ_r])) | refine ret3 ?_ | refine retCT ?_)
    all_goals rfl
  | false =>
    have hts : (s == [116, 104, 105, 115]) = false := hT
    rcases placeI_get m s with hp | ⟨j, z, hz, _, hp⟩
    · have hd : decide (placeI m s < 0) = true := decide_eq_true (by omega)
      rw [show typeT c m s = (Ty.zero, false) by unfold typeT; rw [if_neg (by rw [hT]; exact Bool.false_ne_true), if_pos (by omega)]]
      refine DPure.go Tryz.func103 rfl Tryz.ntmps103 rfl rfl rfl (fun C hro => ?_)
      have fx := trivial
      replace fx := And.intro hts (And.intro hd trivial)
      repeat' (first | refine WP.seq ?_ | (refine WP.rg [0, 1, 2, 3, 4, 6, 7, 8, 10, 17] ?_; simp only [RSr_mk]) | refine RS.fnT ?_ | (refine RS.fn ?_; try simp only [thenQ_n, blockQ_n]) | (refine RS.cl (hp := by exact pPlace m s ha hb) (h := ?_); refine RS.rn ?_; simp only [RSr_mk]) | (refine RS.cL (hp := by exact pPlace m s ha hb) (h := ?_); refine RS.rn ?_; simp only [RSr_mk]) | (refine RS.sE ?_; refine RS.rn ?_; simp only [RSr_mk]) | (refine RS.xC ?_; refine RS.rn ?_; simp only [RSr_mk]) | ((refine WP.cn (fun hc => ?_) (fun hc => ?_)) <;> try exact Bool.noConfusion hc) | (refine WP.skip ?_; try simp only [thenQ_n, blockQ_n]) | (refine WP.ret ?_; (try simp only [thenQ_r, blockQ_r])) | refine ret3 ?_ | refine retCT ?_)
      all_goals rfl
    · have hd : decide ((j : Int) < 0) = false := decide_eq_false (by omega)
      have hjx : ∀ q2, ixD (some 13) q2 (.a (.sl ((m.params ++ m.locals).map Vr.at))) (.a (.v (.int .i64 (j : Int)))) = some (.a (.ref (Vr.at z) 0)) := fun q2 => ixD_at rfl (by rw [List.getElem?_map, hz]; rfl) (by simp only [go_sem])
      have hma : List.map Vr.at m.params ++ List.map Vr.at m.locals = (m.params ++ m.locals).map Vr.at := List.map_append.symm
      rw [show typeT c m s = (z.ty, true) by unfold typeT; rw [if_neg (by rw [hT]; exact Bool.false_ne_true), if_neg (by omega), hp, Int.toNat_natCast, hz]; rfl]
      refine DPure.go Tryz.func103 rfl Tryz.ntmps103 rfl rfl rfl (fun C hro => ?_)
      have fx := trivial
      replace fx := And.intro hts (And.intro hp (And.intro hd (And.intro hjx trivial)))
      repeat' (first | refine WP.seq ?_ | (refine WP.rg [0, 1, 2, 3, 4, 6, 7, 8, 10, 17] ?_; simp only [RSr_mk]) | refine RS.fnT ?_ | (refine RS.fn ?_; try simp only [thenQ_n, blockQ_n]) | (refine RS.cl (hp := by first | exact pPlace m s ha hb | exact pVarsA m ha hb) (h := ?_); refine RS.rn ?_; simp only [RSr_mk]) | (refine RS.cL (hp := by first | exact pPlace m s ha hb | exact pVarsA m ha hb) (h := ?_); refine RS.rn ?_; simp only [RSr_mk]) | (refine RS.sE ?_; refine RS.rn ?_; simp only [RSr_mk]) | (refine RS.xC ?_; refine RS.rn ?_; simp only [RSr_mk]) | ((refine WP.cn (fun hc => ?_) (fun hc => ?_)) <;> try exact Bool.noConfusion hc) | (refine WP.skip ?_; try simp only [thenQ_n, blockQ_n]) | (refine WP.ret ?_; (try simp only [thenQ_r, blockQ_r])) | refine ret3 ?_ | refine retCT ?_)
      all_goals rfl
end Go.Proofs.YtibdalkdgjghoaaGreatDoor
namespace Go.Proofs.YtibdalkdgjghoaaGreatDoor
open Go.RowKit
set_option maxRecDepth 100000 in
set_option maxHeartbeats 4000000 in
theorem pMust (b : Bool) (z : Int) : DPure Tryz.prog 104 [.a (.v (.bool b)), .a (.v (.int .i64 z))] (.a (.v (.int .i64 (bif b then 0 else z)))) := by
  cases b
  all_goals refine DPure.go Tryz.func104 rfl Tryz.ntmps104 rfl rfl rfl (fun C hro => ?_)
  all_goals have fx := trivial
  all_goals (repeat' (first | refine WP.seq ?_ | (refine WP.rg [0, 1, 4, 5] ?_; simp only [RSr_mk]) | refine RS.fnT ?_ | (refine RS.fn ?_; try simp only [thenQ_n, blockQ_n]) | ((refine WP.cn (fun hc => ?_) (fun hc => ?_)) <;> try exact Bool.noConfusion hc) | (refine WP.skip ?_; try simp only [thenQ_n, blockQ_n]) | (refine WP.ret ?_; (try simp only [thenQ_r, blockQ_r])) | refine ret3 ?_))
  all_goals rfl
end Go.Proofs.YtibdalkdgjghoaaGreatDoor
namespace Go.Proofs.YtibdalkdgjghoaaGreatDoor
open Go.RowKit
theorem retMCT {P : Program} {n : Nat} {e : Nat → D} {st : List Bx} {O : D → List Bx → D → Prop} {d1 d2 : D} {t u i off : Nat} {T : TypeId} {row : List A} {k : Option Nat} (h : O (.t [d1, d2]) st (e 1000000)) (he : e t = .a (.ptr i off) := by (simp only [go_sem, simprocAttr, fx]) <;> rfl) (hs : st[i]? = some (.cell row) := by (simp only [go_sem, simprocAttr, fx]) <;> rfl) (hk : ldk P T = some k := by (simp only [go_sem]) <;> rfl) (hd : ldRow k row off = some d1 := by (simp only [go_sem, simprocAttr, fx]) <;> rfl) (ht : decide (t < n) = true := by rfl) (he2 : e u = d2 := by (simp only [go_sem, simprocAttr, fx]) <;> rfl) (hu : decide (u < n) = true := by rfl) : retM P n [.cell t T, .tmp u] O .ret e st := by
  refine ⟨.t [d1, d2], ⟨[d1, d2], rfl, ?_⟩, h⟩
  simp only [List.map_cons, List.map_nil, resM1]
  rw [if_pos (of_decide_eq_true ht), if_pos (of_decide_eq_true hu), he, he2]
  simp only [hs, hk, hd]
def tyK (k : Int) : Ty := ⟨k, [], 0, (0, 0), (0, 0), (0, 0), (0, 0)⟩
mutual
/-- The type of an expression, and what is wrong. -/
def shT (c : Cs) (m : Me) : Ex → Ty × Int
  | ⟨k, _, s, l⟩ => if (k == 2) = true then (if (typeT c m s).2 = true then ((typeT c m s).1, 0) else (Ty.zero, 13)) else if (k == 3) = true then (thisT c, 0) else if (k == 4) = true then (tyK 3, 0) else shsT c m k false l
def shsT (c : Cs) (m : Me) (k : Int) (u : Bool) : List Ex → Ty × Int
  | [] => if (u && k == 14) = true then (Ty.zero, 22) else (tyK 1, 0)
  | e :: r => if ((shT c m e).2 == 0 && !wantB k (shT c m e).1) = true then (Ty.zero, 14) else if ((shT c m e).2 != 0) = true then (Ty.zero, (shT c m e).2) else shsT c m k (u || uniqB (shT c m e).1) r
end
theorem shT_eq (c : Cs) (m : Me) (e : Ex) : shT c m e = if (e.kind == 2) = true then (if (typeT c m e.name).2 = true then ((typeT c m e.name).1, 0) else (Ty.zero, 13)) else if (e.kind == 3) = true then (thisT c, 0) else if (e.kind == 4) = true then (tyK 3, 0) else shsT c m e.kind false e.kids := by
  obtain ⟨k, n, s, l⟩ := e; rw [shT]
theorem tyZ : [A.v (.int .i64 0), .v (.string (bs [])), .v (.int .i64 0), .v (.int .i64 0), .v (.int .i64 0), .v (.int .i64 0), .v (.int .i64 0), .v (.int .i64 0), .v (.int .i64 0), .v (.int .i64 0), .v (.int .i64 0)] = Ty.at Ty.zero := rfl
set_option maxRecDepth 100000 in
set_option maxHeartbeats 8000000 in
theorem pShOf1 (c : Cs) (m : Me) (hcp : c.params.length ≤ 1048576) (ha : m.params.length ≤ 1048576) (hb : m.locals.length ≤ 1048576) : ∀ (n : Nat) (e : Ex), e.sz ≤ n → e.sz ≤ 1048576 → DM Tryz.prog 109 [.r (Ex.at e), .a (.ptr 0 0), .a (.ptr 1 0), .a (.ptr 2 0)] [.cell (Cs.at c), .cell (Me.at m), .cell [.fn 109 [.ptr 0 0, .ptr 1 0, .ptr 2 0]]] (.t [.r (Ty.at (shT c m e).1), .a (.v (.int .i64 (shT c m e).2))]) [.cell (Cs.at c), .cell (Me.at m), .cell [.fn 109 [.ptr 0 0, .ptr 1 0, .ptr 2 0]]]
  | 0, e, h, _ => by have := e.sz_pos; omega
  | n + 1, e, h, hz => by
    have IH : ∀ k ∈ e.kids, _ := fun k hk => pShOf1 c m hcp ha hb n k (by have := Ex.kid_lt hk; omega) (by have := Ex.kid_lt hk; omega)
    have hlen : e.kids.length ≤ 1048576 := by have := Ex.szs_len e.kids; have := e.sz_eq; omega
    rw [shT_eq]
    refine DM.intro Tryz.func109 rfl Tryz.ntmps109 rfl rfl rfl (by simp only [go_sem, simprocAttr]) (fun V0 Kb Nx => ?_)
    have fx := trivial
    replace fx := And.intro tyZ trivial
    repeat' (first | refine WP.seq ?_ | (refine WP.rg [0, 1, 2, 3, 4, 5, 6, 7, 8, 9, 11, 12, 13, 15, 16, 27, 30, 34, 38, 39, 40, 41, 58, 60, 64, 74] ?_; simp only [RSr_mk]) | refine RS.fnT ?_ | (refine RS.fn ?_; try simp only [thenQ_n, blockQ_n]) | (refine RS.cl (hp := by first | exact pType c m e.name hcp ha hb | exact pThis c hcp) (h := ?_); refine RS.rn ?_; simp only [RSr_mk]) | (refine RS.cvv (hp := by first | exact pType c m e.name hcp ha hb | exact pThis c hcp) (h := ?_); refine RS.rn ?_; simp only [RSr_mk]) | (refine RS.cL (hp := by first | exact pType c m e.name hcp ha hb | exact pThis c hcp) (h := ?_); refine RS.rn ?_; simp only [RSr_mk]) | (refine RS.cV (hp := by first | exact pType c m e.name hcp ha hb | exact pThis c hcp) (h := ?_); refine RS.rn ?_; simp only [RSr_mk]) | (refine RS.sE ?_; refine RS.rn ?_; simp only [RSr_mk]) | (refine RS.pk ?_; refine RS.rn ?_; simp only [RSr_mk]) | (refine RS.gF ?_; refine RS.rn ?_; simp only [RSr_mk]) | (refine RS.lC ?_; refine RS.rn ?_; simp only [RSr_mk]) | (refine RS.xC ?_; refine RS.rn ?_; simp only [RSr_mk]) | ((refine WP.cn (fun hc => ?_) (fun hc => ?_)) <;> try exact Bool.noConfusion hc) | (refine WP.skip ?_; try simp only [thenQ_n, blockQ_n]) | (refine WP.exit ?_; try simp only [thenQ_e, blockQ_e, blockQ_o, ne_eq, Nat.reduceEqDiff, not_false_eq_true, reduceCtorEq, thenQ_n, blockQ_n]) | refine WP.block ?_ | (refine WP.ret ?_; (try simp only [thenQ_r, blockQ_r])) | refine ret3 ?_ | refine retCT ?_)
    · refine retMCT ?_
      exact ⟨by rw [if_pos (by assumption), if_neg (by simpa using hc)], _, rfl⟩
    · refine retMCT ?_
      exact ⟨by rw [if_pos (by assumption), if_pos (by simpa using hc)], _, rfl⟩
    · rename_i h2
      refine retMCT ?_
      exact ⟨by rw [if_neg (by rw [h2]; exact Bool.false_ne_true), if_pos hc], _, rfl⟩
    · rename_i h2 h3
      refine retMCT ?_
      exact ⟨by rw [if_neg (by rw [h2]; exact Bool.false_ne_true), if_neg (by rw [h3]; exact Bool.false_ne_true), if_pos hc]; rfl, _, rfl⟩
    rename_i h2 h3
    rw [if_neg (by rw [h2]; exact Bool.false_ne_true), if_neg (by rw [h3]; exact Bool.false_ne_true), if_neg (by rw [hc]; exact Bool.false_ne_true)]
    clear h2 h3 hc
    refine WP.loopX (α := { y : Nat × Nat // y.1 ≤ e.kids.length ∧ y.2 ≤ y.1 ∧ shsT c m e.kind false e.kids = shsT c m e.kind (decide (0 < y.2)) (e.kids.drop y.1) }) (fun y => [(1, .a (.ptr 0 0)), (2, .a (.ptr 1 0)), (3, .a (.ptr 2 0)), (4, .a (.ptr 3 0)), (5, .a (.ptr 4 0)), (9, .a (.v (.int .i64 (y.1.2 : Nat)))), (38, .a (.sl (e.kids.map Ex.at))), (39, .a (.v (.int .i64 (e.kids.length : Nat)))), (40, .a (.v (.int .i64 (y.1.1 : Nat))))]) (fun y => [.cell (Cs.at c), .cell (Me.at m), .cell [.fn 109 [.ptr 0 0, .ptr 1 0, .ptr 2 0]], .cell (Ex.at e), .cell (Ty.at Ty.zero)]) (fun y => e.kids.length - y.1.1) ⟨(0, 0), by omega, by omega, rfl⟩ (by simp only [Agree, go_sem, simprocAttr]; first | done | rfl) rfl ?_
    rintro ⟨⟨k, u⟩, hk, hu, hinv⟩
    dsimp only at hk hu hinv ⊢
    by_cases hlt : k < e.kids.length
    · have hlt2 : decide ((k : Int) < ((e.kids.length : Nat) : Int)) = true := decide_eq_true (by omega)
      obtain ⟨z, hz⟩ : ∃ z, e.kids[k]? = some z := ⟨_, List.getElem?_eq_getElem hlt⟩
      have hzm : z ∈ e.kids := List.mem_of_getElem? hz
      have hzt := take_snocA hz
      have hix : ∀ q2, ixD (some 4) q2 (.a (.sl (e.kids.map Ex.at))) (.a (.v (.int .i64 (k : Int)))) = some (.a (.ref (Ex.at z) 0)) := fun q2 => ixD_at rfl (by rw [List.getElem?_map, hz]; rfl) (by simp only [go_sem])
      have hwu := wrap64n (k := k) (by omega)
      have hwv := wrap64n (k := u) (by omega)
      have hdr : e.kids.drop k = z :: e.kids.drop (k + 1) := by rw [List.drop_eq_getElem_cons hlt]; congr 1; exact (List.getElem?_eq_some_iff.1 hz).2
      rw [hdr, shsT] at hinv
      have hIz := IH z hzm
      generalize shT c m z = R at hIz hinv
      clear IH
      replace fx := And.intro hlt2 (And.intro hix (And.intro hwu (And.intro hwv (And.intro tyZ trivial))))
      repeat' (first | refine WP.seq ?_ | (refine WP.rg [0, 1, 2, 3, 4, 5, 6, 7, 8, 9, 11, 12, 13, 15, 16, 27, 30, 34, 38, 39, 40, 41, 58, 60, 64, 74] ?_; simp only [RSr_mk]) | refine RS.fnT ?_ | (refine RS.fn ?_; try simp only [thenQ_n, blockQ_n]) | (refine RS.cl (hp := by first | exact pWant e.kind R.1 | exact pUnique R.1) (h := ?_); refine RS.rn ?_; simp only [RSr_mk]) | (refine RS.cvv (hp := by first | exact pWant e.kind R.1 | exact pUnique R.1) (h := ?_); refine RS.rn ?_; simp only [RSr_mk]) | (refine RS.cL (hp := by first | exact pWant e.kind R.1 | exact pUnique R.1) (h := ?_); refine RS.rn ?_; simp only [RSr_mk]) | (refine RS.cV (hp := by first | exact pWant e.kind R.1 | exact pUnique R.1) (h := ?_); refine RS.rn ?_; simp only [RSr_mk]) | (refine RS.cM [0, 1, 2] (hp := by exact hIz) (h := ?_); refine RS.rn ?_; simp only [RSr_mk]) | (refine RS.cvM [0, 1, 2] (hp := by exact hIz) (h := ?_); refine RS.rn ?_; simp only [RSr_mk]) | (refine RS.sE ?_; refine RS.rn ?_; simp only [RSr_mk]) | (refine RS.pk ?_; refine RS.rn ?_; simp only [RSr_mk]) | (refine RS.gF ?_; refine RS.rn ?_; simp only [RSr_mk]) | (refine RS.lC ?_; refine RS.rn ?_; simp only [RSr_mk]) | (refine RS.xC ?_; refine RS.rn ?_; simp only [RSr_mk]) | ((refine WP.cn (fun hc => ?_) (fun hc => ?_)) <;> try exact Bool.noConfusion hc) | (refine WP.skip ?_; try simp only [thenQ_n, blockQ_n]) | (refine WP.exit ?_; try simp only [thenQ_e, blockQ_e, blockQ_o, ne_eq, Nat.reduceEqDiff, not_false_eq_true, reduceCtorEq, thenQ_n, blockQ_n]) | refine WP.block ?_ | (refine WP.ret ?_; (try simp only [thenQ_r, blockQ_r])) | refine ret3 ?_ | refine retCT ?_)
      · refine retMCT ?_
        exact ⟨by rw [hinv, if_pos (by assumption)], _, rfl⟩
      · rename_i h4
        refine retMCT ?_
        exact ⟨by rw [hinv, if_neg (by rw [h4]; exact Bool.false_ne_true), if_pos hc], _, rfl⟩
      · rename_i h5 h4
        rw [if_neg (by rw [h5]; exact Bool.false_ne_true), if_neg (by rw [h4]; exact Bool.false_ne_true), hc, Bool.or_true] at hinv
        refine ⟨⟨(k + 1, u + 1), by dsimp only; omega, by dsimp only; omega, by rw [hinv, decide_eq_true (by dsimp only; omega)]⟩, _, by dsimp only; omega, by simp only [Agree, go_sem, simprocAttr], rfl, by simp only [nrE, nrD, List.all_cons, List.all_nil, go_sem, simprocAttr], by simp only [go_sem, simprocAttr]⟩
      · rename_i h5 h4
        rw [if_neg (by rw [h5]; exact Bool.false_ne_true), if_neg (by rw [h4]; exact Bool.false_ne_true), hc, Bool.or_false] at hinv
        refine ⟨⟨(k + 1, u), by dsimp only; omega, by dsimp only; omega, hinv⟩, _, by dsimp only; omega, by simp only [Agree, go_sem, simprocAttr], rfl, by simp only [nrE, nrD, List.all_cons, List.all_nil, go_sem, simprocAttr], by simp only [go_sem, simprocAttr]⟩
    · obtain rfl : k = e.kids.length := by omega
      have hlt2 : decide ((e.kids.length : Int) < (e.kids.length : Int)) = false := decide_eq_false (by omega)
      have hub : decide ((u : Int) > 0) = decide (0 < u) := by
        by_cases h : 0 < u
        · rw [decide_eq_true h]; exact decide_eq_true (by omega)
        · rw [decide_eq_false h]; exact decide_eq_false (by omega)
      rw [List.drop_length, shsT] at hinv
      clear IH
      replace fx := And.intro hlt2 (And.intro tyZ (And.intro hub trivial))
      repeat' (first | refine WP.seq ?_ | (refine WP.rg [0, 1, 2, 3, 4, 5, 6, 7, 8, 9, 11, 12, 13, 15, 16, 27, 30, 34, 38, 39, 40, 41, 58, 60, 64, 74] ?_; simp only [RSr_mk]) | refine RS.fnT ?_ | (refine RS.fn ?_; try simp only [thenQ_n, blockQ_n]) | (refine RS.sE ?_; refine RS.rn ?_; simp only [RSr_mk]) | (refine RS.pk ?_; refine RS.rn ?_; simp only [RSr_mk]) | (refine RS.gF ?_; refine RS.rn ?_; simp only [RSr_mk]) | (refine RS.lC ?_; refine RS.rn ?_; simp only [RSr_mk]) | (refine RS.xC ?_; refine RS.rn ?_; simp only [RSr_mk]) | ((refine WP.cn (fun hc => ?_) (fun hc => ?_)) <;> try exact Bool.noConfusion hc) | (refine WP.skip ?_; try simp only [thenQ_n, blockQ_n]) | (refine WP.exit ?_; try simp only [thenQ_e, blockQ_e, blockQ_o, ne_eq, Nat.reduceEqDiff, not_false_eq_true, reduceCtorEq, thenQ_n, blockQ_n]) | refine WP.block ?_ | (refine WP.ret ?_; (try simp only [thenQ_r, blockQ_r])) | refine ret3 ?_ | refine retCT ?_)
      · refine retMCT ?_
        exact ⟨by rw [hinv, if_pos hc], _, rfl⟩
      · refine retMCT ?_
        exact ⟨by rw [hinv, if_neg (by rw [hc]; exact Bool.false_ne_true)]; rfl, _, rfl⟩
def oneT (c : Cs) (m : Me) (e : Ex) : Ty × Int := if e.rightB = true then shT c m e else (Ty.zero, 28)
set_option maxRecDepth 100000 in
set_option maxHeartbeats 8000000 in
theorem pShOf (c : Cs) (m : Me) (e : Ex) (hcp : c.params.length ≤ 1048576) (ha : m.params.length ≤ 1048576) (hb : m.locals.length ≤ 1048576) (hz : e.sz ≤ 1048576) : DPure Tryz.prog 51 [.r (Cs.at c), .r (Me.at m), .r (Ex.at e)] (.t [.r (Ty.at (oneT c m e).1), .a (.v (.int .i64 (oneT c m e).2))]) := by
  have hq := pShOf1 c m hcp ha hb _ e (Nat.le_refl _) hz
  unfold oneT
  generalize shT c m e = R at hq
  refine DPure.go Tryz.func51 rfl Tryz.ntmps51 rfl rfl rfl (fun C hro => ?_)
  have fx := trivial
  replace fx := And.intro tyZ trivial
  repeat' (first | refine WP.seq ?_ | (refine WP.rg [0, 1, 2, 3, 4, 5, 6, 7, 8, 11] ?_; simp only [RSr_mk]) | refine RS.fnT ?_ | (refine RS.fn ?_; try simp only [thenQ_n, blockQ_n]) | (refine RS.cl (hp := by exact peRight e hz) (h := ?_); refine RS.rn ?_; simp only [RSr_mk]) | (refine RS.cvv (hp := by exact peRight e hz) (h := ?_); refine RS.rn ?_; simp only [RSr_mk]) | (refine RS.cL (hp := by exact peRight e hz) (h := ?_); refine RS.rn ?_; simp only [RSr_mk]) | (refine RS.cV (hp := by exact peRight e hz) (h := ?_); refine RS.rn ?_; simp only [RSr_mk]) | (refine RS.cM [0, 1, 4] (hp := by exact hq) (h := ?_); refine RS.rn ?_; simp only [RSr_mk]) | (refine RS.cvM [0, 1, 4] (hp := by exact hq) (h := ?_); refine RS.rn ?_; simp only [RSr_mk]) | (refine RS.sE ?_; refine RS.rn ?_; simp only [RSr_mk]) | ((refine WP.cn (fun hc => ?_) (fun hc => ?_)) <;> try exact Bool.noConfusion hc) | (refine WP.skip ?_; try simp only [thenQ_n, blockQ_n]) | (refine WP.ret ?_; (try simp only [thenQ_r, blockQ_r])) | refine ret3 ?_ | refine retCT ?_)
  · rw [if_neg (by simpa using hc)]
  · rw [if_pos (by simpa using hc)]
end Go.Proofs.YtibdalkdgjghoaaGreatDoor
namespace Go.Proofs.YtibdalkdgjghoaaGreatDoor
open Go.RowKit
structure Ak where
  p : List Cs
  c : Cs
  m : Me
  s : St
  x : Ty
  o : Ty
def Ak.at : Ak → List A
  | ⟨p, c, m, s, x, o⟩ => [.sl (p.map Cs.at)] ++ Cs.at c ++ Me.at m ++ St.at s ++ Ty.at x ++ Ty.at o
section
variable (s : Ak)
theorem Ak.row : Ak.at s = [.sl (s.p.map Cs.at), .v (.string (bs s.c.name)), .sl (s.c.params.map strAt), .v (.string (bs s.c.super)), .sl (s.c.above.map owAt), .sl (s.c.fields.map Vr.at), .sl (s.c.methods.map Me.at), .v (.int .i64 s.c.at_), .v (.string (bs s.m.name)), .v (.bool s.m.pure_), .v (.int .i64 s.m.ret.kind), .v (.string (bs s.m.ret.cls)), .v (.int .i64 s.m.ret.n), .v (.int .i64 s.m.ret.o0.1), .v (.int .i64 s.m.ret.o0.2), .v (.int .i64 s.m.ret.o1.1), .v (.int .i64 s.m.ret.o1.2), .v (.int .i64 s.m.ret.o2.1), .v (.int .i64 s.m.ret.o2.2), .v (.int .i64 s.m.ret.o3.1), .v (.int .i64 s.m.ret.o3.2), .sl (s.m.params.map Vr.at), .sl (s.m.locals.map Vr.at), .sl (s.m.body.map St.at), .v (.int .i64 s.m.at_), .v (.int .i64 s.s.kind), .v (.string (bs s.s.x)), .v (.string (bs s.s.y)), .v (.string (bs s.s.name)), .v (.int .i64 s.s.ty.kind), .v (.string (bs s.s.ty.cls)), .v (.int .i64 s.s.ty.n), .v (.int .i64 s.s.ty.o0.1), .v (.int .i64 s.s.ty.o0.2), .v (.int .i64 s.s.ty.o1.1), .v (.int .i64 s.s.ty.o1.2), .v (.int .i64 s.s.ty.o2.1), .v (.int .i64 s.s.ty.o2.2), .v (.int .i64 s.s.ty.o3.1), .v (.int .i64 s.s.ty.o3.2), .v (.int .i64 s.s.e.kind), .v (.int .i64 s.s.e.num), .v (.string (bs s.s.e.name)), .sl (s.s.e.kids.map Ex.at), .sl (s.s.args.map Ex.at), .sl (s.s.body.map St.at), .sl (s.s.els.map St.at), .v (.int .i64 s.s.at_), .v (.int .i64 s.x.kind), .v (.string (bs s.x.cls)), .v (.int .i64 s.x.n), .v (.int .i64 s.x.o0.1), .v (.int .i64 s.x.o0.2), .v (.int .i64 s.x.o1.1), .v (.int .i64 s.x.o1.2), .v (.int .i64 s.x.o2.1), .v (.int .i64 s.x.o2.2), .v (.int .i64 s.x.o3.1), .v (.int .i64 s.x.o3.2), .v (.int .i64 s.o.kind), .v (.string (bs s.o.cls)), .v (.int .i64 s.o.n), .v (.int .i64 s.o.o0.1), .v (.int .i64 s.o.o0.2), .v (.int .i64 s.o.o1.1), .v (.int .i64 s.o.o1.2), .v (.int .i64 s.o.o2.1), .v (.int .i64 s.o.o2.2), .v (.int .i64 s.o.o3.1), .v (.int .i64 s.o.o3.2)] := by obtain ⟨p, ⟨c_name, c_params, c_super, c_above, c_fields, c_methods, c_at_⟩, ⟨m_name, m_pure_, ⟨m_ret_kind, m_ret_cls, m_ret_n, m_ret_o0, m_ret_o1, m_ret_o2, m_ret_o3⟩, m_params, m_locals, m_body, m_at_⟩, ⟨s_kind, s_x, s_y, s_name, ⟨s_ty_kind, s_ty_cls, s_ty_n, s_ty_o0, s_ty_o1, s_ty_o2, s_ty_o3⟩, ⟨s_e_kind, s_e_num, s_e_name, s_e_kids⟩, s_args, s_body, s_els, s_at_⟩, ⟨x_kind, x_cls, x_n, x_o0, x_o1, x_o2, x_o3⟩, ⟨o_kind, o_cls, o_n, o_o0, o_o1, o_o2, o_o3⟩⟩ := s; simp only [Ak.at, Cs.at, Me.at, Ty.at, St.at, Ex.at, St.ats_map, Ex.ats_map]; rfl
@[go_sem] theorem Ak.len : (Ak.at s).length = 70 := by rw [Ak.row]; rfl
@[go_sem] theorem Ak.cl : (Ak.at s).all clA = true := by rw [Ak.row]; rfl
@[go_sem] theorem Ak.see (st : List Bx) : (Ak.at s).map (seeA st) = Ak.at s := by rw [Ak.row]; rfl
@[go_sem] theorem Ak.nr (m : Nat) : (Ak.at s).all (nrA m) = true := by rw [Ak.row]; rfl
@[go_sem] theorem Ak.w : ldRow (some 70) (Ak.at s) 0 = some (.r (Ak.at s)) := ldRow_all (Ak.len s)
@[go_sem] theorem Ak.pw (t : Ak) : putRow (Ak.at s) 0 (Ak.at t) = Ak.at t := putRow_all (by rw [Ak.len, Ak.len])
@[go_sem] theorem Ak.g0 : ldRow none (Ak.at s) 0 = some (.a (.sl (s.p.map Cs.at))) := by rw [Ak.row]; rfl
@[go_sem] theorem Ak.g1 : ldRow none (Ak.at s) 1 = some (.a (.v (.string (bs s.c.name)))) := by rw [Ak.row]; rfl
@[go_sem] theorem Ak.g2 : ldRow none (Ak.at s) 2 = some (.a (.sl (s.c.params.map strAt))) := by rw [Ak.row]; rfl
@[go_sem] theorem Ak.g3 : ldRow none (Ak.at s) 3 = some (.a (.v (.string (bs s.c.super)))) := by rw [Ak.row]; rfl
@[go_sem] theorem Ak.g4 : ldRow none (Ak.at s) 4 = some (.a (.sl (s.c.above.map owAt))) := by rw [Ak.row]; rfl
@[go_sem] theorem Ak.g5 : ldRow none (Ak.at s) 5 = some (.a (.sl (s.c.fields.map Vr.at))) := by rw [Ak.row]; rfl
@[go_sem] theorem Ak.g6 : ldRow none (Ak.at s) 6 = some (.a (.sl (s.c.methods.map Me.at))) := by rw [Ak.row]; rfl
@[go_sem] theorem Ak.g7 : ldRow none (Ak.at s) 7 = some (.a (.v (.int .i64 s.c.at_))) := by rw [Ak.row]; rfl
@[go_sem] theorem Ak.g8 : ldRow none (Ak.at s) 8 = some (.a (.v (.string (bs s.m.name)))) := by rw [Ak.row]; rfl
@[go_sem] theorem Ak.g9 : ldRow none (Ak.at s) 9 = some (.a (.v (.bool s.m.pure_))) := by rw [Ak.row]; rfl
@[go_sem] theorem Ak.g10 : ldRow none (Ak.at s) 10 = some (.a (.v (.int .i64 s.m.ret.kind))) := by rw [Ak.row]; rfl
@[go_sem] theorem Ak.g11 : ldRow none (Ak.at s) 11 = some (.a (.v (.string (bs s.m.ret.cls)))) := by rw [Ak.row]; rfl
@[go_sem] theorem Ak.g12 : ldRow none (Ak.at s) 12 = some (.a (.v (.int .i64 s.m.ret.n))) := by rw [Ak.row]; rfl
@[go_sem] theorem Ak.g13 : ldRow none (Ak.at s) 13 = some (.a (.v (.int .i64 s.m.ret.o0.1))) := by rw [Ak.row]; rfl
@[go_sem] theorem Ak.g14 : ldRow none (Ak.at s) 14 = some (.a (.v (.int .i64 s.m.ret.o0.2))) := by rw [Ak.row]; rfl
@[go_sem] theorem Ak.g15 : ldRow none (Ak.at s) 15 = some (.a (.v (.int .i64 s.m.ret.o1.1))) := by rw [Ak.row]; rfl
@[go_sem] theorem Ak.g16 : ldRow none (Ak.at s) 16 = some (.a (.v (.int .i64 s.m.ret.o1.2))) := by rw [Ak.row]; rfl
@[go_sem] theorem Ak.g17 : ldRow none (Ak.at s) 17 = some (.a (.v (.int .i64 s.m.ret.o2.1))) := by rw [Ak.row]; rfl
@[go_sem] theorem Ak.g18 : ldRow none (Ak.at s) 18 = some (.a (.v (.int .i64 s.m.ret.o2.2))) := by rw [Ak.row]; rfl
@[go_sem] theorem Ak.g19 : ldRow none (Ak.at s) 19 = some (.a (.v (.int .i64 s.m.ret.o3.1))) := by rw [Ak.row]; rfl
@[go_sem] theorem Ak.g20 : ldRow none (Ak.at s) 20 = some (.a (.v (.int .i64 s.m.ret.o3.2))) := by rw [Ak.row]; rfl
@[go_sem] theorem Ak.g21 : ldRow none (Ak.at s) 21 = some (.a (.sl (s.m.params.map Vr.at))) := by rw [Ak.row]; rfl
@[go_sem] theorem Ak.g22 : ldRow none (Ak.at s) 22 = some (.a (.sl (s.m.locals.map Vr.at))) := by rw [Ak.row]; rfl
@[go_sem] theorem Ak.g23 : ldRow none (Ak.at s) 23 = some (.a (.sl (s.m.body.map St.at))) := by rw [Ak.row]; rfl
@[go_sem] theorem Ak.g24 : ldRow none (Ak.at s) 24 = some (.a (.v (.int .i64 s.m.at_))) := by rw [Ak.row]; rfl
@[go_sem] theorem Ak.g25 : ldRow none (Ak.at s) 25 = some (.a (.v (.int .i64 s.s.kind))) := by rw [Ak.row]; rfl
@[go_sem] theorem Ak.g26 : ldRow none (Ak.at s) 26 = some (.a (.v (.string (bs s.s.x)))) := by rw [Ak.row]; rfl
@[go_sem] theorem Ak.g27 : ldRow none (Ak.at s) 27 = some (.a (.v (.string (bs s.s.y)))) := by rw [Ak.row]; rfl
@[go_sem] theorem Ak.g28 : ldRow none (Ak.at s) 28 = some (.a (.v (.string (bs s.s.name)))) := by rw [Ak.row]; rfl
@[go_sem] theorem Ak.g29 : ldRow none (Ak.at s) 29 = some (.a (.v (.int .i64 s.s.ty.kind))) := by rw [Ak.row]; rfl
@[go_sem] theorem Ak.g30 : ldRow none (Ak.at s) 30 = some (.a (.v (.string (bs s.s.ty.cls)))) := by rw [Ak.row]; rfl
@[go_sem] theorem Ak.g31 : ldRow none (Ak.at s) 31 = some (.a (.v (.int .i64 s.s.ty.n))) := by rw [Ak.row]; rfl
@[go_sem] theorem Ak.g32 : ldRow none (Ak.at s) 32 = some (.a (.v (.int .i64 s.s.ty.o0.1))) := by rw [Ak.row]; rfl
@[go_sem] theorem Ak.g33 : ldRow none (Ak.at s) 33 = some (.a (.v (.int .i64 s.s.ty.o0.2))) := by rw [Ak.row]; rfl
@[go_sem] theorem Ak.g34 : ldRow none (Ak.at s) 34 = some (.a (.v (.int .i64 s.s.ty.o1.1))) := by rw [Ak.row]; rfl
@[go_sem] theorem Ak.g35 : ldRow none (Ak.at s) 35 = some (.a (.v (.int .i64 s.s.ty.o1.2))) := by rw [Ak.row]; rfl
@[go_sem] theorem Ak.g36 : ldRow none (Ak.at s) 36 = some (.a (.v (.int .i64 s.s.ty.o2.1))) := by rw [Ak.row]; rfl
@[go_sem] theorem Ak.g37 : ldRow none (Ak.at s) 37 = some (.a (.v (.int .i64 s.s.ty.o2.2))) := by rw [Ak.row]; rfl
@[go_sem] theorem Ak.g38 : ldRow none (Ak.at s) 38 = some (.a (.v (.int .i64 s.s.ty.o3.1))) := by rw [Ak.row]; rfl
@[go_sem] theorem Ak.g39 : ldRow none (Ak.at s) 39 = some (.a (.v (.int .i64 s.s.ty.o3.2))) := by rw [Ak.row]; rfl
@[go_sem] theorem Ak.g40 : ldRow none (Ak.at s) 40 = some (.a (.v (.int .i64 s.s.e.kind))) := by rw [Ak.row]; rfl
@[go_sem] theorem Ak.g41 : ldRow none (Ak.at s) 41 = some (.a (.v (.int .i64 s.s.e.num))) := by rw [Ak.row]; rfl
@[go_sem] theorem Ak.g42 : ldRow none (Ak.at s) 42 = some (.a (.v (.string (bs s.s.e.name)))) := by rw [Ak.row]; rfl
@[go_sem] theorem Ak.g43 : ldRow none (Ak.at s) 43 = some (.a (.sl (s.s.e.kids.map Ex.at))) := by rw [Ak.row]; rfl
@[go_sem] theorem Ak.g44 : ldRow none (Ak.at s) 44 = some (.a (.sl (s.s.args.map Ex.at))) := by rw [Ak.row]; rfl
@[go_sem] theorem Ak.g45 : ldRow none (Ak.at s) 45 = some (.a (.sl (s.s.body.map St.at))) := by rw [Ak.row]; rfl
@[go_sem] theorem Ak.g46 : ldRow none (Ak.at s) 46 = some (.a (.sl (s.s.els.map St.at))) := by rw [Ak.row]; rfl
@[go_sem] theorem Ak.g47 : ldRow none (Ak.at s) 47 = some (.a (.v (.int .i64 s.s.at_))) := by rw [Ak.row]; rfl
@[go_sem] theorem Ak.g48 : ldRow none (Ak.at s) 48 = some (.a (.v (.int .i64 s.x.kind))) := by rw [Ak.row]; rfl
@[go_sem] theorem Ak.g49 : ldRow none (Ak.at s) 49 = some (.a (.v (.string (bs s.x.cls)))) := by rw [Ak.row]; rfl
@[go_sem] theorem Ak.g50 : ldRow none (Ak.at s) 50 = some (.a (.v (.int .i64 s.x.n))) := by rw [Ak.row]; rfl
@[go_sem] theorem Ak.g51 : ldRow none (Ak.at s) 51 = some (.a (.v (.int .i64 s.x.o0.1))) := by rw [Ak.row]; rfl
@[go_sem] theorem Ak.g52 : ldRow none (Ak.at s) 52 = some (.a (.v (.int .i64 s.x.o0.2))) := by rw [Ak.row]; rfl
@[go_sem] theorem Ak.g53 : ldRow none (Ak.at s) 53 = some (.a (.v (.int .i64 s.x.o1.1))) := by rw [Ak.row]; rfl
@[go_sem] theorem Ak.g54 : ldRow none (Ak.at s) 54 = some (.a (.v (.int .i64 s.x.o1.2))) := by rw [Ak.row]; rfl
@[go_sem] theorem Ak.g55 : ldRow none (Ak.at s) 55 = some (.a (.v (.int .i64 s.x.o2.1))) := by rw [Ak.row]; rfl
@[go_sem] theorem Ak.g56 : ldRow none (Ak.at s) 56 = some (.a (.v (.int .i64 s.x.o2.2))) := by rw [Ak.row]; rfl
@[go_sem] theorem Ak.g57 : ldRow none (Ak.at s) 57 = some (.a (.v (.int .i64 s.x.o3.1))) := by rw [Ak.row]; rfl
@[go_sem] theorem Ak.g58 : ldRow none (Ak.at s) 58 = some (.a (.v (.int .i64 s.x.o3.2))) := by rw [Ak.row]; rfl
@[go_sem] theorem Ak.g59 : ldRow none (Ak.at s) 59 = some (.a (.v (.int .i64 s.o.kind))) := by rw [Ak.row]; rfl
@[go_sem] theorem Ak.g60 : ldRow none (Ak.at s) 60 = some (.a (.v (.string (bs s.o.cls)))) := by rw [Ak.row]; rfl
@[go_sem] theorem Ak.g61 : ldRow none (Ak.at s) 61 = some (.a (.v (.int .i64 s.o.n))) := by rw [Ak.row]; rfl
@[go_sem] theorem Ak.g62 : ldRow none (Ak.at s) 62 = some (.a (.v (.int .i64 s.o.o0.1))) := by rw [Ak.row]; rfl
@[go_sem] theorem Ak.g63 : ldRow none (Ak.at s) 63 = some (.a (.v (.int .i64 s.o.o0.2))) := by rw [Ak.row]; rfl
@[go_sem] theorem Ak.g64 : ldRow none (Ak.at s) 64 = some (.a (.v (.int .i64 s.o.o1.1))) := by rw [Ak.row]; rfl
@[go_sem] theorem Ak.g65 : ldRow none (Ak.at s) 65 = some (.a (.v (.int .i64 s.o.o1.2))) := by rw [Ak.row]; rfl
@[go_sem] theorem Ak.g66 : ldRow none (Ak.at s) 66 = some (.a (.v (.int .i64 s.o.o2.1))) := by rw [Ak.row]; rfl
@[go_sem] theorem Ak.g67 : ldRow none (Ak.at s) 67 = some (.a (.v (.int .i64 s.o.o2.2))) := by rw [Ak.row]; rfl
@[go_sem] theorem Ak.g68 : ldRow none (Ak.at s) 68 = some (.a (.v (.int .i64 s.o.o3.1))) := by rw [Ak.row]; rfl
@[go_sem] theorem Ak.g69 : ldRow none (Ak.at s) 69 = some (.a (.v (.int .i64 s.o.o3.2))) := by rw [Ak.row]; rfl
@[go_sem] theorem Ak.s1 : ldRow (some 7) (Ak.at s) 1 = some (.r (Cs.at s.c)) := by obtain ⟨p, ⟨c_name, c_params, c_super, c_above, c_fields, c_methods, c_at_⟩, ⟨m_name, m_pure_, ⟨m_ret_kind, m_ret_cls, m_ret_n, m_ret_o0, m_ret_o1, m_ret_o2, m_ret_o3⟩, m_params, m_locals, m_body, m_at_⟩, ⟨s_kind, s_x, s_y, s_name, ⟨s_ty_kind, s_ty_cls, s_ty_n, s_ty_o0, s_ty_o1, s_ty_o2, s_ty_o3⟩, ⟨s_e_kind, s_e_num, s_e_name, s_e_kids⟩, s_args, s_body, s_els, s_at_⟩, ⟨x_kind, x_cls, x_n, x_o0, x_o1, x_o2, x_o3⟩, ⟨o_kind, o_cls, o_n, o_o0, o_o1, o_o2, o_o3⟩⟩ := s; simp only [Ak.at, Cs.at, Me.at, Ty.at, St.at, Ex.at, St.ats_map, Ex.ats_map]; rfl
@[go_sem] theorem Ak.s8 : ldRow (some 17) (Ak.at s) 8 = some (.r (Me.at s.m)) := by obtain ⟨p, ⟨c_name, c_params, c_super, c_above, c_fields, c_methods, c_at_⟩, ⟨m_name, m_pure_, ⟨m_ret_kind, m_ret_cls, m_ret_n, m_ret_o0, m_ret_o1, m_ret_o2, m_ret_o3⟩, m_params, m_locals, m_body, m_at_⟩, ⟨s_kind, s_x, s_y, s_name, ⟨s_ty_kind, s_ty_cls, s_ty_n, s_ty_o0, s_ty_o1, s_ty_o2, s_ty_o3⟩, ⟨s_e_kind, s_e_num, s_e_name, s_e_kids⟩, s_args, s_body, s_els, s_at_⟩, ⟨x_kind, x_cls, x_n, x_o0, x_o1, x_o2, x_o3⟩, ⟨o_kind, o_cls, o_n, o_o0, o_o1, o_o2, o_o3⟩⟩ := s; simp only [Ak.at, Cs.at, Me.at, Ty.at, St.at, Ex.at, St.ats_map, Ex.ats_map]; rfl
@[go_sem] theorem Ak.s10 : ldRow (some 11) (Ak.at s) 10 = some (.r (Ty.at s.m.ret)) := by obtain ⟨p, ⟨c_name, c_params, c_super, c_above, c_fields, c_methods, c_at_⟩, ⟨m_name, m_pure_, ⟨m_ret_kind, m_ret_cls, m_ret_n, m_ret_o0, m_ret_o1, m_ret_o2, m_ret_o3⟩, m_params, m_locals, m_body, m_at_⟩, ⟨s_kind, s_x, s_y, s_name, ⟨s_ty_kind, s_ty_cls, s_ty_n, s_ty_o0, s_ty_o1, s_ty_o2, s_ty_o3⟩, ⟨s_e_kind, s_e_num, s_e_name, s_e_kids⟩, s_args, s_body, s_els, s_at_⟩, ⟨x_kind, x_cls, x_n, x_o0, x_o1, x_o2, x_o3⟩, ⟨o_kind, o_cls, o_n, o_o0, o_o1, o_o2, o_o3⟩⟩ := s; simp only [Ak.at, Cs.at, Me.at, Ty.at, St.at, Ex.at, St.ats_map, Ex.ats_map]; rfl
@[go_sem] theorem Ak.s25 : ldRow (some 23) (Ak.at s) 25 = some (.r (St.at s.s)) := by obtain ⟨p, ⟨c_name, c_params, c_super, c_above, c_fields, c_methods, c_at_⟩, ⟨m_name, m_pure_, ⟨m_ret_kind, m_ret_cls, m_ret_n, m_ret_o0, m_ret_o1, m_ret_o2, m_ret_o3⟩, m_params, m_locals, m_body, m_at_⟩, ⟨s_kind, s_x, s_y, s_name, ⟨s_ty_kind, s_ty_cls, s_ty_n, s_ty_o0, s_ty_o1, s_ty_o2, s_ty_o3⟩, ⟨s_e_kind, s_e_num, s_e_name, s_e_kids⟩, s_args, s_body, s_els, s_at_⟩, ⟨x_kind, x_cls, x_n, x_o0, x_o1, x_o2, x_o3⟩, ⟨o_kind, o_cls, o_n, o_o0, o_o1, o_o2, o_o3⟩⟩ := s; simp only [Ak.at, Cs.at, Me.at, Ty.at, St.at, Ex.at, St.ats_map, Ex.ats_map]; rfl
@[go_sem] theorem Ak.s29 : ldRow (some 11) (Ak.at s) 29 = some (.r (Ty.at s.s.ty)) := by obtain ⟨p, ⟨c_name, c_params, c_super, c_above, c_fields, c_methods, c_at_⟩, ⟨m_name, m_pure_, ⟨m_ret_kind, m_ret_cls, m_ret_n, m_ret_o0, m_ret_o1, m_ret_o2, m_ret_o3⟩, m_params, m_locals, m_body, m_at_⟩, ⟨s_kind, s_x, s_y, s_name, ⟨s_ty_kind, s_ty_cls, s_ty_n, s_ty_o0, s_ty_o1, s_ty_o2, s_ty_o3⟩, ⟨s_e_kind, s_e_num, s_e_name, s_e_kids⟩, s_args, s_body, s_els, s_at_⟩, ⟨x_kind, x_cls, x_n, x_o0, x_o1, x_o2, x_o3⟩, ⟨o_kind, o_cls, o_n, o_o0, o_o1, o_o2, o_o3⟩⟩ := s; simp only [Ak.at, Cs.at, Me.at, Ty.at, St.at, Ex.at, St.ats_map, Ex.ats_map]; rfl
@[go_sem] theorem Ak.s40 : ldRow (some 4) (Ak.at s) 40 = some (.r (Ex.at s.s.e)) := by obtain ⟨p, ⟨c_name, c_params, c_super, c_above, c_fields, c_methods, c_at_⟩, ⟨m_name, m_pure_, ⟨m_ret_kind, m_ret_cls, m_ret_n, m_ret_o0, m_ret_o1, m_ret_o2, m_ret_o3⟩, m_params, m_locals, m_body, m_at_⟩, ⟨s_kind, s_x, s_y, s_name, ⟨s_ty_kind, s_ty_cls, s_ty_n, s_ty_o0, s_ty_o1, s_ty_o2, s_ty_o3⟩, ⟨s_e_kind, s_e_num, s_e_name, s_e_kids⟩, s_args, s_body, s_els, s_at_⟩, ⟨x_kind, x_cls, x_n, x_o0, x_o1, x_o2, x_o3⟩, ⟨o_kind, o_cls, o_n, o_o0, o_o1, o_o2, o_o3⟩⟩ := s; simp only [Ak.at, Cs.at, Me.at, Ty.at, St.at, Ex.at, St.ats_map, Ex.ats_map]; rfl
@[go_sem] theorem Ak.s48 : ldRow (some 11) (Ak.at s) 48 = some (.r (Ty.at s.x)) := by obtain ⟨p, ⟨c_name, c_params, c_super, c_above, c_fields, c_methods, c_at_⟩, ⟨m_name, m_pure_, ⟨m_ret_kind, m_ret_cls, m_ret_n, m_ret_o0, m_ret_o1, m_ret_o2, m_ret_o3⟩, m_params, m_locals, m_body, m_at_⟩, ⟨s_kind, s_x, s_y, s_name, ⟨s_ty_kind, s_ty_cls, s_ty_n, s_ty_o0, s_ty_o1, s_ty_o2, s_ty_o3⟩, ⟨s_e_kind, s_e_num, s_e_name, s_e_kids⟩, s_args, s_body, s_els, s_at_⟩, ⟨x_kind, x_cls, x_n, x_o0, x_o1, x_o2, x_o3⟩, ⟨o_kind, o_cls, o_n, o_o0, o_o1, o_o2, o_o3⟩⟩ := s; simp only [Ak.at, Cs.at, Me.at, Ty.at, St.at, Ex.at, St.ats_map, Ex.ats_map]; rfl
@[go_sem] theorem Ak.s59 : ldRow (some 11) (Ak.at s) 59 = some (.r (Ty.at s.o)) := by obtain ⟨p, ⟨c_name, c_params, c_super, c_above, c_fields, c_methods, c_at_⟩, ⟨m_name, m_pure_, ⟨m_ret_kind, m_ret_cls, m_ret_n, m_ret_o0, m_ret_o1, m_ret_o2, m_ret_o3⟩, m_params, m_locals, m_body, m_at_⟩, ⟨s_kind, s_x, s_y, s_name, ⟨s_ty_kind, s_ty_cls, s_ty_n, s_ty_o0, s_ty_o1, s_ty_o2, s_ty_o3⟩, ⟨s_e_kind, s_e_num, s_e_name, s_e_kids⟩, s_args, s_body, s_els, s_at_⟩, ⟨x_kind, x_cls, x_n, x_o0, x_o1, x_o2, x_o3⟩, ⟨o_kind, o_cls, o_n, o_o0, o_o1, o_o2, o_o3⟩⟩ := s; simp only [Ak.at, Cs.at, Me.at, Ty.at, St.at, Ex.at, St.ats_map, Ex.ats_map]; rfl
@[go_sem] theorem Ak.p_p (z : List Cs) : putRow (Ak.at s) 0 ([.sl (z.map Cs.at)]) = Ak.at { s with p := z } := by obtain ⟨p, ⟨c_name, c_params, c_super, c_above, c_fields, c_methods, c_at_⟩, ⟨m_name, m_pure_, ⟨m_ret_kind, m_ret_cls, m_ret_n, m_ret_o0, m_ret_o1, m_ret_o2, m_ret_o3⟩, m_params, m_locals, m_body, m_at_⟩, ⟨s_kind, s_x, s_y, s_name, ⟨s_ty_kind, s_ty_cls, s_ty_n, s_ty_o0, s_ty_o1, s_ty_o2, s_ty_o3⟩, ⟨s_e_kind, s_e_num, s_e_name, s_e_kids⟩, s_args, s_body, s_els, s_at_⟩, ⟨x_kind, x_cls, x_n, x_o0, x_o1, x_o2, x_o3⟩, ⟨o_kind, o_cls, o_n, o_o0, o_o1, o_o2, o_o3⟩⟩ := s; simp only [Ak.at, Cs.at, Me.at, Ty.at, St.at, Ex.at, St.ats_map, Ex.ats_map]; rfl
@[go_sem] theorem Ak.p_c (z : Cs) : putRow (Ak.at s) 1 (Cs.at z) = Ak.at { s with c := z } := by obtain ⟨z_name, z_params, z_super, z_above, z_fields, z_methods, z_at_⟩ := z; obtain ⟨p, ⟨c_name, c_params, c_super, c_above, c_fields, c_methods, c_at_⟩, ⟨m_name, m_pure_, ⟨m_ret_kind, m_ret_cls, m_ret_n, m_ret_o0, m_ret_o1, m_ret_o2, m_ret_o3⟩, m_params, m_locals, m_body, m_at_⟩, ⟨s_kind, s_x, s_y, s_name, ⟨s_ty_kind, s_ty_cls, s_ty_n, s_ty_o0, s_ty_o1, s_ty_o2, s_ty_o3⟩, ⟨s_e_kind, s_e_num, s_e_name, s_e_kids⟩, s_args, s_body, s_els, s_at_⟩, ⟨x_kind, x_cls, x_n, x_o0, x_o1, x_o2, x_o3⟩, ⟨o_kind, o_cls, o_n, o_o0, o_o1, o_o2, o_o3⟩⟩ := s; simp only [Ak.at, Cs.at, Me.at, Ty.at, St.at, Ex.at, St.ats_map, Ex.ats_map]; rfl
@[go_sem] theorem Ak.p_m (z : Me) : putRow (Ak.at s) 8 (Me.at z) = Ak.at { s with m := z } := by obtain ⟨z_name, z_pure_, ⟨z_ret_kind, z_ret_cls, z_ret_n, z_ret_o0, z_ret_o1, z_ret_o2, z_ret_o3⟩, z_params, z_locals, z_body, z_at_⟩ := z; obtain ⟨p, ⟨c_name, c_params, c_super, c_above, c_fields, c_methods, c_at_⟩, ⟨m_name, m_pure_, ⟨m_ret_kind, m_ret_cls, m_ret_n, m_ret_o0, m_ret_o1, m_ret_o2, m_ret_o3⟩, m_params, m_locals, m_body, m_at_⟩, ⟨s_kind, s_x, s_y, s_name, ⟨s_ty_kind, s_ty_cls, s_ty_n, s_ty_o0, s_ty_o1, s_ty_o2, s_ty_o3⟩, ⟨s_e_kind, s_e_num, s_e_name, s_e_kids⟩, s_args, s_body, s_els, s_at_⟩, ⟨x_kind, x_cls, x_n, x_o0, x_o1, x_o2, x_o3⟩, ⟨o_kind, o_cls, o_n, o_o0, o_o1, o_o2, o_o3⟩⟩ := s; simp only [Ak.at, Cs.at, Me.at, Ty.at, St.at, Ex.at, St.ats_map, Ex.ats_map]; rfl
@[go_sem] theorem Ak.p_s (z : St) : putRow (Ak.at s) 25 (St.at z) = Ak.at { s with s := z } := by obtain ⟨z_kind, z_x, z_y, z_name, ⟨z_ty_kind, z_ty_cls, z_ty_n, z_ty_o0, z_ty_o1, z_ty_o2, z_ty_o3⟩, ⟨z_e_kind, z_e_num, z_e_name, z_e_kids⟩, z_args, z_body, z_els, z_at_⟩ := z; obtain ⟨p, ⟨c_name, c_params, c_super, c_above, c_fields, c_methods, c_at_⟩, ⟨m_name, m_pure_, ⟨m_ret_kind, m_ret_cls, m_ret_n, m_ret_o0, m_ret_o1, m_ret_o2, m_ret_o3⟩, m_params, m_locals, m_body, m_at_⟩, ⟨s_kind, s_x, s_y, s_name, ⟨s_ty_kind, s_ty_cls, s_ty_n, s_ty_o0, s_ty_o1, s_ty_o2, s_ty_o3⟩, ⟨s_e_kind, s_e_num, s_e_name, s_e_kids⟩, s_args, s_body, s_els, s_at_⟩, ⟨x_kind, x_cls, x_n, x_o0, x_o1, x_o2, x_o3⟩, ⟨o_kind, o_cls, o_n, o_o0, o_o1, o_o2, o_o3⟩⟩ := s; simp only [Ak.at, Cs.at, Me.at, Ty.at, St.at, Ex.at, St.ats_map, Ex.ats_map]; rfl
@[go_sem] theorem Ak.p_x (z : Ty) : putRow (Ak.at s) 48 (Ty.at z) = Ak.at { s with x := z } := by obtain ⟨z_kind, z_cls, z_n, z_o0, z_o1, z_o2, z_o3⟩ := z; obtain ⟨p, ⟨c_name, c_params, c_super, c_above, c_fields, c_methods, c_at_⟩, ⟨m_name, m_pure_, ⟨m_ret_kind, m_ret_cls, m_ret_n, m_ret_o0, m_ret_o1, m_ret_o2, m_ret_o3⟩, m_params, m_locals, m_body, m_at_⟩, ⟨s_kind, s_x, s_y, s_name, ⟨s_ty_kind, s_ty_cls, s_ty_n, s_ty_o0, s_ty_o1, s_ty_o2, s_ty_o3⟩, ⟨s_e_kind, s_e_num, s_e_name, s_e_kids⟩, s_args, s_body, s_els, s_at_⟩, ⟨x_kind, x_cls, x_n, x_o0, x_o1, x_o2, x_o3⟩, ⟨o_kind, o_cls, o_n, o_o0, o_o1, o_o2, o_o3⟩⟩ := s; simp only [Ak.at, Cs.at, Me.at, Ty.at, St.at, Ex.at, St.ats_map, Ex.ats_map]; rfl
@[go_sem] theorem Ak.p_o (z : Ty) : putRow (Ak.at s) 59 (Ty.at z) = Ak.at { s with o := z } := by obtain ⟨z_kind, z_cls, z_n, z_o0, z_o1, z_o2, z_o3⟩ := z; obtain ⟨p, ⟨c_name, c_params, c_super, c_above, c_fields, c_methods, c_at_⟩, ⟨m_name, m_pure_, ⟨m_ret_kind, m_ret_cls, m_ret_n, m_ret_o0, m_ret_o1, m_ret_o2, m_ret_o3⟩, m_params, m_locals, m_body, m_at_⟩, ⟨s_kind, s_x, s_y, s_name, ⟨s_ty_kind, s_ty_cls, s_ty_n, s_ty_o0, s_ty_o1, s_ty_o2, s_ty_o3⟩, ⟨s_e_kind, s_e_num, s_e_name, s_e_kids⟩, s_args, s_body, s_els, s_at_⟩, ⟨x_kind, x_cls, x_n, x_o0, x_o1, x_o2, x_o3⟩, ⟨o_kind, o_cls, o_n, o_o0, o_o1, o_o2, o_o3⟩⟩ := s; simp only [Ak.at, Cs.at, Me.at, Ty.at, St.at, Ex.at, St.ats_map, Ex.ats_map]; rfl
end
def Ak.zero : Ak := ⟨[], Cs.zero, Me.zero, St.zero, Ty.zero, Ty.zero⟩
theorem Ak.z0 : [A.sl [], .v (.string ⟨#[]⟩), .sl [], .v (.string ⟨#[]⟩), .sl [], .sl [], .sl [], .v (.int .i64 0), .v (.string ⟨#[]⟩), .v (.bool false), .v (.int .i64 0), .v (.string ⟨#[]⟩), .v (.int .i64 0), .v (.int .i64 0), .v (.int .i64 0), .v (.int .i64 0), .v (.int .i64 0), .v (.int .i64 0), .v (.int .i64 0), .v (.int .i64 0), .v (.int .i64 0), .sl [], .sl [], .sl [], .v (.int .i64 0), .v (.int .i64 0), .v (.string ⟨#[]⟩), .v (.string ⟨#[]⟩), .v (.string ⟨#[]⟩), .v (.int .i64 0), .v (.string ⟨#[]⟩), .v (.int .i64 0), .v (.int .i64 0), .v (.int .i64 0), .v (.int .i64 0), .v (.int .i64 0), .v (.int .i64 0), .v (.int .i64 0), .v (.int .i64 0), .v (.int .i64 0), .v (.int .i64 0), .v (.int .i64 0), .v (.string ⟨#[]⟩), .sl [], .sl [], .sl [], .sl [], .v (.int .i64 0), .v (.int .i64 0), .v (.string ⟨#[]⟩), .v (.int .i64 0), .v (.int .i64 0), .v (.int .i64 0), .v (.int .i64 0), .v (.int .i64 0), .v (.int .i64 0), .v (.int .i64 0), .v (.int .i64 0), .v (.int .i64 0), .v (.int .i64 0), .v (.string ⟨#[]⟩), .v (.int .i64 0), .v (.int .i64 0), .v (.int .i64 0), .v (.int .i64 0), .v (.int .i64 0), .v (.int .i64 0), .v (.int .i64 0), .v (.int .i64 0), .v (.int .i64 0)] = Ak.at Ak.zero := by unfold Ak.zero; simp only [Ak.at, Cs.zero, Cs.at, Me.zero, Me.at, Ty.zero, Ty.at, St.zero, St.at, Ex.zero, Ex.at, St.ats_map, Ex.ats_map]; rfl
end Go.Proofs.YtibdalkdgjghoaaGreatDoor
namespace Go.Proofs.YtibdalkdgjghoaaGreatDoor
open Go.RowKit
structure Ak.ok (a : Ak) : Prop where
  np : a.p.length ≤ 1048576
  nc : a.c.params.length ≤ 1048576
  na : a.m.params.length ≤ 1048576
  nl : a.m.locals.length ≤ 1048576
  nz : a.s.sz ≤ 1048576
theorem St.e_sz (s : St) : s.e.sz ≤ s.sz := by
  obtain ⟨k, x, y, nm, ty, e, ar, bo, el, at_⟩ := s
  rw [St.sz]; dsimp only; omega
def vrE (a : Ak) (s : List UInt8) : Int := if placeI a.m s < 0 then 13 else 0
def tgt (a : Ak) : Int × Ak := if placeI a.m a.s.x < 0 then (13, a) else (0, { a with x := (typeT a.c a.m a.s.x).1 })
set_option maxRecDepth 100000 in
set_option maxHeartbeats 4000000 in
theorem pgVarX (a : Ak) (s : List UInt8) : DM Tryz.prog 125 [.a (.ptr 0 0), .a (.v (.string (bs s))), .a (.ptr 0 48)] [.cell (Ak.at a)] (.a (.fn 185 [.ptr 1 0, .ptr 2 0, .ptr 3 0])) [.cell (Ak.at a), .cell [.ptr 0 0], .cell [.v (.string (bs s))], .cell [.ptr 0 48]] := by
  refine DM.intro Tryz.func125 rfl Tryz.ntmps125 rfl rfl rfl (by simp only [go_sem, simprocAttr]) (fun V0 Kb Nx => ?_)
  have fx := trivial
  repeat' (first | refine WP.seq ?_ | (refine WP.rg [0, 1, 2, 3, 4, 5, 6] ?_; simp only [RSr_mk]) | refine RS.fnT ?_ | (refine RS.fn ?_; try simp only [thenQ_n, blockQ_n]) | (refine WP.ret ?_; (try simp only [thenQ_r, blockQ_r])) | refine ret3 ?_)
  exact retM1 ⟨rfl, [], rfl⟩
set_option maxRecDepth 100000 in
set_option maxHeartbeats 4000000 in
theorem pgVarT (a : Ak) (t : Ty) (s : List UInt8) : DM Tryz.prog 125 [.a (.ptr 0 0), .a (.v (.string (bs s))), .a (.ptr 1 0)] [.cell (Ak.at a), .cell (Ty.at t)] (.a (.fn 185 [.ptr 2 0, .ptr 3 0, .ptr 4 0])) [.cell (Ak.at a), .cell (Ty.at t), .cell [.ptr 0 0], .cell [.v (.string (bs s))], .cell [.ptr 1 0]] := by
  refine DM.intro Tryz.func125 rfl Tryz.ntmps125 rfl rfl rfl (by simp only [go_sem, simprocAttr]) (fun V0 Kb Nx => ?_)
  have fx := trivial
  repeat' (first | refine WP.seq ?_ | (refine WP.rg [0, 1, 2, 3, 4, 5, 6] ?_; simp only [RSr_mk]) | refine RS.fnT ?_ | (refine RS.fn ?_; try simp only [thenQ_n, blockQ_n]) | (refine WP.ret ?_; (try simp only [thenQ_r, blockQ_r])) | refine ret3 ?_)
  exact retM1 ⟨rfl, [], rfl⟩
set_option maxRecDepth 100000 in
set_option maxHeartbeats 4000000 in
theorem pgVarX1 (a : Ak) (s : List UInt8) (h : a.ok) : DM Tryz.prog 185 [.a (.ptr 1 0), .a (.ptr 2 0), .a (.ptr 3 0)] [.cell (Ak.at a), .cell [.ptr 0 0], .cell [.v (.string (bs s))], .cell [.ptr 0 48]] (.a (.v (.int .i64 (vrE a s)))) [.cell (Ak.at (if placeI a.m s < 0 then a else { a with x := (typeT a.c a.m s).1 })), .cell [.ptr 0 0], .cell [.v (.string (bs s))], .cell [.ptr 0 48]] := by
  by_cases hp : placeI a.m s < 0
  · have hd := decide_eq_true hp
    unfold vrE; rw [if_pos hp, if_pos hp]
    refine DM.intro Tryz.func185 rfl Tryz.ntmps185 rfl rfl rfl (by simp only [go_sem, simprocAttr]) (fun V0 Kb Nx => ?_)
    have fx := trivial
    replace fx := And.intro hd trivial
    repeat' (first | (refine RWL.fin ?_; try simp only [thenQ_n, blockQ_n]) | refine WP.seq ?_ | (refine WP.rg [0, 1, 2, 3, 10] ?_; simp only [RSr_mk]) | refine RS.fnT ?_ | (refine RS.fn ?_; try simp only [thenQ_n, blockQ_n]) | (refine RS.cl (hp := by first | exact pPlace a.m s h.na h.nl | exact pType a.c a.m s h.nc h.na h.nl) (h := ?_); refine RS.rn ?_; simp only [RSr_mk]) | (refine RS.cL (hp := by first | exact pPlace a.m s h.na h.nl | exact pType a.c a.m s h.nc h.na h.nl) (h := ?_); refine RS.rn ?_; simp only [RSr_mk]) | (refine RS.sE ?_; refine RS.rn ?_; simp only [RSr_mk]) | (refine' WP.dl (id := 3) [0, 0, 2, 6, 14, 0, 32, 96, 224, 0, 1022, 2046, 4094, 4094, 8191, 24575] [0, 1, 2, 3, 10] [15] [(15, _)] ?_) | refine RWL.fr ?_ | (refine RWL.cl (hp := by first | exact pPlace a.m s h.na h.nl | exact pType a.c a.m s h.nc h.na h.nl) (h := ?_)) | refine RWL.wt ?_ | refine RWL.re ?_ ?_ | refine RdO.oz | refine RdO.oa ?_ | refine RdO.oe ?_ | refine RdO.on | ((refine WP.cn (fun hc => ?_) (fun hc => ?_)) <;> try exact Bool.noConfusion hc) | (refine WP.skip ?_; try simp only [thenQ_n, blockQ_n]) | (refine WP.ret ?_; (try simp only [thenQ_r, blockQ_r])) | refine ret3 ?_ | ((first | refine WP.dw (id := 1) 7 [0, 1, 2, 3, 10] ?_); simp only [RQr_mk, List.drop_succ_cons, List.drop_zero, List.drop_nil]) | (refine RQ.nil ?_; refine RS.rn ?_; simp only [RSr_mk]) | (refine RQ.cl (hp := by first | exact pPlace a.m s h.na h.nl | exact pType a.c a.m s h.nc h.na h.nl) (h := ?_); refine RQ.rn ?_; simp only [RQr_mk]) | (refine RQ.cL (hp := by first | exact pPlace a.m s h.na h.nl | exact pType a.c a.m s h.nc h.na h.nl) (h := ?_); refine RQ.rn ?_; simp only [RQr_mk]))
    exact retM1 ⟨rfl, _, rfl⟩
  · have hd := decide_eq_false hp
    unfold vrE; rw [if_neg hp, if_neg hp]
    refine DM.intro Tryz.func185 rfl Tryz.ntmps185 rfl rfl rfl (by simp only [go_sem, simprocAttr]) (fun V0 Kb Nx => ?_)
    have fx := trivial
    replace fx := And.intro hd trivial
    repeat' (first | (refine RWL.fin ?_; try simp only [thenQ_n, blockQ_n]) | refine WP.seq ?_ | (refine WP.rg [0, 1, 2, 3, 10] ?_; simp only [RSr_mk]) | refine RS.fnT ?_ | (refine RS.fn ?_; try simp only [thenQ_n, blockQ_n]) | (refine RS.cl (hp := by first | exact pPlace a.m s h.na h.nl | exact pType a.c a.m s h.nc h.na h.nl) (h := ?_); refine RS.rn ?_; simp only [RSr_mk]) | (refine RS.cL (hp := by first | exact pPlace a.m s h.na h.nl | exact pType a.c a.m s h.nc h.na h.nl) (h := ?_); refine RS.rn ?_; simp only [RSr_mk]) | (refine RS.sE ?_; refine RS.rn ?_; simp only [RSr_mk]) | (refine' WP.dl (id := 3) [0, 0, 2, 6, 14, 0, 32, 96, 224, 0, 1022, 2046, 4094, 4094, 8191, 24575] [0, 1, 2, 3, 10] [15] [(15, _)] ?_) | refine RWL.fr ?_ | (refine RWL.cl (hp := by first | exact pPlace a.m s h.na h.nl | exact pType a.c a.m s h.nc h.na h.nl) (h := ?_)) | refine RWL.wt ?_ | refine RWL.re ?_ ?_ | refine RdO.oz | refine RdO.oa ?_ | refine RdO.oe ?_ | refine RdO.on | ((refine WP.cn (fun hc => ?_) (fun hc => ?_)) <;> try exact Bool.noConfusion hc) | (refine WP.skip ?_; try simp only [thenQ_n, blockQ_n]) | (refine WP.ret ?_; (try simp only [thenQ_r, blockQ_r])) | refine ret3 ?_ | ((first | refine WP.dw (id := 1) 7 [0, 1, 2, 3, 10] ?_); simp only [RQr_mk, List.drop_succ_cons, List.drop_zero, List.drop_nil]) | (refine RQ.nil ?_; refine RS.rn ?_; simp only [RSr_mk]) | (refine RQ.cl (hp := by first | exact pPlace a.m s h.na h.nl | exact pType a.c a.m s h.nc h.na h.nl) (h := ?_); refine RQ.rn ?_; simp only [RQr_mk]) | (refine RQ.cL (hp := by first | exact pPlace a.m s h.na h.nl | exact pType a.c a.m s h.nc h.na h.nl) (h := ?_); refine RQ.rn ?_; simp only [RQr_mk]))
    exact retM1 ⟨rfl, _, rfl⟩
set_option maxRecDepth 100000 in
set_option maxHeartbeats 4000000 in
theorem pgVarT1 (a : Ak) (t : Ty) (s : List UInt8) (h : a.ok) : DM Tryz.prog 185 [.a (.ptr 2 0), .a (.ptr 3 0), .a (.ptr 4 0)] [.cell (Ak.at a), .cell (Ty.at t), .cell [.ptr 0 0], .cell [.v (.string (bs s))], .cell [.ptr 1 0]] (.a (.v (.int .i64 (vrE a s)))) [.cell (Ak.at a), .cell (Ty.at (if placeI a.m s < 0 then t else (typeT a.c a.m s).1)), .cell [.ptr 0 0], .cell [.v (.string (bs s))], .cell [.ptr 1 0]] := by
  by_cases hp : placeI a.m s < 0
  · have hd := decide_eq_true hp
    unfold vrE; rw [if_pos hp, if_pos hp]
    refine DM.intro Tryz.func185 rfl Tryz.ntmps185 rfl rfl rfl (by simp only [go_sem, simprocAttr]) (fun V0 Kb Nx => ?_)
    have fx := trivial
    replace fx := And.intro hd trivial
    repeat' (first | (refine RWL.fin ?_; try simp only [thenQ_n, blockQ_n]) | refine WP.seq ?_ | (refine WP.rg [0, 1, 2, 3, 10] ?_; simp only [RSr_mk]) | refine RS.fnT ?_ | (refine RS.fn ?_; try simp only [thenQ_n, blockQ_n]) | (refine RS.cl (hp := by first | exact pPlace a.m s h.na h.nl | exact pType a.c a.m s h.nc h.na h.nl) (h := ?_); refine RS.rn ?_; simp only [RSr_mk]) | (refine RS.cL (hp := by first | exact pPlace a.m s h.na h.nl | exact pType a.c a.m s h.nc h.na h.nl) (h := ?_); refine RS.rn ?_; simp only [RSr_mk]) | (refine RS.sE ?_; refine RS.rn ?_; simp only [RSr_mk]) | (refine' WP.dl (id := 3) [0, 0, 2, 6, 14, 0, 32, 96, 224, 0, 1022, 2046, 4094, 4094, 8191, 24575] [0, 1, 2, 3, 10] [15] [(15, _)] ?_) | refine RWL.fr ?_ | (refine RWL.cl (hp := by first | exact pPlace a.m s h.na h.nl | exact pType a.c a.m s h.nc h.na h.nl) (h := ?_)) | refine RWL.wt ?_ | refine RWL.re ?_ ?_ | refine RdO.oz | refine RdO.oa ?_ | refine RdO.oe ?_ | refine RdO.on | ((refine WP.cn (fun hc => ?_) (fun hc => ?_)) <;> try exact Bool.noConfusion hc) | (refine WP.skip ?_; try simp only [thenQ_n, blockQ_n]) | (refine WP.ret ?_; (try simp only [thenQ_r, blockQ_r])) | refine ret3 ?_ | ((first | refine WP.dw (id := 1) 7 [0, 1, 2, 3, 10] ?_); simp only [RQr_mk, List.drop_succ_cons, List.drop_zero, List.drop_nil]) | (refine RQ.nil ?_; refine RS.rn ?_; simp only [RSr_mk]) | (refine RQ.cl (hp := by first | exact pPlace a.m s h.na h.nl | exact pType a.c a.m s h.nc h.na h.nl) (h := ?_); refine RQ.rn ?_; simp only [RQr_mk]) | (refine RQ.cL (hp := by first | exact pPlace a.m s h.na h.nl | exact pType a.c a.m s h.nc h.na h.nl) (h := ?_); refine RQ.rn ?_; simp only [RQr_mk]))
    exact retM1 ⟨rfl, _, rfl⟩
  · have hd := decide_eq_false hp
    unfold vrE; rw [if_neg hp, if_neg hp]
    refine DM.intro Tryz.func185 rfl Tryz.ntmps185 rfl rfl rfl (by simp only [go_sem, simprocAttr]) (fun V0 Kb Nx => ?_)
    have fx := trivial
    replace fx := And.intro hd trivial
    repeat' (first | (refine RWL.fin ?_; try simp only [thenQ_n, blockQ_n]) | refine WP.seq ?_ | (refine WP.rg [0, 1, 2, 3, 10] ?_; simp only [RSr_mk]) | refine RS.fnT ?_ | (refine RS.fn ?_; try simp only [thenQ_n, blockQ_n]) | (refine RS.cl (hp := by first | exact pPlace a.m s h.na h.nl | exact pType a.c a.m s h.nc h.na h.nl) (h := ?_); refine RS.rn ?_; simp only [RSr_mk]) | (refine RS.cL (hp := by first | exact pPlace a.m s h.na h.nl | exact pType a.c a.m s h.nc h.na h.nl) (h := ?_); refine RS.rn ?_; simp only [RSr_mk]) | (refine RS.sE ?_; refine RS.rn ?_; simp only [RSr_mk]) | (refine' WP.dl (id := 3) [0, 0, 2, 6, 14, 0, 32, 96, 224, 0, 1022, 2046, 4094, 4094, 8191, 24575] [0, 1, 2, 3, 10] [15] [(15, _)] ?_) | refine RWL.fr ?_ | (refine RWL.cl (hp := by first | exact pPlace a.m s h.na h.nl | exact pType a.c a.m s h.nc h.na h.nl) (h := ?_)) | refine RWL.wt ?_ | refine RWL.re ?_ ?_ | refine RdO.oz | refine RdO.oa ?_ | refine RdO.oe ?_ | refine RdO.on | ((refine WP.cn (fun hc => ?_) (fun hc => ?_)) <;> try exact Bool.noConfusion hc) | (refine WP.skip ?_; try simp only [thenQ_n, blockQ_n]) | (refine WP.ret ?_; (try simp only [thenQ_r, blockQ_r])) | refine ret3 ?_ | ((first | refine WP.dw (id := 1) 7 [0, 1, 2, 3, 10] ?_); simp only [RQr_mk, List.drop_succ_cons, List.drop_zero, List.drop_nil]) | (refine RQ.nil ?_; refine RS.rn ?_; simp only [RSr_mk]) | (refine RQ.cl (hp := by first | exact pPlace a.m s h.na h.nl | exact pType a.c a.m s h.nc h.na h.nl) (h := ?_); refine RQ.rn ?_; simp only [RQr_mk]) | (refine RQ.cL (hp := by first | exact pPlace a.m s h.na h.nl | exact pType a.c a.m s h.nc h.na h.nl) (h := ?_); refine RQ.rn ?_; simp only [RQr_mk]))
    exact retM1 ⟨rfl, _, rfl⟩
set_option maxRecDepth 100000 in
set_option maxHeartbeats 4000000 in
theorem pgTarget (a : Ak) (h : a.ok) : DM Tryz.prog 118 [.a (.ptr 0 0)] [.cell (Ak.at a)] (.a (.v (.int .i64 (tgt a).1))) [.cell (Ak.at (tgt a).2)] := by
  have h1 := pgVarX a a.s.x
  have h2 := pgVarX1 a a.s.x h
  have e1 : (tgt a).1 = vrE a a.s.x := by unfold tgt vrE; split <;> rfl
  have e2 : (tgt a).2 = if placeI a.m a.s.x < 0 then a else { a with x := (typeT a.c a.m a.s.x).1 } := by unfold tgt; split <;> rfl
  rw [e1, e2]
  generalize vrE a a.s.x = z at h2 ⊢
  generalize (if placeI a.m a.s.x < 0 then a else { a with x := (typeT a.c a.m a.s.x).1 }) = b at h2 ⊢
  refine DM.intro Tryz.func118 rfl Tryz.ntmps118 rfl rfl rfl (by simp only [go_sem, simprocAttr]) (fun V0 Kb Nx => ?_)
  have fx := trivial
  repeat' (first | refine WP.seq ?_ | (refine WP.rg [0, 2] ?_; simp only [RSr_mk]) | refine RS.fnT ?_ | (refine RS.fn ?_; try simp only [thenQ_n, blockQ_n]) | (refine RS.cM [0] (hp := by exact h1) (h := ?_); refine RS.rn ?_; simp only [RSr_mk]) | (refine RS.cvM [0] (hp := by exact h1) (h := ?_); refine RS.rn ?_; simp only [RSr_mk]) | (refine RS.cM [0, 1, 2, 3] (hp := by exact h2) (h := ?_); refine RS.rn ?_; simp only [RSr_mk]) | (refine RS.cvM [0, 1, 2, 3] (hp := by exact h2) (h := ?_); refine RS.rn ?_; simp only [RSr_mk]) | (refine WP.ret ?_; (try simp only [thenQ_r, blockQ_r])) | refine ret3 ?_ | ((first | refine WP.dw (id := 1) 9 [0, 2] ?_); simp only [RQr_mk, List.drop_succ_cons, List.drop_zero, List.drop_nil]) | (refine RQ.nil ?_; refine RS.rn ?_; simp only [RSr_mk]))
  exact retM1 ⟨rfl, _, rfl⟩
set_option maxRecDepth 100000 in
set_option maxHeartbeats 4000000 in
theorem pgValue (a : Ak) (t : Ty) : DM Tryz.prog 119 [.a (.ptr 0 0), .a (.ptr 1 0)] [.cell (Ak.at a), .cell (Ty.at t)] (.a (.fn 177 [.ptr 2 0, .ptr 3 0])) [.cell (Ak.at a), .cell (Ty.at t), .cell [.ptr 0 0], .cell [.ptr 1 0]] := by
  refine DM.intro Tryz.func119 rfl Tryz.ntmps119 rfl rfl rfl (by simp only [go_sem, simprocAttr]) (fun V0 Kb Nx => ?_)
  have fx := trivial
  repeat' (first | refine WP.seq ?_ | (refine WP.rg [0, 1, 2, 3, 4] ?_; simp only [RSr_mk]) | refine RS.fnT ?_ | (refine RS.fn ?_; try simp only [thenQ_n, blockQ_n]) | (refine WP.ret ?_; (try simp only [thenQ_r, blockQ_r])) | refine ret3 ?_)
  exact retM1 ⟨rfl, [], rfl⟩
set_option maxRecDepth 100000 in
set_option maxHeartbeats 4000000 in
theorem pgValue1 (a : Ak) (t : Ty) (h : a.ok) : DM Tryz.prog 177 [.a (.ptr 2 0), .a (.ptr 3 0)] [.cell (Ak.at a), .cell (Ty.at t), .cell [.ptr 0 0], .cell [.ptr 1 0]] (.a (.v (.int .i64 (oneT a.c a.m a.s.e).2))) [.cell (Ak.at a), .cell (Ty.at (oneT a.c a.m a.s.e).1), .cell [.ptr 0 0], .cell [.ptr 1 0]] := by
  have h1 := pShOf a.c a.m a.s.e h.nc h.na h.nl (Nat.le_trans a.s.e_sz h.nz)
  generalize oneT a.c a.m a.s.e = R at h1 ⊢
  refine DM.intro Tryz.func177 rfl Tryz.ntmps177 rfl rfl rfl (by simp only [go_sem, simprocAttr]) (fun V0 Kb Nx => ?_)
  have fx := trivial
  repeat' (first | (refine RWL.fin ?_; try simp only [thenQ_n, blockQ_n]) | refine WP.seq ?_ | (refine WP.rg [0, 1, 2] ?_; simp only [RSr_mk]) | refine RS.fnT ?_ | (refine RS.fn ?_; try simp only [thenQ_n, blockQ_n]) | (refine RS.cl (hp := by exact h1) (h := ?_); refine RS.rn ?_; simp only [RSr_mk]) | (refine RS.cL (hp := by exact h1) (h := ?_); refine RS.rn ?_; simp only [RSr_mk]) | (refine RS.sE ?_; refine RS.rn ?_; simp only [RSr_mk]) | (refine' WP.dl (id := 1) [0, 0, 2, 6, 14, 0, 32, 96, 224, 0, 512, 1536, 3584, 7680, 16382, 32766, 65534, 65534, 131071, 393215, 1048575] [0, 1, 2] [19] [(19, _)] ?_) | refine RWL.fr ?_ | (refine RWL.cl (hp := by exact h1) (h := ?_)) | refine RWL.wt ?_ | refine RWL.re ?_ ?_ | refine RdO.oz | refine RdO.oa ?_ | refine RdO.oe ?_ | refine RdO.on | (refine WP.ret ?_; (try simp only [thenQ_r, blockQ_r])) | refine ret3 ?_)
  exact retM1 ⟨rfl, _, rfl⟩
set_option maxRecDepth 100000 in
set_option maxHeartbeats 4000000 in
theorem pgFitsX (a : Ak) (t : Ty) : DM Tryz.prog 120 [.a (.ptr 0 0), .a (.ptr 1 0), .a (.ptr 0 48)] [.cell (Ak.at a), .cell (Ty.at t)] (.a (.fn 178 [.ptr 2 0, .ptr 3 0, .ptr 4 0])) [.cell (Ak.at a), .cell (Ty.at t), .cell [.ptr 0 0], .cell [.ptr 1 0], .cell [.ptr 0 48]] := by
  refine DM.intro Tryz.func120 rfl Tryz.ntmps120 rfl rfl rfl (by simp only [go_sem, simprocAttr]) (fun V0 Kb Nx => ?_)
  have fx := trivial
  repeat' (first | refine WP.seq ?_ | (refine WP.rg [0, 1, 2, 3, 4, 5, 6] ?_; simp only [RSr_mk]) | refine RS.fnT ?_ | (refine RS.fn ?_; try simp only [thenQ_n, blockQ_n]) | (refine WP.ret ?_; (try simp only [thenQ_r, blockQ_r])) | refine ret3 ?_)
  exact retM1 ⟨rfl, [], rfl⟩
set_option maxRecDepth 100000 in
set_option maxHeartbeats 4000000 in
theorem pgFitsX1 (a : Ak) (t : Ty) (h : a.ok) : DM Tryz.prog 178 [.a (.ptr 2 0), .a (.ptr 3 0), .a (.ptr 4 0)] [.cell (Ak.at a), .cell (Ty.at t), .cell [.ptr 0 0], .cell [.ptr 1 0], .cell [.ptr 0 48]] (.a (.v (.int .i64 (fitsI a.p t a.x)))) [.cell (Ak.at a), .cell (Ty.at t), .cell [.ptr 0 0], .cell [.ptr 1 0], .cell [.ptr 0 48]] := by
  refine DM.intro Tryz.func178 rfl Tryz.ntmps178 rfl rfl rfl (by simp only [go_sem, simprocAttr]) (fun V0 Kb Nx => ?_)
  have fx := trivial
  repeat' (first | refine WP.seq ?_ | (refine WP.rg [0, 1, 2, 3] ?_; simp only [RSr_mk]) | refine RS.fnT ?_ | (refine RS.fn ?_; try simp only [thenQ_n, blockQ_n]) | (refine RS.cl (hp := by exact pFits a.p t a.x h.np) (h := ?_); refine RS.rn ?_; simp only [RSr_mk]) | (refine RS.cL (hp := by exact pFits a.p t a.x h.np) (h := ?_); refine RS.rn ?_; simp only [RSr_mk]) | (refine WP.ret ?_; (try simp only [thenQ_r, blockQ_r])) | refine ret3 ?_ | ((first | refine WP.dw (id := 1) 12 [0, 1, 2, 3] ?_); simp only [RQr_mk, List.drop_succ_cons, List.drop_zero, List.drop_nil]) | (refine RQ.nil ?_; refine RS.rn ?_; simp only [RSr_mk]) | (refine RQ.cl (hp := by exact pFits a.p t a.x h.np) (h := ?_); refine RQ.rn ?_; simp only [RQr_mk]) | (refine RQ.cL (hp := by exact pFits a.p t a.x h.np) (h := ?_); refine RQ.rn ?_; simp only [RQr_mk]))
  exact retM1 ⟨rfl, _, rfl⟩
end Go.Proofs.YtibdalkdgjghoaaGreatDoor
namespace Go.Proofs.YtibdalkdgjghoaaGreatDoor
open Go.RowKit
theorem Ak.ok_tgt {a : Ak} (h : a.ok) : (tgt a).2.ok := by
  unfold tgt; split
  · exact h
  · exact ⟨h.np, h.nc, h.na, h.nl, h.nz⟩
/-- What is wrong where a variable is set, and what is known then. -/
def setI (a : Ak) : Int × Ak × Ty :=
  if ((tgt a).1 != 0) = true then ((tgt a).1, (tgt a).2, Ty.zero) else
  if ((oneT a.c a.m a.s.e).2 != 0) = true then ((oneT a.c a.m a.s.e).2, (tgt a).2, (oneT a.c a.m a.s.e).1) else
  (fitsI a.p (oneT a.c a.m a.s.e).1 (tgt a).2.x, (tgt a).2, (oneT a.c a.m a.s.e).1)
theorem tgt_keep (a : Ak) : (tgt a).2.p = a.p ∧ (tgt a).2.c = a.c ∧ (tgt a).2.m = a.m ∧ (tgt a).2.s = a.s ∧ (tgt a).2.o = a.o := by
  unfold tgt; split <;> exact ⟨rfl, rfl, rfl, rfl, rfl⟩
set_option maxRecDepth 100000 in
set_option maxHeartbeats 4000000 in
theorem allSet (a : Ak) (h : a.ok) : DM Tryz.prog 117 [.a (.cs 9 0 3)] [.cell (Ak.at a), .cell [.ptr 0 0], .cell (Ty.at Ty.zero), .cell (Ty.at Ty.zero), .cell [.ptr 0 0], .cell [.ptr 2 0], .cell [.ptr 0 0], .cell [.ptr 2 0], .cell [.ptr 0 48], .cell [.fm 118 [.ptr 0 0], .fn 177 [.ptr 4 0, .ptr 5 0], .fn 178 [.ptr 6 0, .ptr 7 0, .ptr 8 0]]] (.a (.v (.int .i64 (setI a).1)))
    [.cell (Ak.at (setI a).2.1), .cell [.ptr 0 0], .cell (Ty.at (setI a).2.2), .cell (Ty.at Ty.zero), .cell [.ptr 0 0], .cell [.ptr 2 0], .cell [.ptr 0 0], .cell [.ptr 2 0], .cell [.ptr 0 48], .cell [.fm 118 [.ptr 0 0], .fn 177 [.ptr 4 0, .ptr 5 0], .fn 178 [.ptr 6 0, .ptr 7 0, .ptr 8 0]]] := by
  have ht := pgTarget a h
  obtain ⟨k1, k2, k3, k4, k5⟩ := tgt_keep a
  have hv := pgValue1 (tgt a).2 Ty.zero (Ak.ok_tgt h)
  have hf := pgFitsX1 (tgt a).2 (oneT a.c a.m a.s.e).1 (Ak.ok_tgt h)
  rw [k2, k3, k4] at hv
  rw [k1] at hf
  refine pAll 9 [.fm 118 [.ptr 0 0], .fn 177 [.ptr 4 0, .ptr 5 0], .fn 178 [.ptr 6 0, .ptr 7 0, .ptr 8 0]] _ _ _ (by decide) rfl rfl (by simp only [go_sem, simprocAttr]) ?_
  unfold setI
  generalize (tgt a).1 = e1 at ht ⊢
  generalize (tgt a).2 = b at ht hv hf ⊢
  generalize oneT a.c a.m a.s.e = R at hv hf ⊢
  cases h1 : e1 != 0 with
  | true =>
    rw [if_pos rfl]
    exact .stop _ _ _ _ _ _ _ rfl (DM.lift [0] ht) h1
  | false =>
    have h1 : e1 = 0 := by simpa using h1
    subst h1
    rw [if_neg Bool.false_ne_true]
    refine .go _ _ _ _ _ _ _ _ rfl (DM.lift [0] ht) rfl rfl ?_
    obtain ⟨t, z⟩ := R
    dsimp only at hv hf ⊢
    cases h2 : z != 0 with
    | true =>
      rw [if_pos rfl]
      exact .stop _ _ _ _ _ _ _ rfl (DM.lift [0, 2, 4, 5] hv) h2
    | false =>
      have h2 : z = 0 := by simpa using h2
      subst h2
      rw [if_neg Bool.false_ne_true]
      refine .go _ _ _ _ _ _ _ _ rfl (DM.lift [0, 2, 4, 5] hv) rfl rfl ?_
      generalize fitsI a.p t b.x = y at hf ⊢
      cases h3 : y != 0 with
      | true => exact .stop _ _ _ _ _ _ _ rfl (DM.lift [0, 2, 6, 7, 8] hf) h3
      | false =>
        have h3 : y = 0 := by simpa using h3
        subst h3
        exact .go _ _ _ _ _ _ _ _ rfl (DM.lift [0, 2, 6, 7, 8] hf) rfl rfl (.nil _)
set_option maxRecDepth 100000 in
set_option maxHeartbeats 4000000 in
theorem pAskSet (a : Ak) (h : a.ok) (hk : a.s.kind = 1) : DM Tryz.prog 60 [.a (.ptr 0 0)] [.cell (Ak.at a)] (.a (.v (.int .i64 (setI a).1))) [.cell (Ak.at (setI a).2.1)] := by
  have hA := allSet a h
  generalize setI a = R at hA ⊢
  refine DM.intro Tryz.func60 rfl Tryz.ntmps60 rfl rfl rfl (by simp only [go_sem, simprocAttr]) (fun V0 Kb Nx => ?_)
  have fx := trivial
  replace fx := And.intro hk (And.intro tyZ trivial)
  repeat' (first | (refine RWL.fin ?_; try simp only [thenQ_n, blockQ_n]) | refine WP.seq ?_ | (refine WP.rg [0, 1, 2, 3, 4, 9, 10, 23, 38, 50, 57, 72, 80, 88, 102, 115] ?_; simp only [RSr_mk]) | refine RS.fnT ?_ | (refine RS.fn ?_; try simp only [thenQ_n, blockQ_n]) | (refine RS.cM [0, 2] (hp := by exact pgValue a Ty.zero) (h := ?_); refine RS.rn ?_; simp only [RSr_mk]) | (refine RS.cM [0, 2] (hp := by exact pgFitsX a Ty.zero) (h := ?_); refine RS.rn ?_; simp only [RSr_mk]) | (refine RS.cM [0, 1, 2, 3, 4, 5, 6, 7, 8, 9] (hp := by exact hA) (h := ?_); refine RS.rn ?_; simp only [RSr_mk]) | (refine RS.li ?_; refine RS.rn ?_; simp only [RSr_mk]) | (refine RS.bC ?_; refine RS.rn ?_; simp only [RSr_mk]) | (refine RS.mb ?_; refine RS.rn ?_; simp only [RSr_mk]) | (refine' WP.dl (id := 4) [0, 1, 0, 4, 0, 0, 32, 96, 252, 511, 1023, 2047] [0, 1, 2, 3, 4, 9, 10, 23, 38, 50, 57, 72, 80, 88, 102, 115] [3, 8, 9, 10] [(3, _), (8, _), (9, _), (10, _)] ?_) | refine RWL.fr ?_ | refine RWL.mb ?_ | refine RWL.wt ?_ | (refine RWL.cM [0, 2] (hp := by exact pgValue a Ty.zero) (h := ?_)) | (refine RWL.cM [0, 2] (hp := by exact pgFitsX a Ty.zero) (h := ?_)) | (refine RWL.cM [0, 1, 2, 3, 4, 5, 6, 7, 8, 9] (hp := by exact hA) (h := ?_)) | refine RWL.lS ?_ | refine RWL.bC ?_ | refine RWL.re ?_ ?_ | refine RdO.oz | refine RdO.oa ?_ | refine RdO.oe ?_ | refine RdO.on | ((refine WP.cn (fun hc => ?_) (fun hc => ?_)) <;> try exact Bool.noConfusion hc) | (refine WP.skip ?_; try simp only [thenQ_n, blockQ_n]) | refine WP.block ?_ | (refine WP.ret ?_; (try simp only [thenQ_r, blockQ_r])) | refine ret3 ?_ | ((first | refine WP.dw (id := 6) 11 [0, 1, 2, 3, 4, 9, 10, 23, 38, 50, 57, 72, 80, 88, 102, 115] ?_ | refine WP.dw (id := 8) 8 [0, 1, 2, 3, 4, 9, 10, 23, 38, 50, 57, 72, 80, 88, 102, 115] ?_ | refine WP.dw (id := 18) 10 [0, 1, 2, 3, 4, 9, 10, 23, 38, 50, 57, 72, 80, 88, 102, 115] ?_ | refine WP.dw (id := 20) 9 [0, 1, 2, 3, 4, 9, 10, 23, 38, 50, 57, 72, 80, 88, 102, 115] ?_); simp only [RQr_mk, List.drop_succ_cons, List.drop_zero, List.drop_nil]) | (refine RQ.nil ?_; refine RS.rn ?_; simp only [RSr_mk]))
  exact retM1 ⟨rfl, _, rfl⟩
end Go.Proofs.YtibdalkdgjghoaaGreatDoor
namespace Go.Proofs.YtibdalkdgjghoaaGreatDoor
open Go.RowKit
def suitsI (p : List Cs) (c : Cs) (m : Me) (e : Ex) (u : Ty) : Int :=
  if ((oneT c m e).2 != 0) = true then (oneT c m e).2 else if ((oneT c m e).1.kind == 2 && uniqB u) = true then givesI p (oneT c m e).1 u else fitsI p (oneT c m e).1 u
set_option maxRecDepth 100000 in
set_option maxHeartbeats 4000000 in
theorem pgSuits (p : List Cs) (c : Cs) (m : Me) (e : Ex) (u : Ty) (hp : p.length ≤ 1048576) (hc : c.params.length ≤ 1048576) (ha : m.params.length ≤ 1048576) (hb : m.locals.length ≤ 1048576) (hz : e.sz ≤ 1048576) : DPure Tryz.prog 19 [.a (.sl (p.map Cs.at)), .r (Cs.at c), .r (Me.at m), .r (Ex.at e), .r (Ty.at u)] (.a (.v (.int .i64 (suitsI p c m e u)))) := by
  have h1 := pShOf c m e hc ha hb hz
  unfold suitsI
  generalize oneT c m e = R at h1 ⊢
  refine DPure.go Tryz.func19 rfl Tryz.ntmps19 rfl rfl rfl (fun C hro => ?_)
  have fx := trivial
  replace fx := And.intro tyZ trivial
  repeat' (first | refine WP.seq ?_ | (refine WP.rg [0, 1, 2, 3, 4, 6, 7, 8, 9, 10, 11, 12, 20, 24] ?_; simp only [RSr_mk]) | refine RS.fnT ?_ | (refine RS.fn ?_; try simp only [thenQ_n, blockQ_n]) | (refine RS.cl (hp := by first | exact h1 | exact pUnique u | exact pGives p R.1 u hp | exact pFits p R.1 u hp) (h := ?_); refine RS.rn ?_; simp only [RSr_mk]) | (refine RS.cL (hp := by first | exact h1 | exact pUnique u | exact pGives p R.1 u hp | exact pFits p R.1 u hp) (h := ?_); refine RS.rn ?_; simp only [RSr_mk]) | (refine RS.sE ?_; refine RS.rn ?_; simp only [RSr_mk]) | (refine RS.pk ?_; refine RS.rn ?_; simp only [RSr_mk]) | (refine RS.gF ?_; refine RS.rn ?_; simp only [RSr_mk]) | ((refine WP.cn (fun hc => ?_) (fun hc => ?_)) <;> try exact Bool.noConfusion hc) | (refine WP.skip ?_; try simp only [thenQ_n, blockQ_n]) | refine WP.block ?_ | (refine WP.ret ?_; (try simp only [thenQ_r, blockQ_r])) | refine ret3 ?_)
  all_goals (refine int_eq ?_; simp_all)
def retI (a : Ak) : Int := if ((a.s.e.kind == 0) != (a.m.ret.kind == 0)) = true then 14 else if (a.s.e.kind == 0) = true then 0 else suitsI a.p a.c a.m a.s.e a.m.ret
set_option maxRecDepth 100000 in
set_option maxHeartbeats 4000000 in
theorem pgReturns (a : Ak) (h : a.ok) : DM Tryz.prog 129 [.a (.ptr 0 0)] [.cell (Ak.at a)] (.a (.v (.int .i64 (retI a)))) [.cell (Ak.at a)] := by
  unfold retI
  refine DM.intro Tryz.func129 rfl Tryz.ntmps129 rfl rfl rfl (by simp only [go_sem, simprocAttr]) (fun V0 Kb Nx => ?_)
  have fx := trivial
  repeat' (first | refine WP.seq ?_ | (refine WP.rg [0, 2, 3, 19, 20] ?_; simp only [RSr_mk]) | refine RS.fnT ?_ | (refine RS.fn ?_; try simp only [thenQ_n, blockQ_n]) | (refine RS.cl (hp := by exact pgSuits a.p a.c a.m a.s.e a.m.ret h.np h.nc h.na h.nl (Nat.le_trans a.s.e_sz h.nz)) (h := ?_); refine RS.rn ?_; simp only [RSr_mk]) | (refine RS.cL (hp := by exact pgSuits a.p a.c a.m a.s.e a.m.ret h.np h.nc h.na h.nl (Nat.le_trans a.s.e_sz h.nz)) (h := ?_); refine RS.rn ?_; simp only [RSr_mk]) | ((refine WP.cn (fun hc => ?_) (fun hc => ?_)) <;> try exact Bool.noConfusion hc) | (refine WP.skip ?_; try simp only [thenQ_n, blockQ_n]) | (refine WP.ret ?_; (try simp only [thenQ_r, blockQ_r])) | refine ret3 ?_ | ((first | refine WP.dw (id := 6) 24 [0, 2, 3, 19, 20] ?_); simp only [RQr_mk, List.drop_succ_cons, List.drop_zero, List.drop_nil]) | (refine RQ.nil ?_; refine RS.rn ?_; simp only [RSr_mk]) | (refine RQ.cl (hp := by exact pgSuits a.p a.c a.m a.s.e a.m.ret h.np h.nc h.na h.nl (Nat.le_trans a.s.e_sz h.nz)) (h := ?_); refine RQ.rn ?_; simp only [RQr_mk]) | (refine RQ.cL (hp := by exact pgSuits a.p a.c a.m a.s.e a.m.ret h.np h.nc h.na h.nl (Nat.le_trans a.s.e_sz h.nz)) (h := ?_); refine RQ.rn ?_; simp only [RQr_mk]))
  all_goals (refine retM1 ⟨congrArg (fun z : Int => D.a (.v (.int .i64 z))) ?_, [], rfl⟩; cases h1 : (a.s.e.kind == 0) <;> cases h2 : (a.m.ret.kind == 0) <;> simp_all)
set_option maxRecDepth 100000 in
set_option maxHeartbeats 4000000 in
theorem pAskRet (a : Ak) (h : a.ok) (hk : a.s.kind = 11) : DM Tryz.prog 60 [.a (.ptr 0 0)] [.cell (Ak.at a)] (.a (.v (.int .i64 (retI a)))) [.cell (Ak.at a)] := by
  have hA := pgReturns a h
  refine DM.intro Tryz.func60 rfl Tryz.ntmps60 rfl rfl rfl (by simp only [go_sem, simprocAttr]) (fun V0 Kb Nx => ?_)
  have fx := trivial
  replace fx := And.intro hk (And.intro tyZ trivial)
  repeat' (first | (refine RWL.fin ?_; try simp only [thenQ_n, blockQ_n]) | refine WP.seq ?_ | (refine WP.rg [0, 1, 2, 3, 4, 9, 10, 23, 38, 50, 57, 72, 80, 88, 102, 115] ?_; simp only [RSr_mk]) | refine RS.fnT ?_ | (refine RS.fn ?_; try simp only [thenQ_n, blockQ_n]) | (refine RS.cM [0] (hp := by exact hA) (h := ?_); refine RS.rn ?_; simp only [RSr_mk]) | (refine RS.li ?_; refine RS.rn ?_; simp only [RSr_mk]) | (refine RS.bC ?_; refine RS.rn ?_; simp only [RSr_mk]) | (refine RS.mb ?_; refine RS.rn ?_; simp only [RSr_mk]) | (refine' WP.dl (id := 20) [0, 0, 2, 6, 14, 30, 63, 0, 0, 511, 1023, 2047] [0, 1, 2, 3, 4, 9, 10, 23, 38, 50, 57, 72, 80, 88, 102, 115] [6, 9, 10] [(6, _), (9, _), (10, _)] ?_) | refine RWL.fr ?_ | refine RWL.mb ?_ | refine RWL.wt ?_ | (refine RWL.cM [0] (hp := by exact hA) (h := ?_)) | refine RWL.lS ?_ | refine RWL.bC ?_ | refine RWL.re ?_ ?_ | refine RdO.oz | refine RdO.oa ?_ | refine RdO.oe ?_ | refine RdO.on | ((refine WP.cn (fun hc => ?_) (fun hc => ?_)) <;> try exact Bool.noConfusion hc) | (refine WP.skip ?_; try simp only [thenQ_n, blockQ_n]) | refine WP.block ?_ | (refine WP.ret ?_; (try simp only [thenQ_r, blockQ_r])) | refine ret3 ?_ | ((first | refine WP.dw (id := 4) 9 [0, 1, 2, 3, 4, 9, 10, 23, 38, 50, 57, 72, 80, 88, 102, 115] ?_ | refine WP.dw (id := 6) 11 [0, 1, 2, 3, 4, 9, 10, 23, 38, 50, 57, 72, 80, 88, 102, 115] ?_ | refine WP.dw (id := 8) 8 [0, 1, 2, 3, 4, 9, 10, 23, 38, 50, 57, 72, 80, 88, 102, 115] ?_ | refine WP.dw (id := 18) 10 [0, 1, 2, 3, 4, 9, 10, 23, 38, 50, 57, 72, 80, 88, 102, 115] ?_); simp only [RQr_mk, List.drop_succ_cons, List.drop_zero, List.drop_nil]) | (refine RQ.nil ?_; refine RS.rn ?_; simp only [RSr_mk]))
  exact retM1 ⟨rfl, _, rfl⟩
set_option maxRecDepth 100000 in
set_option maxHeartbeats 4000000 in
theorem pgAsk2 (t : Ty) : DM Tryz.prog 127 [.a (.ptr 0 0)] [.cell (Ty.at t)] (.a (.v (.int .i64 (bif t.kind == 2 then 0 else 14)))) [.cell (Ty.at t)] := by
  refine DM.intro Tryz.func127 rfl Tryz.ntmps127 rfl rfl rfl (by simp only [go_sem, simprocAttr]) (fun V0 Kb Nx => ?_)
  have fx := trivial
  repeat' (first | refine WP.seq ?_ | (refine WP.rg [0, 1] ?_; simp only [RSr_mk]) | refine RS.fnT ?_ | (refine RS.fn ?_; try simp only [thenQ_n, blockQ_n]) | (refine RS.cl (hp := by exact pMust _ _) (h := ?_); refine RS.rn ?_; simp only [RSr_mk]) | (refine RS.cL (hp := by exact pMust _ _) (h := ?_); refine RS.rn ?_; simp only [RSr_mk]) | (refine WP.ret ?_; (try simp only [thenQ_r, blockQ_r])) | refine ret3 ?_)
  exact retM1 ⟨rfl, _, rfl⟩
set_option maxRecDepth 100000 in
set_option maxHeartbeats 4000000 in
theorem pgAsk3 (t : Ty) : DM Tryz.prog 128 [.a (.ptr 0 0)] [.cell (Ty.at t)] (.a (.v (.int .i64 (bif uniqB t then 0 else 22)))) [.cell (Ty.at t)] := by
  refine DM.intro Tryz.func128 rfl Tryz.ntmps128 rfl rfl rfl (by simp only [go_sem, simprocAttr]) (fun V0 Kb Nx => ?_)
  have fx := trivial
  repeat' (first | refine WP.seq ?_ | (refine WP.rg [0, 1] ?_; simp only [RSr_mk]) | refine RS.fnT ?_ | (refine RS.fn ?_; try simp only [thenQ_n, blockQ_n]) | (refine RS.cl (hp := by first | exact pUnique t | exact pMust _ _) (h := ?_); refine RS.rn ?_; simp only [RSr_mk]) | (refine RS.cL (hp := by first | exact pUnique t | exact pMust _ _) (h := ?_); refine RS.rn ?_; simp only [RSr_mk]) | (refine WP.ret ?_; (try simp only [thenQ_r, blockQ_r])) | refine ret3 ?_)
  exact retM1 ⟨rfl, _, rfl⟩
def vrT (a : Ak) (s : List UInt8) : Ty := if placeI a.m s < 0 then Ty.zero else (typeT a.c a.m s).1
/-- What is wrong where a cluster is deleted, and what is known then. -/
def delI (a : Ak) : Int × Ty := if (vrE a a.s.y != 0) = true then (vrE a a.s.y, vrT a a.s.y) else if ((vrT a a.s.y).kind != 2) = true then (14, vrT a a.s.y) else if (!uniqB (vrT a a.s.y)) = true then (22, vrT a a.s.y) else (0, vrT a a.s.y)
theorem AllR.one {P : Program} {j : Nat} {row r : List A} {st st1 : List Bx} {x : A} {f : FuncId} {caps : List A} {z : Int} {res : Int} {st2 : List Bx} (hf : fnOf x = some (f, caps)) (hd : DM P f (caps.map D.a) st (.a (.v (.int .i64 z))) st1) (hs : (z != 0) = true → res = z ∧ st2 = st1) (hg : (z != 0) = false → AllR P j row r st1 res st2) (hj : st1[j]? = some (.cell row) := by rfl) (hl : st1.all Bx.live = true := by rfl) : AllR P j row (x :: r) st res st2 := by
  cases h : z != 0 with
  | true => obtain ⟨h1, h2⟩ := hs h; subst h1; subst h2; exact .stop _ _ _ _ _ _ _ hf hd h
  | false =>
    have hz : z = 0 := by simpa using h
    subst hz
    exact .go _ _ _ _ _ _ _ _ hf hd hj hl (hg h)
set_option maxRecDepth 100000 in
set_option maxHeartbeats 4000000 in
theorem allDel (a : Ak) (h : a.ok) : DM Tryz.prog 117 [.a (.cs 7 0 3)] [.cell (Ak.at a), .cell [.ptr 0 0], .cell (Ty.at Ty.zero), .cell (Ty.at Ty.zero), .cell [.ptr 0 0], .cell [.v (.string (bs a.s.y))], .cell [.ptr 2 0], .cell [.fn 185 [.ptr 4 0, .ptr 5 0, .ptr 6 0], .fn 127 [.ptr 2 0], .fn 128 [.ptr 2 0]]] (.a (.v (.int .i64 (delI a).1)))
    [.cell (Ak.at a), .cell [.ptr 0 0], .cell (Ty.at (delI a).2), .cell (Ty.at Ty.zero), .cell [.ptr 0 0], .cell [.v (.string (bs a.s.y))], .cell [.ptr 2 0], .cell [.fn 185 [.ptr 4 0, .ptr 5 0, .ptr 6 0], .fn 127 [.ptr 2 0], .fn 128 [.ptr 2 0]]] := by
  have ht := pgVarT1 a Ty.zero a.s.y h
  have hb : (if placeI a.m a.s.y < 0 then Ty.zero else (typeT a.c a.m a.s.y).1) = vrT a a.s.y := rfl
  rw [hb] at ht
  have h2 := pgAsk2 (vrT a a.s.y)
  have h3 := pgAsk3 (vrT a a.s.y)
  refine pAll 7 [.fn 185 [.ptr 4 0, .ptr 5 0, .ptr 6 0], .fn 127 [.ptr 2 0], .fn 128 [.ptr 2 0]] _ _ _ (by decide) rfl rfl (by simp only [go_sem, simprocAttr]) ?_
  unfold delI
  generalize vrE a a.s.y = e1 at ht ⊢
  generalize vrT a a.s.y = t at ht h2 h3 ⊢
  refine .one rfl (DM.lift [0, 2, 4, 5, 6] ht) (fun h1 => ?_) fun h1 => ?_
  · rw [if_pos h1]; exact ⟨rfl, rfl⟩
  rw [if_neg (by rw [h1]; exact Bool.false_ne_true)]
  refine .one rfl (DM.lift [2] h2) (fun h1 => ?_) fun h1 => ?_
  · cases hk : t.kind == 2 with
    | true => rw [hk] at h1; cases h1
    | false => rw [if_pos (by simpa using hk)]; exact ⟨rfl, rfl⟩
  have hk : (t.kind == 2) = true := by cases hk : t.kind == 2 <;> rw [hk] at h1 <;> first | rfl | cases h1
  rw [if_neg (by simpa using hk)]
  refine .one rfl (DM.lift [2] h3) (fun h1 => ?_) fun h1 => ?_
  · cases hk : uniqB t with
    | true => rw [hk] at h1; cases h1
    | false => rw [if_pos (by simp)]; exact ⟨rfl, rfl⟩
  have hk : uniqB t = true := by cases hk : uniqB t <;> rw [hk] at h1 <;> first | rfl | cases h1
  rw [if_neg (by rw [hk]; exact Bool.false_ne_true)]
  exact .nil _
set_option maxRecDepth 100000 in
set_option maxHeartbeats 4000000 in
theorem pAskDel (a : Ak) (h : a.ok) (hk : a.s.kind = 8) : DM Tryz.prog 60 [.a (.ptr 0 0)] [.cell (Ak.at a)] (.a (.v (.int .i64 (delI a).1))) [.cell (Ak.at a)] := by
  have hA := allDel a h
  generalize delI a = R at hA ⊢
  refine DM.intro Tryz.func60 rfl Tryz.ntmps60 rfl rfl rfl (by simp only [go_sem, simprocAttr]) (fun V0 Kb Nx => ?_)
  have fx := trivial
  replace fx := And.intro hk (And.intro tyZ trivial)
  repeat' (first | (refine RWL.fin ?_; try simp only [thenQ_n, blockQ_n]) | refine WP.seq ?_ | (refine WP.rg [0, 1, 2, 3, 4, 9, 10, 23, 38, 50, 57, 72, 80, 88, 102, 115] ?_; simp only [RSr_mk]) | refine RS.fnT ?_ | (refine RS.fn ?_; try simp only [thenQ_n, blockQ_n]) | (refine RS.cM [0, 2] (hp := by exact pgVarT a Ty.zero a.s.y) (h := ?_); refine RS.rn ?_; simp only [RSr_mk]) | (refine RS.cM [0, 1, 2, 3, 4, 5, 6, 7] (hp := by exact hA) (h := ?_); refine RS.rn ?_; simp only [RSr_mk]) | (refine RS.li ?_; refine RS.rn ?_; simp only [RSr_mk]) | (refine RS.bC ?_; refine RS.rn ?_; simp only [RSr_mk]) | (refine RS.mb ?_; refine RS.rn ?_; simp only [RSr_mk]) | (refine' WP.dl (id := 20) [0, 0, 2, 6, 14, 30, 63, 0, 0, 511, 1023, 2047] [0, 1, 2, 3, 4, 9, 10, 23, 38, 50, 57, 72, 80, 88, 102, 115] [6, 9, 10] [(6, _), (9, _), (10, _)] ?_) | refine RWL.fr ?_ | refine RWL.mb ?_ | refine RWL.wt ?_ | (refine RWL.cM [0, 2] (hp := by exact pgVarT a Ty.zero a.s.y) (h := ?_)) | (refine RWL.cM [0, 1, 2, 3, 4, 5, 6, 7] (hp := by exact hA) (h := ?_)) | refine RWL.lS ?_ | refine RWL.bC ?_ | refine RWL.re ?_ ?_ | refine RdO.oz | refine RdO.oa ?_ | refine RdO.oe ?_ | refine RdO.on | ((refine WP.cn (fun hc => ?_) (fun hc => ?_)) <;> try exact Bool.noConfusion hc) | (refine WP.skip ?_; try simp only [thenQ_n, blockQ_n]) | refine WP.block ?_ | (refine WP.ret ?_; (try simp only [thenQ_r, blockQ_r])) | refine ret3 ?_ | ((first | refine WP.dw (id := 4) 9 [0, 1, 2, 3, 4, 9, 10, 23, 38, 50, 57, 72, 80, 88, 102, 115] ?_ | refine WP.dw (id := 6) 11 [0, 1, 2, 3, 4, 9, 10, 23, 38, 50, 57, 72, 80, 88, 102, 115] ?_ | refine WP.dw (id := 8) 8 [0, 1, 2, 3, 4, 9, 10, 23, 38, 50, 57, 72, 80, 88, 102, 115] ?_ | refine WP.dw (id := 18) 10 [0, 1, 2, 3, 4, 9, 10, 23, 38, 50, 57, 72, 80, 88, 102, 115] ?_); simp only [RQr_mk, List.drop_succ_cons, List.drop_zero, List.drop_nil]) | (refine RQ.nil ?_; refine RS.rn ?_; simp only [RSr_mk]))
  exact retM1 ⟨rfl, _, rfl⟩
end Go.Proofs.YtibdalkdgjghoaaGreatDoor
namespace Go.Proofs.YtibdalkdgjghoaaGreatDoor
open Go.RowKit
structure Pc where
  p : List Cs
  c : Cs
  m : Me
def Pc.at : Pc → List A
  | ⟨p, c, m⟩ => [.sl (p.map Cs.at)] ++ Cs.at c ++ Me.at m
section
variable (s : Pc)
theorem Pc.row : Pc.at s = [.sl (s.p.map Cs.at), .v (.string (bs s.c.name)), .sl (s.c.params.map strAt), .v (.string (bs s.c.super)), .sl (s.c.above.map owAt), .sl (s.c.fields.map Vr.at), .sl (s.c.methods.map Me.at), .v (.int .i64 s.c.at_), .v (.string (bs s.m.name)), .v (.bool s.m.pure_), .v (.int .i64 s.m.ret.kind), .v (.string (bs s.m.ret.cls)), .v (.int .i64 s.m.ret.n), .v (.int .i64 s.m.ret.o0.1), .v (.int .i64 s.m.ret.o0.2), .v (.int .i64 s.m.ret.o1.1), .v (.int .i64 s.m.ret.o1.2), .v (.int .i64 s.m.ret.o2.1), .v (.int .i64 s.m.ret.o2.2), .v (.int .i64 s.m.ret.o3.1), .v (.int .i64 s.m.ret.o3.2), .sl (s.m.params.map Vr.at), .sl (s.m.locals.map Vr.at), .sl (s.m.body.map St.at), .v (.int .i64 s.m.at_)] := by obtain ⟨p, ⟨c_name, c_params, c_super, c_above, c_fields, c_methods, c_at_⟩, ⟨m_name, m_pure_, ⟨m_ret_kind, m_ret_cls, m_ret_n, m_ret_o0, m_ret_o1, m_ret_o2, m_ret_o3⟩, m_params, m_locals, m_body, m_at_⟩⟩ := s; simp only [Pc.at, Cs.at, Me.at, Ty.at]; rfl
@[go_sem] theorem Pc.len : (Pc.at s).length = 25 := by rw [Pc.row]; rfl
@[go_sem] theorem Pc.cl : (Pc.at s).all clA = true := by rw [Pc.row]; rfl
@[go_sem] theorem Pc.see (st : List Bx) : (Pc.at s).map (seeA st) = Pc.at s := by rw [Pc.row]; rfl
@[go_sem] theorem Pc.nr (m : Nat) : (Pc.at s).all (nrA m) = true := by rw [Pc.row]; rfl
@[go_sem] theorem Pc.w : ldRow (some 25) (Pc.at s) 0 = some (.r (Pc.at s)) := ldRow_all (Pc.len s)
@[go_sem] theorem Pc.pw (t : Pc) : putRow (Pc.at s) 0 (Pc.at t) = Pc.at t := putRow_all (by rw [Pc.len, Pc.len])
@[go_sem] theorem Pc.g0 : ldRow none (Pc.at s) 0 = some (.a (.sl (s.p.map Cs.at))) := by rw [Pc.row]; rfl
@[go_sem] theorem Pc.g1 : ldRow none (Pc.at s) 1 = some (.a (.v (.string (bs s.c.name)))) := by rw [Pc.row]; rfl
@[go_sem] theorem Pc.g2 : ldRow none (Pc.at s) 2 = some (.a (.sl (s.c.params.map strAt))) := by rw [Pc.row]; rfl
@[go_sem] theorem Pc.g3 : ldRow none (Pc.at s) 3 = some (.a (.v (.string (bs s.c.super)))) := by rw [Pc.row]; rfl
@[go_sem] theorem Pc.g4 : ldRow none (Pc.at s) 4 = some (.a (.sl (s.c.above.map owAt))) := by rw [Pc.row]; rfl
@[go_sem] theorem Pc.g5 : ldRow none (Pc.at s) 5 = some (.a (.sl (s.c.fields.map Vr.at))) := by rw [Pc.row]; rfl
@[go_sem] theorem Pc.g6 : ldRow none (Pc.at s) 6 = some (.a (.sl (s.c.methods.map Me.at))) := by rw [Pc.row]; rfl
@[go_sem] theorem Pc.g7 : ldRow none (Pc.at s) 7 = some (.a (.v (.int .i64 s.c.at_))) := by rw [Pc.row]; rfl
@[go_sem] theorem Pc.g8 : ldRow none (Pc.at s) 8 = some (.a (.v (.string (bs s.m.name)))) := by rw [Pc.row]; rfl
@[go_sem] theorem Pc.g9 : ldRow none (Pc.at s) 9 = some (.a (.v (.bool s.m.pure_))) := by rw [Pc.row]; rfl
@[go_sem] theorem Pc.g10 : ldRow none (Pc.at s) 10 = some (.a (.v (.int .i64 s.m.ret.kind))) := by rw [Pc.row]; rfl
@[go_sem] theorem Pc.g11 : ldRow none (Pc.at s) 11 = some (.a (.v (.string (bs s.m.ret.cls)))) := by rw [Pc.row]; rfl
@[go_sem] theorem Pc.g12 : ldRow none (Pc.at s) 12 = some (.a (.v (.int .i64 s.m.ret.n))) := by rw [Pc.row]; rfl
@[go_sem] theorem Pc.g13 : ldRow none (Pc.at s) 13 = some (.a (.v (.int .i64 s.m.ret.o0.1))) := by rw [Pc.row]; rfl
@[go_sem] theorem Pc.g14 : ldRow none (Pc.at s) 14 = some (.a (.v (.int .i64 s.m.ret.o0.2))) := by rw [Pc.row]; rfl
@[go_sem] theorem Pc.g15 : ldRow none (Pc.at s) 15 = some (.a (.v (.int .i64 s.m.ret.o1.1))) := by rw [Pc.row]; rfl
@[go_sem] theorem Pc.g16 : ldRow none (Pc.at s) 16 = some (.a (.v (.int .i64 s.m.ret.o1.2))) := by rw [Pc.row]; rfl
@[go_sem] theorem Pc.g17 : ldRow none (Pc.at s) 17 = some (.a (.v (.int .i64 s.m.ret.o2.1))) := by rw [Pc.row]; rfl
@[go_sem] theorem Pc.g18 : ldRow none (Pc.at s) 18 = some (.a (.v (.int .i64 s.m.ret.o2.2))) := by rw [Pc.row]; rfl
@[go_sem] theorem Pc.g19 : ldRow none (Pc.at s) 19 = some (.a (.v (.int .i64 s.m.ret.o3.1))) := by rw [Pc.row]; rfl
@[go_sem] theorem Pc.g20 : ldRow none (Pc.at s) 20 = some (.a (.v (.int .i64 s.m.ret.o3.2))) := by rw [Pc.row]; rfl
@[go_sem] theorem Pc.g21 : ldRow none (Pc.at s) 21 = some (.a (.sl (s.m.params.map Vr.at))) := by rw [Pc.row]; rfl
@[go_sem] theorem Pc.g22 : ldRow none (Pc.at s) 22 = some (.a (.sl (s.m.locals.map Vr.at))) := by rw [Pc.row]; rfl
@[go_sem] theorem Pc.g23 : ldRow none (Pc.at s) 23 = some (.a (.sl (s.m.body.map St.at))) := by rw [Pc.row]; rfl
@[go_sem] theorem Pc.g24 : ldRow none (Pc.at s) 24 = some (.a (.v (.int .i64 s.m.at_))) := by rw [Pc.row]; rfl
@[go_sem] theorem Pc.s1 : ldRow (some 7) (Pc.at s) 1 = some (.r (Cs.at s.c)) := by obtain ⟨p, ⟨c_name, c_params, c_super, c_above, c_fields, c_methods, c_at_⟩, ⟨m_name, m_pure_, ⟨m_ret_kind, m_ret_cls, m_ret_n, m_ret_o0, m_ret_o1, m_ret_o2, m_ret_o3⟩, m_params, m_locals, m_body, m_at_⟩⟩ := s; simp only [Pc.at, Cs.at, Me.at, Ty.at]; rfl
@[go_sem] theorem Pc.s8 : ldRow (some 17) (Pc.at s) 8 = some (.r (Me.at s.m)) := by obtain ⟨p, ⟨c_name, c_params, c_super, c_above, c_fields, c_methods, c_at_⟩, ⟨m_name, m_pure_, ⟨m_ret_kind, m_ret_cls, m_ret_n, m_ret_o0, m_ret_o1, m_ret_o2, m_ret_o3⟩, m_params, m_locals, m_body, m_at_⟩⟩ := s; simp only [Pc.at, Cs.at, Me.at, Ty.at]; rfl
@[go_sem] theorem Pc.s10 : ldRow (some 11) (Pc.at s) 10 = some (.r (Ty.at s.m.ret)) := by obtain ⟨p, ⟨c_name, c_params, c_super, c_above, c_fields, c_methods, c_at_⟩, ⟨m_name, m_pure_, ⟨m_ret_kind, m_ret_cls, m_ret_n, m_ret_o0, m_ret_o1, m_ret_o2, m_ret_o3⟩, m_params, m_locals, m_body, m_at_⟩⟩ := s; simp only [Pc.at, Cs.at, Me.at, Ty.at]; rfl
@[go_sem] theorem Pc.p_p (z : List Cs) : putRow (Pc.at s) 0 ([.sl (z.map Cs.at)]) = Pc.at { s with p := z } := by obtain ⟨p, ⟨c_name, c_params, c_super, c_above, c_fields, c_methods, c_at_⟩, ⟨m_name, m_pure_, ⟨m_ret_kind, m_ret_cls, m_ret_n, m_ret_o0, m_ret_o1, m_ret_o2, m_ret_o3⟩, m_params, m_locals, m_body, m_at_⟩⟩ := s; simp only [Pc.at, Cs.at, Me.at, Ty.at]; rfl
@[go_sem] theorem Pc.p_c (z : Cs) : putRow (Pc.at s) 1 (Cs.at z) = Pc.at { s with c := z } := by obtain ⟨z_name, z_params, z_super, z_above, z_fields, z_methods, z_at_⟩ := z; obtain ⟨p, ⟨c_name, c_params, c_super, c_above, c_fields, c_methods, c_at_⟩, ⟨m_name, m_pure_, ⟨m_ret_kind, m_ret_cls, m_ret_n, m_ret_o0, m_ret_o1, m_ret_o2, m_ret_o3⟩, m_params, m_locals, m_body, m_at_⟩⟩ := s; simp only [Pc.at, Cs.at, Me.at, Ty.at]; rfl
@[go_sem] theorem Pc.p_m (z : Me) : putRow (Pc.at s) 8 (Me.at z) = Pc.at { s with m := z } := by obtain ⟨z_name, z_pure_, ⟨z_ret_kind, z_ret_cls, z_ret_n, z_ret_o0, z_ret_o1, z_ret_o2, z_ret_o3⟩, z_params, z_locals, z_body, z_at_⟩ := z; obtain ⟨p, ⟨c_name, c_params, c_super, c_above, c_fields, c_methods, c_at_⟩, ⟨m_name, m_pure_, ⟨m_ret_kind, m_ret_cls, m_ret_n, m_ret_o0, m_ret_o1, m_ret_o2, m_ret_o3⟩, m_params, m_locals, m_body, m_at_⟩⟩ := s; simp only [Pc.at, Cs.at, Me.at, Ty.at]; rfl
end
def Pc.zero : Pc := ⟨[], Cs.zero, Me.zero⟩
theorem Pc.z0 : [A.sl [], .v (.string ⟨#[]⟩), .sl [], .v (.string ⟨#[]⟩), .sl [], .sl [], .sl [], .v (.int .i64 0), .v (.string ⟨#[]⟩), .v (.bool false), .v (.int .i64 0), .v (.string ⟨#[]⟩), .v (.int .i64 0), .v (.int .i64 0), .v (.int .i64 0), .v (.int .i64 0), .v (.int .i64 0), .v (.int .i64 0), .v (.int .i64 0), .v (.int .i64 0), .v (.int .i64 0), .sl [], .sl [], .sl [], .v (.int .i64 0)] = Pc.at Pc.zero := by unfold Pc.zero; simp only [Pc.at, Cs.zero, Cs.at, Me.zero, Me.at, Ty.zero, Ty.at]; rfl
end Go.Proofs.YtibdalkdgjghoaaGreatDoor
