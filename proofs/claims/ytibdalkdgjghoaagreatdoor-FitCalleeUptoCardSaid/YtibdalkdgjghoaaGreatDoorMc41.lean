/- Calls under a guard: one that is not made, one that is handed boxes. No program in sight. Conditions: none. -/
import Derived.Test.YtibdalkdgjghoaaGreatDoorMc37
import Derived.Test.YtibdalkdgjghoaaGreatDoorMc35
import Derived.Test.YtibdalkdgjghoaaGreatDoorMc40
set_option linter.unusedVariables false
set_option maxRecDepth 100000
set_option maxHeartbeats 8000000
set_option linter.unusedSimpArgs false
namespace Go.Proofs.YtibdalkdgjghoaaGreatDoor
open Go.RowKit
section
variable {P : Program} {C : Cx P} {ops : Array Oper} {r : List Oper} {e : Nat → D} {st st' st0 st1 bs' : List Bx} {K : (Nat → D) → List Bx → Prop} {dst : Option Nat} {ty : TypeId} {pos : String} {after : Array Edge} {j : Nat} {b : Bool} {f : FuncId} {xs : List Operand} {tys : Array TypeId} {vs ds : List D} {d d' g : D} {op : Op}
theorem RS.gM (σ : List Nat) (hgd : gOk ops e 8 (some (j, b)) := by exact ⟨rfl, trivial⟩) (hx : xs.map (evO e) = vs := by (simp only [go_sem, simprocAttr, fx]) <;> rfl) (hs : σ.map (fun i => st.getD i .gone) = bs' := by (simp only [go_sem, simprocAttr, fx]) <;> rfl) (hin : lendOk σ bs' vs = true := by (simp only [go_sem, simprocAttr, fx]) <;> rfl) (hu : vs.map (unD σ) = ds := by (simp only [go_sem, simprocAttr, fx]) <;> rfl) (hv : bs'.map (unB σ) = st0 := by (simp only [go_sem, simprocAttr, fx]) <;> rfl) (hg : e 1000000 = g := by (simp only [go_sem, simprocAttr]) <;> rfl) (hp : DM P f ds st0 d st1) (hne : 0 < st1.length := by exact Nat.zero_lt_succ _) (hd : rnD (rnX σ st.length (st1.length - σ.length)) d = d' := by (simp only [go_sem, simprocAttr, fx]) <;> rfl)
  (hst : mrg σ st (st1.map (rnB (rnX σ st.length (st1.length - σ.length)))) = st' := by (simp only [go_sem, simprocAttr, fx]) <;> rfl) (h : RS C ops r (upd (putE e dst d') 1000000 g) st' K) : RS C ops (⟨dst, .call ⟨.value (.func f), ⟨xs⟩, tys⟩, ty, pos, after, some (j, b)⟩ :: r) e st K :=
 have q : WS C g st e ⟨dst, .call ⟨.value (.func f), ⟨xs⟩, tys⟩, ty, pos, after, none⟩ d' st' := WS.callM hx hs hin hu hv hg hp hne hd hst
 .inr ⟨hgd, _, q.2.2, fun d1 st1 g1 ⟨h1, h2, h3⟩ => by subst h1; subst h2; subst h3; exact h⟩
end
def obI (a : Ak) : Int × Ak := if (!(typeT a.c a.m a.s.y).2) = true then (13, a) else ((if ((typeT a.c a.m a.s.y).1.kind != 2) = true then 14 else if (a.s.kind == 4) = true then 0 else if uniqB (typeT a.c a.m a.s.y).1 = true then 22 else 0), { a with o := (typeT a.c a.m a.s.y).1 })
theorem pgObject (a : Ak) (h : a.ok) : DM Tryz.prog 48 [.a (.ptr 0 0)] [.cell (Ak.at a)] (.a (.v (.int .i64 (obI a).1))) [.cell (Ak.at (obI a).2)] := by
 have h1 := pType a.c a.m a.s.y h.nc h.na h.nl
 unfold obI
 generalize typeT a.c a.m a.s.y = R at h1 ⊢
 have hU := pUnique R.1
 cases hk : (a.s.kind == 4) with
 | true =>
  refine DM.intro Tryz.func48 rfl Tryz.ntmps48 rfl rfl rfl (by simp only [go_sem, simprocAttr]) (fun V0 Kb Nx => ?_)
  have fx := trivial
  replace fx := And.intro tyZ (And.intro hk trivial)
  repeat' (first | (refine RWL.fin ?_; try simp only [thenQ_n, blockQ_n]) | refine WP.seq ?_ | (refine WP.rg [0, 2, 3, 4, 23, 30] ?_; simp only [RSr_mk]) | refine RS.fnT ?_ | (refine RS.fn ?_; try simp only [thenQ_n, blockQ_n]) | (refine RS.cl (hp := by first | exact h1 | exact pUnique R.1 | exact pMust true 22) (h := ?_); refine RS.rn ?_; simp only [RSr_mk]) | (refine RS.cL (hp := by first | exact h1 | exact pUnique R.1 | exact pMust true 22) (h := ?_); refine RS.rn ?_; simp only [RSr_mk]) | (refine RS.sE ?_; refine RS.rn ?_; simp only [RSr_mk]) | (refine RS.pk ?_; refine RS.rn ?_; simp only [RSr_mk]) | (refine RS.gF ?_; refine RS.rn ?_; simp only [RSr_mk]) | (refine' WP.dl (id := 1) [0, 1, 3, 7, 0, 16, 48, 112, 0, 256, 768, 1792, 3840, 8191, 16383, 32767, 32767, 0, 196607, 524287] [0, 2, 3, 4, 23, 30] [17, 18] [(17, _), (18, _)] ?_) | refine RWL.fr ?_ | (refine RWL.cl (hp := by first | exact h1 | exact pUnique R.1 | exact pMust true 22) (h := ?_)) | refine RWL.wt ?_ | refine RWL.re ?_ ?_ | refine RdO.oz | refine RdO.oa ?_ | refine RdO.oe ?_ | refine RdO.on | ((refine WP.cn (fun hc => ?_) (fun hc => ?_)) <;> try exact Bool.noConfusion hc) | (refine WP.skip ?_; try simp only [thenQ_n, blockQ_n]) | (refine WP.ret ?_; (try simp only [thenQ_r, blockQ_r])) | refine ret3 ?_)
  all_goals (simp only [*, if_true, if_false, Bool.false_eq_true]; exact retM1 ⟨rfl, _, rfl⟩)
 | false =>
  cases hu : uniqB R.1 with
  | true =>
   rw [hu] at hU
   refine DM.intro Tryz.func48 rfl Tryz.ntmps48 rfl rfl rfl (by simp only [go_sem, simprocAttr]) (fun V0 Kb Nx => ?_)
   have fx := trivial
   replace fx := And.intro tyZ (And.intro hk trivial)
   repeat' (first | (refine RWL.fin ?_; try simp only [thenQ_n, blockQ_n]) | refine WP.seq ?_ | (refine WP.rg [0, 2, 3, 4, 23, 30] ?_; simp only [RSr_mk]) | refine RS.fnT ?_ | (refine RS.fn ?_; try simp only [thenQ_n, blockQ_n]) | (refine RS.cl (hp := by first | exact h1 | exact hU | exact pMust false 22) (h := ?_); refine RS.rn ?_; simp only [RSr_mk]) | (refine RS.cL (hp := by first | exact h1 | exact hU | exact pMust false 22) (h := ?_); refine RS.rn ?_; simp only [RSr_mk]) | (refine RS.sE ?_; refine RS.rn ?_; simp only [RSr_mk]) | (refine RS.pk ?_; refine RS.rn ?_; simp only [RSr_mk]) | (refine RS.gF ?_; refine RS.rn ?_; simp only [RSr_mk]) | (refine' WP.dl (id := 1) [0, 1, 3, 7, 0, 16, 48, 112, 0, 256, 768, 1792, 3840, 8191, 16383, 32767, 32767, 0, 196607, 524287] [0, 2, 3, 4, 23, 30] [17, 18] [(17, _), (18, _)] ?_) | refine RWL.fr ?_ | (refine RWL.cl (hp := by first | exact h1 | exact hU | exact pMust false 22) (h := ?_)) | refine RWL.wt ?_ | refine RWL.re ?_ ?_ | refine RdO.oz | refine RdO.oa ?_ | refine RdO.oe ?_ | refine RdO.on | ((refine WP.cn (fun hc => ?_) (fun hc => ?_)) <;> try exact Bool.noConfusion hc) | (refine WP.skip ?_; try simp only [thenQ_n, blockQ_n]) | (refine WP.ret ?_; (try simp only [thenQ_r, blockQ_r])) | refine ret3 ?_)
   all_goals (simp only [*, if_true, if_false, Bool.false_eq_true]; exact retM1 ⟨rfl, _, rfl⟩)
  | false =>
   rw [hu] at hU
   refine DM.intro Tryz.func48 rfl Tryz.ntmps48 rfl rfl rfl (by simp only [go_sem, simprocAttr]) (fun V0 Kb Nx => ?_)
   have fx := trivial
   replace fx := And.intro tyZ (And.intro hk trivial)
   repeat' (first | (refine RWL.fin ?_; try simp only [thenQ_n, blockQ_n]) | refine WP.seq ?_ | (refine WP.rg [0, 2, 3, 4, 23, 30] ?_; simp only [RSr_mk]) | refine RS.fnT ?_ | (refine RS.fn ?_; try simp only [thenQ_n, blockQ_n]) | (refine RS.cl (hp := by first | exact h1 | exact hU | exact pMust true 22) (h := ?_); refine RS.rn ?_; simp only [RSr_mk]) | (refine RS.cL (hp := by first | exact h1 | exact hU | exact pMust true 22) (h := ?_); refine RS.rn ?_; simp only [RSr_mk]) | (refine RS.sE ?_; refine RS.rn ?_; simp only [RSr_mk]) | (refine RS.pk ?_; refine RS.rn ?_; simp only [RSr_mk]) | (refine RS.gF ?_; refine RS.rn ?_; simp only [RSr_mk]) | (refine' WP.dl (id := 1) [0, 1, 3, 7, 0, 16, 48, 112, 0, 256, 768, 1792, 3840, 8191, 16383, 32767, 32767, 0, 196607, 524287] [0, 2, 3, 4, 23, 30] [17, 18] [(17, _), (18, _)] ?_) | refine RWL.fr ?_ | (refine RWL.cl (hp := by first | exact h1 | exact hU | exact pMust true 22) (h := ?_)) | refine RWL.wt ?_ | refine RWL.re ?_ ?_ | refine RdO.oz | refine RdO.oa ?_ | refine RdO.oe ?_ | refine RdO.on | ((refine WP.cn (fun hc => ?_) (fun hc => ?_)) <;> try exact Bool.noConfusion hc) | (refine WP.skip ?_; try simp only [thenQ_n, blockQ_n]) | (refine WP.ret ?_; (try simp only [thenQ_r, blockQ_r])) | refine ret3 ?_)
   all_goals (simp only [*, if_true, if_false, Bool.false_eq_true]; exact retM1 ⟨rfl, _, rfl⟩)
def calP (p : List Cs) (a : Ak) : Option Fd := if (a.s.kind != 4 || (obI a).1 != 0) = true then none else findMe p (obI a).2.o.cls a.s.name
theorem pgCallee (p : List Cs) (c : Cs) (m : Me) (s : St) (h : Ak.ok ⟨p, c, m, s, Ty.zero, Ty.zero⟩) (hzz : sumOf Cs.sz p ≤ 1048576) : DPure Tryz.prog 17 [.a (.sl (p.map Cs.at)), .r (Cs.at c), .r (Me.at m), .r (St.at s)] (.t [.r (Fd.at (fdS (calP p ⟨p, c, m, s, Ty.zero, Ty.zero⟩)).1), .a (.v (.bool (fdS (calP p ⟨p, c, m, s, Ty.zero, Ty.zero⟩)).2))]) := by
 have hob := pgObject _ h
 have zd := Fd.z0
 have haz := Ak.z0
 unfold calP
 dsimp only
 generalize obI ⟨p, c, m, s, Ty.zero, Ty.zero⟩ = O at hob ⊢
 have hfi := pmFind p O.2.o.cls s.name hzz
 generalize findMe p O.2.o.cls s.name = Z at hfi ⊢
 cases hk : (s.kind != 4) with
 | true =>
  refine DPure.go Tryz.func17 rfl Tryz.ntmps17 rfl rfl rfl (fun C hro => ?_)
  have fx := trivial
  replace fx := And.intro zd (And.intro haz (And.intro hk trivial))
  repeat' (first | refine WP.seq ?_ | (refine WP.rg [0, 1, 2, 3, 5, 6, 7, 8, 9, 10, 24] ?_; simp only [RSr_mk]) | refine RS.fnT ?_ | (refine RS.fn ?_; try simp only [thenQ_n, blockQ_n]) | (refine RS.cl (hp := by exact hfi) (h := ?_); refine RS.rn ?_; simp only [RSr_mk]) | (refine RS.cL (hp := by exact hfi) (h := ?_); refine RS.rn ?_; simp only [RSr_mk]) | (refine RS.sE ?_; refine RS.rn ?_; simp only [RSr_mk]) | (refine RS.pk ?_; refine RS.rn ?_; simp only [RSr_mk]) | (refine RS.gF ?_; refine RS.rn ?_; simp only [RSr_mk]) | ((refine WP.cn (fun hc => ?_) (fun hc => ?_)) <;> try exact Bool.noConfusion hc) | (refine WP.skip ?_; try simp only [thenQ_n, blockQ_n]) | (refine WP.ret ?_; (try simp only [thenQ_r, blockQ_r])) | refine ret3 ?_ | refine retCT ?_ | ((first | refine WP.dw (id := 4) 11 [0, 1, 2, 3, 5, 6, 7, 8, 9, 10, 24] ?_); simp only [RQr_mk, List.drop_succ_cons, List.drop_zero, List.drop_nil]) | (refine RQ.nil ?_; refine RS.rn ?_; simp only [RSr_mk]) | (refine RQ.cl (hp := by exact hfi) (h := ?_); refine RQ.rn ?_; simp only [RQr_mk]) | (refine RQ.cL (hp := by exact hfi) (h := ?_); refine RQ.rn ?_; simp only [RQr_mk]))
  rw [Bool.true_or, if_pos rfl]; rfl
 | false =>
  refine DPure.go Tryz.func17 rfl Tryz.ntmps17 rfl rfl rfl (fun C hro => ?_)
  have fx := trivial
  replace fx := And.intro zd (And.intro haz (And.intro hk trivial))
  repeat' (first | refine WP.seq ?_ | (refine WP.rg [0, 1, 2, 3, 5, 6, 7, 8, 9, 10, 24] ?_; simp only [RSr_mk]) | refine RS.fnT ?_ | (refine RS.fn ?_; try simp only [thenQ_n, blockQ_n]) | (refine RS.cl (hp := by exact hfi) (h := ?_); refine RS.rn ?_; simp only [RSr_mk]) | (refine RS.cL (hp := by exact hfi) (h := ?_); refine RS.rn ?_; simp only [RSr_mk]) | (refine RS.sE ?_; refine RS.rn ?_; simp only [RSr_mk]) | (refine RS.pk ?_; refine RS.rn ?_; simp only [RSr_mk]) | (refine RS.gF ?_; refine RS.rn ?_; simp only [RSr_mk]) | ((refine WP.cn (fun hc => ?_) (fun hc => ?_)) <;> try exact Bool.noConfusion hc) | (refine WP.skip ?_; try simp only [thenQ_n, blockQ_n]) | (refine WP.ret ?_; (try simp only [thenQ_r, blockQ_r])) | refine ret3 ?_ | refine retCT ?_ | ((first | refine WP.dw (id := 4) 11 [0, 1, 2, 3, 5, 6, 7, 8, 9, 10, 24] ?_); simp only [RQr_mk, List.drop_succ_cons, List.drop_zero, List.drop_nil]) | (refine RQ.nil ?_; refine RS.rn ?_; simp only [RSr_mk]) | (refine RQ.cl (hp := by exact hfi) (h := ?_); refine RQ.rn ?_; simp only [RQr_mk]) | (refine RQ.cL (hp := by exact hfi) (h := ?_); refine RQ.rn ?_; simp only [RQr_mk]))
  refine RS.gM [4] (hp := by exact hob) (h := ?_)
  refine RS.rn ?_; simp only [RSr_mk]
  replace fx := And.intro zd (And.intro haz (And.intro hk trivial))
  repeat' (first | refine WP.seq ?_ | (refine WP.rg [0, 1, 2, 3, 5, 6, 7, 8, 9, 10, 24] ?_; simp only [RSr_mk]) | refine RS.fnT ?_ | (refine RS.fn ?_; try simp only [thenQ_n, blockQ_n]) | (refine RS.cl (hp := by exact hfi) (h := ?_); refine RS.rn ?_; simp only [RSr_mk]) | (refine RS.cL (hp := by exact hfi) (h := ?_); refine RS.rn ?_; simp only [RSr_mk]) | (refine RS.sE ?_; refine RS.rn ?_; simp only [RSr_mk]) | (refine RS.pk ?_; refine RS.rn ?_; simp only [RSr_mk]) | (refine RS.gF ?_; refine RS.rn ?_; simp only [RSr_mk]) | ((refine WP.cn (fun hc => ?_) (fun hc => ?_)) <;> try exact Bool.noConfusion hc) | (refine WP.skip ?_; try simp only [thenQ_n, blockQ_n]) | (refine WP.ret ?_; (try simp only [thenQ_r, blockQ_r])) | refine ret3 ?_ | refine retCT ?_ | ((first | refine WP.dw (id := 4) 11 [0, 1, 2, 3, 5, 6, 7, 8, 9, 10, 24] ?_); simp only [RQr_mk, List.drop_succ_cons, List.drop_zero, List.drop_nil]) | (refine RQ.nil ?_; refine RS.rn ?_; simp only [RSr_mk]) | (refine RQ.cl (hp := by exact hfi) (h := ?_); refine RQ.rn ?_; simp only [RQr_mk]) | (refine RQ.cL (hp := by exact hfi) (h := ?_); refine RQ.rn ?_; simp only [RQr_mk]))
  ·rw [Bool.false_or, if_pos hc]; rfl
  ·rw [Bool.false_or, if_neg (by rw [hc]; exact Bool.false_ne_true)]
end Go.Proofs.YtibdalkdgjghoaaGreatDoor
