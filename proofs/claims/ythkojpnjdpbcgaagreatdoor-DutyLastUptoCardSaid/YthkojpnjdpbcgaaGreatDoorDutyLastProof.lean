/- What each statement of any program owes last, and in both modes (DutyLast): for all arguments whose reading is of bulk at most 1048576; the program's variables are tied to the program's text. -/
import Derived.Test.YthkojpnjdpbcgaaGreatDoorMl51
set_option linter.unusedVariables false
set_option maxRecDepth 100000
set_option maxHeartbeats 8000000
set_option linter.unusedSimpArgs false
namespace Go.Proofs.YthkojpnjdpbcgaaGreatDoor
open Go.ChangeShapes Go.WideShapes Go.ChangeAt Go.RowKit
theorem qnl {H:Type}:∀(a b:List (DataW H)),Rows.uptoBulkAll a≤Rows.uptoBulkAll (a++b)
 | [],_=>Nat.zero_le _
 | x::r,b=>by have:=qnl r b;rw [List.cons_append,Rows.uptoBulkAll,Rows.uptoBulkAll];omega
theorem qjy (os:Os):laidMet Tryz.prog Rows.dutyLastRow.laid ((qhc os).forCall (fun _ _=>0) ⟨#[],#[.slice none 0 0],[]⟩).memory :=
 laidMet_of_run' 8 (by kernel_rfl) (by kernel_rfl)
theorem qh0 (os:Os) {H:Type} (enc:TypeId×Value→H):∃places,DataW.whole enc Tryz.prog ((qhc os).forCall (fun _ _=>0) ⟨#[],#[.slice none 0 0],[]⟩).memory Tryz.f4.params.toList Rows.dutyLastSpec.vars false #[Value.slice none 0 0].toList 8=some ([.nil],[],places) :=
 ⟨[],by kernel_rfl⟩
theorem qhj (os:Os) (started:os.Started) (H:Type) (enc:TypeId×Value→H) (F:Stop.Interp) :
  ReturnsInHanded {} Tryz.checked os 4 .any ((Rows.OpenSpec.upto Rows.dutyLastSpec).preRow enc Tryz.prog Tryz.f4 Rows.dutyLastUptoRow.domain false Rows.dutyLastUptoRow.laid) (((Rows.OpenSpec.upto Rows.dutyLastSpec).at F).post enc Tryz.prog Tryz.f4 false true false false):=by
 obtain⟨places,hx⟩:=qh0 os enc
 refine returnsInHanded_of_row (C:=Tryz.checked) (s:=Rows.OpenSpec.upto Rows.dutyLastSpec) own started (by kernel_rfl) Tryz.func4
  (witness_row_at (enc:=enc) (C:=Tryz.checked) false (qhc os) #[.slice none 0 0] rfl (by kernel_rfl) (by kernel_rfl) (by kernel_rfl)
   (OpenSpec.preRow_of_cond 8 hx (by kernel_rfl) (fun k hk=>by cases hk;kernel_rfl) (by kernel_rfl) (qjy os))) ?_
 intro W base args ds gs before hval hW _ hcond _ hL _ _
 have hb:Rows.uptoBulkAll (ds++gs)≤1048576:=of_decide_eq_true (hcond _ rfl)
 exact qfv H enc W base args ds gs before hval hW hL (Nat.le_trans (qnl ds gs) hb)
theorem qfu:Rows.DutyLastUptoSaid :=
 OpenClaim.holds_of_cond 4 Tryz.f4 rfl rfl rfl rfl rfl rfl rfl ⟨rfl,rfl,rfl,rfl,rfl⟩ rfl rfl rfl rfl rfl (by kernel_rfl) Tryz.func4 (by kernel_rfl)
  (of_decide_eq_true (by kernel_rfl)) (by unfold Func.isWrapper;first|(rw [if_pos (by decide +kernel)];kernel_rfl)|(rw [if_neg (by decide +kernel)];exact⟨rfl,rfl⟩))
  (fun os started H enc _ F=>by rw [OpenClaim.pre_eq_preRow];exact qhj os started H enc F)
theorem qh1 (f:FuncId) (fn:Func) (hf:Tryz.pinned.checked.prog.funcNamed "demesne/demesnelaw28.DutyLast" = some f) (hfn:Tryz.pinned.checked.prog.funcs[f]? = some fn) :
  false=Tryz.pinned.checked.prog.looks []∧∀(j:Nat) t,fn.params[j]? = some t→Tryz.pinned.checked.prog.wantsStandIn t=false:=by
 obtain rfl:f=4:=Option.some.inj ((show Tryz.prog.funcNamed "demesne/demesnelaw28.DutyLast" = some 4 by kernel_rfl).symm.trans hf) |>.symm
 obtain rfl:fn=Tryz.f4:=(Option.some.inj (Tryz.func4.symm.trans hfn)).symm
 refine⟨by kernel_rfl,fun j t ht=>?_⟩
 rw [Tryz.params4] at ht
 have ht2:=Array.mem_of_getElem? ht
 simp only [List.mem_toArray,List.mem_cons,List.not_mem_nil,or_false] at ht2
 rcases ht2 with rfl
 ·exact (show Tryz.prog.wantsStandIn 22=false by kernel_rfl)
theorem dutyLast_card:Rows.DutyLastUptoCardSaid :=
 Claim7.holds_tied_plain_at .later [] _ _ _ _ qfu (fun _ h=>by cases h) (by kernel_rfl) (fun _ h=>by cases h) dutyLastUpto_row_tie rfl ⟨rfl,rfl⟩ (by kernel_rfl) rfl qh1 (by kernel_rfl)
end Go.Proofs.YthkojpnjdpbcgaaGreatDoor
