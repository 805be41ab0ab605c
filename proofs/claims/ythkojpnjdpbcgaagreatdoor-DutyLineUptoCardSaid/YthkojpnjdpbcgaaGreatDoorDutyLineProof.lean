/- What each statement of any program owes in any mode (DutyLine): for all arguments whose reading is of bulk at most 1048576; the program's variables are tied to the program's text. -/
import Derived.Test.YthkojpnjdpbcgaaGreatDoorMh51
set_option linter.unusedVariables false
set_option maxRecDepth 100000
set_option maxHeartbeats 8000000
set_option linter.unusedSimpArgs false
namespace Go.Proofs.YthkojpnjdpbcgaaGreatDoor
open Go.ChangeShapes Go.WideShapes Go.ChangeAt Go.RowKit
theorem qox {H:Type}:∀(a b:List (DataW H)),Rows.uptoBulkAll a≤Rows.uptoBulkAll (a++b)
 | [],_=>Nat.zero_le _
 | x::r,b=>by have:=qox r b;rw [List.cons_append,Rows.uptoBulkAll,Rows.uptoBulkAll];omega
theorem qk1 (os:Os):laidMet Tryz.prog Rows.dutyLineRow.laid ((qh3 os).forCall (fun _ _=>0) ⟨#[],#[.slice none 0 0,.int .i64 0],[]⟩).memory :=
 laidMet_of_run' 8 (by kernel_rfl) (by kernel_rfl)
theorem qiu (os:Os) {H:Type} (enc:TypeId×Value→H):∃places,DataW.whole enc Tryz.prog ((qh3 os).forCall (fun _ _=>0) ⟨#[],#[.slice none 0 0,.int .i64 0],[]⟩).memory Tryz.f3.params.toList Rows.dutyLineSpec.vars false #[Value.slice none 0 0,.int .i64 0].toList 8=some ([.nil,.lit (.int .i64 0)],[],places) :=
 ⟨[],by kernel_rfl⟩
theorem qh9 (os:Os) (started:os.Started) (H:Type) (enc:TypeId×Value→H) (F:Stop.Interp) :
  ReturnsInHanded {} Tryz.checked os 3 .any ((Rows.OpenSpec.upto Rows.dutyLineSpec).preRow enc Tryz.prog Tryz.f3 Rows.dutyLineUptoRow.domain false Rows.dutyLineUptoRow.laid) (((Rows.OpenSpec.upto Rows.dutyLineSpec).at F).post enc Tryz.prog Tryz.f3 false true false false):=by
 obtain⟨places,hx⟩:=qiu os enc
 refine returnsInHanded_of_row (C:=Tryz.checked) (s:=Rows.OpenSpec.upto Rows.dutyLineSpec) own started (by kernel_rfl) Tryz.func3
  (witness_row_at (enc:=enc) (C:=Tryz.checked) false (qh3 os) #[.slice none 0 0,.int .i64 0] rfl (by kernel_rfl) (by kernel_rfl) (by kernel_rfl)
   (OpenSpec.preRow_of_cond 8 hx (by kernel_rfl) (fun k hk=>by cases hk;kernel_rfl) (by kernel_rfl) (qk1 os))) ?_
 intro W base args ds gs before hval hW _ hcond _ hL _ _
 have hb:Rows.uptoBulkAll (ds++gs)≤1048576:=of_decide_eq_true (hcond _ rfl)
 exact qgm H enc W base args ds gs before hval hW hL (Nat.le_trans (qox ds gs) hb)
theorem qgl:Rows.DutyLineUptoSaid :=
 OpenClaim.holds_of_cond 3 Tryz.f3 rfl rfl rfl rfl rfl rfl rfl ⟨rfl,rfl,rfl,rfl,rfl⟩ rfl rfl rfl rfl rfl (by kernel_rfl) Tryz.func3 (by kernel_rfl)
  (of_decide_eq_true (by kernel_rfl)) (by unfold Func.isWrapper;first|(rw [if_pos (by decide +kernel)];kernel_rfl)|(rw [if_neg (by decide +kernel)];exact⟨rfl,rfl⟩))
  (fun os started H enc _ F=>by rw [OpenClaim.pre_eq_preRow];exact qh9 os started H enc F)
theorem qiv (f:FuncId) (fn:Func) (hf:Tryz.pinned.checked.prog.funcNamed "demesne/demesnelaw28.DutyLine" = some f) (hfn:Tryz.pinned.checked.prog.funcs[f]? = some fn) :
  false=Tryz.pinned.checked.prog.looks []∧∀(j:Nat) t,fn.params[j]? = some t→Tryz.pinned.checked.prog.wantsStandIn t=false:=by
 obtain rfl:f=3:=Option.some.inj ((show Tryz.prog.funcNamed "demesne/demesnelaw28.DutyLine" = some 3 by kernel_rfl).symm.trans hf) |>.symm
 obtain rfl:fn=Tryz.f3:=(Option.some.inj (Tryz.func3.symm.trans hfn)).symm
 refine⟨by kernel_rfl,fun j t ht=>?_⟩
 rw [Tryz.params3] at ht
 have ht2:=Array.mem_of_getElem? ht
 simp only [List.mem_toArray,List.mem_cons,List.not_mem_nil,or_false] at ht2
 rcases ht2 with rfl|rfl
 ·exact (show Tryz.prog.wantsStandIn 22=false by kernel_rfl)
 ·exact (show Tryz.prog.wantsStandIn 3=false by kernel_rfl)
theorem dutyLine_card:Rows.DutyLineUptoCardSaid :=
 Claim7.holds_tied_plain_at .later [] _ _ _ _ qgl (fun _ h=>by cases h) (by kernel_rfl) (fun _ h=>by cases h) dutyLineUpto_row_tie rfl ⟨rfl,rfl⟩ (by kernel_rfl) rfl qiv (by kernel_rfl)
end Go.Proofs.YthkojpnjdpbcgaaGreatDoor
