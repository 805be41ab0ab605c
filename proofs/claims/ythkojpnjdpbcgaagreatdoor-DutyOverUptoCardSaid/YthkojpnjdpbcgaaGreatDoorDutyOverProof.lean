/- What each method of any program owes that stands over another one (DutyOver): for all arguments whose reading is of bulk at most 1048576; the program's variables are tied to the program's text. -/
import Derived.Test.YthkojpnjdpbcgaaGreatDoorMg47
set_option linter.unusedVariables false
set_option maxRecDepth 100000
set_option maxHeartbeats 8000000
set_option linter.unusedSimpArgs false
namespace Go.Proofs.YthkojpnjdpbcgaaGreatDoor
open Go.ChangeShapes Go.WideShapes Go.ChangeAt Go.RowKit
theorem qny {H:Type}:∀(a b:List (DataW H)),Rows.uptoBulkAll a≤Rows.uptoBulkAll (a++b)
 | [],_=>Nat.zero_le _
 | x::r,b=>by have:=qny r b;rw [List.cons_append,Rows.uptoBulkAll,Rows.uptoBulkAll];omega
theorem qj7 (os:Os):laidMet Tryz.prog Rows.dutyOverRow.laid ((qhi os).forCall (fun _ _=>0) ⟨#[],#[.slice none 0 0],[]⟩).memory :=
 laidMet_of_run' 8 (by kernel_rfl) (by kernel_rfl)
theorem qh3 (os:Os) {H:Type} (enc:TypeId×Value→H):∃places,DataW.whole enc Tryz.prog ((qhi os).forCall (fun _ _=>0) ⟨#[],#[.slice none 0 0],[]⟩).memory Tryz.f5.params.toList Rows.dutyOverSpec.vars false #[Value.slice none 0 0].toList 8=some ([.nil],[],places) :=
 ⟨[],by kernel_rfl⟩
theorem qhp (os:Os) (started:os.Started) (H:Type) (enc:TypeId×Value→H) (F:Stop.Interp) :
  ReturnsInHanded {} Tryz.checked os 5 .any ((Rows.OpenSpec.upto Rows.dutyOverSpec).preRow enc Tryz.prog Tryz.f5 Rows.dutyOverUptoRow.domain false Rows.dutyOverUptoRow.laid) (((Rows.OpenSpec.upto Rows.dutyOverSpec).at F).post enc Tryz.prog Tryz.f5 false true false false):=by
 obtain⟨places,hx⟩:=qh3 os enc
 refine returnsInHanded_of_row (C:=Tryz.checked) (s:=Rows.OpenSpec.upto Rows.dutyOverSpec) own started (by kernel_rfl) Tryz.func5
  (witness_row_at (enc:=enc) (C:=Tryz.checked) false (qhi os) #[.slice none 0 0] rfl (by kernel_rfl) (by kernel_rfl) (by kernel_rfl)
   (OpenSpec.preRow_of_cond 8 hx (by kernel_rfl) (fun k hk=>by cases hk;kernel_rfl) (by kernel_rfl) (qj7 os))) ?_
 intro W base args ds gs before hval hW _ hcond _ hL _ _
 have hb:Rows.uptoBulkAll (ds++gs)≤1048576:=of_decide_eq_true (hcond _ rfl)
 exact qfy H enc W base args ds gs before hval hW hL (Nat.le_trans (qny ds gs) hb)
theorem qfx:Rows.DutyOverUptoSaid :=
 OpenClaim.holds_of_cond 5 Tryz.f5 rfl rfl rfl rfl rfl rfl rfl ⟨rfl,rfl,rfl,rfl,rfl⟩ rfl rfl rfl rfl rfl (by kernel_rfl) Tryz.func5 (by kernel_rfl)
  (of_decide_eq_true (by kernel_rfl)) (by unfold Func.isWrapper;first|(rw [if_pos (by decide +kernel)];kernel_rfl)|(rw [if_neg (by decide +kernel)];exact⟨rfl,rfl⟩))
  (fun os started H enc _ F=>by rw [OpenClaim.pre_eq_preRow];exact qhp os started H enc F)
theorem qh4 (f:FuncId) (fn:Func) (hf:Tryz.pinned.checked.prog.funcNamed "demesne/demesnelaw28.DutyOver" = some f) (hfn:Tryz.pinned.checked.prog.funcs[f]? = some fn) :
  false=Tryz.pinned.checked.prog.looks []∧∀(j:Nat) t,fn.params[j]? = some t→Tryz.pinned.checked.prog.wantsStandIn t=false:=by
 obtain rfl:f=5:=Option.some.inj ((show Tryz.prog.funcNamed "demesne/demesnelaw28.DutyOver" = some 5 by kernel_rfl).symm.trans hf) |>.symm
 obtain rfl:fn=Tryz.f5:=(Option.some.inj (Tryz.func5.symm.trans hfn)).symm
 refine⟨by kernel_rfl,fun j t ht=>?_⟩
 rw [Tryz.params5] at ht
 have ht2:=Array.mem_of_getElem? ht
 simp only [List.mem_toArray,List.mem_cons,List.not_mem_nil,or_false] at ht2
 rcases ht2 with rfl
 ·exact (show Tryz.prog.wantsStandIn 22=false by kernel_rfl)
theorem dutyOver_card:Rows.DutyOverUptoCardSaid :=
 Claim7.holds_tied_plain_at .later [] _ _ _ _ qfx (fun _ h=>by cases h) (by kernel_rfl) (fun _ h=>by cases h) dutyOverUpto_row_tie rfl ⟨rfl,rfl⟩ (by kernel_rfl) rfl qh4 (by kernel_rfl)
end Go.Proofs.YthkojpnjdpbcgaaGreatDoor
