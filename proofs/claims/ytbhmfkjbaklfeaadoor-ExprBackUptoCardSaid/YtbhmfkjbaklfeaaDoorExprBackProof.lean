/- ExprBack: for all arguments whose reading is of bulk at most 1048576; the program's variables are tied to the program's text. -/
import Derived.Test.YtbhmfkjbaklfeaaDoorMg36
set_option linter.unusedVariables false
set_option maxRecDepth 100000
set_option maxHeartbeats 8000000
set_option linter.unusedSimpArgs false
namespace Go.Proofs.YtbhmfkjbaklfeaaDoor
open Go.ChangeShapes Go.WideShapes Go.ChangeAt Go.RowKit
theorem bulk_app {H:Type}:∀(a b:List (DataW H)),Rows.uptoBulkAll a≤Rows.uptoBulkAll (a++b)
 | [],_=>Nat.zero_le _
 | x::r,b=>by have:=bulk_app r b;rw [List.cons_append,Rows.uptoBulkAll,Rows.uptoBulkAll];omega
theorem exprBack_laid (os:Os):laidMet Tryd.prog Rows.exprBackRow.laid ((laidWorld os).forCall (fun _ _=>0) ⟨#[],#[.agg #[.int .i64 0,.int .i64 0,.string ⟨#[]⟩,.slice none 0 0],.string ⟨#[]⟩],[]⟩).memory :=
 laidMet_of_run' 8 (by kernel_rfl) (by kernel_rfl)
theorem exprBack_reads (os:Os) {H:Type} (enc:TypeId×Value→H):∃places,DataW.whole enc Tryd.prog ((laidWorld os).forCall (fun _ _=>0) ⟨#[],#[.agg #[.int .i64 0,.int .i64 0,.string ⟨#[]⟩,.slice none 0 0],.string ⟨#[]⟩],[]⟩).memory Tryd.f3.params.toList Rows.exprBackSpec.vars false #[.agg #[.int .i64 0,.int .i64 0,.string ⟨#[]⟩,.slice none 0 0],.string ⟨#[]⟩].toList 8=some ([.agg [.lit (.int .i64 0),.lit (.int .i64 0),.lit (.string []),.nil],.lit (.string [])],[],places) :=
 ⟨[],by kernel_rfl⟩
theorem exprBack_lifted (os:Os) (started:os.Started) (H:Type) (enc:TypeId×Value→H) (F:Stop.Interp) :
  ReturnsInHanded {} Tryd.checked os 3 .any ((Rows.OpenSpec.upto Rows.exprBackSpec).preRow enc Tryd.prog Tryd.f3 Rows.exprBackUptoRow.domain false Rows.exprBackUptoRow.laid) (((Rows.OpenSpec.upto Rows.exprBackSpec).at F).post enc Tryd.prog Tryd.f3 false true false false):=by
 obtain⟨places,hx⟩:=exprBack_reads os enc
 refine returnsInHanded_of_row (C:=Tryd.checked) (s:=Rows.OpenSpec.upto Rows.exprBackSpec) own started (by kernel_rfl) Tryd.func3
  (witness_row_at (enc:=enc) (C:=Tryd.checked) false (laidWorld os) #[.agg #[.int .i64 0,.int .i64 0,.string ⟨#[]⟩,.slice none 0 0],.string ⟨#[]⟩] rfl (by kernel_rfl) (by kernel_rfl) (by kernel_rfl)
   (OpenSpec.preRow_of_cond 8 hx (by kernel_rfl) (fun k hk=>by cases hk;kernel_rfl) (by kernel_rfl) (exprBack_laid os))) ?_
 intro W base args ds gs before hval hW _ hcond _ hL _ _
 have hb:Rows.uptoBulkAll (ds++gs)≤1048576:=of_decide_eq_true (hcond _ rfl)
 exact exprBack_contract H enc W base args ds gs before hval hW hL (Nat.le_trans (bulk_app ds gs) hb)
theorem exprBack_saidUpto:Rows.ExprBackUptoSaid :=
 OpenClaim.holds_of_cond 3 Tryd.f3 rfl rfl rfl rfl rfl rfl rfl ⟨rfl,rfl,rfl,rfl,rfl⟩ rfl rfl rfl rfl rfl (by kernel_rfl) Tryd.func3 (by kernel_rfl)
  (of_decide_eq_true (by kernel_rfl)) (by unfold Func.isWrapper;first|(rw [if_pos (by decide +kernel)];kernel_rfl)|(rw [if_neg (by decide +kernel)];exact⟨rfl,rfl⟩))
  (fun os started H enc _ F=>by rw [OpenClaim.pre_eq_preRow];exact exprBack_lifted os started H enc F)
theorem exprBack_plain (f:FuncId) (fn:Func) (hf:Tryd.pinned.checked.prog.funcNamed "demesne/demesnelaw06.ExprBack" = some f) (hfn:Tryd.pinned.checked.prog.funcs[f]? = some fn) :
  false=Tryd.pinned.checked.prog.looks []∧∀(j:Nat) t,fn.params[j]? = some t→Tryd.pinned.checked.prog.wantsStandIn t=false:=by
 obtain rfl:f=3:=Option.some.inj ((show Tryd.prog.funcNamed "demesne/demesnelaw06.ExprBack" = some 3 by kernel_rfl).symm.trans hf) |>.symm
 obtain rfl:fn=Tryd.f3:=(Option.some.inj (Tryd.func3.symm.trans hfn)).symm
 refine⟨by kernel_rfl,fun j t ht=>?_⟩
 rw [Tryd.params3] at ht
 have ht2:=Array.mem_of_getElem? ht
 simp only [List.mem_toArray,List.mem_cons,List.not_mem_nil,or_false] at ht2
 rcases ht2 with rfl|rfl
 ·exact (show Tryd.prog.wantsStandIn 24=false by kernel_rfl)
 ·exact (show Tryd.prog.wantsStandIn 9=false by kernel_rfl)
theorem exprBack_card:Rows.ExprBackUptoCardSaid :=
 Claim7.holds_tied_plain_at .later [] _ _ _ _ exprBack_saidUpto (fun _ h=>by cases h) (by kernel_rfl) (fun _ h=>by cases h) exprBackUpto_row_tie rfl ⟨rfl,rfl⟩ (by kernel_rfl) rfl exprBack_plain (by kernel_rfl)
end Go.Proofs.YtbhmfkjbaklfeaaDoor
