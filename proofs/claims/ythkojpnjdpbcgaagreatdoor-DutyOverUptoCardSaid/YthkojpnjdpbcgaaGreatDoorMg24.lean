/- slices.Grow and slices.Concat at variables: arena.Vars. Conditions: at most 2^20 variables each. -/
import Derived.Test.YthkojpnjdpbcgaaGreatDoorMg13
import Derived.Test.YthkojpnjdpbcgaaGreatDoorMg22
import Derived.Test.YthkojpnjdpbcgaaGreatDoorMg23
set_option linter.unusedVariables false
set_option maxRecDepth 100000
set_option maxHeartbeats 8000000
set_option linter.unusedSimpArgs false
namespace Go.Proofs.YthkojpnjdpbcgaaGreatDoor
theorem ai24 {a b : Prop} (x : a) (y : b) : a ∧ b := ⟨x, y⟩
open Go.RowKit
end Go.Proofs.YthkojpnjdpbcgaaGreatDoor
namespace Go.Proofs.YthkojpnjdpbcgaaGreatDoor
open Go.RowKit
end Go.Proofs.YthkojpnjdpbcgaaGreatDoor
namespace Go.Proofs.YthkojpnjdpbcgaaGreatDoor
open Go.RowKit
def qcj (c:Cs):List (Int×Int):=(2,0)::(List.range c.params.length).map fun i=>(3,((i+1:Nat):Int))
def qda (n k:Nat):List (List A):=((List.range k).map fun i=>owAt (3,((i:Nat):Int)))++List.replicate (n-k) (owAt (0,0))
theorem thisR_len {n k:Nat} (h:k≤n):(qda n k).length=n:=by simp [qda];omega
theorem thisR_0 (n:Nat):qda n 0=List.replicate n (owAt (0,0)):=by simp [qda]
theorem thisR_set {n k:Nat} (h:k<n):(qda n k).set k (owAt (3,(k:Int)))=qda n (k+1):=by
 unfold qda
 rw [List.set_append_right _ _ (by simp),List.range_succ,List.map_append,List.append_assoc]
 congr 1
 obtain⟨m,hm⟩:∃m,n-k=m+1:=⟨n-k-1,by omega⟩
 rw [hm,show n-(k+1)=m by omega]
 simp [List.replicate_succ]
theorem thisR_nr (n k:Nat):((qda n k).all fun r=>r.all (nrA 2))=true:=by
 unfold qda
 rw [List.all_append,Bool.and_eq_true,List.all_eq_true,List.all_eq_true]
 refine⟨fun r hr=>?_,fun r hr=>?_⟩
 ·rw [List.mem_map] at hr
  obtain⟨i,_,rfl⟩:=hr
  rfl
 ·rw [List.eq_of_mem_replicate hr];rfl
theorem pThisL (c:Cs) (hc:c.params.length≤1048576):qab Tryz.prog 38 [.r (Cs.at c)] (.a (.sl ((qcj c).map owAt))):=by
 have hw:IntKind.i64.wrap ((c.params.length:Int)+1)=((c.params.length+1:Nat):Int):=qaz (by omega)
 generalize hn:c.params.length+1=n at *
 have hn1:n≤1048577:=by omega
 refine qab.go Tryz.func38 rfl Tryz.ntmps38 rfl rfl rfl (fun C hro=>?_)
 have fx:=trivial
 replace fx:=ai24 hw trivial
 repeat' (first|refine stp [0,1,2,3,4,11,12,13] ?_|(refine RS.mS ?_;refine rnx ?_)|(refine RS.sE ?_;refine rnx ?_)|(refine RS.lC ?_;refine rnx ?_)|(refine RS.xC ?_;refine rnx ?_)|refine WP.cn (fun hc=>?_) (fun hc=>?_)|fail)
 rw [←thisR_0]
 refine WP.loopX (α:={ k:Nat // k≤n }) (fun y=>[(1,.a (.ptr 0 0)),(3,.a (.own 1 0)),(11,.a (.v (.int .i64 (n:Nat)))),(12,.a (.v (.int .i64 (y.1:Nat))))]) (fun y=>[.cell (Cs.at c),.arr 0 2 (qda n y.1)]) (fun y=>n-y.1) ⟨0,by omega⟩ (by simp only [qai,go_sem,simprocAttr];first|done|rfl) rfl ?_
 rintro⟨k,hk⟩
 dsimp only
 have hl:=thisR_len hk
 by_cases hlt:k<n
 ·have hlt2:decide ((k:Int)<(n:Int))=true:=decide_eq_true (by omega)
  have hwu:=qaz (k:=k) (by omega)
  have hk0:((0:Int)≤(k:Int))=True:=eq_true (by omega)
  have hk1:((k:Int)<(n:Int))=True:=eq_true (by omega)
  have hrow:(qda n k)[k]? = some (owAt (0,0)):=by
   unfold qda
   rw [List.getElem?_append_right (by simp),List.getElem?_replicate]
   simp;omega
  have how:owAt (0,0)=[.v (.int .i64 0),.v (.int .i64 0)]:=rfl
  have hset:(qda n k).set k [.v (.int .i64 3),.v (.int .i64 (k:Nat))]=qda n (k+1):=thisR_set hlt
  have hix:∀q2,ixS [.cell (Cs.at c),.arr 0 2 (qda n k)] (some 2) q2 (.a (.own 1 0)) (.a (.v (.int .i64 (k:Nat))))=some (.a (.ep 1 0 k 0)):=fun q2=>qmk rfl rfl (by omega) rfl
  replace fx:=ai24 hix (ai24 hlt2 (ai24 hwu (ai24 hl (ai24 hk0 (ai24 hk1 (ai24 hrow (ai24 hset (ai24 how trivial))))))))
  repeat' (first|refine stp [0,1,2,3,4,11,12,13] ?_|(refine RS.mS ?_;refine rnx ?_)|(refine RS.sE ?_;refine rnx ?_)|(refine RS.lC ?_;refine rnx ?_)|(refine RS.xC ?_;refine rnx ?_)|refine WP.cn (fun hc=>?_) (fun hc=>?_)|fail)
  refine⟨⟨k+1,by omega⟩,[],by dsimp only;omega,by simp only [qai,go_sem,simprocAttr],rfl,by simp only [nrE,nrD,List.all_cons,List.all_nil,go_sem,simprocAttr],?_⟩
  simp only [go_sem,simprocAttr,qng (Cs.cl c),thisR_nr,List.length_append]
 ·obtain rfl:k=n:=by omega
  have hlt2:decide ((k:Int)<(k:Int))=false:=decide_eq_false (by omega)
  have how:owAt (0,0)=[.v (.int .i64 0),.v (.int .i64 0)]:=rfl
  have hk1:((0:Int)<(k:Int))=True:=eq_true (by omega)
  obtain⟨row,hrow⟩:∃row,(qda k k)[0]? = some (owAt (3,0)):=⟨0,by subst hn;simp [qda,List.range_succ_eq_map]⟩
  have hrw:owAt (3,0)=[.v (.int .i64 3),.v (.int .i64 0)]:=rfl
  have hix:∀q2,ixS [.cell (Cs.at c),.arr 0 2 (qda k k)] (some 2) q2 (.a (.own 1 0)) (.a (.v (.int .i64 0)))=some (.a (.ep 1 0 0 0)):=fun q2=>qmk (j:=0) rfl rfl (by omega) rfl
  replace fx:=ai24 hix (ai24 hlt2 (ai24 hl (ai24 how (ai24 hk1 (ai24 hrow (ai24 hrw trivial))))))
  repeat' (first|refine stp [0,1,2,3,4,11,12,13] ?_|(refine RS.mS ?_;refine rnx ?_)|(refine RS.sE ?_;refine rnx ?_)|(refine RS.lC ?_;refine rnx ?_)|(refine RS.xC ?_;refine rnx ?_)|refine WP.cn (fun hc=>?_) (fun hc=>?_)|fail)
  refine congrArg (fun x=>D.a (A.sl x)) ?_
  subst hn
  simp [qda,qcj,List.range_succ_eq_map,owAt]
end Go.Proofs.YthkojpnjdpbcgaaGreatDoor
