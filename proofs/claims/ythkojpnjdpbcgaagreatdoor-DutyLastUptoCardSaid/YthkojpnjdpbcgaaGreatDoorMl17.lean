/- slices.Grow and slices.Concat at variables: arena.Vars. Conditions: at most 2^20 variables each. -/
import Derived.Test.YthkojpnjdpbcgaaGreatDoorMl12
import Derived.Test.YthkojpnjdpbcgaaGreatDoorMl15
import Derived.Test.YthkojpnjdpbcgaaGreatDoorMl16
set_option linter.unusedVariables false
set_option maxRecDepth 100000
set_option maxHeartbeats 8000000
set_option linter.unusedSimpArgs false
namespace Go.Proofs.YthkojpnjdpbcgaaGreatDoor
open Go.RowKit
theorem pGrowV0:qaa Tryz.prog 202 [.a .nl,.a (.v (.int .i64 0))] (.a (.sl [])):=by
 have hw0:IntKind.i64.wrap (0-0)=0:=by rfl
 refine qaa.go Tryz.func202 rfl Tryz.ntmps202 rfl rfl rfl (fun C hro=>?_)
 have fx:=trivial
 replace fx:=ai15 hw0 trivial
 repeat' (first|refine stp [0,1,4,6,16] ?_|(refine RS.cN' ?_;refine rnx ?_)|fail)
 all_goals rfl
theorem pGrowV (n:Nat) (h0:0<n) (hn:n≤4194304):DM Tryz.prog 202 [.a .nl,.a (.v (.int .i64 n))] [] (.a (.own 0 1)) [.arr 1 13 []]:=by
 have hw0:IntKind.i64.wrap (0-0)=0:=by rfl
 have hw1:IntKind.i64.wrap ((n:Int)-0)=(n:Int):=qbk (by omega) (by omega)
 have hl:decide ((n:Int)<0)=false:=decide_eq_false (by omega)
 have hg:decide ((n:Int)>0)=true:=decide_eq_true (by omega)
 refine DM.intro Tryz.func202 rfl Tryz.ntmps202 rfl rfl rfl (by simp only [go_sem,simprocAttr]) (fun V0 Kb Nx=>?_)
 have fx:=trivial
 replace fx:=ai15 hw0 (ai15 hw1 (ai15 hl (ai15 hg trivial)))
 repeat' (first|refine stp [0,1,4,6,16] ?_|(refine RS.cN' ?_;refine rnx ?_)|(refine RS.sN ?_;refine rnx ?_)|(refine RS.aK ?_;refine rnx ?_)|fail)
 refine RS.pop (h:=0) (rows':=[]) (by simp only [go_sem,simprocAttr]<;>rfl) (by simp only [go_sem,simprocAttr]<;>rfl) (by simp only [go_sem]<;>rfl) (by simp [bndD,evO,upd]) (List.take_zero) ?_
 refine RS.rn ?_
 simp only [qai]
 replace fx:=ai15 hw0 (ai15 hw1 (ai15 hl (ai15 hg trivial)))
 repeat' (first|refine stp [0,1,4,6,16] ?_|fail)
 refine qar ?_
 exact⟨rfl,[],rfl⟩
theorem pConcatV (a b:List Vr) (ha:a.length≤1048576) (hb:b.length≤1048576):qaa Tryz.prog 169 [.a (.sl [[.sl (a.map Vr.at)],[.sl (b.map Vr.at)]])] (.a (.sl ((a++b).map Vr.at))):=by
 have hi0:∀q2,ixD (some 1) q2 (.a (.sl [[.sl (a.map Vr.at)],[.sl (b.map Vr.at)]])) (.a (.v (.int .i64 0)))=some (.a (.ref [.sl (a.map Vr.at)] 0)):=fun q2=>qaq rfl rfl (by simp only [go_sem])
 have hi1:∀q2,ixD (some 1) q2 (.a (.sl [[.sl (a.map Vr.at)],[.sl (b.map Vr.at)]])) (.a (.v (.int .i64 1)))=some (.a (.ref [.sl (b.map Vr.at)] 0)):=fun q2=>qaq rfl rfl (by simp only [go_sem])
 have hw0:IntKind.i64.wrap (0+(a.length:Int))=(a.length:Int):=qbk (by omega) (by omega) |>.trans (by omega)
 have hw1:IntKind.i64.wrap ((a.length:Int)+(b.length:Int))=((a.length+b.length:Nat):Int):=(qbk (by omega) (by omega)).trans (by omega)
 have hl0:decide ((a.length:Int)<0)=false:=decide_eq_false (by omega)
 have hl1:decide (((a.length+b.length:Nat):Int)<0)=false:=decide_eq_false (by omega)
 have hwa:IntKind.i64.wrap (0+1)=1:=by rfl
 have hwb:IntKind.i64.wrap (1+1)=2:=by rfl
 by_cases h0:a.length+b.length=0
 ·obtain rfl:a=[]:=List.eq_nil_of_length_eq_zero (by omega)
  obtain rfl:b=[]:=List.eq_nil_of_length_eq_zero (by omega)
  have hj0:∀q2,ixD (some 1) q2 (.a (.sl [[.sl []],[.sl []]])) (.a (.v (.int .i64 0)))=some (.a (.ref [.sl []] 0)):=fun q2=>qaq rfl rfl (by simp only [go_sem])
  have hj1:∀q2,ixD (some 1) q2 (.a (.sl [[.sl []],[.sl []]])) (.a (.v (.int .i64 1)))=some (.a (.ref [.sl []] 0)):=fun q2=>qaq rfl rfl (by simp only [go_sem])
  have hwz:IntKind.i64.wrap (0+0)=0:=by rfl
  refine qaa.go Tryz.func169 rfl Tryz.ntmps169 rfl rfl rfl (fun C hro=>?_)
  have fx:=trivial
  replace fx:=ai15 hj0 (ai15 hj1 (ai15 hwa (ai15 hwb (ai15 hwz trivial))))
  repeat' (first|refine stp [0,2,3,5,6,8,9,10,11,12,20,25,26,27,28] ?_|fail)
  refine WP.loop_in ?_
  refine WPIn.unroll ?_
  replace fx:=ai15 hj0 (ai15 hj1 (ai15 hwa (ai15 hwb (ai15 hwz trivial))))
  repeat' (first|refine stp [0,2,3,5,6,8,9,10,11,12,20,25,26,27,28] ?_|fail)
  refine WPIn.unroll ?_
  replace fx:=ai15 hj0 (ai15 hj1 (ai15 hwa (ai15 hwb (ai15 hwz trivial))))
  repeat' (first|refine stp [0,2,3,5,6,8,9,10,11,12,20,25,26,27,28] ?_|fail)
  refine WPIn.unroll ?_
  replace fx:=ai15 hj0 (ai15 hj1 (ai15 hwa (ai15 hwb (ai15 hwz trivial))))
  repeat' (first|refine stp [0,2,3,5,6,8,9,10,11,12,20,25,26,27,28] ?_|(refine stc (r1:=by exact pGrowV0) (r2:=?_);refine rnx ?_)|fail)
  refine WP.loop_in ?_
  refine WPIn.unroll ?_
  replace fx:=ai15 hj0 (ai15 hj1 (ai15 hwa (ai15 hwb (ai15 hwz trivial))))
  repeat' (first|refine stp [0,2,3,5,6,8,9,10,11,12,20,25,26,27,28] ?_|(refine RS.aE ?_;refine rnx ?_)|fail)
  refine WPIn.unroll ?_
  replace fx:=ai15 hj0 (ai15 hj1 (ai15 hwa (ai15 hwb (ai15 hwz trivial))))
  repeat' (first|refine stp [0,2,3,5,6,8,9,10,11,12,20,25,26,27,28] ?_|(refine RS.aE ?_;refine rnx ?_)|fail)
  refine WPIn.unroll ?_
  replace fx:=ai15 hj0 (ai15 hj1 (ai15 hwa (ai15 hwb (ai15 hwz trivial))))
  repeat' (first|refine stp [0,2,3,5,6,8,9,10,11,12,20,25,26,27,28] ?_|fail)
  rfl
 ·refine qaa.go Tryz.func169 rfl Tryz.ntmps169 rfl rfl rfl (fun C hro=>?_)
  have fx:=trivial
  replace fx:=ai15 hi0 (ai15 hi1 (ai15 hw0 (ai15 hw1 (ai15 hl0 (ai15 hl1 (ai15 hwa (ai15 hwb trivial)))))))
  repeat' (first|refine stp [0,2,3,5,6,8,9,10,11,12,20,25,26,27,28] ?_|fail)
  refine WP.loop_in ?_
  refine WPIn.unroll ?_
  replace fx:=ai15 hi0 (ai15 hi1 (ai15 hw0 (ai15 hw1 (ai15 hl0 (ai15 hl1 (ai15 hwa (ai15 hwb trivial)))))))
  repeat' (first|refine stp [0,2,3,5,6,8,9,10,11,12,20,25,26,27,28] ?_|fail)
  refine WPIn.unroll ?_
  replace fx:=ai15 hi0 (ai15 hi1 (ai15 hw0 (ai15 hw1 (ai15 hl0 (ai15 hl1 (ai15 hwa (ai15 hwb trivial)))))))
  repeat' (first|refine stp [0,2,3,5,6,8,9,10,11,12,20,25,26,27,28] ?_|fail)
  refine WPIn.unroll ?_
  replace fx:=ai15 hi0 (ai15 hi1 (ai15 hw0 (ai15 hw1 (ai15 hl0 (ai15 hl1 (ai15 hwa (ai15 hwb trivial)))))))
  repeat' (first|refine stp [0,2,3,5,6,8,9,10,11,12,20,25,26,27,28] ?_|(refine RS.cM [] (hp:=by exact pGrowV (a.length+b.length) (by omega) (by omega)) (h:=?_);refine rnx ?_)|fail)
  refine WP.loop_in ?_
  refine WPIn.unroll ?_
  replace fx:=ai15 hi0 (ai15 hi1 (ai15 hw0 (ai15 hw1 (ai15 hl0 (ai15 hl1 (ai15 hwa (ai15 hwb trivial)))))))
  repeat' (first|refine stp [0,2,3,5,6,8,9,10,11,12,20,25,26,27,28] ?_|(refine RS.aO ?_;refine rnx ?_)|fail)
  refine WPIn.unroll ?_
  replace fx:=ai15 hi0 (ai15 hi1 (ai15 hw0 (ai15 hw1 (ai15 hl0 (ai15 hl1 (ai15 hwa (ai15 hwb trivial)))))))
  repeat' (first|refine stp [0,2,3,5,6,8,9,10,11,12,20,25,26,27,28] ?_|(refine RS.aO ?_;refine rnx ?_)|fail)
  refine WPIn.unroll ?_
  replace fx:=ai15 hi0 (ai15 hi1 (ai15 hw0 (ai15 hw1 (ai15 hl0 (ai15 hl1 (ai15 hwa (ai15 hwb trivial)))))))
  repeat' (first|refine stp [0,2,3,5,6,8,9,10,11,12,20,25,26,27,28] ?_|fail)
  rw [List.map_append]
theorem pVarsA (m:Me) (ha:m.params.length≤1048576) (hb:m.locals.length≤1048576):qaa Tryz.prog 116 [.r (Me.at m)] (.a (.sl ((m.params++m.locals).map Vr.at))):=by
 refine qaa.go Tryz.func116 rfl Tryz.ntmps116 rfl rfl rfl (fun C hro=>?_)
 have fx:=trivial
 repeat' (first|refine stp [0,1,2] ?_|(refine RS.ls ?_;refine rnx ?_)|(refine stc (r1:=by exact pConcatV m.params m.locals ha hb) (r2:=?_);refine rnx ?_)|fail)
 rfl
end Go.Proofs.YthkojpnjdpbcgaaGreatDoor
namespace Go.Proofs.YthkojpnjdpbcgaaGreatDoor
open Go.RowKit
def varI (l:List Vr) (s:List UInt8):Int:=ixOf (fun v:Vr=>v.name==s) l 0
def qaz (m:Me) (s:List UInt8):Int:=if varI m.params s≥0 then varI m.params s else if varI m.locals s<0 then -1 else (m.params.length:Int)+varI m.locals s
theorem qi0 (l:List Vr) (s:List UInt8):varI l s = -1∨∃(j:Nat) (z:Vr),l[j]? = some z∧z.name=s∧varI l s=(j:Int):=by
 rcases qfc (fun v:Vr=>v.name==s) l 0 with h|⟨j,z,h1,h2,h3⟩
 ·exact .inl h
 ·exact .inr ⟨j,z,h1,by simpa using h2,by rw [varI,h3,Nat.zero_add]⟩
theorem pPlace1 (v:Vr) (s:List UInt8):qaa Tryz.prog 167 [.r (Vr.at v),.a (.ref [.v (.string (bs s))] 0)] (.a (.v (.bool (v.name==s)))):=by
 refine qaa.go Tryz.func167 rfl Tryz.ntmps167 rfl rfl rfl (fun C hro=>?_)
 have fx:=trivial
 repeat' (first|refine stp [0,1,2,3] ?_|fail)
 rfl
theorem qil (m:Me) (s:List UInt8) (ha:m.params.length≤1048576) (hb:m.locals.length≤1048576):qaa Tryz.prog 115 [.r (Me.at m),.a (.v (.string (bs s)))] (.a (.v (.int .i64 (qaz m s)))):=by
 refine qaa.go Tryz.func115 rfl Tryz.ntmps115 rfl rfl rfl (fun C hro=>?_)
 have fx:=trivial
 repeat' (first|refine stp [0,1,2,3,4,5,6,7,14,21] ?_|(refine stc (r1:=by first|exact pIxVar (fun v=>v.name==s) m.params 167 [.ref [.v (.string (bs s))] 0] rfl ha (fun k _=>pPlace1 k s)|exact pIxVar (fun v=>v.name==s) m.locals 167 [.ref [.v (.string (bs s))] 0] rfl hb (fun k _=>pPlace1 k s)) (r2:=?_);refine rnx ?_)|refine WP.cn (fun hc=>?_) (fun hc=>?_)|fail)
 ·refine qco ?_
  have h:varI m.params s≥0:=of_decide_eq_true hc
  unfold qaz;rw [if_pos h];rfl
 ·rename_i hc1
  refine qco ?_
  have h1:¬varI m.params s≥0:=of_decide_eq_false hc1
  have h2:varI m.locals s<0:=of_decide_eq_true hc
  unfold qaz;rw [if_neg h1,if_pos h2]
 ·rename_i hc1
  refine qco ?_
  have h1:¬varI m.params s≥0:=of_decide_eq_false hc1
  have h2:¬varI m.locals s<0:=of_decide_eq_false hc
  unfold qaz;rw [if_neg h1,if_neg h2]
  rcases qi0 m.locals s with h|⟨k,y,hy,_,h⟩
  ·omega
  ·have hk:=(List.getElem?_eq_some_iff.1 hy).1
   show IntKind.i64.wrap ((m.params.length:Int)+varI m.locals s)=_
   rw [h]
   exact qbk (by omega) (by omega)
end Go.Proofs.YthkojpnjdpbcgaaGreatDoor
namespace Go.Proofs.YthkojpnjdpbcgaaGreatDoor
open Go.RowKit
def qbl (c:Cs):List (Int×Int):=(2,0)::(List.range c.params.length).map fun i=>(3,((i+1:Nat):Int))
def qc7 (n k:Nat):List (List A):=((List.range k).map fun i=>owAt (3,((i:Nat):Int)))++List.replicate (n-k) (owAt (0,0))
theorem thisR_len {n k:Nat} (h:k≤n):(qc7 n k).length=n:=by simp [qc7];omega
theorem thisR_0 (n:Nat):qc7 n 0=List.replicate n (owAt (0,0)):=by simp [qc7]
theorem thisR_set {n k:Nat} (h:k<n):(qc7 n k).set k (owAt (3,(k:Int)))=qc7 n (k+1):=by
 unfold qc7
 rw [List.set_append_right _ _ (by simp),List.range_succ,List.map_append,List.append_assoc]
 congr 1
 obtain⟨m,hm⟩:∃m,n-k=m+1:=⟨n-k-1,by omega⟩
 rw [hm,show n-(k+1)=m by omega]
 simp [List.replicate_succ]
theorem thisR_nr (n k:Nat):((qc7 n k).all fun r=>r.all (nrA 2))=true:=by
 unfold qc7
 rw [List.all_append,Bool.and_eq_true,List.all_eq_true,List.all_eq_true]
 refine⟨fun r hr=>?_,fun r hr=>?_⟩
 ·rw [List.mem_map] at hr
  obtain⟨i,_,rfl⟩:=hr
  rfl
 ·rw [List.eq_of_mem_replicate hr];rfl
theorem pThisL (c:Cs) (hc:c.params.length≤1048576):qaa Tryz.prog 38 [.r (Cs.at c)] (.a (.sl ((qbl c).map owAt))):=by
 have hw:IntKind.i64.wrap ((c.params.length:Int)+1)=((c.params.length+1:Nat):Int):=qap (by omega)
 generalize hn:c.params.length+1=n at *
 have hn1:n≤1048577:=by omega
 refine qaa.go Tryz.func38 rfl Tryz.ntmps38 rfl rfl rfl (fun C hro=>?_)
 have fx:=trivial
 replace fx:=ai15 hw trivial
 repeat' (first|refine stp [0,1,2,3,4,11,12,13] ?_|(refine RS.mS ?_;refine rnx ?_)|fail)
 rw [←thisR_0]
 refine WP.loopX (α:={ k:Nat // k≤n }) (fun y=>[(1,.a (.ptr 0 0)),(3,.a (.own 1 0)),(11,.a (.v (.int .i64 (n:Nat)))),(12,.a (.v (.int .i64 (y.1:Nat))))]) (fun y=>[.cell (Cs.at c),.arr 0 2 (qc7 n y.1)]) (fun y=>n-y.1) ⟨0,by omega⟩ (by simp only [qal,go_sem,simprocAttr];first|done|rfl) rfl ?_
 rintro⟨k,hk⟩
 dsimp only
 have hl:=thisR_len hk
 by_cases hlt:k<n
 ·have hlt2:decide ((k:Int)<(n:Int))=true:=decide_eq_true (by omega)
  have hwu:=qap (k:=k) (by omega)
  have hk0:((0:Int)≤(k:Int))=True:=eq_true (by omega)
  have hk1:((k:Int)<(n:Int))=True:=eq_true (by omega)
  have hrow:(qc7 n k)[k]? = some (owAt (0,0)):=by
   unfold qc7
   rw [List.getElem?_append_right (by simp),List.getElem?_replicate]
   simp;omega
  have how:owAt (0,0)=[.v (.int .i64 0),.v (.int .i64 0)]:=rfl
  have hset:(qc7 n k).set k [.v (.int .i64 3),.v (.int .i64 (k:Nat))]=qc7 n (k+1):=thisR_set hlt
  have hix:∀q2,ixS [.cell (Cs.at c),.arr 0 2 (qc7 n k)] (some 2) q2 (.a (.own 1 0)) (.a (.v (.int .i64 (k:Nat))))=some (.a (.ep 1 0 k 0)):=fun q2=>qjr rfl rfl (by omega) rfl
  replace fx:=ai15 hix (ai15 hlt2 (ai15 hwu (ai15 hl (ai15 hk0 (ai15 hk1 (ai15 hrow (ai15 hset (ai15 how trivial))))))))
  repeat' (first|refine stp [0,1,2,3,4,11,12,13] ?_|(refine RS.sE ?_;refine rnx ?_)|fail)
  refine⟨⟨k+1,by omega⟩,[],by dsimp only;omega,by simp only [qal,go_sem,simprocAttr],rfl,by simp only [nrE,nrD,List.all_cons,List.all_nil,go_sem,simprocAttr],?_⟩
  simp only [go_sem,simprocAttr,qda (Cs.cl c),thisR_nr,List.length_append]
 ·obtain rfl:k=n:=by omega
  have hlt2:decide ((k:Int)<(k:Int))=false:=decide_eq_false (by omega)
  have how:owAt (0,0)=[.v (.int .i64 0),.v (.int .i64 0)]:=rfl
  have hk1:((0:Int)<(k:Int))=True:=eq_true (by omega)
  obtain⟨row,hrow⟩:∃row,(qc7 k k)[0]? = some (owAt (3,0)):=⟨0,by subst hn;simp [qc7,List.range_succ_eq_map]⟩
  have hrw:owAt (3,0)=[.v (.int .i64 3),.v (.int .i64 0)]:=rfl
  have hix:∀q2,ixS [.cell (Cs.at c),.arr 0 2 (qc7 k k)] (some 2) q2 (.a (.own 1 0)) (.a (.v (.int .i64 0)))=some (.a (.ep 1 0 0 0)):=fun q2=>qjr (j:=0) rfl rfl (by omega) rfl
  replace fx:=ai15 hix (ai15 hlt2 (ai15 hl (ai15 how (ai15 hk1 (ai15 hrow (ai15 hrw trivial))))))
  repeat' (first|refine stp [0,1,2,3,4,11,12,13] ?_|(refine RS.sE ?_;refine rnx ?_)|fail)
  refine congrArg (fun x=>D.a (A.sl x)) ?_
  subst hn
  simp [qc7,qbl,List.range_succ_eq_map,owAt]
end Go.Proofs.YthkojpnjdpbcgaaGreatDoor
