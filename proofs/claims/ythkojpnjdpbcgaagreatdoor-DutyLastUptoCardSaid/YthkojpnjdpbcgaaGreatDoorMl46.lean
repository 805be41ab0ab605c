/- field.All and field.Of on plain data. Conditions: at most 2^20 fields. -/
import Derived.Test.YthkojpnjdpbcgaaGreatDoorMl45
set_option linter.unusedVariables false
set_option maxRecDepth 100000
set_option maxHeartbeats 8000000
set_option linter.unusedSimpArgs false
namespace Go.Proofs.YthkojpnjdpbcgaaGreatDoor
open Go.RowKit
def bwdN (l:List Int):List (List D):=(List.range l.length).map fun k=>[.a (.v (.int .i64 ((l.length-1-k:Nat):Int))),.a (.v (.int .i64 ((l[l.length-1-k]?).getD 0)))]
theorem bwdN_at {l:List Int} {k:Nat} {z:Int} (hk:k<l.length) (hz:l[l.length-1-k]? = some z):(bwdN l)[k]? = some [.a (.v (.int .i64 ((l.length-1-k:Nat):Int))),.a (.v (.int .i64 z))]:=by
 unfold bwdN
 rw [List.getElem?_map,List.getElem?_range hk,Option.map_some,hz];rfl
theorem qnj {l:List Int} {k:Nat} {xs:List D} (h:(bwdN l)[k]? = some xs):∃z,l[l.length-1-k]? = some z∧k<l.length∧xs=[.a (.v (.int .i64 ((l.length-1-k:Nat):Int))),.a (.v (.int .i64 z))]:=by
 have hk:k<l.length:=by have:=(List.getElem?_eq_some_iff.1 h).1;simpa [bwdN] using this
 obtain⟨z,hz⟩:∃z,l[l.length-1-k]? = some z:=⟨_,List.getElem?_eq_getElem (by omega)⟩
 rw [bwdN_at hk hz] at h
 injection h with h
 exact⟨z,hz,hk,h.symm⟩
theorem pBwdI (l:List Int):qaa Tryz.prog 206 [.a (.sl (l.map inAt))] (.a (.fn 239 [.ref [.sl (l.map inAt)] 0])):=by
 refine qaa.go Tryz.func206 rfl Tryz.ntmps206 rfl rfl rfl (fun C hro=>?_)
 have fx:=trivial
 repeat' (first|refine WP.seq ?_|(refine WP.reg [0,1,2] (by kernel_rfl) (by kernel_rfl) ?_;refine RS.run2 (by simp only [go_sem,simprocAttr,qab];rfl) ?_;simp only [qai])|(refine RS.finT (by simp only [go_sem,simprocAttr];rfl) ?_))
 refine WP.freeze 0 [.sl (l.map inAt)] [(2,.a (.fn 239 [.ref [.sl (l.map inAt)] 0]))] rfl rfl ?_ ?_
 ·simp only [qal,go_sem,simprocAttr]
 refine WP.ret ?_;(try simp only [qbc,qa0]);refine ret1 rfl (by simp only [go_sem,simprocAttr,qab];first|done|rfl) (by simp only [go_sem,qab]) ?_
 rfl
theorem pBwdI1 (l:List Int) (hl:l.length≤1048576):DIt Tryz.prog 239 [.ref [.sl (l.map inAt)] 0] (bwdN l):=by
 intro E hE
 have hbl:(bwdN l).length=l.length:=by simp [bwdN]
 have hw0:IntKind.i64.wrap ((l.length:Nat)-1:Int)=(l.length:Int)-1:=qbk (by omega) (by omega)
 refine DG.intro Tryz.func239 rfl Tryz.ntmps239 rfl rfl rfl (fun V0 Kb Nx=>?_)
 repeat' (first|refine WP.seq ?_|(refine WP.reg (1000000::[0,1,3,8,18]) (by kernel_rfl) (by kernel_rfl) ?_;refine RS.run2 (by simp only [go_sem,simprocAttr,hw0];rfl) ?_;simp only [qai])|(refine RS.finT (by simp only [go_sem,simprocAttr];rfl) ?_)|refine WP.block ?_)
 refine WP.loop (α:={ k:Nat // k≤l.length }) (fun y=>[(0,yv E.l),(1,.a (.ref [.sl (l.map inAt)] 0)),(3,.a (.v (.int .i64 ((l.length:Int)-1-(y.1:Nat))))),(1000000,.a (.v (.int .i64 (y.1:Nat))))]) (fun _=>[]) (fun y=>l.length-y.1) ⟨0,by omega⟩ (by simp only [qal,go_sem,simprocAttr];first|done|simp) rfl ?_
 rintro⟨k,hk⟩
 dsimp only
 by_cases hlt:k<l.length
 ·have hge:decide ((l.length:Int)-1-(k:Nat)≥0)=true:=decide_eq_true (by omega)
  have hj:(l.length:Int)-1-(k:Nat)=((l.length-1-k:Nat):Int):=by omega
  obtain⟨z,hz⟩:∃z,l[l.length-1-k]? = some z:=⟨_,List.getElem?_eq_getElem (by omega)⟩
  have hix:∀q2,ixD (some 1) q2 (.a (.sl (l.map inAt))) (.a (.v (.int .i64 ((l.length-1-k:Nat):Int))))=some (.a (.ref (inAt z) 0)):=fun q2=>qaq rfl (by rw [List.getElem?_map,hz];rfl) (by simp only [go_sem])
  have hw1:IntKind.i64.wrap (((l.length-1-k:Nat):Int)-1)=(l.length:Int)-1-((k+1:Nat):Int):=(qbk (by omega) (by omega)).trans (by omega)
  have hgs:decide (((l.length-1-k:Nat):Int)≥0)=true:=decide_eq_true (by omega)
  rw [hj]
  repeat' (first|refine WP.seq ?_|(refine WP.reg (1000000::[0,1,3,8,18]) (by kernel_rfl) (by kernel_rfl) ?_;refine RS.run2 (by simp only [go_sem,simprocAttr,hix,hw1,hgs];rfl) ?_;simp only [qai])|(refine RS.finT (by simp only [go_sem,simprocAttr];rfl) ?_)|refine WP.block ?_|((refine WP.cond rfl (by simp only [go_sem,simprocAttr,hgs];rfl) (fun hc=>?_) (fun hc=>?_))<;>try exact Bool.noConfusion hc)|(refine WP.skip ?_;(try simp only [qab,qac]))|(refine RS.yield (by simp only [go_sem,simprocAttr,hix];done) (by simp only [go_sem,simprocAttr,hix];rfl) (by simp only [go_sem,simprocAttr,hix];rfl) (by simp only [go_sem,simprocAttr,List.all_cons,List.all_nil,Bool.and_true,hix];done) (by rw [hE];exact bwdN_at hlt hz) ?_ ?_;all_goals refine RS.run2 (by simp only [go_sem,simprocAttr,hix];rfl) ?_;simp only [qai])|(refine WP.ret ?_;(try simp only [qbc,qa0]);(refine retG0 ?_);simp only [go_sem,simprocAttr,hix]))
  ·refine⟨⟨k+1,by omega⟩,by dsimp only;omega,?_,rfl⟩
   simp only [qal,go_sem,simprocAttr,and_true,and_self]
  ·exact .inr trivial
 ·obtain rfl:k=l.length:=by omega
  have hge:decide ((l.length:Int)-1-(l.length:Nat)≥0)=false:=decide_eq_false (by omega)
  repeat' (first|refine WP.seq ?_|(refine WP.reg (1000000::[0,1,3,8,18]) (by kernel_rfl) (by kernel_rfl) ?_;refine RS.run2 (by simp only [go_sem,simprocAttr,hge];rfl) ?_;simp only [qai])|(refine RS.finT (by simp only [go_sem,simprocAttr];rfl) ?_)|((refine WP.cond rfl (by simp only [go_sem,simprocAttr,hge];rfl) (fun hc=>?_) (fun hc=>?_))<;>try exact Bool.noConfusion hc)|(refine WP.exit ?_;(try simp only [qds,qcz,qcy,ne_eq,Nat.reduceEqDiff,not_false_eq_true,reduceCtorEq,qab,qac]))|fail)
  exact retG0n (.inl (by simp only [go_sem,hbl]))
def stoA (p:List Cs):List Fs→List Bx
 | []=>[.cell [.sl (p.map Cs.at)],.cell [.nl]]
 | f::r=>[.cell [.sl (p.map Cs.at)],.cell [.own 3 r.length],.cell (Vr.at f.var),.arr r.length 14 ((f::r).map Fs.at)]
theorem stoA_le (p:List Cs) (R X:List Fs):(stoA p R).length≤(stoA p (R++X)).length:=by
 cases R with
 | cons=>exact Nat.le_refl _
 | nil=>cases X<;>exact Nat.le_of_ble_eq_true rfl
theorem qlm (p:List Cs) (R:List Fs):nrS (stoA p R).length (stoA p R)=true:=by
 cases R with
 | nil=>rfl
 | cons f r=>simp only [stoA,go_sem,simprocAttr];first|done|rfl
theorem allT_app (p:List Cs) (l:List Int) (t:Nat):∃X,allT p l (t+1)=allT p l t++X:=by
 unfold allT
 rw [List.take_add_one,List.flatMap_append]
 exact⟨_,rfl⟩
theorem pfAll (p:List Cs) (s:List UInt8) (hn:p.length≤1048576) (hF:qaf (fun c=>c.fields.length) p≤1048576):qaa Tryz.prog 173 [.a (.sl (p.map Cs.at)),.a (.v (.string (bs s)))] (.a (.sl ((allF p s).map Fs.at))):=by
 have hch:=pChain p s hn
 have hok:=qdd p s
 unfold allF
 rw [←qnr]
 generalize qbs p s=l at hch hok ⊢
 have hll:=hok.len
 have hTl:=fun t=>Nat.le_trans (qnq hok t) hF
 refine qaa.goV Tryz.func173 rfl Tryz.ntmps173 rfl rfl rfl (fun C hro hCV=>?_)
 have fx:=trivial
 repeat' (first|refine stp [0,1,2,4,5,7,9,13,14,15,20,21,22,23] ?_|(refine stc (r1:=by first|exact hch|exact pBwdI l) (r2:=?_);refine rnx ?_)|fail)
 refine WP.range2 [(2,.a (.ptr 0 0)),(5,.a (.ptr 1 0))] (fun t=>stoA p (allT p l t)) [] (bwdN l) (fun _=>.junk) (fun _=>True) trivial hro (by simp only [go_sem,simprocAttr]) rfl ?_ rfl (.inl rfl) (.inl rfl) rfl rfl (by rw [hCV];exact Nat.zero_le _) (fun t=>?_) (fun t=>qlm p _) rfl (by simp only [go_sem,simprocAttr]<;>rfl) rfl rfl (pBwdI1 l (by omega)).toM (.inl rfl) rfl (fun k xs hx=>?_) (fun C1 t xs hCE hon hx _=>?_) (fun _=>?_)
 ·simp only [qal,go_sem,simprocAttr]
 ·obtain⟨X,hX⟩:=allT_app p l t
  rw [hX];exact stoA_le p _ X
 ·obtain⟨z,_,_,rfl⟩:=qnj hx
  rfl
 ·obtain⟨i,hi,hlt,rfl⟩:=qnj hx
  obtain⟨j,c,rfl,hj⟩:=hok.2 i (lm4 hi)
  have hcm:c∈p:=lm4 hj
  have hcf:c.fields.length≤1048576:=Nat.le_trans (qau (f:=fun c:Cs=>c.fields.length) hcm) hF
  have hja:∀q2,ixD (some 7) q2 (.a (.sl (p.map Cs.at))) (.a (.v (.int .i64 (j:Int))))=some (.a (.ref (Cs.at c) 0)):=fun q2=>qaq rfl (by rw [List.getElem?_map,hj];rfl) (by simp only [go_sem])
  have hsu:=allT_succ hi hlt hj
  have hTt:=hTl (t+1)
  rw [hsu] at hTt
  rw [hsu]
  generalize allT p l t=R0 at hsu hTt ⊢
  simp only [bindE_2]
  have hst0:∃row1 rest,stoA p R0=.cell [.sl (p.map Cs.at)]::.cell row1::rest:=by cases R0<;>exact⟨_,_,rfl⟩
  obtain⟨row1,rest,hst0⟩:=hst0
  rw [hst0]
  replace fx:=ai15 hja trivial
  repeat' (first|refine stp [0,1,2,4,5,7,9,13,14,15,20,21,22,23] ?_|fail)
  intro C2 _ _
  replace fx:=ai15 hja trivial
  repeat' (first|refine stp [0,1,2,4,5,7,9,13,14,15,20,21,22,23] ?_|fail)
  rw [←hst0]
  refine WP.loopG (α:={ k:Nat // k≤c.fields.length }) (fun y=>[(2,.a (.ptr 0 0)),(5,.a (.ptr 1 0)),(7,.a (.v (.int .i64 (j:Int)))),(20,.a (.sl (c.fields.map Vr.at))),(21,.a (.v (.int .i64 (c.fields.length:Nat)))),(22,.a (.v (.int .i64 (y.1:Nat))))]) (fun y=>stoA p (R0++(c.fields.take y.1).map (mkF c))) (fun y=>c.fields.length-y.1) ⟨0,by omega⟩ (by simp only [qal,go_sem,simprocAttr];first|done|rfl) (by simp only [List.take_zero,List.map_nil,List.append_nil]) ?_
  rintro⟨k,hk⟩
  dsimp only
  by_cases hlk:k<c.fields.length
  ·replace hlt:=hlk
   have hlt2:decide ((k:Int)<((c.fields.length:Nat):Int))=true:=decide_eq_true (by omega)
   obtain⟨z,hz⟩:∃z,c.fields[k]? = some z:=⟨_,List.getElem?_eq_getElem hlt⟩
   have hzm:z∈c.fields:=lm4 hz
   have hzt:=qao hz
   have hix:∀q2,ixD (some 13) q2 (.a (.sl (c.fields.map Vr.at))) (.a (.v (.int .i64 (k:Int))))=some (.a (.ref (Vr.at z) 0)):=fun q2=>qaq rfl (by rw [List.getElem?_map,hz];rfl) (by simp only [go_sem])
   have hwu:=qap (k:=k) (by omega)
   have hz0:R0++((c.fields.take (k+1)).map (mkF c))=(R0++(c.fields.take k).map (mkF c))++[⟨c.name,z⟩]:=by rw [hzt,List.map_append,List.append_assoc];rfl
   have hlen1:(R0++(c.fields.take k).map (mkF c)).length≤1048576:=by
    refine Nat.le_trans ?_ hTt
    simp only [List.length_append,List.length_map,List.length_take];omega
   generalize hR:R0++(c.fields.take k).map (mkF c)=R at hz0 hlen1 ⊢
   cases R with
   | nil =>
    rw [stoA]
    replace fx:=ai15 hlt2 (ai15 hix (ai15 hwu (ai15 hja trivial)))
    repeat' (first|refine stp [0,1,2,4,5,7,9,13,14,15,20,21,22,23] ?_|refine RWL.fr ?_|refine RWL.wt ?_|refine RWL.lS ?_|refine RWL.aN ?_|(refine' WP.dl (id:=7) [0,0,0,6,14,30,0,126,254,511,1023] [0,1,2,4,5,7,9,13,14,15,20,21,22,23] [9,10] [(9,_),(10,_)] ?_)|refine RWL.re ?_ ?_|refine RdO.oz|fail)
    refine⟨⟨k+1,by omega⟩,[],by dsimp only;omega,by dsimp only;rw [hz0];exact Nat.le_of_ble_eq_true rfl,by simp only [qal,go_sem,simprocAttr];try rfl,by dsimp only;rw [hz0];rfl,by dsimp only;rw [hz0];rfl,by dsimp only;rw [hz0];exact qlm p [⟨c.name,z⟩]⟩
   | cons f r =>
    rw [stoA]
    have hkk:(r.length==r.length)=true:=beq_self_eq_true _
    obtain⟨R1,hR1⟩:∃R1,R1=f::r:=⟨_,rfl⟩
    have hlen2:R1.length=r.length+1:=by rw [hR1];rfl
    have hR2:[Bx.cell [.sl (p.map Cs.at)],.cell [.own 3 (r.length+1)],.cell (Vr.at f.var),.arr (r.length+1) 14 (R1.map Fs.at++[Fs.at ⟨c.name,z⟩])]=stoA p (f::r++[⟨c.name,z⟩]):=by rw [hR1];simp [stoA]
    rw [show (f::r).length≤1048576↔R1.length≤1048576 by rw [hR1]] at hlen1
    rw [show (f::r).map Fs.at=R1.map Fs.at by rw [hR1]]
    clear hR1
    replace fx:=ai15 hlt2 (ai15 hix (ai15 hwu (ai15 hja (ai15 hkk trivial))))
    repeat' (first|refine stp [0,1,2,4,5,7,9,13,14,15,20,21,22,23] ?_|refine RWL.fr ?_|refine RWL.wt ?_|refine RWL.lS ?_|refine RWL.aO ?_|(refine' WP.dl (id:=7) [0,0,0,6,14,30,0,126,254,511,1023] [0,1,2,4,5,7,9,13,14,15,20,21,22,23] [9,10] [(9,_),(10,_)] ?_)|refine RWL.re ?_ ?_|refine RdO.oz|fail)
    refine⟨⟨k+1,by omega⟩,[.cell (Vr.at z)],by dsimp only;omega,by dsimp only;rw [hz0];exact Nat.le_refl _,by simp only [qal,go_sem,simprocAttr];try rfl,by dsimp only;rw [hz0,←hR2];rfl,by dsimp only;rw [hz0];rfl,by dsimp only;rw [hz0];exact qlm p (f::r++[⟨c.name,z⟩])⟩
  ·obtain rfl:k=c.fields.length:=by omega
   have hlt2:decide ((c.fields.length:Int)<(c.fields.length:Int))=false:=decide_eq_false (by omega)
   have hfull:c.fields.take c.fields.length=c.fields:=List.take_of_length_le (Nat.le_refl _)
   rw [hfull]
   replace fx:=ai15 hlt2 trivial
   repeat' (first|refine stp [0,1,2,4,5,7,9,13,14,15,20,21,22,23] ?_|fail)
   exact⟨trivial,by simp only [go_sem,simprocAttr],[],(List.append_nil _).symm⟩
 ·have hbl:(bwdN l).length=l.length:=by simp [bwdN]
  rw [hbl]
  generalize allT p l l.length=R
  cases R with
  | nil =>
   rw [stoA]
   repeat' (first|refine stp [0,1,2,4,5,7,9,13,14,15,20,21,22,23] ?_|fail)
   rfl
  | cons f r =>
   have hkk:(r.length==r.length)=true:=beq_self_eq_true _
   rw [stoA]
   replace fx:=ai15 hkk trivial
   repeat' (first|refine stp [0,1,2,4,5,7,9,13,14,15,20,21,22,23] ?_|fail)
   rfl
theorem pfdOf (p:List Cs) (hn:p.length≤1048576) (hF:qaf (fun c=>c.fields.length) p≤1048576):FdOf p:=fun s n=>pfOf p s n hF (pfAll p s hn hF)
end Go.Proofs.YthkojpnjdpbcgaaGreatDoor
