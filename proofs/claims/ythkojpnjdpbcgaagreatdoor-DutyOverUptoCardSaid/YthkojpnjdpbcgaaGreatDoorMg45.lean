/- Rows of nothing, written out. Conditions: none. -/
import Derived.Test.YthkojpnjdpbcgaaGreatDoorMg6
import Derived.Test.YthkojpnjdpbcgaaGreatDoorMg35
import Derived.Test.YthkojpnjdpbcgaaGreatDoorMg33
import Derived.Test.YthkojpnjdpbcgaaGreatDoorMg41
import Derived.Test.YthkojpnjdpbcgaaGreatDoorMg24
import Derived.Test.YthkojpnjdpbcgaaGreatDoorMg42
import Derived.Test.YthkojpnjdpbcgaaGreatDoorMg44
set_option linter.unusedVariables false
set_option maxRecDepth 100000
set_option maxHeartbeats 8000000
set_option linter.unusedSimpArgs false
namespace Go.Proofs.YthkojpnjdpbcgaaGreatDoor
section
theorem zrOw:owAt (0,0)=[A.v (.int .i64 0),.v (.int .i64 0)]:=rfl
end
section
theorem pr15This (c:Cs) (hc:c.params.length≤1048576):qab Tryz.prog 43 [.r (Cs.at c)] (.a (.sl ((qcj c).map owAt))):=by
 have z1:=zrOw
 unfold qcj
 generalize hn:c.params.length=n at hc ⊢
 refine qab.go Tryz.func43 rfl Tryz.ntmps43 rfl rfl rfl (fun C hro=>?_)
 have fx:=trivial
 replace fx:=ai25 z1 trivial
 repeat' (first|refine stp [0,1,2,3,4,11] ?_|(refine RS.aO ?_;refine rnx ?_)|(refine RS.aN ?_;refine rnx ?_)|(refine RS.li ?_;refine rnx ?_)|(refine RS.aE ?_;refine rnx ?_)|(refine RS.aK ?_;refine rnx ?_)|(refine RS.lC ?_;refine rnx ?_)|(refine RS.bC ?_;refine rnx ?_)|refine WP.cn (fun hc=>?_) (fun hc=>?_)|fail)
 refine WP.loopX (α:={ k:Nat // k≤n }) (fun y=>[(1,.a (.ptr 0 0)),(3,.a (.own 1 y.1)),(4,.a (.v (.int .i64 (y.1:Nat))))]) (fun y=>[.cell (Cs.at c),.arr y.1 2 ((((2,0)::(List.range y.1).map fun i=>(3,((i+1:Nat):Int))):List (Int×Int)).map owAt)]) (fun y=>n-y.1) ⟨0,by omega⟩ (by simp only [qai,go_sem,simprocAttr];first|done|rfl) rfl ?_
 rintro⟨k,hk⟩
 dsimp only
 have hkk:(k==k)=true:=beq_self_eq_true k
 by_cases hlt:k<n
 ·have hlt2:decide ((k:Int)<(n:Int))=true:=decide_eq_true (by omega)
  have hwu:=qaz (k:=k) (by omega)
  have hrl:(((((2,0)::(List.range k).map fun i=>(3,((i+1:Nat):Int))):List (Int×Int)).map owAt)).length=k+1:=by simp
  have hrr:((((2,0)::(List.range k).map fun i=>(3,((i+1:Nat):Int))):List (Int×Int)).map owAt)++[[.v (.int .i64 3),.v (.int .i64 ((k+1:Nat):Int))]]=((((2,0)::(List.range (k+1)).map fun i=>(3,((i+1:Nat):Int))):List (Int×Int)).map owAt):=by rw [List.range_succ];simp [owAt]
  generalize ((((2,0)::(List.range k).map fun i=>(3,((i+1:Nat):Int))):List (Int×Int)).map owAt)=R at hrl hrr ⊢
  replace fx:=ai25 hlt2 (ai25 hwu (ai25 hn (ai25 z1 (ai25 hrl (ai25 hrr (ai25 hkk trivial))))))
  repeat' (first|refine stp [0,1,2,3,4,11] ?_|(refine RS.aO ?_;refine rnx ?_)|(refine RS.aN ?_;refine rnx ?_)|(refine RS.ls ?_;refine rnx ?_)|(refine RS.aE ?_;refine rnx ?_)|(refine RS.aK ?_;refine rnx ?_)|(refine RS.lC ?_;refine rnx ?_)|(refine RS.bC ?_;refine rnx ?_)|refine WP.cn (fun hc=>?_) (fun hc=>?_)|fail)
  refine⟨⟨k+1,by omega⟩,[],by dsimp only;omega,by simp only [qai,go_sem,simprocAttr],by first|rfl|(simp only [hrr,go_sem,simprocAttr];done)|(rw [←hrr];rfl),by simp only [nrE,nrD,List.all_cons,List.all_nil,go_sem,simprocAttr],by simp only [nrE,nrD,List.all_cons,List.all_nil,go_sem,simprocAttr,Cs.nr]⟩
 ·obtain rfl:k=n:=by omega
  have hlt2:decide ((k:Int)<(k:Int))=false:=decide_eq_false (by omega)
  replace fx:=ai25 hlt2 (ai25 hn (ai25 hkk trivial))
  repeat' (first|refine stp [0,1,2,3,4,11] ?_|(refine RS.aO ?_;refine rnx ?_)|(refine RS.aN ?_;refine rnx ?_)|(refine RS.ls ?_;refine rnx ?_)|(refine RS.aE ?_;refine rnx ?_)|(refine RS.aK ?_;refine rnx ?_)|(refine RS.lC ?_;refine rnx ?_)|(refine RS.bC ?_;refine rnx ?_)|refine WP.cn (fun hc=>?_) (fun hc=>?_)|fail)
  rfl
end
section
set_option maxRecDepth 100000
theorem goD_len {p:List Cs} {tn:List UInt8} (hz:∀c∈p,c.above.length<1048576):∀(ch:List Int) (l:List (Int×Int)),l.length≤1048576→(goD p tn ch l).length≤1048576
 | [],l,h=>h
 | i::r,l,h=>by
  rw [goD]
  cases qdj p i==tn with
  | true=>exact h
  | false =>
   rw [cond_false]
   refine goD_len hz r _ ?_
   unfold qja
   rw [List.length_cons,qfb]
   cases hi:p[i.toNat]? with
   | none=>simp
   | some c=>have:=hz c (lm4 hi);simp only [Option.map_some,Option.getD_some];omega
theorem qif {p:List Cs} {fr tn:List UInt8} {l:List (Int×Int)} {ar:Int} (hz:∀c∈p,c.above.length<1048576) (hl:l.length≤1048576):(qb5 p fr l tn ar).1.length≤1048576:=by
 unfold qb5
 cases (bif !qgd p fr tn then true else (l.length:Int) != ar+1) with
 | true=>exact Nat.zero_le _
 | false=>exact goD_len hz _ _ hl
def qh5 (m o:Me) (l:List (Int×Int)) (k:Nat):List Du:=⟨6,m.ret,qgx o.ret l⟩::(List.zipWith (fun a b:Vr=>Du.mk 6 a.ty (qgx b.ty l)) m.params o.params).take k
def qhc (p:List Cs) (c:Cs) (m:Me):List Du×Bool :=
 bif !(fdS (qbl p c.name m.name)).2 then ([],true) else
 bif (bif !(qb5 p c.name (qcj c) (fdS (qbl p c.name m.name)).1.cls (qaq p c.name)).2 then true else (m.params.length:Int) != (fdS (qbl p c.name m.name)).1.m.params.length) then ([],false) else
 (qh5 m (fdS (qbl p c.name m.name)).1.m (qb5 p c.name (qcj c) (fdS (qbl p c.name m.name)).1.cls (qaq p c.name)).1 m.params.length,true)
theorem qiw {m o:Me} {l:List (Int×Int)} {k:Nat} {a b:Vr} (ha:m.params[k]? = some a) (hb:o.params[k]? = some b):qh5 m o l (k+1)=qh5 m o l k++[⟨6,a.ty,qgx b.ty l⟩]:=by
 unfold qh5
 rw [List.take_add_one,List.getElem?_zipWith,ha,hb];rfl
theorem qhq {m o:Me} {l:List (Int×Int)} {k:Nat}:(qh5 m o l k).length≤m.params.length+1:=by
 unfold qh5
 rw [List.length_cons,List.length_take,List.length_zipWith];omega
theorem qc7 {p:List Cs} {c:Cs} (hc:c∈p) (hzz:qah Cs.sz p≤1048576):c.above.length<1048576∧c.params.length<1048576:=by
 have h1:=qbi (f:=Cs.sz) hc
 have h2:=qas (f:=fun s:List UInt8=>s.length+1) (fun _=>Nat.succ_pos _) c.params
 have h3:Cs.sz c=1+c.name.length+c.super.length+qah (fun s:List UInt8=>s.length+1) c.params+c.above.length+qah Vr.sz c.fields+qah Me.sz c.methods:=rfl
 omega
attribute [local irreducible] qb5 qgx qbl qcj qaq
theorem pdOver (p:List Cs) (c:Cs) (m:Me) (hc:c∈p) (hm:m.params.length≤1048576) (hzz:qah Cs.sz p≤1048576):qab Tryz.prog 14 [.a (.sl (p.map Cs.at)),.r (Cs.at c),.r (Me.at m)] (.t [.a (.sl ((qhc p c m).1.map Du.at)),.a (.v (.bool (qhc p c m).2))]):=by
 have hlen:=qas Cs.sz_pos p
 have hz:∀c∈p,c.above.length<1048576:=fun c hc=>(qc7 hc hzz).1
 have hcp:=(qc7 hc hzz).2
 have h1:=pmOver p c.name m.name hzz
 have h2:=pThisL c (by omega)
 have hwr:=qhw (p:=p) c.name fun c hc=>by have:=(qc7 hc hzz).2;omega
 have h3:=pRaise p c.name (qcj c) (fdS (qbl p c.name m.name)).1.cls (by omega) (by simp [qcj];omega) (by simp [qcj]) hz hwr
 have h4l:=qif (p:=p) (fr:=c.name) (tn:=(fdS (qbl p c.name m.name)).1.cls) (l:=qcj c) (ar:=qaq p c.name) hz (by simp [qcj];omega)
 unfold qhc
 generalize fdS (qbl p c.name m.name)=R at *
 obtain⟨f,fb⟩:=R
 dsimp only at *
 generalize qb5 p c.name (qcj c) f.cls (qaq p c.name)=rr at *
 generalize qcj c=tl at *
 obtain⟨rl,rb⟩:=rr
 dsimp only at *
 have h4:=fun t=>pkWith t rl h4l
 refine qab.vx [0,1,2,4,5,6,7,8,9,10,11,12,13,14,25,48,59,60,61,62] Tryz.func14 rfl Tryz.ntmps14 rfl rfl rfl (fun C hro hst=>?_)
 repeat' ((conv=>whnf);first|(show VH ..;refine .go ?_)|(show VD ..;refine VD.dl [39] ?_)|(show VK ..;refine xK ?_)|(show VB ..;refine VB.mk (fun hc=>?_) fun hc=>?_)|(show VC ..;first|refine xC (fun hg=>by first|exact h1|exact h2|exact h3|exact h4 _) ?_|refine xL (fun hg=>by first|exact h1|exact h2|exact h3|exact h4 _) ?_|(refine xM [3] (owe2n _ _ _) ?_))|(show VCc ..;refine xO (fun hg=>by first|exact h1|exact h2|exact h3|exact h4 _) ?_)|(show VI ..;refine xJ ?_)|(show VG ..;refine xG ?_)|(show VA ..;refine xA ?_)|(show VZ ..;refine .s ?_)|(show VY ..;refine .s ?_)|(show VW ..;first|refine xW1 ?_|refine xW2 ?_)|(show VE ..;refine .mk ?_))
 ·rw [hc];rfl
 ·rename_i hc1
  rw [hc1,cond_false]
  simp only [List.length_map] at hc
  rw [hc];rfl
 ·rename_i hc1
  rw [hc1,cond_false]
  simp only [List.length_map] at hc
  rw [hc,cond_false]
  have hlen2:m.params.length=f.m.params.length:=by
   cases rb with
   | false=>cases hc
   | true=>simp at hc;omega
  conv=>whnf
  refine VL.each m.params Vr.at (fun k=>[(8,.a (.ptr 2 0)),(10,.a (.sl (rl.map owAt))),(12,.a (.ptr 3 0)),(59,.a (.sl (m.params.map Vr.at))),(60,.a (.v (.int .i64 ((m.params.map Vr.at).length:Nat)))),(61,.a (.v (.int .i64 (k:Nat))))]) (fun k=>[.cell (Cs.at c),.cell (Me.at m),.cell (Fd.at f),.cell [.own 5 k],.gone,.arr k 23 ((qh5 m f.m rl k).map Du.at)]) (fun _=>True) ⟨rfl,rfl,rfl,rfl,rfl,rfl,trivial⟩ rfl trivial (by omega) ?_ ?_
  ·intro k z hz2 hd htk hlt _ hlt2 hix hw
   obtain⟨b,hb⟩:∃b,f.m.params[k]? = some b:=⟨_,List.getElem?_eq_getElem (by omega)⟩
   have hix2:(f.m.params.map Vr.at)[k]? = some (Vr.at b):=by rw [List.getElem?_map,hb];rfl
   have hq:=qhq (m:=m) (o:=f.m) (l:=rl) (k:=k)
   have hsn:=qiw (l:=rl) hz2 hb
   repeat' ((conv=>whnf);first|(show VH ..;refine .go ?_)|(show VD ..;refine VD.dl [39] ?_)|(show VK ..;refine xK ?_)|(show VB ..;first|refine VB.tt (by first|exact hlt2) ?_|refine VB.ff (by first|exact hlt2) ?_|refine VB.mk (fun hc=>?_) fun hc=>?_)|(show VC ..;first|refine xC (fun hg=>by first|exact h4 _) ?_|refine xL (fun hg=>by first|exact h4 _) ?_|(refine xM [3,5] (owe2o 6 z.ty (qgx b.ty rl) k (qh5 m f.m rl k) (by omega)) ?_))|(show VCc ..;refine xO (fun hg=>by first|exact h4 _) ?_)|(show VI ..;first|refine xI (fun _=>by first|exact hix|exact hix2) ?_|refine xJ ?_)|(show VG ..;refine xG ?_)|(show VA ..;refine xA ?_)|(show VZ ..;refine .s ?_)|(show VY ..;refine .s ?_)|(show VW ..;first|refine xW1 ?_|refine xW2 ?_)|(show VE ..;refine .mk ?_))
   conv=>whnf
   refine⟨trivial,[.cell (Vr.at z)],⟨rfl,rfl,rfl,rfl,rfl,congrArg (fun z=>D.a (.v (.int .i64 z))) hw,trivial⟩,?_,rfl,rfl⟩
   dsimp only
   rw [hsn];rfl
  ·intro _ hlt2
   repeat' ((conv=>whnf);first|(show VH ..;refine .go ?_)|(show VD ..;refine VD.dl [99999] ?_)|(show VK ..;refine xK ?_)|(show VB ..;first|refine VB.tt (by exact hlt2) ?_|refine VB.ff (by exact hlt2) ?_|refine VB.mk (fun hc=>?_) fun hc=>?_)|(show VC ..;first|refine xC (fun hg=>by fail) ?_|refine xL (fun hg=>by fail) ?_|(fail))|(show VCc ..;refine xO (fun hg=>by fail) ?_)|(show VI ..;refine xJ ?_)|(show VG ..;refine xG ?_)|(show VA ..;refine xA ?_)|(show VZ ..;refine .s ?_)|(show VY ..;refine .s ?_)|(show VW ..;first|refine xW1 ?_|refine xW2 ?_)|(show VE ..;refine .mk ?_))
   rfl
theorem prOver (p:List Cs) (c:Cs) (m:Me) (hc:c∈p) (hm:m.params.length≤1048576) (hzz:qah Cs.sz p≤1048576):qab Tryz.prog 15 [.a (.sl (p.map Cs.at)),.r (Cs.at c),.r (Me.at m)] (.t [.a (.sl ((qhc p c m).1.map Du.at)),.a (.v (.bool (qhc p c m).2))]):=by
 have hlen:=qas Cs.sz_pos p
 have hz:∀c∈p,c.above.length<1048576:=fun c hc=>(qc7 hc hzz).1
 have hcp:=(qc7 hc hzz).2
 have h1:=pr17Over p c.name m.name hzz
 have h2:=pr15This c (by omega)
 have hwr:=qhw (p:=p) c.name fun c hc=>by have:=(qc7 hc hzz).2;omega
 have h3:=pr15Raise p c.name (qcj c) (fdS (qbl p c.name m.name)).1.cls (by omega) (by simp [qcj];omega) (by simp [qcj]) hz hwr
 have h4l:=qif (p:=p) (fr:=c.name) (tn:=(fdS (qbl p c.name m.name)).1.cls) (l:=qcj c) (ar:=qaq p c.name) hz (by simp [qcj];omega)
 unfold qhc
 generalize fdS (qbl p c.name m.name)=R at *
 obtain⟨f,fb⟩:=R
 dsimp only at *
 generalize qb5 p c.name (qcj c) f.cls (qaq p c.name)=rr at *
 generalize qcj c=tl at *
 obtain⟨rl,rb⟩:=rr
 dsimp only at *
 have h4:=fun t=>pr05With t rl h4l
 refine qab.vx [0,1,2,4,5,6,7,8,9,10,11,12,13,24,47,61] Tryz.func15 rfl Tryz.ntmps15 rfl rfl rfl (fun C hro hst=>?_)
 repeat' ((conv=>whnf);first|(show VH ..;refine .go ?_)|(show VD ..;refine .qm quietM ?_)|(show VK ..;refine xK ?_)|(show VB ..;refine VB.mk (fun hc=>?_) fun hc=>?_)|(show VC ..;first|refine xC (fun hg=>by first|exact h1|exact h2|exact h3|exact h4 _) ?_|refine xL (fun hg=>by first|exact h1|exact h2|exact h3|exact h4 _) ?_)|(show VI ..;refine xJ ?_)|(show VG ..;refine xG ?_)|(show VA ..;refine xA ?_)|(show VZ ..;refine .s ?_)|(show VY ..;refine .o ?_)|(show VW ..;first|refine xW1 ?_|refine xW2 ?_)|(show VE ..;refine .mk ?_))
 ·rw [hc];rfl
 ·rename_i hc1
  rw [hc1,cond_false]
  simp only [List.length_map] at hc
  rw [hc];rfl
 ·rename_i hc1
  rw [hc1,cond_false]
  simp only [List.length_map] at hc
  rw [hc,cond_false]
  have hlen2:m.params.length=f.m.params.length:=by
   cases rb with
   | false=>cases hc
   | true=>simp at hc;omega
  conv=>whnf
  refine VL.each m.params Vr.at (fun k=>[(5,.a (.ptr 1 0)),(8,.a (.ptr 2 0)),(10,.a (.sl (rl.map owAt))),(12,.a (.own 3 k)),(13,.a (.v (.int .i64 (k:Nat))))]) (fun k=>[.cell (Cs.at c),.cell (Me.at m),.cell (Fd.at f),.arr k 23 ((qh5 m f.m rl k).map Du.at)]) (fun _=>True) ⟨rfl,rfl,rfl,rfl,rfl,trivial⟩ rfl trivial (by omega) ?_ ?_
  ·intro k z hz2 hd htk hlt _ hlt2 hix hw
   obtain⟨b,hb⟩:∃b,f.m.params[k]? = some b:=⟨_,List.getElem?_eq_getElem (by omega)⟩
   have hix2:(f.m.params.map Vr.at)[k]? = some (Vr.at b):=by rw [List.getElem?_map,hb];rfl
   have hq:=qhq (m:=m) (o:=f.m) (l:=rl) (k:=k)
   have hsn:=qiw (l:=rl) hz2 hb
   repeat' ((conv=>whnf);first|(show VH ..;refine .go ?_)|(show VD ..;refine .q ?_)|(show VK ..;refine xK ?_)|(show VB ..;first|refine VB.tt (by first|exact hlt2) ?_|refine VB.ff (by first|exact hlt2) ?_|refine VB.mk (fun hc=>?_) fun hc=>?_)|(show VC ..;first|refine xC (fun hg=>by first|exact h4 _) ?_|refine xL (fun hg=>by first|exact h4 _) ?_)|(show VI ..;first|refine xI (fun _=>by first|exact hix|exact hix2) ?_|refine xJ ?_)|(show VG ..;refine xG ?_)|(show VA ..;refine xA ?_)|(show VZ ..;refine .s ?_)|(show VY ..;refine .s ?_)|(show VW ..;first|refine xW1 ?_|refine xW2 ?_)|(show VE ..;refine .mk ?_))
   conv=>whnf
   refine⟨trivial,[],⟨rfl,rfl,rfl,rfl,congrArg (fun z=>D.a (.v (.int .i64 z))) hw,trivial⟩,?_,rfl,rfl⟩
   dsimp only
   rw [hsn,List.map_append];rfl
  ·intro _ hlt2
   repeat' ((conv=>whnf);first|(show VH ..;refine .go ?_)|(show VD ..;refine .q ?_)|(show VK ..;refine xK ?_)|(show VB ..;first|refine VB.tt (by exact hlt2) ?_|refine VB.ff (by exact hlt2) ?_|refine VB.mk (fun hc=>?_) fun hc=>?_)|(show VI ..;refine xJ ?_)|(show VG ..;refine xG ?_)|(show VA ..;refine xA ?_)|(show VZ ..;refine .s ?_)|(show VY ..;refine .s ?_)|(show VW ..;first|refine xW1 ?_|refine xW2 ?_)|(show VE ..;refine .mk ?_))
   rfl
end
section
set_option maxRecDepth 100000
theorem duSelf (z:Du):bin2 (qcg Tryz.prog 62) (eqOk Tryz.prog 62) .neq (.r (Du.at z)) (.r (Du.at z))=some (.a (.v (.bool false))):=by
 obtain⟨k,⟨a1,a2,a3,⟨a4,a5⟩,⟨a6,a7⟩,⟨a8,a9⟩,⟨a10,a11⟩⟩,⟨b1,b2,b3,⟨b4,b5⟩,⟨b6,b7⟩,⟨b8,b9⟩,⟨b10,b11⟩⟩⟩:=z
 simp only [bin2,go_sem]
 simp [eqR,Du.at,Ty.at,qha,okLs,eqLs,okC,eqV]
theorem pSame28 (l:List Du) (hl:l.length≤4194304):qab Tryz.prog 12 [.a (.sl (l.map Du.at)),.a (.sl (l.map Du.at))] (.a (.v (.bool true))):=by
 have hc0:((((l.map Du.at).length:Nat):Int) != (((l.map Du.at).length:Nat):Int))=false:=by simp
 refine qab.vx [0,1,4,5,10,14,25] Tryz.func12 rfl Tryz.ntmps12 rfl rfl rfl (fun C hro hst=>?_)
 repeat' ((conv=>whnf);first|(show VH ..;refine .go ?_)|(show VD ..;refine .q ?_)|(show VK ..;refine xK ?_)|(show VB ..;first|refine VB.tt (by exact hc0) ?_|refine VB.ff (by exact hc0) ?_|refine VB.mk (fun hc=>?_) fun hc=>?_)|(show VI ..;refine xJ ?_)|(show VG ..;refine xG ?_)|(show VA ..;refine xA ?_)|(show VZ ..;refine .s ?_)|(show VY ..;refine .s ?_)|(show VW ..;first|refine xW1 ?_|refine xW2 ?_)|(show VE ..;refine .mk ?_))
 refine VL.each l Du.at (fun k=>[(0,.a (.sl (l.map Du.at))),(1,.a (.sl (l.map Du.at))),(5,.a (.v (.int .i64 (k:Nat))))]) (fun _=>[]) (fun _=>True) ⟨rfl,rfl,rfl,trivial⟩ rfl trivial (by omega) ?_ ?_
 ·intro k z hz hd htk hlt _ hlt2 hix hw
  repeat' ((conv=>whnf);first|(show VH ..;refine .go ?_)|(show VD ..;refine .q ?_)|(show VK ..;refine xK ?_)|(show VB ..;first|refine VB.tt (by exact hlt2) ?_|refine VB.ff (by exact hlt2) ?_|refine VB.mk (fun hc=>?_) fun hc=>?_)|(show VI ..;first|refine xI (fun _=>by exact hix) ?_|refine xJ ?_)|(show VG ..;refine xG ?_)|(show VA ..;refine xA ?_)|(show VZ ..;refine .s ?_)|(show VY ..;refine .s ?_)|(show VW ..;first|refine xW1 ?_|refine xW2 ?_)|(show VE ..;refine .mk ?_))
  conv=>whnf
  refine VQ.mk (.a (.v (.bool false))) (duSelf z) ?_
  repeat' ((conv=>whnf);first|(show VH ..;refine .go ?_)|(show VD ..;refine .q ?_)|(show VK ..;refine xK ?_)|(show VB ..;first|refine VB.tt (by rfl) ?_|refine VB.ff (by rfl) ?_|refine VB.mk (fun hc=>?_) fun hc=>?_)|(show VI ..;refine xJ ?_)|(show VG ..;refine xG ?_)|(show VA ..;refine xA ?_)|(show VZ ..;refine .s ?_)|(show VY ..;refine .s ?_)|(show VW ..;first|refine xW1 ?_|refine xW2 ?_)|(show VE ..;refine .mk ?_))
  conv=>whnf
  exact⟨trivial,[],⟨rfl,rfl,congrArg (fun z=>D.a (.v (.int .i64 z))) hw,trivial⟩,rfl,rfl,rfl⟩
 ·intro _ hlt2
  repeat' ((conv=>whnf);first|(show VH ..;refine .go ?_)|(show VD ..;refine .q ?_)|(show VK ..;refine xK ?_)|(show VB ..;first|refine VB.tt (by exact hlt2) ?_|refine VB.ff (by exact hlt2) ?_|refine VB.mk (fun hc=>?_) fun hc=>?_)|(show VI ..;refine xJ ?_)|(show VG ..;refine xG ?_)|(show VA ..;refine xA ?_)|(show VZ ..;refine .s ?_)|(show VY ..;refine .s ?_)|(show VW ..;first|refine xW1 ?_|refine xW2 ?_)|(show VE ..;refine .mk ?_))
  rfl
theorem overR_len (p:List Cs) (c:Cs) (m:Me) (hm:m.params.length≤1048576):(qhc p c m).1.length≤4194304:=by
 unfold qhc
 generalize fdS (qbl p c.name m.name)=R
 obtain⟨f,fb⟩:=R
 cases fb with
 | false=>exact Nat.zero_le _
 | true =>
  rw [Bool.not_true,cond_false]
  generalize qb5 p c.name (qcj c) f.cls (qaq p c.name)=rr
  obtain⟨rl,rb⟩:=rr
  dsimp only
  cases (bif !rb then true else (m.params.length:Int) != f.m.params.length) with
  | true=>exact Nat.zero_le _
  | false =>
   have:=qhq (m:=m) (o:=f.m) (l:=rl) (k:=m.params.length)
   show (qh5 m f.m rl m.params.length).length≤_
   omega
attribute [local irreducible] qhc
theorem qn9 (p:List Cs) (hp:qah Cs.sz p≤1048576):qab Tryz.prog 5 [.a (.sl (p.map Cs.at))] (.a (.v (.bool true))):=by
 have hlen:=qas Cs.sz_pos p
 have h1:=pHeavy p hp
 generalize qld p=hv at *
 refine qab.vx [0,2,3,4,5,6,7,8,10,15,25,70] Tryz.func5 rfl Tryz.ntmps5 rfl rfl rfl (fun C hro hst=>?_)
 repeat' ((conv=>whnf);first|(show VH ..;refine .go ?_)|(show VD ..;refine .q ?_)|(show VK ..;refine xK ?_)|(show VB ..;refine VB.mk (fun hc=>?_) fun hc=>?_)|(show VC ..;first|refine xC (fun hg=>by first|exact h1|exact aw28) ?_|refine xL (fun hg=>by first|exact h1|exact aw28) ?_)|(show VI ..;refine xJ ?_)|(show VG ..;refine xG ?_)|(show VA ..;refine xA ?_)|(show VZ ..;refine .s ?_)|(show VY ..;refine .s ?_)|(show VW ..;first|refine xW1 ?_|refine xW2 ?_)|(show VE ..;refine .mk ?_))
 ·rfl
 ·conv=>whnf
  refine VL.each p Cs.at (fun k=>[(0,.a (.sl (p.map Cs.at))),(3,.a (.v (.int .i64 (k:Nat))))]) (fun _=>[]) (fun _=>True) ⟨rfl,rfl,trivial⟩ rfl trivial (by omega) ?_ ?_
  ·intro i c hz hd htk hlt _ hlt2 hix hw
   have hcp:=lm4 hz
   have hcs:c.sz≤1048576:=by have:=qbi (f:=Cs.sz) hcp;omega
   obtain⟨y1,y2,y3,y4,y5,y6,y7,y8,y9⟩:=Cs.szH hcs
   have hml:=qas Me.sz_pos c.methods
   have hcm:c.methods.length≤1048576:=by have h3:Cs.sz c=1+c.name.length+c.super.length+qah (fun s:List UInt8=>s.length+1) c.params+c.above.length+qah Vr.sz c.fields+qah Me.sz c.methods:=rfl;omega
   repeat' ((conv=>whnf);first|(show VH ..;refine .go ?_)|(show VD ..;refine .q ?_)|(show VK ..;refine xK ?_)|(show VB ..;first|refine VB.tt (by exact hlt2) ?_|refine VB.ff (by exact hlt2) ?_|refine VB.mk (fun hc=>?_) fun hc=>?_)|(show VI ..;first|refine xI (fun _=>by exact hix) ?_|refine xJ ?_)|(show VG ..;refine xG ?_)|(show VA ..;refine xA ?_)|(show VZ ..;refine .s ?_)|(show VY ..;refine .s ?_)|(show VW ..;first|refine xW1 ?_|refine xW2 ?_)|(show VE ..;refine .mk ?_))
   conv=>whnf
   refine VL.each c.methods Me.at (fun k=>[(0,.a (.sl (p.map Cs.at))),(3,.a (.v (.int .i64 (i:Nat)))),(4,.a (.v (.int .i64 (k:Nat))))]) (fun _=>[]) (fun _=>True) ⟨rfl,rfl,rfl,trivial⟩ rfl trivial (by omega) ?_ ?_
   ·intro k m hz3 hd3 htk3 hlt3 _ hlt4 hix3 hw3
    have hmm:=lm4 hz3
    have hms:m.sz≤1048576:=by have:=qbi (f:=Me.sz) hmm;have h3:Cs.sz c=1+c.name.length+c.super.length+qah (fun s:List UInt8=>s.length+1) c.params+c.above.length+qah Vr.sz c.fields+qah Me.sz c.methods:=rfl;omega
    obtain⟨u1,u2,u3,u4,u5,u6⟩:=Me.szH hms
    have g1:=pdOver p c m hcp (by omega) hp
    have g2:=prOver p c m hcp (by omega) hp
    have g3:=pSame28 (qhc p c m).1 (overR_len p c m (by omega))
    generalize qhc p c m=rr at *
    obtain⟨rl,rb⟩:=rr
    repeat' ((conv=>whnf);first|(show VH ..;refine .go ?_)|(show VD ..;refine .q ?_)|(show VK ..;refine xK ?_)|(show VB ..;first|refine VB.tt (by exact hlt4) ?_|refine VB.ff (by exact hlt4) ?_|refine VB.mk (fun hc=>?_) fun hc=>?_)|(show VC ..;first|refine xC (fun hg=>by first|exact g1|exact g2|exact g3) ?_|refine xL (fun hg=>by first|exact g1|exact g2|exact g3) ?_)|(show VI ..;first|refine xI (fun _=>by first|exact hix|exact hix3) ?_|refine xJ ?_)|(show VG ..;refine xG ?_)|(show VA ..;refine xA ?_)|(show VZ ..;refine .s ?_)|(show VY ..;refine .s ?_)|(show VW ..;first|refine xW1 ?_|refine xW2 ?_)|(show VE ..;refine .mk ?_))
    ·cases rb<;>cases hc
    ·conv=>whnf
     exact⟨trivial,[],⟨rfl,rfl,congrArg (fun z=>D.a (.v (.int .i64 z))) hw3,trivial⟩,rfl,rfl,rfl⟩
   ·intro _ hlt4
    repeat' ((conv=>whnf);first|(show VH ..;refine .go ?_)|(show VD ..;refine .q ?_)|(show VK ..;refine xK ?_)|(show VB ..;first|refine VB.tt (by exact hlt4) ?_|refine VB.ff (by exact hlt4) ?_|refine VB.mk (fun hc=>?_) fun hc=>?_)|(show VI ..;first|refine xI (fun _=>by exact hix) ?_|refine xJ ?_)|(show VG ..;refine xG ?_)|(show VA ..;refine xA ?_)|(show VZ ..;refine .s ?_)|(show VY ..;refine .s ?_)|(show VW ..;first|refine xW1 ?_|refine xW2 ?_)|(show VE ..;refine .mk ?_))
    conv=>whnf
    exact⟨trivial,[],⟨rfl,congrArg (fun z=>D.a (.v (.int .i64 z))) hw,trivial⟩,rfl,rfl,rfl⟩
  ·intro _ hlt2
   repeat' ((conv=>whnf);first|(show VH ..;refine .go ?_)|(show VD ..;refine .q ?_)|(show VK ..;refine xK ?_)|(show VB ..;first|refine VB.tt (by exact hlt2) ?_|refine VB.ff (by exact hlt2) ?_|refine VB.mk (fun hc=>?_) fun hc=>?_)|(show VC ..;first|refine xC (fun hg=>by exact aw28) ?_|refine xL (fun hg=>by exact aw28) ?_)|(show VI ..;refine xJ ?_)|(show VG ..;refine xG ?_)|(show VA ..;refine xA ?_)|(show VZ ..;refine .s ?_)|(show VY ..;refine .s ?_)|(show VW ..;first|refine xW1 ?_|refine xW2 ?_)|(show VE ..;refine .mk ?_))
   rfl
end
end Go.Proofs.YthkojpnjdpbcgaaGreatDoor
