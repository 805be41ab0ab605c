/- How many parameters a class has: the program's and the document's. Conditions: at most 2^20 classes. -/
import Derived.Test.YthkojpnjdpbcgaaGreatDoorMl16
import Derived.Test.YthkojpnjdpbcgaaGreatDoorMl40
import Derived.Test.YthkojpnjdpbcgaaGreatDoorMl24
import Derived.Test.YthkojpnjdpbcgaaGreatDoorMl34
import Derived.Test.YthkojpnjdpbcgaaGreatDoorMl31
import Derived.Test.YthkojpnjdpbcgaaGreatDoorMl17
import Derived.Test.YthkojpnjdpbcgaaGreatDoorMl22
import Derived.Test.YthkojpnjdpbcgaaGreatDoorMl29
set_option linter.unusedVariables false
set_option maxRecDepth 100000
set_option maxHeartbeats 8000000
set_option linter.unusedSimpArgs false
namespace Go.Proofs.YthkojpnjdpbcgaaGreatDoor
open Go.RowKit
section
def qa1 (p:List Cs) (s:List UInt8):Int:=if qa3 p s<0 then -1 else ((p[(qa3 p s).toNat]?).map fun c=>(c.params.length:Int)).getD 0
theorem qld {p:List Cs} {s:List UInt8} (h:qa3 p s = -1):qa1 p s = -1:=by unfold qa1;rw [h];rfl
theorem qiv {p:List Cs} {s:List UInt8} {j:Nat} {z:Cs} (h:qa3 p s=(j:Int)) (hz:p[j]? = some z):qa1 p s=(z.params.length:Int):=by
 unfold qa1;rw [h,if_neg (by omega),Int.toNat_natCast,hz];rfl
theorem ptArity (p:List Cs) (s:List UInt8) (hn:p.length≤1048576):qaa Tryz.prog 136 [.a (.sl (p.map Cs.at)),.a (.v (.string (bs s)))] (.a (.v (.int .i64 (qa1 p s)))):=by
 rcases qff p s with hf|⟨j,z,hz,hzn,hf⟩
 ·rw [qld hf]
  refine qaa.go Tryz.func136 rfl Tryz.ntmps136 rfl rfl rfl (fun C hro=>?_)
  have fx:=trivial
  replace fx:=ai15 hf trivial
  repeat' (first|refine stp [0,1,4,5,10] ?_|(refine stc (r1:=by exact qig p s hn) (r2:=?_);refine rnx ?_)|fail)
  all_goals rfl
 ·rw [qiv hf hz]
  have hj0:decide ((j:Int)<0)=false:=decide_eq_false (by omega)
  have hjx:∀q2,ixD (some 7) q2 (.a (.sl (p.map Cs.at))) (.a (.v (.int .i64 (j:Int))))=some (.a (.ref (Cs.at z) 0)):=fun q2=>qaq rfl (by rw [List.getElem?_map,hz];rfl) (by simp only [go_sem])
  refine qaa.go Tryz.func136 rfl Tryz.ntmps136 rfl rfl rfl (fun C hro=>?_)
  have fx:=trivial
  replace fx:=ai15 hf (ai15 hj0 (ai15 hjx trivial))
  repeat' (first|refine stp [0,1,4,5,10] ?_|(refine stc (r1:=by exact qig p s hn) (r2:=?_);refine rnx ?_)|fail)
  all_goals first|rfl|simp only [List.length_map]
theorem qmd {p:List Cs} (s:List UInt8) (hz:∀c∈p,c.params.length≤1048576):IntKind.i64.wrap (qa1 p s+1)=qa1 p s+1:=by
 rcases qff p s with hf|⟨j,z,hzz,hzn,hf⟩
 ·rw [qld hf];rfl
 ·rw [qiv hf hzz]
  have:=hz z (lm4 hzz)
  exact qap (by omega)
end
section
set_option maxRecDepth 100000
theorem qmc {p:List Cs} {fr tn:List UInt8} (h:qcd p fr tn=true):0≤qa1 p fr:=by
 unfold qcd at h
 unfold qa1
 rw [upL] at h
 split at h
 ·simp at h
 ·rename_i hf
  rw [if_neg hf]
  cases p[(qa3 p fr).toNat]? with
  | none=>exact Int.le_refl _
  | some c=>exact Int.natCast_nonneg _
theorem qid {p:List Cs} {fr tn:List UInt8}:qcw p fr [] tn (qa1 p fr)=([],false):=by
 unfold qcw
 cases hb:qcd p fr tn with
 | false=>rfl
 | true =>
  have:=qmc hb
  have h2:((([]:List (Int×Int)).length:Int) != qa1 p fr+1)=true:=by simp;omega
  rw [h2];rfl
theorem qhv (l m:List (Int×Int)):(allO l m).length=l.length:=by simp [allO]
attribute [local irreducible] qcd qbs qkf allO qf4 qa1
end
section
set_option maxRecDepth 100000
structure WayP (p:List Cs) (e:Int) (ch:List Int) (g:Option (List (Int×Int))) where
 k:Nat
 out:List (Int×Int)
 hk:k≤ch.length
 hne:out≠[]
 hl:out.length≤1048576
 hg:goP p e (ch.drop k) out=g
def nxE (o0:Int×Int):Nat→D
 | 0=>.a (.sk [owAt o0])
 | k+1=>.a (.own 0 k)
def nxB (o0:Int×Int) (ab out:List (Int×Int)):Nat→List Bx
 | 0=>[]
 | k+1=>[.arr k 2 ((o0::allO (ab.take (k+1)) out).map owAt)]
theorem allO_take {ab out:List (Int×Int)} {k:Nat} {z:Int×Int} (h:ab[k]? = some z):allO (ab.take (k+1)) out=allO (ab.take k) out++[putO z out]:=by simp [allO,List.take_add_one,h]
theorem fz_own {i v:Nat} {rows:List (List A)}:fzD i v rows (.a (.own i v))=.a (.sl rows):=by simp [fzD,fzA]
attribute [local irreducible] qbs qkf allO qa1 putO qa3
theorem pRaiseR (p:List Cs) (fr:List UInt8) (l:List (Int×Int)) (tn:List UInt8) (hp:p.length≤1048576) (hl:l.length≤1048576) (hz:∀c∈p,c.above.length<1048576) (hw:IntKind.i64.wrap (qa1 p fr+1)=qa1 p fr+1) :
  qaa Tryz.prog 77 [.a (.sl (p.map Cs.at)),.a (.v (.string (bs fr))),.a (.sl (l.map owAt)),.a (.v (.string (bs tn))),.a (.fn 78 [])] (.t [.a (.sl ((qg0 p fr l tn (qa1 p fr)).1.map owAt)),.a (.v (.bool (qg0 p fr l tn (qa1 p fr)).2))]):=by
 have hcl:=(qdd p fr).len
 have hok:=(qdd p fr).ok
 have h1:=qig p tn hp
 have h2:=ptArity p fr hp
 have h3:=pChain p fr hp
 have h4:=pclOw l hl
 unfold qg0
 generalize qbs p fr=ch at *
 generalize qa3 p tn=en at *
 generalize qa1 p fr=ar at *
 refine qaa.vx [0,1,2,3,4,10,11,12,14,15,17,36,41,42,43,44,49,57,58,59,60] Tryz.func77 rfl Tryz.ntmps77 rfl rfl rfl (fun C hro hst=>?_)
 repeat' ((conv=>whnf);first|refine stv ?_|(show VB ..;refine VB.mk (fun hc=>?_) fun hc=>?_)|(show VC ..;refine xC (fun hg=>by first|exact h1|exact h2|exact h3|exact h4) ?_))
 ·rw [hw,List.length_map] at hc
  rw [hc];rfl
 ·rw [hw,List.length_map] at hc
  have hne:l≠[]:=by
   rintro rfl
   simp at hc
  rw [hc,cond_false]
  obtain⟨g,hg0⟩:∃g,goP p en ch l=g:=⟨_,rfl⟩
  rw [hg0]
  conv=>whnf
  refine VL.gW (fun y:WayP p en ch g=>[(0,.a (.sl (p.map Cs.at))),(2,.a (.sl (y.out.map owAt))),(4,.a (.fn 78 [])),(12,.a (.v (.int .i64 en))),(41,.a (.sl (ch.map inAt))),(42,.a (.v (.int .i64 ((ch.map inAt).length:Nat)))),(43,.a (.v (.int .i64 (y.k:Nat))))]) (fun _=>[]) (fun y=>ch.length-y.k) ⟨0,l,Nat.zero_le _,hne,hl,hg0⟩ (Wk.agree ⟨rfl,rfl,rfl,rfl,rfl,rfl,rfl,trivial⟩) ?_
  rintro⟨k,out,hk,hne,hl,hg⟩
  dsimp only
  by_cases hlt:k<ch.length
  ·obtain⟨i,hi⟩:∃i,ch[k]? = some i:=⟨_,List.getElem?_eq_getElem hlt⟩
   have hd:ch.drop k=i::ch.drop (k+1):=by rw [List.drop_eq_getElem_cons hlt];congr 1;exact (List.getElem?_eq_some_iff.1 hi).2
   rw [hd,goP] at hg
   obtain⟨j,c,rfl,hj⟩:=hok i (lm4 hi)
   have hix1:(ch.map inAt)[k]? = some (inAt (j:Int)):=by rw [List.getElem?_map,hi];rfl
   have hix2:(p.map Cs.at)[j]? = some (Cs.at c):=by rw [List.getElem?_map,hj];rfl
   have hst2:qkf p (j:Int) out=out.headD (8,0)::allO c.above out:=by unfold qkf;rw [Int.toNat_natCast,hj];rfl
   obtain⟨o0,orr,rfl⟩:∃a r,out=a::r:=by cases out with|nil=>exact absurd rfl hne|cons a r=>exact⟨a,r,rfl⟩
   have hab:=hz c (lm4 hj)
   have hw1:IntKind.i64.wrap ((k:Nat)+1)=((k+1:Nat):Int):=qap (by omega)
   have hlt2:decide (((k:Nat):Int)<((ch.map inAt).length:Nat))=true:=decide_eq_true (by rw [List.length_map];omega)
   repeat' ((conv=>whnf);first|(show VI ..;refine xI (fun _=>by first|exact hix1|exact hix2) ?_)|refine stv ?_|(show VB ..;first|refine VB.tt (by exact hlt2) ?_|refine VB.mk (fun hc=>?_) fun hc=>?_))
   ·rw [hc,cond_true] at hg
    rw [←hg]
   ·rw [hc,cond_false,hst2] at hg
    conv=>whnf
    have hal:=qhv c.above (o0::orr)
    refine VL.gW (fun y:{ m:Nat // m≤c.above.length }=>[(0,.a (.sl (p.map Cs.at))),(2,.a (.sl ((o0::orr).map owAt))),(4,.a (.fn 78 [])),(12,.a (.v (.int .i64 en))),(15,nxE o0 y.1),(41,.a (.sl (ch.map inAt))),(42,.a (.v (.int .i64 ((ch.map inAt).length:Nat)))),(43,.a (.v (.int .i64 (k:Nat)))),(57,.a (.sl (c.above.map owAt))),(58,.a (.v (.int .i64 ((c.above.map owAt).length:Nat)))),(59,.a (.v (.int .i64 (y.1:Nat))))]) (fun y=>nxB o0 c.above (o0::orr) y.1) (fun y=>c.above.length-y.1) ⟨0,Nat.zero_le _⟩ (Wk.agree ⟨rfl,rfl,rfl,rfl,rfl,rfl,rfl,rfl,rfl,rfl,rfl,trivial⟩) ?_
    rintro⟨m,hm⟩
    dsimp only
    by_cases hml:m<c.above.length
    ·obtain⟨z,hzz⟩:∃z,c.above[m]? = some z:=⟨_,List.getElem?_eq_getElem hml⟩
     have hix3:(c.above.map owAt)[m]? = some (owAt z):=by rw [List.getElem?_map,hzz];rfl
     have hlt3:decide (((m:Nat):Int)<((c.above.map owAt).length:Nat))=true:=decide_eq_true (by rw [List.length_map];omega)
     have hw2:IntKind.i64.wrap ((m:Nat)+1)=((m+1:Nat):Int):=qap (by omega)
     have hput:=poPut z (o0::orr) hl
     have htk:=allO_take (out:=o0::orr) hzz
     cases m with
     | zero =>
      repeat' ((conv=>whnf);first|(show VI ..;refine xI (fun _=>by exact hix3) ?_)|refine stv ?_|(show VB ..;refine VB.tt (by exact hlt3) ?_)|(show VC ..;refine xC (fun hg=>by exact hput) ?_))
      conv=>whnf
      have hb0:nxB o0 c.above (o0::orr) 1=[.arr 0 2 [owAt o0,owAt (putO z (o0::orr))]]:=by rw [nxB,htk];simp [allO]
      refine⟨⟨1,hml⟩,by dsimp only;omega,Wk.use [1] ⟨rfl,rfl,rfl,rfl,rfl,rfl,rfl,rfl,rfl,rfl,rfl,trivial⟩ ?_ hst⟩
      rw [hb0]
      exact⟨by simp,rfl,rfl,rfl,rfl⟩
     | succ m =>
      have hlen:(allO (c.above.take (m+1)) (o0::orr)).length=m+1:=by rw [qhv,List.length_take];omega
      repeat' ((conv=>whnf);first|(show VI ..;refine xI (fun _=>by exact hix3) ?_)|refine stv ?_|(show VB ..;refine VB.tt (by exact hlt3) ?_)|(show VC ..;refine xC (fun hg=>by exact hput) ?_))
      conv=>whnf
      have hb0:nxB o0 c.above (o0::orr) (m+1+1)=[.arr (m+1) 2 ((o0::allO (c.above.take (m+1)) (o0::orr)).map owAt++[owAt (putO z (o0::orr))])]:=by rw [nxB,htk];simp
      refine⟨⟨m+1+1,hml⟩,by dsimp only;omega,Wk.use [0] ⟨rfl,rfl,rfl,rfl,rfl,rfl,rfl,rfl,rfl,rfl,congrArg (fun z=>D.a (.v (.int .i64 z))) hw2,trivial⟩ ?_ hst⟩
      rw [hb0]
      exact⟨by simp,rfl,rfl,rfl,rfl⟩
    ·obtain rfl:m=c.above.length:=by omega
     have hlt3:decide (((c.above.length:Nat):Int)<((c.above.map owAt).length:Nat))=false:=decide_eq_false (by rw [List.length_map];omega)
     obtain⟨y,hy1,hy2,hy3⟩:∃y:WayP p en ch g,ch.length-y.k<ch.length-k∧y.k=k+1∧y.out=o0::allO c.above (o0::orr):=⟨⟨k+1,_,by omega,by simp,by rw [List.length_cons,hal];omega,hg⟩,by dsimp only;omega,rfl,rfl⟩
     have hfull:c.above.take c.above.length=c.above:=List.take_length
     generalize hq:c.above.length=q at *
     cases q with
     | zero =>
      repeat' ((conv=>whnf);first|refine stv ?_|(show VB ..;refine VB.ff (by exact hlt3) ?_))
      conv=>whnf
      refine⟨y,hy1,Wk.sk.trans (Wk.agree ?_)⟩
      rw [hy2,hy3,List.eq_nil_of_length_eq_zero hq,show allO [] (o0::orr)=[] by simp [allO],←hw1]
      exact⟨rfl,rfl,rfl,rfl,rfl,rfl,rfl,trivial⟩
     | succ q =>
      repeat' ((conv=>whnf);first|refine stv ?_|(show VB ..;refine VB.ff (by exact hlt3) ?_))
      conv=>whnf
      refine⟨y,hy1,(Wk.freeze (i:=0) rfl).trans (Wk.use [] ?_ ⟨by simp,rfl,rfl,rfl,rfl⟩ hst)⟩
      rw [hy2,hy3,←hw1,hfull]
      exact⟨rfl,fz_own,rfl,rfl,rfl,rfl,rfl,trivial⟩
  ·obtain rfl:k=ch.length:=by omega
   have hlt2:decide (((ch.length:Nat):Int)<((ch.map inAt).length:Nat))=false:=decide_eq_false (by rw [List.length_map];omega)
   rw [List.drop_length,goP] at hg
   repeat' ((conv=>whnf);first|refine stv ?_|(show VB ..;refine VB.ff (by exact hlt2) ?_))
   rw [←hg];rfl
theorem pRaise (p:List Cs) (fr:List UInt8) (l:List (Int×Int)) (tn:List UInt8) (hp:p.length≤1048576) (hl:l.length≤1048576) (hz:∀c∈p,c.above.length<1048576) (hw:IntKind.i64.wrap (qa1 p fr+1)=qa1 p fr+1) :
  qaa Tryz.prog 37 [.a (.sl (p.map Cs.at)),.a (.v (.string (bs fr))),.a (.sl (l.map owAt)),.a (.v (.string (bs tn)))] (.t [.a (.sl ((qcw p fr l tn (qa1 p fr)).1.map owAt)),.a (.v (.bool (qcw p fr l tn (qa1 p fr)).2))]):=by
 have h:=pRaiseR p fr l tn hp hl hz hw
 have hs:qg0 p fr l tn (qa1 p fr)=qcw p fr l tn (qa1 p fr):=by
  by_cases hne:l=[]
  ·subst hne
   rw [qid]
   unfold qg0
   have h0:((([]:List (Int×Int)).length:Int)==0)=true:=rfl
   rw [h0]
   cases (bif decide (qa3 p tn<0) then true else ((([]:List (Int×Int)).length:Int) != qa1 p fr+1))<;>rfl
  ·exact qnz _ _ _ _ _ hne
 rw [hs] at h
 generalize qcw p fr l tn (qa1 p fr)=r at *
 refine qaa.vx [0,1,2,3,8,9] Tryz.func37 rfl Tryz.ntmps37 rfl rfl rfl (fun C hro hst=>?_)
 repeat' ((conv=>whnf);first|refine stv ?_|(show VC ..;refine xC (fun hg=>by exact h) ?_))
 rfl
end
section
set_option maxRecDepth 100000
structure Du where
 kind:Int
 a:Ty
 b:Ty
def Du.at (d:Du):List A:=.v (.int .i64 d.kind)::(Ty.at d.a++Ty.at d.b)
def tz:Ty:=⟨0,[],0,(0,0),(0,0),(0,0),(0,0)⟩
end
section
set_option maxRecDepth 100000
theorem goD_len {p:List Cs} {tn:List UInt8} (hz:∀c∈p,c.above.length<1048576):∀(ch:List Int) (l:List (Int×Int)),l.length≤1048576→(goD p tn ch l).length≤1048576
 | [],l,h=>h
 | i::r,l,h=>by
  rw [goD]
  cases qf4 p i==tn with
  | true=>exact h
  | false =>
   rw [cond_false]
   refine goD_len hz r _ ?_
   unfold qkf
   rw [List.length_cons,qhv]
   cases hi:p[i.toNat]? with
   | none=>simp
   | some c=>have:=hz c (lm4 hi);simp only [Option.map_some,Option.getD_some];omega
theorem qn0 {p:List Cs} {fr tn:List UInt8} {l:List (Int×Int)} {ar:Int} (hz:∀c∈p,c.above.length<1048576) (hl:l.length≤1048576):(qcw p fr l tn ar).1.length≤1048576:=by
 unfold qcw
 cases (bif !qcd p fr tn then true else (l.length:Int) != ar+1) with
 | true=>exact Nat.zero_le _
 | false=>exact goD_len hz _ _ hl
theorem qhn {p:List Cs} {c:Cs} (hc:c∈p) (hzz:qaf Cs.sz p≤1048576):c.above.length<1048576∧c.params.length<1048576:=by
 have h1:=qau (f:=Cs.sz) hc
 have h2:=qav (f:=fun s:List UInt8=>s.length+1) (fun _=>Nat.succ_pos _) c.params
 have h3:Cs.sz c=1+c.name.length+c.super.length+qaf (fun s:List UInt8=>s.length+1) c.params+c.above.length+qaf Vr.sz c.fields+qaf Me.sz c.methods:=rfl
 omega
attribute [local irreducible] qcw qbl qa1
end
section
set_option maxRecDepth 100000
noncomputable def of28L:List (Nat×XF):=[(18,⟨Tryz.f18,[0,1,2,3,4,5,10,25]⟩),(19,⟨Tryz.f19,[0,2,3,4,5,6,7,8,9,17,23,27,35,48]⟩),(46,⟨Tryz.f46,[0,2,3,4,5,6,8,11,18,27,53]⟩),(47,⟨Tryz.f47,[0,1,4]⟩),(48,⟨Tryz.f48,[0,1,2,6]⟩),(49,⟨Tryz.f49,[0,1,2,6,7,8,9,10,21,36,43,52,60,69,78,90]⟩),(50,⟨Tryz.f50,[0,1,2,3,4,5,10,21]⟩),(87,⟨Tryz.f87,[0,2,3,7,11,31,42]⟩),(88,⟨Tryz.f88,[0,2,3,6,22,29,40,50,59]⟩),(89,⟨Tryz.f89,[0,2,3,4,5,23,27,34]⟩),(90,⟨Tryz.f90,[0,1,4,12,19]⟩),(91,⟨Tryz.f91,[0,1,2,4]⟩),(92,⟨Tryz.f92,[0,1,2,6]⟩),(93,⟨Tryz.f93,[0,1,4,5,12,18,33,41]⟩),(94,⟨Tryz.f94,[0,1,2,5,6,7,8,14,29,43,51,69]⟩),(95,⟨Tryz.f95,[0,1,2,3,6,8,9,10,11,12,13,24,35,45,61,65,79,105,112]⟩),(142,⟨Tryz.f142,[0,2]⟩),(143,⟨Tryz.f143,[0,2]⟩),(144,⟨Tryz.f144,[0,2]⟩),(145,⟨Tryz.f145,[0,2,3,4,9,17]⟩),(146,⟨Tryz.f146,[0,2,3,4,17,27,35]⟩),(147,⟨Tryz.f147,[0,1,2,6,7,8,9,14,27,33,44,50,63,72]⟩),(148,⟨Tryz.f148,[0,1,2,3,8,9,10,11,12,13,18,23,35,50,60,71,84,95,105]⟩),(149,⟨Tryz.f149,[0,1,2,3,4,8,10,11,12,13,21,30,44,54,62,72]⟩),(182,⟨Tryz.f182,[0,1,2,3,4,9]⟩),(188,⟨Tryz.f188,[0]⟩),(189,⟨Tryz.f189,[0,1,2,6]⟩),(190,⟨Tryz.f190,[0,1,2,3,4,9,24]⟩),(191,⟨Tryz.f191,[0,1,2,4,5,11]⟩),(192,⟨Tryz.f192,[0,1,2,6,7,8]⟩),(193,⟨Tryz.f193,[0,1,2,6,7,8,13,19,30,42,52]⟩),(194,⟨Tryz.f194,[0,1,2,6,7,8,11,14,25,33]⟩),(195,⟨Tryz.f195,[0,1,2,3,8,9,10,17,29,38,43,61,68,74,98,109,117,129]⟩),(216,⟨Tryz.f216,[0,1,4,5,9,17]⟩),(217,⟨Tryz.f217,[0,1,2,6,7,8,16,21,31]⟩),(218,⟨Tryz.f218,[0,1,4,5,6,17,20]⟩),(219,⟨Tryz.f219,[0,1,4]⟩),(220,⟨Tryz.f220,[0,1,2,6]⟩),(221,⟨Tryz.f221,[0,1,4]⟩),(222,⟨Tryz.f222,[0,1,2,6]⟩),(223,⟨Tryz.f223,[0,1,2,5,6,7,8,19,33,41,54,65,77]⟩),(224,⟨Tryz.f224,[0,1,2,3,6,8,9,17,25,31,56,67]⟩),(225,⟨Tryz.f225,[0,1,2,5,6,10]⟩),(226,⟨Tryz.f226,[0,1,2,3,4,7,10,11,12,13,17,23,35,46,62,75,87]⟩),(227,⟨Tryz.f227,[0,1,4,5,12]⟩),(242,⟨Tryz.f242,[0,1,4,5,6,11,17,27,39,49]⟩),(243,⟨Tryz.f243,[0,1,2,3,6,8,9,10,14,27,34,44,56,64,70]⟩),(244,⟨Tryz.f244,[0,1,2,3,8,9,10,14,23,32]⟩),(245,⟨Tryz.f245,[0,1,2,3,8,9,10,11,12,14,36,49,64,73]⟩),(250,⟨Tryz.f250,[0,1,2,6,7,8,9,10,23,28,38,48,58,68,73,89]⟩),(251,⟨Tryz.f251,[0,1,2,6,7,8,14,24]⟩),(252,⟨Tryz.f252,[0,2,3,4,9,17]⟩),(253,⟨Tryz.f253,[0,1,2,6]⟩),(255,⟨Tryz.f255,[0,1,2,4,6,10,18]⟩),(256,⟨Tryz.f256,[0,1,4,5,6,7,8,9,10,11,24,34,40,47,56,73]⟩),(257,⟨Tryz.f257,[0,1,2,6,7,13,21,30]⟩),(258,⟨Tryz.f258,[0,2,3]⟩)]
theorem of28L_ok:∀p∈of28L,Tryz.prog.funcs[p.1]? = some p.2.fn:=tbC Tryz.func18 (tbC Tryz.func19 (tbC Tryz.func46 (tbC Tryz.func47 (tbC Tryz.func48 (tbC Tryz.func49 (tbC Tryz.func50 (tbC Tryz.func87 (tbC Tryz.func88 (tbC Tryz.func89 (tbC Tryz.func90 (tbC Tryz.func91 (tbC Tryz.func92 (tbC Tryz.func93 (tbC Tryz.func94 (tbC Tryz.func95 (tbC Tryz.func142 (tbC Tryz.func143 (tbC Tryz.func144 (tbC Tryz.func145 (tbC Tryz.func146 (tbC Tryz.func147 (tbC Tryz.func148 (tbC Tryz.func149 (tbC Tryz.func182 (tbC Tryz.func188 (tbC Tryz.func189 (tbC Tryz.func190 (tbC Tryz.func191 (tbC Tryz.func192 (tbC Tryz.func193 (tbC Tryz.func194 (tbC Tryz.func195 (tbC Tryz.func216 (tbC Tryz.func217 (tbC Tryz.func218 (tbC Tryz.func219 (tbC Tryz.func220 (tbC Tryz.func221 (tbC Tryz.func222 (tbC Tryz.func223 (tbC Tryz.func224 (tbC Tryz.func225 (tbC Tryz.func226 (tbC Tryz.func227 (tbC Tryz.func242 (tbC Tryz.func243 (tbC Tryz.func244 (tbC Tryz.func245 (tbC Tryz.func250 (tbC Tryz.func251 (tbC Tryz.func252 (tbC Tryz.func253 (tbC Tryz.func255 (tbC Tryz.func256 (tbC Tryz.func257 (tbC Tryz.func258 (tbN)))))))))))))))))))))))))))))))))))))))))))))))))))))))))
def tRep:Ty:=⟨2,[65],0,(1,0),(0,0),(0,0),(0,0)⟩
def tPeer:Ty:=⟨2,[65],0,(2,0),(0,0),(0,0),(0,0)⟩
def a28S:St:=⟨1,[120],[],[],tz,⟨2,0,[121],[]⟩,[],[],[],38⟩
def a28M:Me:=⟨[109],false,tz,[⟨[120],tRep,17⟩,⟨[121],tPeer,26⟩],[],[a28S],10⟩
def a28C:Cs:=⟨[65],[],[],[],[],[a28M],0⟩
theorem awOf:qaa Tryz.prog 19 [.a (.v (.string (bs [99,108,97,115,115,32,65,32,123,32,118,111,105,100,32,109,40,114,101,112,32,65,32,120,44,32,112,101,101,114,32,65,32,121,41,32,123,32,120,32,61,32,121,59,32,125,32,125])))] (.t [.a (.sl ([a28C].map Cs.at)),.r [.v (.int .i64 0),.v (.int .i64 0)]]):=runs (F:=100000) (k:=60) of28L_ok (by kernel_rfl)
end
section
set_option maxRecDepth 100000
theorem duSelf (z:Du):bin2 (qbq Tryz.prog 62) (eqOk Tryz.prog 62) .neq (.r (Du.at z)) (.r (Du.at z))=some (.a (.v (.bool false))):=by
 obtain⟨k,⟨a1,a2,a3,⟨a4,a5⟩,⟨a6,a7⟩,⟨a8,a9⟩,⟨a10,a11⟩⟩,⟨b1,b2,b3,⟨b4,b5⟩,⟨b6,b7⟩,⟨b8,b9⟩,⟨b10,b11⟩⟩⟩:=z
 simp only [bin2,go_sem]
 simp [eqR,Du.at,Ty.at,qby,okLs,eqLs,okC,eqV]
end
end Go.Proofs.YthkojpnjdpbcgaaGreatDoor
