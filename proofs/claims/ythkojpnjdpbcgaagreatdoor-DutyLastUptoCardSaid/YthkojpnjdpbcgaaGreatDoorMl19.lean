/- Classes above classes, on plain data: above.up and the document's chain. Conditions: at most 2^20 classes. -/
import Derived.Test.YthkojpnjdpbcgaaGreatDoorMl16
set_option linter.unusedVariables false
set_option maxRecDepth 100000
set_option maxHeartbeats 8000000
set_option linter.unusedSimpArgs false
namespace Go.Proofs.YthkojpnjdpbcgaaGreatDoor
open Go.RowKit
def inAt (i:Int):List A:=[.v (.int .i64 i)]
@[go_sem] theorem inAt_len {i:Int}:(inAt i).length=1:=rfl
@[go_sem] theorem inAt_ld {i:Int}:qae none (inAt i) 0=some (.a (.v (.int .i64 i))):=rfl
def qb9 (p:List Cs) (i:Int):List UInt8:=((p[i.toNat]?).map Cs.super).getD []
def upL (p:List Cs):Nat→List UInt8→List Int
 | 0,_=>[]
 | m+1,s=>if qa3 p s<0 then [] else qa3 p s::(if qb9 p (qa3 p s)=[] then [] else upL p m (qb9 p (qa3 p s)))
theorem upL_no {p:List Cs} {m:Nat} {s:List UInt8} (h:qa3 p s = -1):upL p (m+1) s=[]:=by rw [upL,h];rfl
theorem upL_yes {p:List Cs} {m j:Nat} {s:List UInt8} {z:Cs} (h:qa3 p s=(j:Int)) (hz:p[j]? = some z):upL p (m+1) s=(j:Int)::(if z.super=[] then [] else upL p m z.super):=by
 rw [upL,h,if_neg (by omega)]
 have:qb9 p (j:Int)=z.super:=by unfold qb9;rw [Int.toNat_natCast,hz];rfl
 rw [this]
theorem pslIndexI (l:List Int) (n:Int) (hn:l.length≤4194304):qaa Tryz.prog 185 [.a (.sl (l.map inAt)),.a (.v (.int .i64 n))] (.a (.v (.int .i64 (ixOf (fun x=>x==n) l 0)))):=by
 refine qaa.go Tryz.func185 rfl Tryz.ntmps185 rfl rfl rfl (fun C hro=>?_)
 have fx:=trivial
 repeat' (first|refine stp [0,1,4,5,7,8,9,16] ?_|fail)
 refine WP.loop (α:={ k:Nat // k≤l.length∧(l.take k).any (fun x=>x==n)=false }) (fun y=>[(0,.a (.sl (l.map inAt))),(1,.a (.v (.int .i64 n))),(4,.a (.v (.int .i64 0))),(7,.a (.v (.int .i64 (l.length:Nat)))),(8,.a (.v (.int .i64 (y.1:Nat))))]) (fun _=>[]) (fun y=>l.length-y.1) ⟨0,by omega,rfl⟩ (by simp only [qal,go_sem,simprocAttr];first|done|rfl) rfl ?_
 rintro⟨k,hk,hinv⟩
 dsimp only
 by_cases hlt:k<l.length
 ·have hlt2:decide ((k:Int)<((l.length:Nat):Int))=true:=decide_eq_true (by omega)
  obtain⟨z,hz⟩:∃z,l[k]? = some z:=⟨_,List.getElem?_eq_getElem hlt⟩
  have hzm:z∈l:=lm4 hz
  have hzt:=qao hz
  have hix:∀q2,ixD (some 1) q2 (.a (.sl (l.map inAt))) (.a (.v (.int .i64 (k:Int))))=some (.a (.ref (inAt z) 0)):=fun q2=>qaq rfl (by rw [List.getElem?_map,hz];rfl) (by simp only [go_sem])
  have hwu:=qap (k:=k) (by omega)
  replace fx:=ai15 hlt2 (ai15 hix (ai15 hwu trivial))
  repeat' (first|refine stp [0,1,4,5,7,8,9,16] ?_|refine WP.cn (fun hc=>?_) (fun hc=>?_)|fail)
  ·exact qco (qd5 _ l k 0 z hz hinv (by rw [beq_iff_eq] at hc ⊢;exact hc.symm) |>.symm▸by rw [Nat.zero_add])
  ·refine⟨⟨k+1,by omega,by rw [hzt,List.any_append,hinv];simp only [List.any_cons,List.any_nil,Bool.or_false,Bool.false_or];rw [beq_eq_false_iff_ne] at hc ⊢;exact fun h=>hc h.symm⟩,by dsimp only;omega,by simp only [qal,go_sem,simprocAttr],rfl⟩
 obtain rfl:k=l.length:=by omega
 rw [List.take_length] at hinv
 have hlt2:decide ((l.length:Int)<(l.length:Int))=false:=decide_eq_false (by omega)
 replace fx:=ai15 hlt2 trivial
 repeat' (first|refine stp [0,1,4,5,7,8,9,16] ?_|fail)
 exact qco (by rw [qb8 _ l 0 hinv])
theorem qjd (l:List Int) (n:Int) (hn:l.length≤4194304):qaa Tryz.prog 132 [.a (.sl (l.map inAt)),.a (.v (.int .i64 n))] (.a (.v (.bool (l.any fun x=>x==n)))):=by
 refine qaa.go Tryz.func132 rfl Tryz.ntmps132 rfl rfl rfl (fun C hro=>?_)
 have fx:=trivial
 repeat' (first|refine stp [0,1,4] ?_|(refine stc (r1:=by exact pslIndexI l n hn) (r2:=?_);refine rnx ?_)|fail)
 exact qam (qgh _ l 0)
theorem pUp (p:List Cs) (s:List UInt8):DM Tryz.prog 131 [.a (.sl (p.map Cs.at)),.a (.v (.string (bs s)))] [] (.a (.fn 184 [.ptr 0 0,.ptr 1 0])) [.cell [.sl (p.map Cs.at)],.cell [.v (.string (bs s))]]:=by
 refine DM.intro Tryz.func131 rfl Tryz.ntmps131 rfl rfl rfl (by simp only [go_sem,simprocAttr]) (fun V0 Kb Nx=>?_)
 have fx:=trivial
 repeat' (first|refine stp [0,1,2,3,4] ?_|fail)
 exact qar ⟨rfl,[],rfl⟩
theorem pUp1 (p:List Cs) (s:List UInt8) (hn:p.length≤1048576):DItM Tryz.prog 184 [.ptr 0 0,.ptr 1 0] [.cell [.sl (p.map Cs.at)],.cell [.v (.string (bs s))]] ((upL p (p.length+1) s).map fun i=>[D.a (.v (.int .i64 i))]):=by
 intro E hE
 refine DG.introV Tryz.func184 rfl Tryz.ntmps184 rfl rfl rfl (fun C hro hCE hon hCV=>?_)
 subst hCE
 have fx:=trivial
 have hw1:IntKind.i64.wrap ((p.length:Nat)+1:Int)=((p.length+1:Nat):Int):=qap (by omega)
 replace fx:=ai15 hw1 trivial
 repeat' (first|refine stp (1000000::[0,1,2,4,7,8,9,20,27]) ?_|fail)
 refine WP.loopX (α:={ y:Nat×List UInt8 // y.1≤p.length+1∧y.1≤(upL p (p.length+1) s).length∧(upL p (p.length+1) s).drop y.1=upL p (p.length+1-y.1) y.2 }) (fun y=>[(0,yv C.E.l),(1,.a (.ptr 0 0)),(2,.a (.ptr 1 0)),(7,.a (.v (.int .i64 ((p.length+1:Nat):Int)))),(8,.a (.v (.int .i64 (y.1.1:Nat)))),(1000000,.a (.v (.int .i64 (y.1.1:Nat))))]) (fun y=>[.cell [.sl (p.map Cs.at)],.cell [.v (.string (bs y.1.2))]]) (fun y=>p.length+1-y.1.1) ⟨(0,s),by omega,by omega,rfl⟩ (by simp only [qal,go_sem,simprocAttr];first|done|rfl) rfl ?_
 rintro⟨⟨k,t⟩,hk,hkl,hdr⟩
 dsimp only at hk hkl hdr ⊢
 have hTl:((upL p (p.length+1) s).map fun i=>[D.a (.v (.int .i64 i))]).length=(upL p (p.length+1) s).length:=List.length_map _
 by_cases hlt:k<p.length+1
 ·have hlt2:decide ((k:Int)<((p.length+1:Nat):Int))=true:=decide_eq_true (by omega)
  obtain⟨m,hm⟩:∃m,p.length+1-k=m+1:=⟨p.length-k,by omega⟩
  rw [hm] at hdr
  have hwu:=qap (k:=k) (by omega)
  rcases qff p t with hf|⟨j,z,hz,hzn,hf⟩
  ·rw [upL_no hf] at hdr
   have hke:k=(upL p (p.length+1) s).length:=by have:=congrArg List.length hdr;rw [List.length_drop] at this;simp at this;omega
   replace fx:=ai15 hlt2 (ai15 hf (ai15 hwu trivial))
   repeat' (first|refine stp (1000000::[0,1,2,4,7,8,9,20,27]) ?_|(refine RS.pk ?_;refine rnx ?_)|(refine RS.gF ?_;refine rnx ?_)|(refine stc (r1:=by exact qig p t hn) (r2:=?_);refine rnx ?_)|fail)
   refine retM0 ?_
   refine Or.inl ?_
   rw [hTl,←hke];simp only [go_sem,simprocAttr]
  ·rw [upL_yes hf hz] at hdr
   have hget:(upL p (p.length+1) s)[k]? = some (j:Int):=by have:=congrArg (fun l=>l[0]?) hdr;simpa [List.getElem?_drop] using this
   have htl:C.E.tl[k]? = some [D.a (.v (.int .i64 (j:Int)))]:=by rw [hE,List.getElem?_map,hget];rfl
   have hj0:decide ((j:Int)<0)=false:=decide_eq_false (by omega)
   have hjx:∀q2,ixD (some 7) q2 (.a (.sl (p.map Cs.at))) (.a (.v (.int .i64 (j:Int))))=some (.a (.ref (Cs.at z) 0)):=fun q2=>qaq rfl (by rw [List.getElem?_map,hz];rfl) (by simp only [go_sem])
   replace fx:=ai15 hlt2 (ai15 hf (ai15 hwu (ai15 hj0 (ai15 hjx trivial))))
   repeat' (first|refine stp (1000000::[0,1,2,4,7,8,9,20,27]) ?_|(refine stc (r1:=by exact qig p t hn) (r2:=?_);refine rnx ?_)|fail)
   refine RS.yield (k:=k) (by simp only [go_sem,simprocAttr,fx];first|done|rfl) (by simp only [go_sem,simprocAttr,fx];first|done|rfl) (by simp only [go_sem,simprocAttr,fx];first|done|rfl) (by simp only [go_sem,simprocAttr,List.all_cons,List.all_nil,Bool.and_true,fx];first|done|rfl) htl ?_ ?_ (hgd:=⟨rfl,trivial⟩)<;>refine RS.run2 (by simp only [go_sem,simprocAttr,qab];first|done|rfl) ?_;simp only [qai]
   ·replace fx:=ai15 hlt2 (ai15 hf (ai15 hwu (ai15 hj0 (ai15 hjx trivial))))
    repeat' (first|refine stp (1000000::[0,1,2,4,7,8,9,20,27]) ?_|refine WP.cn (fun hc=>?_) (fun hc=>?_)|fail)
    ·refine retM0 ?_
     refine Or.inl ?_
     have hzs:z.super=[]:=by simpa using hc
     rw [if_pos hzs] at hdr
     have hke:k+1=(upL p (p.length+1) s).length:=by have:=congrArg List.length hdr;rw [List.length_drop] at this;simp at this;omega
     rw [hTl,←hke];simp only [go_sem,simprocAttr]
    ·have hzs:¬z.super=[]:=by simpa using hc
     rw [if_neg hzs] at hdr
     refine⟨⟨(k+1,z.super),by dsimp only;omega,by have:=(List.getElem?_eq_some_iff.1 hget).1;dsimp only;omega,?_⟩,[],by dsimp only;omega,by simp only [qal,go_sem,simprocAttr],rfl,by simp only [nrE,nrD,List.all_cons,List.all_nil,go_sem,simprocAttr,yv],by simp only [go_sem,simprocAttr]⟩
     have:=congrArg (List.drop 1) hdr
     rw [List.drop_drop] at this
     rw [show p.length+1-(k+1)=m by omega]
     exact this
   ·replace fx:=ai15 hlt2 (ai15 hf (ai15 hwu (ai15 hj0 (ai15 hjx trivial))))
    repeat' (first|refine stp (1000000::[0,1,2,4,7,8,9,20,27]) ?_|fail)
    refine retM0 ?_
    exact Or.inr (by simp only [go_sem,simprocAttr])
 ·obtain rfl:k=p.length+1:=by omega
  have hlt2:decide (((p.length+1:Nat):Int)<((p.length+1:Nat):Int))=false:=decide_eq_false (by omega)
  replace fx:=ai15 hlt2 trivial
  repeat' (first|refine stp (1000000::[0,1,2,4,7,8,9,20,27]) ?_|fail)
  refine retM0n ?_
  refine Or.inl ?_
  have hke:p.length+1=(upL p (p.length+1) s).length:=by
   have h1:=congrArg List.length hdr
   rw [Nat.sub_self,upL,List.length_drop,List.length_nil] at h1;omega
  rw [hTl,←hke];simp only [go_sem,simprocAttr]
def qdt:List Int→List Int→List Int
 | out,[]=>out
 | out,i::r=>if out.any (fun x=>x==i) then out else qdt (out++[i]) r
def qbs (p:List Cs) (s:List UInt8):List Int:=qdt [] (upL p (p.length+1) s)
def upT (p:List Cs) (s:List UInt8):List (List D):=(upL p (p.length+1) s).map fun i=>[D.a (.v (.int .i64 i))]
theorem qfj {p:List Cs} {s:List UInt8} {k:Nat} {xs:List D} (h:(upT p s)[k]? = some xs):∃i,(upL p (p.length+1) s)[k]? = some i∧xs=[.a (.v (.int .i64 i))]:=by
 unfold upT at h
 rw [List.getElem?_map,Option.map_eq_some_iff] at h
 obtain⟨i,h1,h2⟩:=h
 exact⟨i,h1,h2.symm⟩
theorem upL_len (p:List Cs):∀(m:Nat) (s:List UInt8),(upL p m s).length≤m
 | 0,_=>Nat.le_refl _
 | m+1,s=>by
  rw [upL]
  split
  ·exact Nat.zero_le _
  ·split
   ·simp
   ·have:=upL_len p m (qb9 p (qa3 p s));simp;omega
def qn9 (l:List Int):Nat→List Bx
 | 0=>[.cell [.nl]]
 | k+1=>[.cell [.own 1 k],.arr k 1 ((l.take (k+1)).map inAt)]
theorem in_nr (l:List Int):((l.map inAt).all fun r=>r.all (nrA 2))=true:=by rw [List.all_map];exact List.all_eq_true.2 fun _ _=>rfl
theorem pslIndexN (n:Int):qaa Tryz.prog 185 [.a .nl,.a (.v (.int .i64 n))] (.a (.v (.int .i64 (-1)))):=by
 refine qaa.go Tryz.func185 rfl Tryz.ntmps185 rfl rfl rfl (fun C hro=>?_)
 have fx:=trivial
 repeat' (first|refine stp [0,1,4,5,7,8,9,16] ?_|fail)
 refine WP.loop_in ?_
 refine WPIn.unroll ?_
 repeat' (first|refine stp [0,1,4,5,7,8,9,16] ?_|fail)
 rfl
theorem pslContN (n:Int):qaa Tryz.prog 132 [.a .nl,.a (.v (.int .i64 n))] (.a (.v (.bool false))):=by
 refine qaa.go Tryz.func132 rfl Tryz.ntmps132 rfl rfl rfl (fun C hro=>?_)
 have fx:=trivial
 repeat' (first|refine stp [0,1,4] ?_|(refine stc (r1:=by exact pslIndexN n) (r2:=?_);refine rnx ?_)|fail)
 rfl
theorem pChain (p:List Cs) (s:List UInt8) (hn:p.length≤1048576):qaa Tryz.prog 75 [.a (.sl (p.map Cs.at)),.a (.v (.string (bs s)))] (.a (.sl ((qbs p s).map inAt))):=by
 have hT:(upT p s).length=(upL p (p.length+1) s).length:=List.length_map _
 have hTl:=upL_len p (p.length+1) s
 generalize hL:upL p (p.length+1) s=L at *
 refine qaa.goV Tryz.func75 rfl Tryz.ntmps75 rfl rfl rfl (fun C hro hCV=>?_)
 have fx:=trivial
 repeat' (first|refine stp [0,1,4,5,6,9,10,13] ?_|(refine RS.cM [] (hp:=by exact pUp p s) (h:=?_);refine rnx ?_)|fail)
 refine WP.range2 [(5,.a (.ptr 0 0))] (qn9 L) [.cell [.sl (p.map Cs.at)],.cell [.v (.string (bs s))]] (upT p s) (fun _=>.junk) (fun k=>qdt [] L=qdt (L.take k) (L.drop k)) rfl hro (by simp only [go_sem,simprocAttr]) rfl ?_ rfl (.inr hCV) (.inr rfl) rfl rfl (by rw [hCV];exact Nat.zero_le _) (fun k=>?_) (fun k=>?_) rfl (by simp only [go_sem,simprocAttr]<;>rfl) rfl rfl (pUp1 p s hn) (.inr ?_) rfl (fun k xs hx=>?_) (fun C1 k xs hCE hon hx hI=>?_) (fun hI=>?_)
 ·simp only [qal,go_sem,simprocAttr]
 ·cases k<;>exact Nat.le_of_ble_eq_true rfl
 ·cases k with
  | zero=>rfl
  | succ k=>simp only [qn9,go_sem,simprocAttr,in_nr]
 ·rw [List.all_eq_true]
  intro xs hx
  obtain⟨k,hk⟩:=List.getElem?_of_mem hx
  obtain⟨i,_,rfl⟩:=qfj hk
  rfl
 ·obtain⟨i,_,rfl⟩:=qfj hx
  rfl
 ·obtain⟨i,hi,rfl⟩:=qfj hx
  rw [hL] at hi
  have hkl:=(List.getElem?_eq_some_iff.1 hi).1
  have hdr:L.drop k=i::L.drop (k+1):=by rw [List.drop_eq_getElem_cons hkl];congr 1;exact (List.getElem?_eq_some_iff.1 hi).2
  rw [hdr,qdt] at hI
  simp only [qma]
  have hsn:L.take (k+1)=L.take k++[i]:=qao hi
  cases k with
  | zero =>
   simp only [qn9]
   repeat' (first|refine stp [0,1,4,5,6,9,10,13] ?_|fail)
   intro C2 _ _
   repeat' (first|refine stp [0,1,4,5,6,9,10,13] ?_|(refine RS.aN ?_;refine rnx ?_)|(refine RS.ls ?_;refine rnx ?_)|(refine stc (r1:=by exact pslContN i) (r2:=?_);refine rnx ?_)|fail)
   refine⟨?_,by simp only [go_sem,simprocAttr],[],?_⟩
   ·rw [hI,List.take_zero,List.any_nil,if_neg (by decide),hsn];rfl
   ·rw [hsn];rfl
  | succ k =>
   have hlr:((L.take (k+1)).map inAt).length=k+1:=by rw [List.length_map,List.length_take];omega
   have hlt:(L.take (k+1)).length=k+1:=by rw [List.length_take];omega
   have hkk:(k==k)=true:=beq_self_eq_true k
   simp only [qn9]
   replace fx:=ai15 hkk (ai15 hlr trivial)
   repeat' (first|refine stp [0,1,4,5,6,9,10,13] ?_|fail)
   intro C2 _ _
   replace fx:=ai15 hkk (ai15 hlr trivial)
   repeat' (first|refine stp [0,1,4,5,6,9,10,13] ?_|(refine RS.aO ?_;refine rnx ?_)|(refine RS.ls ?_;refine rnx ?_)|(refine stc (r1:=by exact qjd (L.take (k+1)) i (by rw [List.length_take];omega)) (r2:=?_);refine rnx ?_)|refine WP.cn (fun hc=>?_) (fun hc=>?_)|fail)
   ·unfold qbs;rw [hL,hI,if_pos hc]
   ·refine⟨?_,by simp only [go_sem,simprocAttr],[],?_⟩
    ·rw [hI,if_neg (by rw [hc];exact Bool.false_ne_true),hsn]
    ·rw [hsn,List.map_append];rfl
 ·rw [hT,List.drop_length,List.take_length] at hI
  rw [hT]
  have hch:qbs p s=L:=by unfold qbs;rw [hL,hI,qdt]
  rw [hch]
  cases L with
  | nil =>
   simp only [qn9,List.length_nil]
   repeat' (first|refine stp [0,1,4,5,6,9,10,13] ?_|fail)
   rfl
  | cons a l =>
   have hkk:(l.length==l.length)=true:=beq_self_eq_true _
   simp only [qn9,List.length_cons]
   rw [show (a::l).take (l.length+1)=a::l from List.take_length (l:=a::l)]
   replace fx:=ai15 hkk trivial
   repeat' (first|refine stp [0,1,4,5,6,9,10,13] ?_|fail)
   rfl
def qcd (p:List Cs) (a b:List UInt8):Bool:=(upL p (p.length+1) a).any fun k=>k==qa3 p b
theorem qm4 (p:List Cs) (a b:List UInt8) (hn:p.length≤1048576):qaa Tryz.prog 162 [.a (.sl (p.map Cs.at)),.a (.v (.string (bs a))),.a (.v (.string (bs b)))] (.a (.v (.bool (qcd p a b)))):=by
 have hT:(upT p a).length=(upL p (p.length+1) a).length:=List.length_map _
 have hB:qcd p a b=(upL p (p.length+1) a).any fun k=>k==qa3 p b:=rfl
 generalize hL:upL p (p.length+1) a=L at *
 generalize hF:qa3 p b=i at *
 refine qaa.goV Tryz.func162 rfl Tryz.ntmps162 rfl rfl rfl (fun C hro hCV=>?_)
 have fx:=trivial
 repeat' (first|refine stp [0,1,2,6,7,8,14,15,18] ?_|(refine stc (r1:=by exact qig p b hn) (r2:=?_);refine rnx ?_)|(refine RS.cM [] (hp:=by exact pUp p a) (h:=?_);refine rnx ?_)|fail)
 rw [hF]
 refine WP.range2 [(6,.a (.ptr 0 0)),(7,.a (.ptr 1 0))] (fun _=>[.cell [.v (.bool false)],.cell [.v (.int .i64 i)]]) [.cell [.sl (p.map Cs.at)],.cell [.v (.string (bs a))]] (upT p a) (fun _=>.junk) (fun k=>((L.take k).any fun k=>k==i)=false) rfl hro (by simp only [go_sem,simprocAttr]) rfl ?_ rfl (.inr hCV) (.inr rfl) rfl rfl (by rw [hCV];exact Nat.zero_le _) (fun _=>Nat.le_refl _) (fun _=>rfl) rfl (by simp only [go_sem,simprocAttr]<;>rfl) rfl rfl (pUp1 p a hn) (.inr ?_) rfl (fun k xs hx=>?_) (fun C1 k xs hCE hon hx hI=>?_) (fun hI=>?_)
 ·simp only [qal,go_sem,simprocAttr]
 ·rw [List.all_eq_true]
  intro xs hx
  obtain⟨k,hk⟩:=List.getElem?_of_mem hx
  obtain⟨i,_,rfl⟩:=qfj hk
  rfl
 ·obtain⟨i,_,rfl⟩:=qfj hx
  rfl
 ·obtain⟨j,hj,rfl⟩:=qfj hx
  rw [hL] at hj
  have hjm:j∈L:=lm4 hj
  have hsn:L.take (k+1)=L.take k++[j]:=qao hj
  simp only [qma]
  repeat' (first|refine stp [0,1,2,6,7,8,14,15,18] ?_|fail)
  intro C2 _ _
  repeat' (first|refine stp [0,1,2,6,7,8,14,15,18] ?_|refine WP.cn (fun hc=>?_) (fun hc=>?_)|fail)
  ·refine qam ?_
   rw [hB]
   exact (List.any_eq_true.2 ⟨j,hjm,hc⟩).symm
  ·exact⟨by rw [hsn,List.any_append,hI,List.any_cons,List.any_nil,hc];rfl,by simp only [go_sem,simprocAttr],[],rfl⟩
 ·rw [hT,List.take_length] at hI
  repeat' (first|refine stp [0,1,2,6,7,8,14,15,18] ?_|fail)
  refine qam ?_
  rw [hB,hI]
end Go.Proofs.YthkojpnjdpbcgaaGreatDoor
