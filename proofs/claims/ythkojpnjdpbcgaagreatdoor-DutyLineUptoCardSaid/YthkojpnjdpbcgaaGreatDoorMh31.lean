/- The document's classes above classes, on plain data. Conditions: at most 2^20 classes. -/
import Derived.Test.YthkojpnjdpbcgaaGreatDoorMh19
import Derived.Test.YthkojpnjdpbcgaaGreatDoorMh22
set_option linter.unusedVariables false
set_option maxRecDepth 100000
set_option maxHeartbeats 8000000
set_option linter.unusedSimpArgs false
namespace Go.Proofs.YthkojpnjdpbcgaaGreatDoor
open Go.RowKit
theorem qm2 (l:List Int) (n:Int) (hn:l.length≤4194304):qaa Tryz.prog 140 [.a (.sl (l.map inAt)),.a (.v (.int .i64 n))] (.a (.v (.bool (l.any fun x=>x==n)))):=by
 refine qaa.go Tryz.func140 rfl Tryz.ntmps140 rfl rfl rfl (fun C hro=>?_)
 have fx:=trivial
 repeat' (first|refine stp [0,1,4,5,9,17] ?_|fail)
 refine WP.loop (α:={ k:Nat // k≤l.length∧(l.take k).any (fun x=>x==n)=false }) (fun y=>[(0,.a (.sl (l.map inAt))),(1,.a (.v (.int .i64 n))),(5,.a (.v (.int .i64 (y.1:Nat))))]) (fun _=>[]) (fun y=>l.length-y.1) ⟨0,by omega,rfl⟩ (by simp only [qag,go_sem,simprocAttr];first|done|rfl) rfl ?_
 rintro⟨k,hk,hinv⟩
 dsimp only
 by_cases hlt:k<l.length
 ·have hlt2:decide ((k:Int)<((l.length:Nat):Int))=true:=decide_eq_true (by omega)
  obtain⟨z,hz⟩:∃z,l[k]? = some z:=⟨_,List.getElem?_eq_getElem hlt⟩
  have hzm:z∈l:=lm4 hz
  have hzt:=qan hz
  have hix:∀q2,ixD (some 1) q2 (.a (.sl (l.map inAt))) (.a (.v (.int .i64 (k:Int))))=some (.a (.ref (inAt z) 0)):=fun q2=>qaq rfl (by rw [List.getElem?_map,hz];rfl) (by simp only [go_sem])
  have hwu:=qap (k:=k) (by omega)
  replace fx:=ai15 hlt2 (ai15 hix (ai15 hwu trivial))
  repeat' (first|refine stp [0,1,4,5,9,17] ?_|refine WP.cn (fun hc=>?_) (fun hc=>?_)|fail)
  ·refine qaj ?_
   rw [eq_comm,List.any_eq_true];exact⟨z,hzm,hc⟩
  ·refine⟨⟨k+1,by omega,by rw [hzt,List.any_append,hinv];simpa using hc⟩,by dsimp only;omega,by simp only [qag,go_sem,simprocAttr],rfl⟩
 obtain rfl:k=l.length:=by omega
 rw [List.take_length] at hinv
 have hlt2:decide ((l.length:Int)<(l.length:Int))=false:=decide_eq_false (by omega)
 replace fx:=ai15 hlt2 trivial
 repeat' (first|refine stp [0,1,4,5,9,17] ?_|fail)
 exact qaj hinv.symm
theorem pr14hasN (n:Int):qaa Tryz.prog 140 [.a .nl,.a (.v (.int .i64 n))] (.a (.v (.bool false))):=by
 refine qaa.go Tryz.func140 rfl Tryz.ntmps140 rfl rfl rfl (fun C hro=>?_)
 have fx:=trivial
 repeat' (first|refine stp [0,1,4,5,9,17] ?_|fail)
 refine WP.loop_in ?_
 refine WPIn.unroll ?_
 repeat' (first|refine stp [0,1,4,5,9,17] ?_|fail)
 rfl
def PlN (p:List Cs) (l:List Int):Prop:=l.Nodup∧∀i∈l,∃(k:Nat) (c:Cs),i=(k:Int)∧p[k]? = some c
theorem PlN.len {p:List Cs} {l:List Int} (h:PlN p l):l.length≤p.length:=by
 have h2:l.length≤((List.range p.length).map fun k:Nat=>(k:Int)).length:=List.Nodup.length_le_of_subset h.1 fun i hi=>by
  obtain⟨k,c,rfl,hc⟩:=h.2 i hi
  exact List.mem_map.2 ⟨k,by simpa using (List.getElem?_eq_some_iff.1 hc).1,rfl⟩
 simpa using h2
theorem PlN.snoc {p:List Cs} {l:List Int} {j:Nat} {c:Cs} (h:PlN p l) (hc:p[j]? = some c) (hn:(l.any fun x=>x==(j:Int))=false):PlN p (l++[(j:Int)]):=by
 refine⟨?_,fun i hi=>?_⟩
 ·rw [List.nodup_append]
  refine⟨h.1,by simp,fun a ha b hb=>?_⟩
  simp at hb;subst hb
  rw [List.any_eq_false] at hn
  have:=hn a ha
  simpa using this
 ·rw [List.mem_append] at hi
  rcases hi with hi|hi
  ·exact h.2 i hi
  ·simp at hi;exact⟨j,c,hi,hc⟩
def chEx:Nat→D
 | 0=>.a .nl
 | k+1=>.a (.own 0 k)
def chBx (l:List Int):Nat→List Bx
 | 0=>[]
 | k+1=>[.arr k 1 (l.map inAt)]
theorem qfu (p:List Cs) (s:List UInt8) (hn:p.length≤1048576):qaa Tryz.prog 81 [.a (.sl (p.map Cs.at)),.a (.v (.string (bs s)))] (.a (.sl ((qa5 p s).map inAt))):=by
 refine qaa.go Tryz.func81 rfl Tryz.ntmps81 rfl rfl rfl (fun C hro=>?_)
 have fx:=trivial
 repeat' (first|refine stp [0,1,4,5,6,17,27] ?_|(refine stc (r1:=by exact qep p s hn) (r2:=?_);refine rnx ?_)|fail)
 refine WP.loop (α:={ y:Nat×List UInt8×List Int // y.2.2.length=y.1∧PlN p y.2.2∧qa5 p s=qc4 y.2.2 (upL p (p.length+1-y.1) y.2.1) }) (fun y=>[(0,.a (.sl (p.map Cs.at))),(5,chEx y.1.1),(6,.a (.v (.int .i64 (qa4 p y.1.2.1))))]) (fun y=>chBx y.1.2.2 y.1.1) (fun y=>p.length+1-y.1.1) ⟨(0,s,[]),rfl,⟨List.nodup_nil,fun i hi=>by simp at hi⟩,rfl⟩ (by simp only [qag,go_sem,simprocAttr];first|done|rfl) rfl ?_
 rintro⟨⟨k,t,out⟩,hk,hpl,hch⟩
 dsimp only at hk hpl hch ⊢
 have hkl:=hpl.len
 obtain⟨m,hm⟩:∃m,p.length+1-k=m+1:=⟨p.length-k,by omega⟩
 rw [hm] at hch
 rcases qdf p t with hf|⟨j,z,hz,hzn,hf⟩
 ·rw [upL_no hf] at hch
  have hg:decide ((-1:Int)≥0)=false:=by decide
  rw [hf]
  rw [qc4] at hch
  cases k with
  | zero =>
   simp only [chEx,chBx]
   replace fx:=ai15 hg trivial
   repeat' (first|refine stp [0,1,4,5,6,17,27] ?_|(refine RS.pk ?_;refine rnx ?_)|(refine RS.gF ?_;refine rnx ?_)|fail)
   have:out=[]:=List.eq_nil_of_length_eq_zero hk
   rw [hch,this];rfl
  | succ k =>
   have hkk:(k==k)=true:=beq_self_eq_true k
   simp only [chEx,chBx]
   replace fx:=ai15 hg (ai15 hkk trivial)
   repeat' (first|refine stp [0,1,4,5,6,17,27] ?_|(refine RS.pk ?_;refine rnx ?_)|(refine RS.gF ?_;refine rnx ?_)|fail)
   rw [hch]
 ·rw [qmu hf hz,qc4] at hch
  have hg:decide ((j:Int)≥0)=true:=decide_eq_true (by omega)
  have hjx:∀q2,ixD (some 7) q2 (.a (.sl (p.map Cs.at))) (.a (.v (.int .i64 (j:Int))))=some (.a (.ref (Cs.at z) 0)):=fun q2=>qaq rfl (by rw [List.getElem?_map,hz];rfl) (by simp only [go_sem])
  rw [hf]
  cases hany:out.any (fun x=>x==(j:Int)) with
  | true =>
   rw [hany,if_pos rfl] at hch
   cases k with
   | zero =>
    have:out=[]:=List.eq_nil_of_length_eq_zero hk
    subst this;cases hany
   | succ k =>
    have hkk:(k==k)=true:=beq_self_eq_true k
    have hh:=qm2 out j (by omega)
    rw [hany] at hh
    simp only [chEx,chBx]
    replace fx:=ai15 hg (ai15 hkk trivial)
    repeat' (first|refine stp [0,1,4,5,6,17,27] ?_|(refine stc (r1:=by exact hh) (r2:=?_);refine rnx ?_)|fail)
    rw [hch]
  | false =>
   rw [hany,if_neg Bool.false_ne_true] at hch
   have hsn:=hpl.snoc hz hany
   have hl2:(out++[(j:Int)]).length=k+1:=by simp [hk]
   have hfin:z.super=[]→qa5 p s=out++[(j:Int)]:=fun e=>by rw [hch,if_pos e,qc4]
   have hgo:¬z.super=[]→qa5 p s=qc4 (out++[(j:Int)]) (upL p (p.length+1-(k+1)) z.super):=fun e=>by rw [hch,if_neg e,show p.length+1-(k+1)=m by omega]
   cases k with
   | zero =>
    have:out=[]:=List.eq_nil_of_length_eq_zero hk
    subst this
    simp only [chEx,chBx]
    replace fx:=ai15 hg (ai15 hjx trivial)
    repeat' (first|refine stp [0,1,4,5,6,17,27] ?_|(refine RS.aN ?_;refine rnx ?_)|(refine RS.ls ?_;refine rnx ?_)|(refine stc (r1:=by first|exact pr14hasN j|exact qep p z.super hn) (r2:=?_);refine rnx ?_)|refine WP.cn (fun hc=>?_) (fun hc=>?_)|fail)
    ·rw [hfin (by simpa using hc)];rfl
    ·exact⟨⟨(1,z.super,[(j:Int)]),rfl,hsn,hgo (by simpa using hc)⟩,by dsimp only;omega,by simp only [chEx,qag,go_sem,simprocAttr],rfl⟩
   | succ k =>
    have hkk:(k==k)=true:=beq_self_eq_true k
    have hh:=qm2 out j (by omega)
    rw [hany] at hh
    have hol:(out.map inAt).length=k+1:=by rw [List.length_map];exact hk
    simp only [chEx,chBx]
    replace fx:=ai15 hg (ai15 hkk (ai15 hjx (ai15 hol trivial)))
    repeat' (first|refine stp [0,1,4,5,6,17,27] ?_|(refine RS.aO ?_;refine rnx ?_)|(refine RS.ls ?_;refine rnx ?_)|(refine stc (r1:=by first|exact hh|exact qep p z.super hn) (r2:=?_);refine rnx ?_)|refine WP.cn (fun hc=>?_) (fun hc=>?_)|fail)
    ·rw [hfin (by simpa using hc),List.map_append];rfl
    ·exact⟨⟨(k+2,z.super,out++[(j:Int)]),hl2,hsn,hgo (by simpa using hc)⟩,by dsimp only;omega,by simp only [chEx,qag,go_sem,simprocAttr],by simp only [chBx,List.map_append];rfl⟩
theorem qbr (p:List Cs) (s:List UInt8):PlN p (qa5 p s):=by
 have key:∀(m:Nat) (t:List UInt8) (out:List Int),PlN p out→PlN p (qc4 out (upL p m t)):=by
  intro m
  induction m with
  | zero=>intro t out h;rw [upL,qc4];exact h
  | succ m ih =>
   intro t out h
   rcases qdf p t with hf|⟨j,z,hz,hzn,hf⟩
   ·rw [upL_no hf,qc4];exact h
   ·rw [qmu hf hz,qc4]
    split
    ·exact h
    ·rename_i hn
     have h2:=h.snoc hz (by simpa only [Bool.not_eq_true] using hn)
     split
     ·rw [qc4];exact h2
     ·exact ih _ _ h2
 exact key _ _ _ ⟨List.nodup_nil,fun i hi=>by simp at hi⟩
theorem qhe:∀(l out:List Int) (x:Int),x∈qc4 out l→x∈out∨x∈l
 | [],out,x,h=>.inl h
 | i::r,out,x,h=>by
  rw [qc4] at h
  split at h
  ·exact .inl h
  ·rcases qhe r _ x h with h|h
   ·rw [List.mem_append] at h
    rcases h with h|h
    ·exact .inl h
    ·simp at h;subst h;exact .inr (by simp)
   ·exact .inr (by simp [h])
theorem qlj:∀(l out:List Int) (x:Int),x∈out→x∈qc4 out l
 | [],out,x,h=>h
 | i::r,out,x,h=>by
  rw [qc4]
  split
  ·exact h
  ·exact qlj r _ x (by simp [h])
theorem upL_clo {p:List Cs} {out:List Int} (hc:∀x∈out,qcm p x=[]∨qa4 p (qcm p x)∈out∨qa4 p (qcm p x)<0):∀(m:Nat) (t:List UInt8),qa4 p t∈out→∀x,x∈upL p m t→x∈out
 | 0,t,_,x,h=>by simp [upL] at h
 | m+1,t,ht,x,h=>by
  rw [upL] at h
  split at h
  ·simp at h
  ·rcases List.mem_cons.1 h with h|h
   ·rw [h];exact ht
   ·split at h
    ·simp at h
    ·rename_i hs
     rcases hc _ ht with h1|h1|h1
     ·exact absurd h1 hs
     ·exact upL_clo hc m _ h1 x h
     ·cases m with
      | zero=>simp [upL] at h
      | succ m=>rw [upL,if_pos h1] at h;simp at h
theorem qnx {p:List Cs}:∀(m:Nat) (t:List UInt8) (out:List Int),(∀x∈out,qcm p x=[]∨qa4 p (qcm p x)∈out∨qa4 p (qcm p x)<0∨qa4 p (qcm p x)=qa4 p t)→∀x,x∈upL p m t→x∈qc4 out (upL p m t)
 | 0,t,out,_,x,h=>by simp [upL] at h
 | m+1,t,out,hI,x,h=>by
  have h0:=h
  rw [upL] at h ⊢
  split at h
  ·simp at h
  ·rename_i hf
   rw [if_neg hf,qc4]
   split
   ·rename_i hany
    rw [List.any_eq_true] at hany
    obtain⟨y,hy,hye⟩:=hany
    have hye:=eq_of_beq hye
    subst hye
    exact upL_clo (fun z hz=>by
     rcases hI z hz with h1|h1|h1|h1
     ·exact .inl h1
     ·exact .inr (.inl h1)
     ·exact .inr (.inr h1)
     ·exact .inr (.inl (h1▸hy))) (m+1) t hy x h0
   ·rcases List.mem_cons.1 h with h|h
    ·exact qlj _ _ _ (by simp [h])
    ·split at h
     ·simp at h
     ·rename_i hs
      rw [if_neg hs]
      refine qnx m _ _ (fun z hz=>?_) x h
      rw [List.mem_append] at hz
      rcases hz with hz|hz
      ·rcases hI z hz with h1|h1|h1|h1
       ·exact .inl h1
       ·exact .inr (.inl (by simp [h1]))
       ·exact .inr (.inr (.inl h1))
       ·exact .inr (.inl (by simp [h1]))
      ·simp at hz;subst hz;exact .inr (.inr (.inr rfl))
theorem qfh (p:List Cs) (a b:List UInt8):(decide (qa4 p b≥0)&&(qa5 p a).any fun x=>x==qa4 p b)=qb1 p a b:=by
 unfold qb1 qa5
 rw [Bool.eq_iff_iff,Bool.and_eq_true,List.any_eq_true,List.any_eq_true]
 constructor
 ·rintro⟨_,x,hx,he⟩
  rcases qhe _ _ x hx with h|h
  ·simp at h
  ·exact⟨x,h,he⟩
 ·rintro⟨x,hx,he⟩
  have hk:=qnx (p.length+1) a [] (fun z hz=>by simp at hz) x hx
  have hv:=(qbr p a).2 x hk
  obtain⟨k,c,h1,_⟩:=hv
  have he2:=eq_of_beq he
  exact⟨decide_eq_true (by omega),x,hk,he⟩
theorem qfv (p:List Cs) (a b:List UInt8) (hn:p.length≤1048576):qaa Tryz.prog 83 [.a (.sl (p.map Cs.at)),.a (.v (.string (bs a))),.a (.v (.string (bs b)))] (.a (.v (.bool (qb1 p a b)))):=by
 have hcl:=(qbr p a).len
 refine qaa.go Tryz.func83 rfl Tryz.ntmps83 rfl rfl rfl (fun C hro=>?_)
 have fx:=trivial
 repeat' (first|refine stp [0,1,2,6,7] ?_|(refine stc (r1:=by first|exact qep p b hn|exact qfu p a hn|exact qm2 (qa5 p a) _ (by omega)) (r2:=?_);refine rnx ?_)|fail)
 exact qaj (qfh p a b)
end Go.Proofs.YthkojpnjdpbcgaaGreatDoor
