/- The document's classes above classes, on plain data. Conditions: at most 2^20 classes. -/
import Derived.Test.YtibdalkdgjghoaaGreatDoorMg20
import Derived.Test.YtibdalkdgjghoaaGreatDoorMg14
set_option linter.unusedVariables false
set_option maxRecDepth 100000
set_option maxHeartbeats 8000000
set_option linter.unusedSimpArgs false
namespace Go.Proofs.YtibdalkdgjghoaaGreatDoor
open Go.RowKit
theorem pr14has (l:List Int) (n:Int) (hn:l.length≤4194304):DPure Tryz.prog 144 [.a (.sl (l.map inAt)),.a (.v (.int .i64 n))] (.a (.v (.bool (l.any fun x=>x==n)))):=by
 refine DPure.go Tryz.func144 rfl Tryz.ntmps144 rfl rfl rfl (fun C hro=>?_)
 have fx:=trivial
 repeat' (first|refine stp [0,1,4,5,9,17] ?_|(refine RS.lC ?_;refine rnx ?_)|(refine RS.xC ?_;refine rnx ?_)|refine WP.cn (fun hc=>?_) (fun hc=>?_)|fail)
 refine WP.loop (α:={ k:Nat // k≤l.length∧(l.take k).any (fun x=>x==n)=false }) (fun y=>[(0,.a (.sl (l.map inAt))),(1,.a (.v (.int .i64 n))),(5,.a (.v (.int .i64 (y.1:Nat))))]) (fun _=>[]) (fun y=>l.length-y.1) ⟨0,by omega,rfl⟩ (by simp only [Agree,go_sem,simprocAttr];first|done|rfl) rfl ?_
 rintro⟨k,hk,hinv⟩
 dsimp only
 by_cases hlt:k<l.length
 ·have hlt2:decide ((k:Int)<((l.length:Nat):Int))=true:=decide_eq_true (by omega)
  obtain⟨z,hz⟩:∃z,l[k]? = some z:=⟨_,List.getElem?_eq_getElem hlt⟩
  have hzm:z∈l:=List.mem_of_getElem? hz
  have hzt:=take_snocA hz
  have hix:∀q2,ixD (some 1) q2 (.a (.sl (l.map inAt))) (.a (.v (.int .i64 (k:Int))))=some (.a (.ref (inAt z) 0)):=fun q2=>ixD_at rfl (by rw [List.getElem?_map,hz];rfl) (by simp only [go_sem])
  have hwu:=wrap64n (k:=k) (by omega)
  replace fx:=And.intro hlt2 (And.intro hix (And.intro hwu trivial))
  repeat' (first|refine stp [0,1,4,5,9,17] ?_|(refine RS.lC ?_;refine rnx ?_)|(refine RS.xC ?_;refine rnx ?_)|refine WP.cn (fun hc=>?_) (fun hc=>?_)|fail)
  ·refine bool_eq ?_
   rw [eq_comm,List.any_eq_true];exact⟨z,hzm,hc⟩
  ·refine⟨⟨k+1,by omega,by rw [hzt,List.any_append,hinv];simpa using hc⟩,by dsimp only;omega,by simp only [Agree,go_sem,simprocAttr],rfl⟩
 obtain rfl:k=l.length:=by omega
 rw [List.take_length] at hinv
 have hlt2:decide ((l.length:Int)<(l.length:Int))=false:=decide_eq_false (by omega)
 replace fx:=And.intro hlt2 trivial
 repeat' (first|refine stp [0,1,4,5,9,17] ?_|(refine RS.lC ?_;refine rnx ?_)|(refine RS.xC ?_;refine rnx ?_)|refine WP.cn (fun hc=>?_) (fun hc=>?_)|fail)
 exact bool_eq hinv.symm
theorem pr14hasN (n:Int):DPure Tryz.prog 144 [.a .nl,.a (.v (.int .i64 n))] (.a (.v (.bool false))):=by
 refine DPure.go Tryz.func144 rfl Tryz.ntmps144 rfl rfl rfl (fun C hro=>?_)
 have fx:=trivial
 repeat' (first|refine stp [0,1,4,5,9,17] ?_|(refine RS.lC ?_;refine rnx ?_)|(refine RS.xC ?_;refine rnx ?_)|refine WP.cn (fun hc=>?_) (fun hc=>?_)|fail)
 refine WP.loop_in ?_
 refine WPIn.unroll ?_
 repeat' (first|refine stp [0,1,4,5,9,17] ?_|(refine RS.lC ?_;refine rnx ?_)|(refine RS.xC ?_;refine rnx ?_)|refine WP.cn (fun hc=>?_) (fun hc=>?_)|fail)
 rfl
def PlN (p:List Cs) (l:List Int):Prop:=l.Nodup∧∀i∈l,∃(k:Nat) (c:Cs),i=(k:Int)∧p[k]? = some c
theorem PlN.len {p:List Cs} {l:List Int} (h:PlN p l):l.length≤p.length:=by
 have h2:l.length≤((List.range p.length).map fun k:Nat=>(k:Int)).length:=List.Nodup.length_le_of_subset h.1 fun i hi=>by
  obtain⟨k,c,rfl,hc⟩:=h.2 i hi
  exact List.mem_map.2 ⟨k,by simpa using (List.getElem?_eq_some_iff.1 hc).1,rfl⟩
 simpa using h2
theorem PlN.snoc {p:List Cs} {l:List Int} {j:Nat} {c:Cs} (h:PlN p l) (hc:p[j]? = some c) (hn:(l.any fun x=>x==(j:Int))=false):PlN p (l++[(j:Int)]):=by
 refine⟨?_,fun i hi=>?_⟩
 ·rw [List.nodup_append]
  refine⟨h.1,by simp,fun a ha b hb=>?_⟩
  simp at hb;subst hb
  rw [List.any_eq_false] at hn
  have:=hn a ha
  simpa using this
 ·rw [List.mem_append] at hi
  rcases hi with hi|hi
  ·exact h.2 i hi
  ·simp at hi;exact⟨j,c,hi,hc⟩
def chEx:Nat→D
 | 0=>.a .nl
 | k+1=>.a (.own 0 k)
def chBx (l:List Int):Nat→List Bx
 | 0=>[]
 | k+1=>[.arr k 1 (l.map inAt)]
theorem pr14Chain (p:List Cs) (s:List UInt8) (hn:p.length≤1048576):DPure Tryz.prog 81 [.a (.sl (p.map Cs.at)),.a (.v (.string (bs s)))] (.a (.sl ((chainL p s).map inAt))):=by
 refine DPure.go Tryz.func81 rfl Tryz.ntmps81 rfl rfl rfl (fun C hro=>?_)
 have fx:=trivial
 repeat' (first|refine stp [0,1,4,5,6,17,27] ?_|(refine RS.aO ?_;refine rnx ?_)|(refine RS.aN ?_;refine rnx ?_)|(refine RS.li ?_;refine rnx ?_)|(refine RS.pk ?_;refine rnx ?_)|(refine RS.gF ?_;refine rnx ?_)|(refine RS.aE ?_;refine rnx ?_)|(refine RS.aK ?_;refine rnx ?_)|(refine RS.xC ?_;refine rnx ?_)|(refine RS.bC ?_;refine rnx ?_)|(refine stc (r1:=by exact pr13Find p s hn) (r2:=?_);refine rnx ?_)|refine WP.cn (fun hc=>?_) (fun hc=>?_)|fail)
 refine WP.loop (α:={ y:Nat×List UInt8×List Int // y.2.2.length=y.1∧PlN p y.2.2∧chainL p s=takeU y.2.2 (upL p (p.length+1-y.1) y.2.1) }) (fun y=>[(0,.a (.sl (p.map Cs.at))),(5,chEx y.1.1),(6,.a (.v (.int .i64 (findI p y.1.2.1))))]) (fun y=>chBx y.1.2.2 y.1.1) (fun y=>p.length+1-y.1.1) ⟨(0,s,[]),rfl,⟨List.nodup_nil,fun i hi=>by simp at hi⟩,rfl⟩ (by simp only [Agree,go_sem,simprocAttr];first|done|rfl) rfl ?_
 rintro⟨⟨k,t,out⟩,hk,hpl,hch⟩
 dsimp only at hk hpl hch ⊢
 have hkl:=hpl.len
 obtain⟨m,hm⟩:∃m,p.length+1-k=m+1:=⟨p.length-k,by omega⟩
 rw [hm] at hch
 rcases findI_get p t with hf|⟨j,z,hz,hzn,hf⟩
 ·rw [upL_no hf] at hch
  have hg:decide ((-1:Int)≥0)=false:=by decide
  rw [hf]
  rw [takeU] at hch
  cases k with
  | zero =>
   simp only [chEx,chBx]
   replace fx:=And.intro hg trivial
   repeat' (first|refine stp [0,1,4,5,6,17,27] ?_|(refine RS.aO ?_;refine rnx ?_)|(refine RS.aN ?_;refine rnx ?_)|(refine RS.li ?_;refine rnx ?_)|(refine RS.pk ?_;refine rnx ?_)|(refine RS.gF ?_;refine rnx ?_)|(refine RS.aE ?_;refine rnx ?_)|(refine RS.aK ?_;refine rnx ?_)|(refine RS.xC ?_;refine rnx ?_)|(refine RS.bC ?_;refine rnx ?_)|(refine stc (r1:=by exact pr14hasN (-1)) (r2:=?_);refine rnx ?_)|refine WP.cn (fun hc=>?_) (fun hc=>?_)|fail)
   have:out=[]:=List.eq_nil_of_length_eq_zero hk
   rw [hch,this];rfl
  | succ k =>
   have hkk:(k==k)=true:=beq_self_eq_true k
   simp only [chEx,chBx]
   replace fx:=And.intro hg (And.intro hkk trivial)
   repeat' (first|refine stp [0,1,4,5,6,17,27] ?_|(refine RS.aO ?_;refine rnx ?_)|(refine RS.aN ?_;refine rnx ?_)|(refine RS.li ?_;refine rnx ?_)|(refine RS.pk ?_;refine rnx ?_)|(refine RS.gF ?_;refine rnx ?_)|(refine RS.aE ?_;refine rnx ?_)|(refine RS.aK ?_;refine rnx ?_)|(refine RS.xC ?_;refine rnx ?_)|(refine RS.bC ?_;refine rnx ?_)|(refine stc (r1:=by exact pr14has out (-1) (by omega)) (r2:=?_);refine rnx ?_)|refine WP.cn (fun hc=>?_) (fun hc=>?_)|fail)
   rw [hch]
 ·rw [upL_yes hf hz,takeU] at hch
  have hg:decide ((j:Int)≥0)=true:=decide_eq_true (by omega)
  have hjx:∀q2,ixD (some 7) q2 (.a (.sl (p.map Cs.at))) (.a (.v (.int .i64 (j:Int))))=some (.a (.ref (Cs.at z) 0)):=fun q2=>ixD_at rfl (by rw [List.getElem?_map,hz];rfl) (by simp only [go_sem])
  rw [hf]
  cases hany:out.any (fun x=>x==(j:Int)) with
  | true =>
   rw [hany,if_pos rfl] at hch
   cases k with
   | zero =>
    have:out=[]:=List.eq_nil_of_length_eq_zero hk
    subst this;cases hany
   | succ k =>
    have hkk:(k==k)=true:=beq_self_eq_true k
    have hh:=pr14has out j (by omega)
    rw [hany] at hh
    simp only [chEx,chBx]
    replace fx:=And.intro hg (And.intro hkk trivial)
    repeat' (first|refine stp [0,1,4,5,6,17,27] ?_|(refine RS.aO ?_;refine rnx ?_)|(refine RS.aN ?_;refine rnx ?_)|(refine RS.li ?_;refine rnx ?_)|(refine RS.pk ?_;refine rnx ?_)|(refine RS.gF ?_;refine rnx ?_)|(refine RS.aE ?_;refine rnx ?_)|(refine RS.aK ?_;refine rnx ?_)|(refine RS.xC ?_;refine rnx ?_)|(refine RS.bC ?_;refine rnx ?_)|(refine stc (r1:=by exact hh) (r2:=?_);refine rnx ?_)|refine WP.cn (fun hc=>?_) (fun hc=>?_)|fail)
    rw [hch]
  | false =>
   rw [hany,if_neg Bool.false_ne_true] at hch
   have hsn:=hpl.snoc hz hany
   have hl2:(out++[(j:Int)]).length=k+1:=by simp [hk]
   have hfin:z.super=[]→chainL p s=out++[(j:Int)]:=fun e=>by rw [hch,if_pos e,takeU]
   have hgo:¬z.super=[]→chainL p s=takeU (out++[(j:Int)]) (upL p (p.length+1-(k+1)) z.super):=fun e=>by rw [hch,if_neg e,show p.length+1-(k+1)=m by omega]
   cases k with
   | zero =>
    have:out=[]:=List.eq_nil_of_length_eq_zero hk
    subst this
    simp only [chEx,chBx]
    replace fx:=And.intro hg (And.intro hjx trivial)
    repeat' (first|refine stp [0,1,4,5,6,17,27] ?_|(refine RS.aO ?_;refine rnx ?_)|(refine RS.aN ?_;refine rnx ?_)|(refine RS.ls ?_;refine rnx ?_)|(refine RS.pk ?_;refine rnx ?_)|(refine RS.gF ?_;refine rnx ?_)|(refine RS.aE ?_;refine rnx ?_)|(refine RS.aK ?_;refine rnx ?_)|(refine RS.xC ?_;refine rnx ?_)|(refine RS.bC ?_;refine rnx ?_)|(refine stc (r1:=by first|exact pr14hasN j|exact pr13Find p z.super hn) (r2:=?_);refine rnx ?_)|refine WP.cn (fun hc=>?_) (fun hc=>?_)|fail)
    ·rw [hfin (by simpa using hc)];rfl
    ·exact⟨⟨(1,z.super,[(j:Int)]),rfl,hsn,hgo (by simpa using hc)⟩,by dsimp only;omega,by simp only [chEx,Agree,go_sem,simprocAttr],rfl⟩
   | succ k =>
    have hkk:(k==k)=true:=beq_self_eq_true k
    have hh:=pr14has out j (by omega)
    rw [hany] at hh
    have hol:(out.map inAt).length=k+1:=by rw [List.length_map];exact hk
    simp only [chEx,chBx]
    replace fx:=And.intro hg (And.intro hkk (And.intro hjx (And.intro hol trivial)))
    repeat' (first|refine stp [0,1,4,5,6,17,27] ?_|(refine RS.aO ?_;refine rnx ?_)|(refine RS.aN ?_;refine rnx ?_)|(refine RS.ls ?_;refine rnx ?_)|(refine RS.pk ?_;refine rnx ?_)|(refine RS.gF ?_;refine rnx ?_)|(refine RS.aE ?_;refine rnx ?_)|(refine RS.aK ?_;refine rnx ?_)|(refine RS.xC ?_;refine rnx ?_)|(refine RS.bC ?_;refine rnx ?_)|(refine stc (r1:=by first|exact hh|exact pr13Find p z.super hn) (r2:=?_);refine rnx ?_)|refine WP.cn (fun hc=>?_) (fun hc=>?_)|fail)
    ·rw [hfin (by simpa using hc),List.map_append];rfl
    ·exact⟨⟨(k+2,z.super,out++[(j:Int)]),hl2,hsn,hgo (by simpa using hc)⟩,by dsimp only;omega,by simp only [chEx,Agree,go_sem,simprocAttr],by simp only [chBx,List.map_append];rfl⟩
theorem chain_ok (p:List Cs) (s:List UInt8):PlN p (chainL p s):=by
 have key:∀(m:Nat) (t:List UInt8) (out:List Int),PlN p out→PlN p (takeU out (upL p m t)):=by
  intro m
  induction m with
  | zero=>intro t out h;rw [upL,takeU];exact h
  | succ m ih =>
   intro t out h
   rcases findI_get p t with hf|⟨j,z,hz,hzn,hf⟩
   ·rw [upL_no hf,takeU];exact h
   ·rw [upL_yes hf hz,takeU]
    split
    ·exact h
    ·rename_i hn
     have h2:=h.snoc hz (by simpa only [Bool.not_eq_true] using hn)
     split
     ·rw [takeU];exact h2
     ·exact ih _ _ h2
 exact key _ _ _ ⟨List.nodup_nil,fun i hi=>by simp at hi⟩
theorem takeU_sub:∀(l out:List Int) (x:Int),x∈takeU out l→x∈out∨x∈l
 | [],out,x,h=>.inl h
 | i::r,out,x,h=>by
  rw [takeU] at h
  split at h
  ·exact .inl h
  ·rcases takeU_sub r _ x h with h|h
   ·rw [List.mem_append] at h
    rcases h with h|h
    ·exact .inl h
    ·simp at h;subst h;exact .inr (by simp)
   ·exact .inr (by simp [h])
theorem takeU_out:∀(l out:List Int) (x:Int),x∈out→x∈takeU out l
 | [],out,x,h=>h
 | i::r,out,x,h=>by
  rw [takeU]
  split
  ·exact h
  ·exact takeU_out r _ x (by simp [h])
theorem upL_clo {p:List Cs} {out:List Int} (hc:∀x∈out,superOf p x=[]∨findI p (superOf p x)∈out∨findI p (superOf p x)<0):∀(m:Nat) (t:List UInt8),findI p t∈out→∀x,x∈upL p m t→x∈out
 | 0,t,_,x,h=>by simp [upL] at h
 | m+1,t,ht,x,h=>by
  rw [upL] at h
  split at h
  ·simp at h
  ·rcases List.mem_cons.1 h with h|h
   ·rw [h];exact ht
   ·split at h
    ·simp at h
    ·rename_i hs
     rcases hc _ ht with h1|h1|h1
     ·exact absurd h1 hs
     ·exact upL_clo hc m _ h1 x h
     ·cases m with
      | zero=>simp [upL] at h
      | succ m=>rw [upL,if_pos h1] at h;simp at h
theorem upL_take {p:List Cs}:∀(m:Nat) (t:List UInt8) (out:List Int),(∀x∈out,superOf p x=[]∨findI p (superOf p x)∈out∨findI p (superOf p x)<0∨findI p (superOf p x)=findI p t)→∀x,x∈upL p m t→x∈takeU out (upL p m t)
 | 0,t,out,_,x,h=>by simp [upL] at h
 | m+1,t,out,hI,x,h=>by
  have h0:=h
  rw [upL] at h ⊢
  split at h
  ·simp at h
  ·rename_i hf
   rw [if_neg hf,takeU]
   split
   ·rename_i hany
    rw [List.any_eq_true] at hany
    obtain⟨y,hy,hye⟩:=hany
    have hye:=eq_of_beq hye
    subst hye
    exact upL_clo (fun z hz=>by
     rcases hI z hz with h1|h1|h1|h1
     ·exact .inl h1
     ·exact .inr (.inl h1)
     ·exact .inr (.inr h1)
     ·exact .inr (.inl (h1▸hy))) (m+1) t hy x h0
   ·rcases List.mem_cons.1 h with h|h
    ·exact takeU_out _ _ _ (by simp [h])
    ·split at h
     ·simp at h
     ·rename_i hs
      rw [if_neg hs]
      refine upL_take m _ _ (fun z hz=>?_) x h
      rw [List.mem_append] at hz
      rcases hz with hz|hz
      ·rcases hI z hz with h1|h1|h1|h1
       ·exact .inl h1
       ·exact .inr (.inl (by simp [h1]))
       ·exact .inr (.inr (.inl h1))
       ·exact .inr (.inl (by simp [h1]))
      ·simp at hz;subst hz;exact .inr (.inr (.inr rfl))
theorem below_chain (p:List Cs) (a b:List UInt8):(decide (findI p b≥0)&&(chainL p a).any fun x=>x==findI p b)=belowB p a b:=by
 unfold belowB chainL
 rw [Bool.eq_iff_iff,Bool.and_eq_true,List.any_eq_true,List.any_eq_true]
 constructor
 ·rintro⟨_,x,hx,he⟩
  rcases takeU_sub _ _ x hx with h|h
  ·simp at h
  ·exact⟨x,h,he⟩
 ·rintro⟨x,hx,he⟩
  have hk:=upL_take (p.length+1) a [] (fun z hz=>by simp at hz) x hx
  have hv:=(chain_ok p a).2 x hk
  obtain⟨k,c,h1,_⟩:=hv
  have he2:=eq_of_beq he
  exact⟨decide_eq_true (by omega),x,hk,he⟩
theorem pr14Below (p:List Cs) (a b:List UInt8) (hn:p.length≤1048576):DPure Tryz.prog 115 [.a (.sl (p.map Cs.at)),.a (.v (.string (bs a))),.a (.v (.string (bs b)))] (.a (.v (.bool (belowB p a b)))):=by
 have hcl:=(chain_ok p a).len
 refine DPure.go Tryz.func115 rfl Tryz.ntmps115 rfl rfl rfl (fun C hro=>?_)
 have fx:=trivial
 repeat' (first|refine stp [0,1,2,6,7] ?_|(refine RS.pk ?_;refine rnx ?_)|(refine RS.gF ?_;refine rnx ?_)|(refine stc (r1:=by first|exact pr13Find p b hn|exact pr14Chain p a hn|exact pr14has (chainL p a) _ (by omega)) (r2:=?_);refine rnx ?_)|fail)
 exact bool_eq (below_chain p a b)
end Go.Proofs.YtibdalkdgjghoaaGreatDoor
