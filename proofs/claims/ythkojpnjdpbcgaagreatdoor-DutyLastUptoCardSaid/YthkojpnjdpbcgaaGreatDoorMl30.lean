/- The document's classes above classes, on plain data. Conditions: at most 2^20 classes. -/
import Derived.Test.YthkojpnjdpbcgaaGreatDoorMl19
import Derived.Test.YthkojpnjdpbcgaaGreatDoorMl22
set_option linter.unusedVariables false
set_option maxRecDepth 100000
set_option maxHeartbeats 8000000
set_option linter.unusedSimpArgs false
namespace Go.Proofs.YthkojpnjdpbcgaaGreatDoor
open Go.RowKit
def PlN (p:List Cs) (l:List Int):Prop:=l.Nodup∧∀i∈l,∃(k:Nat) (c:Cs),i=(k:Int)∧p[k]? = some c
theorem PlN.len {p:List Cs} {l:List Int} (h:PlN p l):l.length≤p.length:=by
 have h2:l.length≤((List.range p.length).map fun k:Nat=>(k:Int)).length:=List.Nodup.length_le_of_subset h.1 fun i hi=>by
  obtain⟨k,c,rfl,hc⟩:=h.2 i hi
  exact List.mem_map.2 ⟨k,by simpa using (List.getElem?_eq_some_iff.1 hc).1,rfl⟩
 simpa using h2
theorem PlN.snoc {p:List Cs} {l:List Int} {j:Nat} {c:Cs} (h:PlN p l) (hc:p[j]? = some c) (hn:(l.any fun x=>x==(j:Int))=false):PlN p (l++[(j:Int)]):=by
 refine⟨?_,fun i hi=>?_⟩
 ·rw [List.nodup_append]
  refine⟨h.1,by simp,fun a ha b hb=>?_⟩
  simp at hb;subst hb
  rw [List.any_eq_false] at hn
  have:=hn a ha
  simpa using this
 ·rw [List.mem_append] at hi
  rcases hi with hi|hi
  ·exact h.2 i hi
  ·simp at hi;exact⟨j,c,hi,hc⟩
theorem qdd (p:List Cs) (s:List UInt8):PlN p (qbs p s):=by
 have key:∀(m:Nat) (t:List UInt8) (out:List Int),PlN p out→PlN p (qdt out (upL p m t)):=by
  intro m
  induction m with
  | zero=>intro t out h;rw [upL,qdt];exact h
  | succ m ih =>
   intro t out h
   rcases qff p t with hf|⟨j,z,hz,hzn,hf⟩
   ·rw [upL_no hf,qdt];exact h
   ·rw [upL_yes hf hz,qdt]
    split
    ·exact h
    ·rename_i hn
     have h2:=h.snoc hz (by simpa only [Bool.not_eq_true] using hn)
     split
     ·rw [qdt];exact h2
     ·exact ih _ _ h2
 exact key _ _ _ ⟨List.nodup_nil,fun i hi=>by simp at hi⟩
theorem qgp:∀(l out:List Int) (x:Int),x∈qdt out l→x∈out∨x∈l
 | [],out,x,h=>.inl h
 | i::r,out,x,h=>by
  rw [qdt] at h
  split at h
  ·exact .inl h
  ·rcases qgp r _ x h with h|h
   ·rw [List.mem_append] at h
    rcases h with h|h
    ·exact .inl h
    ·simp at h;subst h;exact .inr (by simp)
   ·exact .inr (by simp [h])
theorem qkc:∀(l out:List Int) (x:Int),x∈out→x∈qdt out l
 | [],out,x,h=>h
 | i::r,out,x,h=>by
  rw [qdt]
  split
  ·exact h
  ·exact qkc r _ x (by simp [h])
theorem upL_clo {p:List Cs} {out:List Int} (hc:∀x∈out,qb9 p x=[]∨qa3 p (qb9 p x)∈out∨qa3 p (qb9 p x)<0):∀(m:Nat) (t:List UInt8),qa3 p t∈out→∀x,x∈upL p m t→x∈out
 | 0,t,_,x,h=>by simp [upL] at h
 | m+1,t,ht,x,h=>by
  rw [upL] at h
  split at h
  ·simp at h
  ·rcases List.mem_cons.1 h with h|h
   ·rw [h];exact ht
   ·split at h
    ·simp at h
    ·rename_i hs
     rcases hc _ ht with h1|h1|h1
     ·exact absurd h1 hs
     ·exact upL_clo hc m _ h1 x h
     ·cases m with
      | zero=>simp [upL] at h
      | succ m=>rw [upL,if_pos h1] at h;simp at h
theorem qmm {p:List Cs}:∀(m:Nat) (t:List UInt8) (out:List Int),(∀x∈out,qb9 p x=[]∨qa3 p (qb9 p x)∈out∨qa3 p (qb9 p x)<0∨qa3 p (qb9 p x)=qa3 p t)→∀x,x∈upL p m t→x∈qdt out (upL p m t)
 | 0,t,out,_,x,h=>by simp [upL] at h
 | m+1,t,out,hI,x,h=>by
  have h0:=h
  rw [upL] at h ⊢
  split at h
  ·simp at h
  ·rename_i hf
   rw [if_neg hf,qdt]
   split
   ·rename_i hany
    rw [List.any_eq_true] at hany
    obtain⟨y,hy,hye⟩:=hany
    have hye:=eq_of_beq hye
    subst hye
    exact upL_clo (fun z hz=>by
     rcases hI z hz with h1|h1|h1|h1
     ·exact .inl h1
     ·exact .inr (.inl h1)
     ·exact .inr (.inr h1)
     ·exact .inr (.inl (h1▸hy))) (m+1) t hy x h0
   ·rcases List.mem_cons.1 h with h|h
    ·exact qkc _ _ _ (by simp [h])
    ·split at h
     ·simp at h
     ·rename_i hs
      rw [if_neg hs]
      refine qmm m _ _ (fun z hz=>?_) x h
      rw [List.mem_append] at hz
      rcases hz with hz|hz
      ·rcases hI z hz with h1|h1|h1|h1
       ·exact .inl h1
       ·exact .inr (.inl (by simp [h1]))
       ·exact .inr (.inr (.inl h1))
       ·exact .inr (.inl (by simp [h1]))
      ·simp at hz;subst hz;exact .inr (.inr (.inr rfl))
theorem qmb (p:List Cs) (a b:List UInt8):(decide (qa3 p b≥0)&&(qbs p a).any fun x=>x==qa3 p b)=qcd p a b:=by
 unfold qcd qbs
 rw [Bool.eq_iff_iff,Bool.and_eq_true,List.any_eq_true,List.any_eq_true]
 constructor
 ·rintro⟨_,x,hx,he⟩
  rcases qgp _ _ x hx with h|h
  ·simp at h
  ·exact⟨x,h,he⟩
 ·rintro⟨x,hx,he⟩
  have hk:=qmm (p.length+1) a [] (fun z hz=>by simp at hz) x hx
  have hv:=(qdd p a).2 x hk
  obtain⟨k,c,h1,_⟩:=hv
  have he2:=eq_of_beq he
  exact⟨decide_eq_true (by omega),x,hk,he⟩
end Go.Proofs.YthkojpnjdpbcgaaGreatDoor
