/- Types read from tokens, as the document reads them, on plain data: what was read may be. No program in sight. Conditions: none. -/
import Derived.Test.YtfbopaaambkfkaaGreatDoorMg31
set_option linter.unusedVariables false
set_option maxRecDepth 100000
set_option maxHeartbeats 8000000
set_option linter.unusedSimpArgs false
namespace Go.Proofs.YtfbopaaambkfkaaGreatDoor
open Go.RowKit
theorem ow1_n {ps:List (List UInt8)} {t:Tok} (h:t.kind≠1):ow1D ps t=(wrdD t,0):=by unfold ow1D;rw [show (t.kind==1)=false by simpa using h];rfl
theorem ow1_y {ps:List (List UInt8)} {t:Tok} (h:t.kind=1):ow1D ps t=nmdD t ps:=by unfold ow1D;rw [h];rfl
def OkO (p:Nat) (o:Int×Int):Prop:=owB o p=true∧o.1≠0∧o.1≠6∧o.1≠7
def GotO (N a:Int) (p:Nat) (g:G7):Prop:=g.err=0→g.l≠[]∧g.l.length≤3∧(∀o∈g.l,OkO p o)∧g.next=a+2*g.l.length+1∧g.next≤N∧g.fat=0
def GotT (N a:Int) (p:Nat) (g:G7):Prop:=g.err=0→wrB g.t p=true∧g.t.cls.length≤20∧a<g.next∧g.next≤N∧g.fat=0
def GotV (N a:Int) (p:Nat) (g:G7):Prop:=g.err=0→vrB p g.v=true∧a+1<g.next∧g.next≤N∧(g.v.sz:Int)≤21*(g.next-a)∧g.fat=0
section
variable {l:List Tok} {ps:List (List UInt8)} {N:Int} (hN:∀a,N≤a→(nowT l a).kind=0) (hT:∀a,(nowT l a).kind=1→qan (nowT l a).text=true)
include hN
theorem ownsD_ok:∀(k:Nat) (a:Int) (out:List (Int×Int)),out.length+k=3→(∀o∈out,OkO ps.length o)→(qes l ps k a out).err=0→out.length<(qes l ps k a out).l.length∧(qes l ps k a out).l.length≤3∧(∀o∈(qes l ps k a out).l,OkO ps.length o)∧(qes l ps k a out).next=a+2*((qes l ps k a out).l.length-out.length:Int)+1∧(qes l ps k a out).next≤N∧(qes l ps k a out).fat=0:=by
 intro k
 induction k with
 | zero =>
  intro a out hk ho h
  rw [qij] at h
  simp only [Bool.cond_true_left] at h
  simp only [Bool.cond_eq_ite,bne_iff_ne,ne_eq,beq_iff_eq,Bool.and_eq_true,Bool.or_eq_true,Bool.not_eq_true'] at h
  split at h
  ·exact absurd h (by show (4:Int)≠0;decide)
  split at h
  ·exact absurd h (by show (3:Int)≠0;decide)
  split at h
  ·exact absurd h (by show (10:Int)≠0;decide)
  ·omega
 | succ k ih =>
  intro a out hk ho h
  rw [qij] at h ⊢
  simp only [Bool.cond_true_left] at h ⊢
  simp only [Bool.cond_eq_ite,bne_iff_ne,ne_eq,beq_iff_eq,Bool.and_eq_true,Bool.or_eq_true,Bool.not_eq_true'] at h ⊢
  split at h
  ·exact absurd h (by show (4:Int)≠0;decide)
  rename_i h1
  rw [if_neg h1]
  split at h
  ·exact absurd h (by show (3:Int)≠0;decide)
  rename_i h2
  rw [if_neg h2]
  split at h
  ·exact absurd h (by show (10:Int)≠0;decide)
  rename_i h3
  rw [if_neg h3]
  rw [not_or] at h2
  obtain⟨⟨b1,b2,b3⟩,hk0⟩:=ow1_ok h2.1
  have ho2:∀o∈out++[ow1D ps (nowT l (a+1))],OkO ps.length o:=fun o hm=>by
   rcases List.mem_append.1 hm with hm|hm
   ·exact ho o hm
   ·rw [List.mem_singleton] at hm;subst hm;exact⟨b1,b2,h2.2,b3⟩
  have hlen:(out++[ow1D ps (nowT l (a+1))]).length=out.length+1:=by simp
  split at h
  ·rename_i h4
   have hlt:=qam hN h4
   rw [if_pos h4]
   dsimp only
   refine⟨by omega,by omega,ho2,by rw [hlen];push_cast;omega,by omega,rfl⟩
  rename_i h4
  rw [if_neg h4]
  split at h
  ·exact absurd h (by show (3:Int)≠0;decide)
  rename_i h5
  rw [if_neg h5]
  obtain⟨g1,g2,g3,g4,g5,g6⟩:=ih (a+2) _ (by omega) ho2 h
  rw [hlen] at g1 g4
  exact⟨by omega,g2,g3,by rw [g4];push_cast;omega,g5,g6⟩
theorem qfs (a:Int):GotO N a ps.length (own7 l ps a):=by
 unfold own7 GotO
 simp only [Bool.cond_eq_ite,bne_iff_ne,ne_eq,beq_iff_eq,Bool.and_eq_true,Bool.or_eq_true,Bool.not_eq_true']
 split
 ·exact fun h=>absurd h (by show (3:Int)≠0;decide)
 intro h
 obtain⟨g1,g2,g3,g4,g5,g6⟩:=ownsD_ok hN 3 a [] rfl (fun _ h=>by cases h) h
 refine⟨fun h=>?_,g2,g3,by rw [g4];simp,g5,g6⟩
 rw [h] at g1;simp at g1
include hT
omit hN in
theorem qf3 {a:Int} (h:(nowT l a).kind=1):(nowT l a).text.length≤20:=by
 have hn:=hT _ h
 unfold qan at hn
 simp only [Bool.and_eq_true,decide_eq_true_eq] at hn
 exact hn.1.1.1.2
omit hN hT in
theorem wrB_cls {p:Nat} {c:List UInt8} {n:Nat} {o:Int×Int} {r:List (Int×Int)} (hc:qan c=true) (ho:owB o p=true) (h7:o.1=7→o.2=0) (hr:r.length=n) (hn:n≤3) (hO:∀o∈r,OkO p o):wrB ⟨2,c,n,o,qil r 0,qil r 1,qil r 2⟩ p=true:=by
 have h7':(o.1 != 7||o.2==0)=true:=by
  by_cases h:o.1=7
  ·simp [h,h7 h]
  ·simp [h]
 unfold wrB
 rw [ty2 _ _ rfl]
 dsimp only
 rw [hc,h7']
 have hOk:∀(i:Nat),okAt (n:Int) p (i+1) (qil r i)=true∧((qil r i).1 != 7)=true:=by
  intro i
  unfold okAt qil
  by_cases hi:i<n
  ·obtain⟨x,hx⟩:∃x,r[i]? = some x:=⟨_,List.getElem?_eq_getElem (by omega)⟩
   obtain⟨b1,b2,b3,b4⟩:=hO x (lm4 hx)
   rw [hx]
   have:decide ((n:Int)<((i+1:Nat):Int))=false:=decide_eq_false (by omega)
   rw [this]
   simp [b1,b3,b4]
  ·have hx:r[i]? = none:=List.getElem?_eq_none (by omega)
   rw [hx]
   have:decide ((n:Int)<((i+1:Nat):Int))=true:=decide_eq_true (by omega)
   rw [this]
   simp
 have h0:okAt (n:Int) p 0 o=true:=by
  unfold okAt
  have:decide ((n:Int)<((0:Nat):Int))=false:=decide_eq_false (by omega)
  rw [this]
  simp [ho]
 rw [h0,(hOk 0).1,(hOk 1).1,(hOk 2).1,(hOk 0).2,(hOk 1).2,(hOk 2).2]
 simp
 omega
theorem ty7_ok (a:Int) (o:Int×Int) (ho:owB o ps.length=true) (h7:o.1=7→o.2=0):GotT N a ps.length (ty7 l ps a o)∧((ty7 l ps a o).err=0→(ty7 l ps a o).t.kind=2):=by
 unfold ty7
 simp only [Bool.cond_eq_ite,bne_iff_ne,ne_eq,beq_iff_eq,Bool.and_eq_true,Bool.or_eq_true,Bool.not_eq_true']
 split
 ·exact⟨fun h=>absurd h (by show (3:Int)≠0;decide),fun h=>absurd h (by show (3:Int)≠0;decide)⟩
 rename_i hk
 simp only [ne_eq,Decidable.not_not] at hk
 have hlt:=qiq hN (a:=a) (by rw [hk];decide)
 have h20:=qf3 hT hk
 have hnm:=hT _ hk
 split
 ·exact⟨fun _=>⟨wrB_cls (r:=[]) hnm ho h7 rfl (Nat.zero_le _) (fun _ h=>by cases h),h20,by dsimp only;omega,by dsimp only;omega,rfl⟩,fun _=>rfl⟩
 split
 ·rename_i h;exact⟨fun h2=>absurd h2 h,fun h2=>absurd h2 h⟩
 rename_i he
 simp only [ne_eq,Decidable.not_not] at he
 obtain⟨g1,g2,g3,g4,g5,g6⟩:=qfs hN (ps:=ps) (a+1) he
 exact⟨fun _=>⟨wrB_cls hnm ho h7 rfl g2 g3,h20,by dsimp only;omega,g5,rfl⟩,fun _=>rfl⟩
theorem qb1 (a:Int) (f:Bool):GotT N a ps.length (par7 l ps a f):=by
 unfold par7
 simp only [Bool.cond_eq_ite,bne_iff_ne,ne_eq,beq_iff_eq,Bool.and_eq_true,Bool.or_eq_true,Bool.not_eq_true']
 split
 ·rename_i h
  have hlt:=qam hN h
  exact fun _=>⟨by rfl,Nat.zero_le _,by dsimp only;omega,by dsimp only;omega,rfl⟩
 split
 ·rename_i h
  have hlt:=qam hN h
  exact fun _=>⟨by rfl,Nat.zero_le _,by dsimp only;omega,by dsimp only;omega,rfl⟩
 split
 ·rename_i hw
  have hk:=qla hw
  have h1:=(ow1_ok (ps:=ps) (t:=nowT l a) (by rw [ow1_n hk.2];exact hw)).1
  rw [ow1_n hk.2] at h1
  have hg:=(ty7_ok hN hT (ps:=ps) (a+1) (wrdD (nowT l a),0) h1.1 fun h=>absurd h h1.2.2).1
  exact fun h=>by obtain⟨g1,g2,g3,g4,g5⟩:=hg h;exact⟨g1,g2,by omega,g4,g5⟩
 split
 ·rename_i hw hh
  split
  ·exact fun h=>absurd h (by show (4:Int)≠0;decide)
  ·rename_i h0
   have h1:=(ow1_ok (ps:=ps) (t:=nowT l a) (by rw [ow1_y hh.1];exact h0)).1
   rw [ow1_y hh.1] at h1
   have hg:=(ty7_ok hN hT (ps:=ps) (a+1) _ h1.1 fun h=>absurd h h1.2.2).1
   exact fun h=>by obtain⟨g1,g2,g3,g4,g5⟩:=hg h;exact⟨g1,g2,by omega,g4,g5⟩
 ·exact (ty7_ok hN hT (ps:=ps) a (7,0) rfl fun _=>rfl).1
theorem qgi (a:Int):GotV N a ps.length (var7 l ps a):=by
 have hg:=qb1 hN hT (ps:=ps) a true
 unfold var7
 simp only [Bool.cond_eq_ite,bne_iff_ne,ne_eq,beq_iff_eq,Bool.and_eq_true,Bool.or_eq_true,Bool.not_eq_true']
 generalize par7 l ps a true=g at *
 split
 ·rename_i h;exact fun h2=>absurd h2 h
 rename_i he
 simp only [ne_eq,Decidable.not_not] at he
 obtain⟨g1,g2,g3,g4,g5⟩:=hg he
 split
 ·exact fun h=>absurd h (by show (3:Int)≠0;decide)
 rename_i hk
 split
 ·exact fun h=>absurd h (by show (3:Int)≠0;decide)
 rename_i hn
 simp only [ne_eq,Decidable.not_not] at hn
 have hlt:=qiq hN (a:=g.next) (by rw [hn];decide)
 have h20:=qf3 hT hn
 refine fun _=>⟨?_,by dsimp only;omega,by dsimp only;omega,?_,rfl⟩
 ·unfold vrB
  dsimp only
  rw [hT _ hn,g1]
  simp [hk]
 ·unfold Vr.sz
  dsimp only
  omega
end
end Go.Proofs.YtfbopaaambkfkaaGreatDoor
