/- The tokens of an expression's text: the law. No program in sight. Conditions: none. -/
import Derived.Test.YtfbopaaambkfkaaGreatDoorMg27
import Derived.Test.YtfbopaaambkfkaaGreatDoorMg29
import Derived.Test.YtfbopaaambkfkaaGreatDoorMg28
import Derived.Test.YtfbopaaambkfkaaGreatDoorMg30
set_option linter.unusedVariables false
set_option maxRecDepth 100000
set_option maxHeartbeats 8000000
set_option linter.unusedSimpArgs false
namespace Go.Proofs.YtfbopaaambkfkaaGreatDoor
open Go.RowKit
def Tok.good (t:Tok):Prop:=(t.kind=1→qan t.text=true)∧t.text.length≤16384
theorem qlj {p:UInt8→Bool}:∀l:List UInt8,(l.take (twl p l)).all p=true
  | []=>rfl
  | c::r=>by
    cases h:p c
    · rw [twl_no h];rfl
    · rw [qfm h,Nat.add_comm,List.take_succ_cons,List.all_cons,h,qlj r];rfl
theorem oneL_good {l:List UInt8} (hl:l.length≤16384) (hb:badT (oneL l)=false) (p:Int):Tok.good ⟨((oneL l).1:Nat),(oneL l).2,p⟩:=by
  refine⟨fun h1=>?_,by have:=qko l;show (oneL l).2.length≤16384;omega⟩
  replace h1:(oneL l).1=1:=by have:(((oneL l).1:Nat):Int)=1:=h1;omega
  show qan (oneL l).2=true
  have h20:(oneL l).2.length≤20:=by
    unfold badT at hb
    rw [h1] at hb
    simp at hb
    exact hb
  cases l with
  | nil=>simp [oneL] at h1
  | cons c r =>
    cases hc:qa2 c.toNat
    · exfalso
      unfold oneL at h1
      simp only [hc,Bool.false_eq_true,if_false] at h1
      split at h1
      · simp at h1
      · split at h1<;>simp at h1
    · rw [qgt hc] at h1 h20 ⊢
      dsimp only at h1 h20 ⊢
      have hin:qb5 c=true:=by unfold qb5;rw [hc];rfl
      rw [qfm hin,Nat.add_comm,List.take_succ_cons] at h1 h20 ⊢
      have hall:(c::r.take (twl qb5 r)).all qb5=true:=by rw [List.all_cons,hin,qlj];rfl
      split at h1
      · cases h1
      · rename_i hf
        rw [qjn (c:=c) rfl h20 hc hall]
        simp;omega
theorem qlk:∀(f a:Nat) (l:List UInt8) (acc:List Tok),l.length<f→l.length≤16384→(∀t∈acc,t.good)→(tokF f a l acc).2.1≠0∨∃(X:List Tok) (p:Int),tokF f a l acc=(X++[⟨0,[],p⟩],0,0)∧X.length≤acc.length+l.length∧∀t∈X,t.good
  | 0,a,l,acc,h,_,_=>by omega
  | f+1,a,l,acc,h,hl,hg=>by
    rw [tokF]
    split
    · exact .inr ⟨acc,a,rfl,by omega,hg⟩
    split
    · exact .inl (by show (1:Nat)≠0;decide)
    rename_i h1
    cases hb:badT (oneL l)
    · rw [if_neg (by decide)]
      have hp:=qlz l h1
      have hle:=qko l
      have hd:(((l.drop (oneL l).2.length).drop (sk false (l.drop (oneL l).2.length)))).length+1≤l.length:=by
        rw [List.length_drop,List.length_drop];omega
      rcases qlk f (a+(oneL l).2.length+sk false (l.drop (oneL l).2.length)) ((l.drop (oneL l).2.length).drop (sk false (l.drop (oneL l).2.length))) (acc++[⟨(oneL l).1,(oneL l).2,a⟩]) (by omega) (by omega) (fun t ht=>by
        rw [List.mem_append] at ht
        rcases ht with ht|ht
        · exact hg t ht
        · rw [List.mem_singleton] at ht;subst ht;exact oneL_good hl hb a) with h2|⟨X,p,h2,h3,h4⟩
      · exact .inl h2
      · exact .inr ⟨X,p,h2,by rw [List.length_append] at h3;simp at h3;omega,h4⟩
    · rw [if_pos rfl];exact .inl (by show (2:Nat)≠0;decide)
theorem tok_any (s:List UInt8):(qbl s).2.1≠0∨∃(X:List Tok) (p:Int),qbl s=(X++[⟨0,[],p⟩],0,0)∧X.length≤16384∧∀t∈X,t.good:=by
  unfold qbl
  split
  · exact .inl (by show (6:Nat)≠0;decide)
  · have hd:=List.length_drop (i:=sk false s) (l:=s)
    rcases qlk (s.length+1) (sk false s) (s.drop (sk false s)) [] (by omega) (by omega) (fun t h=>by cases h) with h|⟨X,p,h1,h2,h3⟩
    · exact .inl h
    · exact .inr ⟨X,p,h1,by simp at h2;omega,h3⟩
section
variable {X:List Tok} {p:Int}
theorem now_mem (a:Int):nowT (X++[⟨0,[],p⟩]) a∈X∨((nowT (X++[⟨0,[],p⟩]) a).kind=0∧(nowT (X++[⟨0,[],p⟩]) a).text=[]):=by
  unfold nowT
  split
  · rename_i h
    obtain⟨h1,h2⟩:=h
    rw [List.length_append] at h2
    rw [List.getD_eq_getElem?_getD,List.getElem?_append]
    split
    · rename_i h3
      rw [List.getElem?_eq_getElem h3]
      exact .inl (List.getElem_mem h3)
    · have:a.toNat-X.length=0:=by simp at h2;omega
      rw [this]
      exact .inr ⟨rfl,rfl⟩
  · rw [List.getLast?_append]
    exact .inr ⟨rfl,rfl⟩
end
/-! ### What is wrong -/
section
variable {l:List Tok}
end
section
variable {l:List Tok}
variable (hT:∀a,(nowT l a).kind=1→qan (nowT l a).text=true)
include hT
end
structure G6 where
  e:Ex
  next:Int
  err:Int
  fat:Int
section
variable (l:List Tok)
def bad6 (er a:Int):G6:=⟨Ex.zero,0,er,(nowT l a).pos⟩
def sgD (level:Int):List (List UInt8):=if level=0 then [[38,38]] else if level=1 then [[60],[61,61]] else if level=2 then [[43],[45]] else [[42]]
def betD (a level:Int):List UInt8:=((sgD level).find? fun s=>isT (nowT l a) s).getD []
def kndD (s:List UInt8):Int:=if s=[43] then 6 else if s=[45] then 7 else if s=[42] then 8 else if s=[60] then 9 else if s=[61,61] then 10 else if s=[38,38] then 11 else 0
def qbg (a:Int) (null:Bool):G6 :=
  if (nowT l a).kind=1 then ⟨⟨2,0,(nowT l a).text,[]⟩,a+1,0,0⟩
  else if isT (nowT l a) [116,104,105,115]=true then ⟨⟨3,0,[],[]⟩,a+1,0,0⟩
  else if (null&&isT (nowT l a) [110,117,108,108])=true then ⟨⟨4,0,[],[]⟩,a+1,0,0⟩
  else bad6 l 3 a
def qba (g:G6) (s:List UInt8):G6:=if g.err≠0 then g else if isT (nowT l g.next) s=true then { g with next:=g.next+1 } else bad6 l 3 g.next
def clsD (g:G6) (e:Ex):G6:=if (qba l g [41]).err≠0 then { qba l g [41] with e:=Ex.zero } else { qba l g [41] with e:=e }
def askD (a:Int):G6 :=
  if (qba l ⟨Ex.zero,a+1,0,0⟩ [40]).err≠0 then qba l ⟨Ex.zero,a+1,0,0⟩ [40]
  else if (qbg l (qba l ⟨Ex.zero,a+1,0,0⟩ [40]).next (isT (nowT l a) [115,97,109,101])).err≠0 then qbg l (qba l ⟨Ex.zero,a+1,0,0⟩ [40]).next (isT (nowT l a) [115,97,109,101])
  else if isT (nowT l a) [115,97,109,101]=true then
    (let x:=qbg l (qba l ⟨Ex.zero,a+1,0,0⟩ [40]).next true
     if (qba l x [44]).err≠0 then qba l x [44]
     else if (qbg l (qba l x [44]).next true).err≠0 then qbg l (qba l x [44]).next true
     else clsD l (qbg l (qba l x [44]).next true) ⟨14,0,[],[x.e,(qbg l (qba l x [44]).next true).e]⟩)
  else (let x:=qbg l (qba l ⟨Ex.zero,a+1,0,0⟩ [40]).next false
     clsD l x ⟨13,0,[],[x.e]⟩)
def easyD (a:Int):G6 :=
  if (isT (nowT l a) [110,105,108]||isT (nowT l a) [115,97,109,101])=true then askD l a
  else if isT (nowT l a) [105,110,112,117,116]=true then ⟨⟨5,0,[],[]⟩,a+1,0,0⟩
  else if (nowT l a).kind=2 then (match numL (nowT l a).text with
    | some n=>⟨⟨1,n,[],[]⟩,a+1,0,0⟩
    | none=>qbg l a true)
  else qbg l a true
mutual
def qbo:Nat→Int→Int→Int→Option G6
  | 0,_,_,_=>none
  | f+1,a,level,nest=>if level=4 then qbr f a nest else (match qbo f a (level+1) nest with
    | none=>none
    | some x=>rowD f level nest x)
def rowD:Nat→Int→Int→G6→Option G6
  | 0,_,_,_=>none
  | f+1,level,nest,x=>if x.err=0∧betD l x.next level≠[] then (match qbo f (x.next+1) (level+1) nest with
    | none=>none
    | some y=>if y.err≠0 then some y
      else if (⟨kndD (betD l x.next level),0,[],[x.e,y.e]⟩:Ex).deep>20 then some (bad6 l 5 x.next)
      else if level=1 then some ⟨⟨kndD (betD l x.next level),0,[],[x.e,y.e]⟩,y.next,0,0⟩
      else rowD f level nest ⟨⟨kndD (betD l x.next level),0,[],[x.e,y.e]⟩,y.next,0,0⟩)
    else some x
def qbr:Nat→Int→Int→Option G6
  | 0,_,_=>none
  | f+1,a,nest =>
    if ((isT (nowT l a) [40]||isT (nowT l a) [33])&&nest==20)=true then some (bad6 l 5 a)
    else if isT (nowT l a) [40]=true then (match qbo f (a+1) 0 (nest+1) with
      | none=>none
      | some x=>some (qba l x [41]))
    else if isT (nowT l a) [33]=true then (match qbr f (a+1) (nest+1) with
      | none=>none
      | some x=>if x.err≠0 then some x else if (⟨12,0,[],[x.e]⟩:Ex).deep>20 then some (bad6 l 5 a) else some ⟨⟨12,0,[],[x.e]⟩,x.next,0,0⟩)
    else some (easyD l a)
end
end
/-! ### What was read -/
def Got6 (N a:Int) (g:G6):Prop:=g.err=0→g.e.formB=true∧g.e.deep≤20∧a<g.next∧g.next≤N∧(g.e.sz:Int)≤21*(g.next-a)∧g.fat=0
section
variable {l:List Tok} {N:Int} (hN:∀a,N≤a→(nowT l a).kind=0) (hT:∀a,(nowT l a).kind=1→qan (nowT l a).text=true)
include hN hT
theorem qge {a:Int} {b:Bool}:Got6 N a (qbg l a b)∧((qbg l a b).err=0→(qbg l a b).e.deep=1∧((qbg l a b).e.kind=2∨(qbg l a b).e.kind=3∨(b=true∧(qbg l a b).e.kind=4))):=by
  unfold qbg
  split
  · rename_i h1
    have hn:=hT _ h1
    have hlt:=qiq hN (a:=a) (by rw [h1];decide)
    have hn2:=hn
    unfold qan at hn2
    simp only [Bool.and_eq_true,decide_eq_true_eq] at hn2
    have h20:=hn2.1.1.1.2
    refine⟨fun _=>⟨qmb hn,by show (1:Nat)≤20;decide,by show a<a+1;omega,by show a+1≤N;omega,?_,rfl⟩,fun _=>⟨rfl,.inl rfl⟩⟩
    show ((⟨2,0,(nowT l a).text,[]⟩:Ex).sz:Int)≤21*(a+1-a)
    rw [Ex.sz_eq];simp only [Ex.szs];omega
  split
  · rename_i h1
    have hlt:=qam hN h1
    refine⟨fun _=>⟨rfl,by show (1:Nat)≤20;decide,by show a<a+1;omega,by show a+1≤N;omega,?_,rfl⟩,fun _=>⟨rfl,.inr (.inl rfl)⟩⟩
    show ((⟨3,0,[],[]⟩:Ex).sz:Int)≤21*(a+1-a)
    rw [Ex.sz_eq];simp only [Ex.szs,List.length_nil];omega
  split
  · rename_i h1
    rw [Bool.and_eq_true] at h1
    have hlt:=qam hN h1.2
    refine⟨fun _=>⟨rfl,by show (1:Nat)≤20;decide,by show a<a+1;omega,by show a+1≤N;omega,?_,rfl⟩,fun _=>⟨rfl,.inr (.inr ⟨h1.1,rfl⟩)⟩⟩
    show ((⟨4,0,[],[]⟩:Ex).sz:Int)≤21*(a+1-a)
    rw [Ex.sz_eq];simp only [Ex.szs,List.length_nil];omega
  · exact⟨fun h=>absurd h (by show (3:Int)≠0;decide),fun h=>absurd h (by show (3:Int)≠0;decide)⟩
omit hT in
theorem qee {g:G6} {s:List UInt8} (h:(qba l g s).err=0):g.err=0∧(qba l g s).next=g.next+1∧(qba l g s).e=g.e∧(qba l g s).fat=g.fat∧g.next<N:=by
  unfold qba at h ⊢
  split at h
  · exact absurd h (by assumption)
  · rename_i h1
    split at h
    · rename_i h2
      rw [if_neg h1,if_pos h2]
      exact⟨h,rfl,rfl,rfl,qam hN h2⟩
    · cases h
omit hT in
theorem clsD_ok {g:G6} {e:Ex} (h:(clsD l g e).err=0):g.err=0∧(clsD l g e).next=g.next+1∧(clsD l g e).e=e∧(clsD l g e).fat=g.fat∧g.next<N:=by
  unfold clsD at h ⊢
  split at h
  · exact absurd h (by assumption)
  · rename_i h1
    rw [if_neg h1]
    obtain⟨w1,w2,w3,w4,w5⟩:=qee hN (g:=g) (s:=[41]) h
    exact⟨w1,w2,rfl,w4,w5⟩
end
theorem qkv {a level:Int} {l:List Tok} (h:betD l a level≠[]):(kndD (betD l a level)=6∨kndD (betD l a level)=7∨kndD (betD l a level)=8∨kndD (betD l a level)=9∨kndD (betD l a level)=10∨kndD (betD l a level)=11)∧isT (nowT l a) (betD l a level)=true:=by
  unfold betD at h ⊢
  cases hf:(sgD level).find? fun s=>isT (nowT l a) s with
  | none=>rw [hf] at h;exact absurd rfl h
  | some s =>
    have h1:=List.find?_some hf
    have h2:=List.mem_of_find?_eq_some hf
    refine⟨?_,h1⟩
    dsimp only [Option.getD]
    unfold sgD at h2
    split at h2
    · simp at h2;subst h2;decide
    split at h2
    · simp at h2;rcases h2 with rfl|rfl<;>decide
    split at h2
    · simp at h2;rcases h2 with rfl|rfl<;>decide
    · simp at h2;subst h2;decide
theorem sz_k1 (k:Int) (x:Ex):(⟨k,0,[],[x]⟩:Ex).sz=1+x.sz:=by rw [Ex.sz_eq];simp [Ex.szs]
theorem sz_k2 (k:Int) (x y:Ex):(⟨k,0,[],[x,y]⟩:Ex).sz=1+(x.sz+y.sz):=by rw [Ex.sz_eq];simp [Ex.szs]
theorem deep_k1 (k:Int) (x:Ex):(⟨k,0,[],[x]⟩:Ex).deep=1+x.deep:=by rw [Ex.deep_eq];simp [Ex.deeps]
theorem deep_k2 (k:Int) (x y:Ex):(⟨k,0,[],[x,y]⟩:Ex).deep=1+max x.deep y.deep:=by rw [Ex.deep_eq];simp [Ex.deeps]
section
variable {l:List Tok} {N:Int} (hN:∀a,N≤a→(nowT l a).kind=0) (hT:∀a,(nowT l a).kind=1→qan (nowT l a).text=true)
include hN hT
theorem askD_ok {a:Int}:Got6 N a (askD l a):=by
  unfold askD
  split
  · rename_i h;exact fun h2=>absurd h2 h
  rename_i h1
  simp only [ne_eq,Decidable.not_not] at h1
  obtain⟨_,n1,_,_,_⟩:=qee hN h1
  generalize qba l ⟨Ex.zero,a+1,0,0⟩ [40]=w at *
  dsimp only at n1
  split
  · rename_i h;exact fun h2=>absurd h2 h
  rename_i h2
  simp only [ne_eq,Decidable.not_not] at h2
  have A1:=qge hN hT (a:=w.next) (b:=isT (nowT l a) [115,97,109,101])
  cases two:isT (nowT l a) [115,97,109,101]
  · rw [two] at h2 A1
    rw [if_neg (by decide)]
    dsimp only
    generalize qbg l w.next false=x at *
    obtain⟨f1,f2,f3,f4,f5,f6⟩:=A1.1 h2
    obtain⟨g1,g2⟩:=A1.2 h2
    intro h3
    obtain⟨c1,c2,c3,c4,c5⟩:=clsD_ok hN h3
    refine⟨?_,?_,by omega,by omega,?_,by rw [c4];exact f6⟩
    · rw [c3,Ex.form_eq]
      rcases g2 with g2|g2|g2
      · simp [Ex.plainB,Ex.kidsN,Ex.formsB,Ex.kidB,f1,g2]
      · simp [Ex.plainB,Ex.kidsN,Ex.formsB,Ex.kidB,f1,g2]
      · cases g2.1
    · rw [c3,deep_k1,g1];omega
    · rw [c3,sz_k1];omega
  · rw [two] at h2 A1
    rw [if_pos rfl]
    dsimp only
    generalize qbg l w.next true=x at *
    obtain⟨f1,f2,f3,f4,f5,f6⟩:=A1.1 h2
    obtain⟨g1,g2⟩:=A1.2 h2
    split
    · rename_i h;exact fun h2=>absurd h2 h
    rename_i h3
    simp only [ne_eq,Decidable.not_not] at h3
    obtain⟨_,m1,_,_,_⟩:=qee hN h3
    generalize qba l x [44]=v at *
    split
    · rename_i h;exact fun h2=>absurd h2 h
    rename_i h4
    simp only [ne_eq,Decidable.not_not] at h4
    have A2:=qge hN hT (a:=v.next) (b:=true)
    generalize qbg l v.next true=y at *
    obtain⟨k1,k2,k3,k4,k5,k6⟩:=A2.1 h4
    obtain⟨j1,j2⟩:=A2.2 h4
    intro h5
    obtain⟨c1,c2,c3,c4,c5⟩:=clsD_ok hN h5
    refine⟨?_,?_,by omega,by omega,?_,by rw [c4];exact k6⟩
    · rw [c3,Ex.form_eq]
      simp only [true_and] at g2 j2
      rcases g2 with g2|g2|g2<;>rcases j2 with j2|j2|j2<;>simp [Ex.plainB,Ex.kidsN,Ex.formsB,Ex.kidB,f1,g2,k1,j2]
    · rw [c3,deep_k2,g1,j1];decide
    · rw [c3,sz_k2];omega
theorem easyD_ok {a:Int}:Got6 N a (easyD l a):=by
  unfold easyD
  split
  · exact askD_ok hN hT
  split
  · rename_i h1
    have hlt:=qam hN h1
    refine fun _=>⟨rfl,by show (1:Nat)≤20;decide,by show a<a+1;omega,by show a+1≤N;omega,?_,rfl⟩
    show ((⟨5,0,[],[]⟩:Ex).sz:Int)≤21*(a+1-a)
    rw [Ex.sz_eq];simp only [Ex.szs,List.length_nil];omega
  split
  · rename_i h1
    have hlt:=qiq hN (a:=a) (by rw [h1];decide)
    split
    · rename_i n hn
      have hn9:n<1000000000:=by
        unfold numL at hn
        split at hn
        · cases hn
        · rename_i h3
          split at hn
          · rename_i hd
            injection hn with hn
            have:=valL_lt _ _ rfl hd
            have h9:(nowT l a).text.length≤9:=by omega
            have h10:10 ^ (nowT l a).text.length≤10 ^ 9:=Nat.pow_le_pow_right (by decide) h9
            rw [←hn]
            exact Nat.lt_of_lt_of_le this h10
          · cases hn
      refine fun _=>⟨form_num hn9,by show (1:Nat)≤20;decide,by show a<a+1;omega,by show a+1≤N;omega,?_,rfl⟩
      show ((⟨1,n,[],[]⟩:Ex).sz:Int)≤21*(a+1-a)
      rw [Ex.sz_eq];simp only [Ex.szs,List.length_nil];omega
    · exact (qge hN hT).1
  · exact (qge hN hT).1
theorem qed:∀f:Nat,(∀(a level nest:Int) (g:G6),qbo l f a level nest=some g→Got6 N a g)∧(∀(level nest:Int) (x:G6) (a0:Int) (g:G6),Got6 N a0 x→rowD l f level nest x=some g→Got6 N a0 g)∧(∀(a nest:Int) (g:G6),qbr l f a nest=some g→Got6 N a g)
  | 0=>⟨fun _ _ _ _ h=>by simp [qbo] at h,fun _ _ _ _ _ _ h=>by simp [rowD] at h,fun _ _ _ h=>by simp [qbr] at h⟩
  | f+1=>by
    obtain⟨ic,ir,it⟩:=qed f
    refine⟨fun a level nest g h=>?_,fun level nest x a0 g hx h=>?_,fun a nest g h=>?_⟩
    · rw [qbo] at h
      split at h
      · exact it _ _ _ h
      · split at h
        · cases h
        · rename_i x hc
          exact ir _ _ _ a _ (ic _ _ _ _ hc) h
    · rw [rowD] at h
      split at h
      · rename_i hq
        obtain⟨hk,hi⟩:=qkv hq.2
        split at h
        · cases h
        · rename_i y hc
          have hy:=ic _ _ _ _ hc
          split at h
          · rename_i hne;injection h with h;subst h;exact fun h2=>absurd h2 hne
          rename_i hye
          simp only [ne_eq,Decidable.not_not] at hye
          obtain⟨x1,x2,x3,x4,x5,x6⟩:=hx hq.1
          obtain⟨y1,y2,y3,y4,y5,y6⟩:=hy hye
          split at h
          · injection h with h;subst h;exact fun h2=>absurd h2 (by show (5:Int)≠0;decide)
          rename_i hd
          have hG:Got6 N a0 ⟨⟨kndD (betD l x.next level),0,[],[x.e,y.e]⟩,y.next,0,0⟩:=fun _=>⟨qmd hk x1 y1,by dsimp only;omega,by show a0<y.next;omega,y4,by
            show ((⟨kndD (betD l x.next level),0,[],[x.e,y.e]⟩:Ex).sz:Int)≤21*(y.next-a0)
            rw [sz_k2];omega,rfl⟩
          split at h
          · injection h with h;subst h;exact hG
          · exact ir _ _ _ a0 _ hG h
      · injection h with h;subst h;exact hx
    · rw [qbr] at h
      split at h
      · injection h with h;subst h;exact fun h2=>absurd h2 (by show (5:Int)≠0;decide)
      split at h
      · split at h
        · cases h
        · rename_i x hc
          injection h with h;subst h
          have hx:=ic _ _ _ _ hc
          intro h3
          obtain⟨w1,w2,w3,w4,w5⟩:=qee hN h3
          obtain⟨x1,x2,x3,x4,x5,x6⟩:=hx w1
          exact⟨by rw [w3];exact x1,by rw [w3];exact x2,by omega,by omega,by rw [w3];omega,by rw [w4];exact x6⟩
      split at h
      · split at h
        · cases h
        · rename_i x hc
          have hx:=it _ _ _ hc
          split at h
          · rename_i hne;injection h with h;subst h;exact fun h2=>absurd h2 hne
          rename_i hxe
          simp only [ne_eq,Decidable.not_not] at hxe
          obtain⟨x1,x2,x3,x4,x5,x6⟩:=hx hxe
          split at h
          · injection h with h;subst h;exact fun h2=>absurd h2 (by show (5:Int)≠0;decide)
          rename_i hd
          injection h with h;subst h
          refine fun _=>⟨form_not x1,by dsimp only;omega,by show a<x.next;omega,x4,?_,rfl⟩
          show ((⟨12,0,[],[x.e]⟩:Ex).sz:Int)≤21*(x.next-a)
          rw [sz_k1];omega
      · injection h with h;subst h
        exact easyD_ok hN hT
end
section
variable {l:List Tok}
theorem upD:∀f:Nat,(∀(a level nest:Int) (g:G6),qbo l f a level nest=some g→qbo l (f+1) a level nest=some g)∧(∀(level nest:Int) (x:G6) (g:G6),rowD l f level nest x=some g→rowD l (f+1) level nest x=some g)∧(∀(a nest:Int) (g:G6),qbr l f a nest=some g→qbr l (f+1) a nest=some g)
  | 0=>⟨fun _ _ _ _ h=>by simp [qbo] at h,fun _ _ _ _ h=>by simp [rowD] at h,fun _ _ _ h=>by simp [qbr] at h⟩
  | f+1=>by
    obtain⟨ic,ir,it⟩:=upD f
    refine⟨fun a level nest g h=>?_,fun level nest x g h=>?_,fun a nest g h=>?_⟩
    · rw [qbo] at h ⊢
      split at h
      · rename_i h4;rw [if_pos h4];exact it _ _ _ h
      · rename_i h4
        rw [if_neg h4]
        split at h
        · cases h
        · rename_i x hc
          rw [ic _ _ _ _ hc]
          exact ir _ _ _ _ h
    · rw [rowD] at h ⊢
      split at h
      · rename_i hq
        rw [if_pos hq]
        split at h
        · cases h
        · rename_i y hc
          rw [ic _ _ _ _ hc]
          dsimp only
          split at h
          · rename_i h1;rw [if_pos h1];exact h
          rename_i h1
          rw [if_neg h1]
          split at h
          · rename_i h2;rw [if_pos h2];exact h
          rename_i h2
          rw [if_neg h2]
          split at h
          · rename_i h3;rw [if_pos h3];exact h
          rename_i h3
          rw [if_neg h3]
          exact ir _ _ _ _ h
      · rename_i hq;rw [if_neg hq];exact h
    · rw [qbr] at h ⊢
      split at h
      · rename_i h1;rw [if_pos h1];exact h
      rename_i h1
      rw [if_neg h1]
      split at h
      · rename_i h2
        rw [if_pos h2]
        split at h
        · cases h
        · rename_i x hc
          rw [ic _ _ _ _ hc];exact h
      rename_i h2
      rw [if_neg h2]
      split at h
      · rename_i h3
        rw [if_pos h3]
        split at h
        · cases h
        · rename_i x hc
          rw [it _ _ _ hc];exact h
      · rename_i h3;rw [if_neg h3];exact h
theorem qjz {f g:Nat} (h:f≤g) {a level nest:Int} {r:G6} (hr:qbo l f a level nest=some r):qbo l g a level nest=some r:=by
  induction h with
  | refl=>exact hr
  | step _ ih=>exact (upD _).1 _ _ _ _ ih
theorem rowD_up {f g:Nat} (h:f≤g) {level nest:Int} {x r:G6} (hr:rowD l f level nest x=some r):rowD l g level nest x=some r:=by
  induction h with
  | refl=>exact hr
  | step _ ih=>exact (upD _).2.1 _ _ _ _ ih
variable {N:Int} (hN:∀a,N≤a→(nowT l a).kind=0) (hT:∀a,(nowT l a).kind=1→qan (nowT l a).text=true)
include hN hT
theorem endD:∀(m:Nat) (a:Int),a≤N→N-a≤m→(∀nest,∃f g,qbr l f a nest=some g)∧(∀(j:Nat) (level nest:Int),level+j=4→∃f g,qbo l f a level nest=some g)∧(∀(level nest:Int) (x:G6),level≤3→(x.err=0→a≤x.next∧x.next≤N)→∃f g,rowD l f level nest x=some g)
  | m,a,ha,hm=>by
    have IH:∀b,a<b→b≤N→(∀nest,∃f g,qbr l f b nest=some g)∧(∀(j:Nat) (level nest:Int),level+j=4→∃f g,qbo l f b level nest=some g)∧(∀(level nest:Int) (x:G6),level≤3→(x.err=0→b≤x.next∧x.next≤N)→∃f g,rowD l f level nest x=some g):=fun b h1 h2=>by
      cases m with
      | zero=>omega
      | succ m=>exact endD m b h2 (by omega)
    have hrow:∀(level nest:Int) (x:G6),level≤3→(x.err=0→a≤x.next∧x.next≤N)→∃f g,rowD l f level nest x=some g:=by
      intro level nest x h3 hx
      by_cases hq:x.err=0∧betD l x.next level≠[]
      · obtain⟨hk,hi⟩:=qkv hq.2
        have hlt:=qam hN hi
        obtain⟨x1,x2⟩:=hx hq.1
        obtain⟨_,i2,i3⟩:=IH (x.next+1) (by omega) (by omega)
        obtain⟨f1,y,hy⟩:=i2 (3-level).toNat (level+1) nest (by omega)
        have gy:=(qed hN hT f1).1 _ _ _ _ hy
        by_cases e1:y.err≠0
        · exact⟨f1+1,y,by rw [rowD,if_pos hq,hy];dsimp only;rw [if_pos e1]⟩
        by_cases e2:(⟨kndD (betD l x.next level),0,[],[x.e,y.e]⟩:Ex).deep>20
        · exact⟨f1+1,_,by rw [rowD,if_pos hq,hy];dsimp only;rw [if_neg e1,if_pos e2]⟩
        by_cases e3:level=1
        · exact⟨f1+1,_,by rw [rowD,if_pos hq,hy];dsimp only;rw [if_neg e1,if_neg e2,if_pos e3]⟩
        simp only [ne_eq,Decidable.not_not] at e1
        obtain⟨_,_,g3,g4,_,_⟩:=gy e1
        obtain⟨f2,z,hz⟩:=i3 level nest ⟨⟨kndD (betD l x.next level),0,[],[x.e,y.e]⟩,y.next,0,0⟩ h3 (fun _=>⟨by dsimp only;omega,g4⟩)
        refine⟨max f1 f2+1,z,?_⟩
        rw [rowD,if_pos hq,qjz (Nat.le_max_left f1 f2) hy]
        dsimp only
        rw [if_neg (by rw [e1];simp),if_neg e2,if_neg e3]
        exact rowD_up (Nat.le_max_right f1 f2) hz
      · exact⟨1,x,by rw [rowD,if_neg hq]⟩
    have htight:∀nest,∃f g,qbr l f a nest=some g:=by
      intro nest
      by_cases h1:((isT (nowT l a) [40]||isT (nowT l a) [33])&&nest==20)=true
      · exact⟨1,_,by rw [qbr,if_pos h1]⟩
      by_cases h2:isT (nowT l a) [40]=true
      · have hlt:=qam hN h2
        obtain⟨f,x,hx⟩:=(IH (a+1) (by omega) (by omega)).2.1 4 0 (nest+1) (by omega)
        exact⟨f+1,_,by rw [qbr,if_neg h1,if_pos h2,hx]⟩
      by_cases h3:isT (nowT l a) [33]=true
      · have hlt:=qam hN h3
        obtain⟨f,x,hx⟩:=(IH (a+1) (by omega) (by omega)).1 (nest+1)
        by_cases e1:x.err≠0
        · exact⟨f+1,_,by rw [qbr,if_neg h1,if_neg h2,if_pos h3,hx];dsimp only;rw [if_pos e1]⟩
        by_cases e2:(⟨12,0,[],[x.e]⟩:Ex).deep>20
        · exact⟨f+1,_,by rw [qbr,if_neg h1,if_neg h2,if_pos h3,hx];dsimp only;rw [if_neg e1,if_pos e2]⟩
        · exact⟨f+1,_,by rw [qbr,if_neg h1,if_neg h2,if_pos h3,hx];dsimp only;rw [if_neg e1,if_neg e2]⟩
      · exact⟨1,_,by rw [qbr,if_neg h1,if_neg h2,if_neg h3]⟩
    refine⟨htight,?_,hrow⟩
    intro j
    induction j with
    | zero =>
      intro level nest h
      obtain⟨f,g,hg⟩:=htight nest
      exact⟨f+1,g,by rw [qbo,if_pos (by omega)];exact hg⟩
    | succ j ih =>
      intro level nest h
      obtain⟨f1,x,hx⟩:=ih (level+1) nest (by omega)
      have gx:=(qed hN hT f1).1 _ _ _ _ hx
      obtain⟨f2,z,hz⟩:=hrow level nest x (by omega) fun h=>by
        obtain⟨_,_,g3,g4,_,_⟩:=gx h
        exact⟨by omega,g4⟩
      refine⟨max f1 f2+1,z,?_⟩
      rw [qbo,if_neg (by omega),qjz (Nat.le_max_left f1 f2) hx]
      exact rowD_up (Nat.le_max_right f1 f2) hz
end
def G6.at (g:G6):List A:=Ex.at g.e++[.v (.int .i64 g.next),.v (.int .i64 g.err),.v (.int .i64 g.fat)]
section
variable (x:G6)
@[go_sem] theorem G6.len:(G6.at x).length=7:=by unfold G6.at;rw [List.length_append,Ex.len];rfl
@[go_sem] theorem G6.cl:(G6.at x).all clA=true:=by unfold G6.at;rw [List.all_append,Ex.cl];rfl
@[go_sem] theorem G6.see (st:List Bx):(G6.at x).map (seeA st)=G6.at x:=by unfold G6.at;rw [List.map_append,Ex.see];rfl
@[go_sem] theorem G6.w:qap (some 7) (G6.at x) 0=some (.r (G6.at x)):=qca (G6.len x)
@[go_sem] theorem G6.pw (y:G6):qak (G6.at x) 0 (G6.at y)=G6.at y:=qbf (by rw [G6.len,G6.len])
@[go_sem] theorem G6.s0:qap (some 4) (G6.at x) 0=some (.r (Ex.at x.e)):=by obtain⟨⟨k,n,s,l⟩,a,b,c⟩:=x;simp only [G6.at,Ex.at,Ex.ats_map];rfl
@[go_sem] theorem G6.g4:qap none (G6.at x) 4=some (.a (.v (.int .i64 x.next))):=by obtain⟨⟨k,n,s,l⟩,a,b,c⟩:=x;simp only [G6.at,Ex.at,Ex.ats_map];rfl
@[go_sem] theorem G6.g5:qap none (G6.at x) 5=some (.a (.v (.int .i64 x.err))):=by obtain⟨⟨k,n,s,l⟩,a,b,c⟩:=x;simp only [G6.at,Ex.at,Ex.ats_map];rfl
@[go_sem] theorem G6.g56:qap (some 2) (G6.at x) 5=some (.r [.v (.int .i64 x.err),.v (.int .i64 x.fat)]):=by obtain⟨⟨k,n,s,l⟩,a,b,c⟩:=x;simp only [G6.at,Ex.at,Ex.ats_map];rfl
@[go_sem] theorem G6.p4 (z:Int):qak (G6.at x) 4 [.v (.int .i64 z)]=G6.at { x with next:=z }:=by obtain⟨⟨k,n,s,l⟩,a,b,c⟩:=x;simp only [G6.at,Ex.at,Ex.ats_map];rfl
@[go_sem] theorem G6.p5 (z y:Int):qak (G6.at x) 5 [.v (.int .i64 z),.v (.int .i64 y)]=G6.at { x with err:=z,fat:=y }:=by obtain⟨⟨k,n,s,l⟩,a,b,c⟩:=x;simp only [G6.at,Ex.at,Ex.ats_map];rfl
@[go_sem] theorem G6.pe (e:Ex):qak (G6.at x) 0 (Ex.at e)=G6.at { x with e:=e }:=by obtain⟨⟨k,n,s,l⟩,a,b,c⟩:=x;obtain⟨k',n',s',l'⟩:=e;simp only [G6.at,Ex.at,Ex.ats_map];rfl
end
theorem G6.lit (k n:Int) (s:List UInt8) (m:List (List A)) (l:List Ex) (hm:l.map Ex.at=m) (a b c:Int):[A.v (.int .i64 k),.v (.int .i64 n),.v (.string (bs s)),.sl m,.v (.int .i64 a),.v (.int .i64 b),.v (.int .i64 c)]=G6.at ⟨⟨k,n,s,l⟩,a,b,c⟩:=by subst hm;simp only [G6.at,Ex.at,Ex.ats_map];rfl
theorem G6.lit0 (a b c:Int):[A.v (.int .i64 0),.v (.int .i64 0),.v (.string ⟨#[]⟩),.sl [],.v (.int .i64 a),.v (.int .i64 b),.v (.int .i64 c)]=G6.at ⟨Ex.zero,a,b,c⟩:=G6.lit 0 0 [] [] [] rfl a b c
theorem G6.litE (e:Ex) (a b c:Int):Ex.at e++[.v (.int .i64 a),.v (.int .i64 b),.v (.int .i64 c)]=G6.at ⟨e,a,b,c⟩:=rfl
@[go_sem] theorem G6.pzA (x:G6) (a b c:Int):qak [.v (.int .i64 0),.v (.int .i64 0),.v (.string ⟨#[]⟩),.sl [],.v (.int .i64 a),.v (.int .i64 b),.v (.int .i64 c)] 0 (G6.at x)=G6.at x:=by rw [G6.lit0,G6.pw]
@[go_sem] theorem Ex.q31 (e x:Ex):qak (Ex.at e) 3 [.sl [Ex.at x]]=Ex.at ⟨e.kind,e.num,e.name,[x]⟩:=by obtain⟨k,n,s,l⟩:=e;simp only [Ex.at,Ex.ats_map];rfl
@[go_sem] theorem Ex.q32 (e x y:Ex):qak (Ex.at e) 3 [.sl [Ex.at x,Ex.at y]]=Ex.at ⟨e.kind,e.num,e.name,[x,y]⟩:=by obtain⟨k,n,s,l⟩:=e;simp only [Ex.at,Ex.ats_map];rfl
theorem pdIs (t:Tok) (s:List UInt8):qaa Tryz.prog 31 [.r (Tok.at t),.a (.v (.string (bs s)))] (.a (.v (.bool (isT t s)))):=by
  by_cases h3:t.kind=3
  · have g3:(t.kind==3)=true:=by simp [h3]
    refine qaa.go Tryz.func31 rfl Tryz.ntmps31 rfl rfl rfl (fun C hro=>?_)
    have fx:=trivial
    replace fx:=ai12 g3 trivial
    repeat' (first|refine stp [0,1,2,4] ?_|(refine RS.pk ?_;refine rnx ?_)|(refine RS.gF ?_;refine rnx ?_)|fail)
    refine qaf ?_
    unfold isT;rw [g3];simp
  · have g3:(t.kind==3)=false:=by simp [h3]
    by_cases h4:t.kind=4
    · have g4:(t.kind==4)=true:=by simp [h4]
      refine qaa.go Tryz.func31 rfl Tryz.ntmps31 rfl rfl rfl (fun C hro=>?_)
      have fx:=trivial
      replace fx:=ai12 g3 (ai12 g4 trivial)
      repeat' (first|refine stp [0,1,2,4] ?_|(refine RS.pk ?_;refine rnx ?_)|(refine RS.gF ?_;refine rnx ?_)|fail)
      refine qaf ?_
      unfold isT;rw [g3,g4];simp
    · have g4:(t.kind==4)=false:=by simp [h4]
      refine qaa.go Tryz.func31 rfl Tryz.ntmps31 rfl rfl rfl (fun C hro=>?_)
      have fx:=trivial
      replace fx:=ai12 g3 (ai12 g4 trivial)
      repeat' (first|refine stp [0,1,2,4] ?_|(refine RS.pk ?_;refine rnx ?_)|(refine RS.gF ?_;refine rnx ?_)|fail)
      refine qaf ?_
      unfold isT;rw [g3,g4];rfl
theorem qbs (l:List Tok) (a:Int) (hl:l.length≤1048576):qaa Tryz.prog 30 [.a (.sl (l.map Tok.at)),.a (.v (.int .i64 a))] (.r (Tok.at (nowT l a))):=by
  by_cases h0:0≤a
  · have g0:decide (a≥0)=true:=decide_eq_true h0
    obtain⟨k,hk⟩:∃k:Nat,a=k:=⟨a.toNat,by omega⟩
    by_cases hlt:k<l.length
    · have g1:decide ((k:Int)<(l.length:Int))=true:=decide_eq_true (by omega)
      have g2:decide ((k:Int)≥0)=true:=decide_eq_true (by omega)
      have hz:l[k]? = some l[k]:=List.getElem?_eq_getElem hlt
      have hix:∀q2,ixD (some 3) q2 (.a (.sl (l.map Tok.at))) (.a (.v (.int .i64 (k:Int))))=some (.a (.ref (Tok.at l[k]) 0)):=fun q2=>ixE hz rfl q2
      have hn:nowT l a=l[k]:=by
        unfold nowT
        rw [hk,if_pos (by omega)]
        simp [hlt]
      rw [hn]
      refine qaa.go Tryz.func30 rfl Tryz.ntmps30 rfl rfl rfl (fun C hro=>?_)
      have fx:=trivial
      replace fx:=ai12 hk (ai12 g1 (ai12 g2 (ai12 hix trivial)))
      repeat' (first|refine stp [0,1,4,12,19] ?_|(refine RS.sE ?_;refine rnx ?_)|(refine RS.pk ?_;refine rnx ?_)|(refine RS.gF ?_;refine rnx ?_)|(refine RS.lC ?_;refine rnx ?_)|(refine RS.xC ?_;refine rnx ?_)|refine WP.cn (fun hc=>?_) (fun hc=>?_)|fail)
      rfl
    · have g1:decide (a<(l.length:Int))=false:=decide_eq_false (by omega)
      have hout:nowT l a=match l.getLast? with|none=>tkZ|some t=>⟨0,[],t.pos⟩:=if_neg (by omega)
      rcases List.eq_nil_or_concat l with hnil|⟨l',t,hcat⟩
      · have e0:((l.length:Int)==0)=true:=by rw [hnil];rfl
        have hlast:l.getLast? = none:=by rw [hnil];rfl
        rw [hout,hlast]
        refine qaa.go Tryz.func30 rfl Tryz.ntmps30 rfl rfl rfl (fun C hro=>?_)
        have fx:=trivial
        replace fx:=ai12 g0 (ai12 g1 (ai12 e0 trivial))
        repeat' (first|refine stp [0,1,4,12,19] ?_|(refine RS.sE ?_;refine rnx ?_)|(refine RS.pk ?_;refine rnx ?_)|(refine RS.gF ?_;refine rnx ?_)|(refine RS.lC ?_;refine rnx ?_)|(refine RS.xC ?_;refine rnx ?_)|refine WP.cn (fun hc=>?_) (fun hc=>?_)|fail)
        rfl
      · have hlen:l.length=l'.length+1:=by rw [hcat];simp
        have e0:((l.length:Int)==0)=false:=by rw [hlen];simp;omega
        have hw:IntKind.i64.wrap ((l.length:Int)-1)=((l'.length:Nat):Int):=(qah (by omega) (by omega)).trans (by omega)
        have hz:l[l'.length]? = some t:=by rw [hcat];simp
        have hix:∀q2,ixD (some 3) q2 (.a (.sl (l.map Tok.at))) (.a (.v (.int .i64 ((l'.length:Nat):Int))))=some (.a (.ref (Tok.at t) 0)):=fun q2=>ixE hz rfl q2
        have hlast:l.getLast? = some t:=by rw [hcat];simp
        rw [hout,hlast]
        refine qaa.go Tryz.func30 rfl Tryz.ntmps30 rfl rfl rfl (fun C hro=>?_)
        have fx:=trivial
        replace fx:=ai12 g0 (ai12 g1 (ai12 e0 (ai12 hw (ai12 hix trivial))))
        repeat' (first|refine stp [0,1,4,12,19] ?_|(refine RS.sE ?_;refine rnx ?_)|(refine RS.pk ?_;refine rnx ?_)|(refine RS.gF ?_;refine rnx ?_)|(refine RS.lC ?_;refine rnx ?_)|(refine RS.xC ?_;refine rnx ?_)|refine WP.cn (fun hc=>?_) (fun hc=>?_)|fail)
        rfl
  · have g0:decide (a≥0)=false:=decide_eq_false (by omega)
    have hout:nowT l a=match l.getLast? with|none=>tkZ|some t=>⟨0,[],t.pos⟩:=if_neg (by omega)
    rcases List.eq_nil_or_concat l with hnil|⟨l',t,hcat⟩
    · have e0:((l.length:Int)==0)=true:=by rw [hnil];rfl
      have hlast:l.getLast? = none:=by rw [hnil];rfl
      rw [hout,hlast]
      refine qaa.go Tryz.func30 rfl Tryz.ntmps30 rfl rfl rfl (fun C hro=>?_)
      have fx:=trivial
      replace fx:=ai12 g0 (ai12 e0 trivial)
      repeat' (first|refine stp [0,1,4,12,19] ?_|(refine RS.sE ?_;refine rnx ?_)|(refine RS.pk ?_;refine rnx ?_)|(refine RS.gF ?_;refine rnx ?_)|(refine RS.lC ?_;refine rnx ?_)|(refine RS.xC ?_;refine rnx ?_)|refine WP.cn (fun hc=>?_) (fun hc=>?_)|fail)
      rfl
    · have hlen:l.length=l'.length+1:=by rw [hcat];simp
      have e0:((l.length:Int)==0)=false:=by rw [hlen];simp;omega
      have hw:IntKind.i64.wrap ((l.length:Int)-1)=((l'.length:Nat):Int):=(qah (by omega) (by omega)).trans (by omega)
      have hz:l[l'.length]? = some t:=by rw [hcat];simp
      have hix:∀q2,ixD (some 3) q2 (.a (.sl (l.map Tok.at))) (.a (.v (.int .i64 ((l'.length:Nat):Int))))=some (.a (.ref (Tok.at t) 0)):=fun q2=>ixE hz rfl q2
      have hlast:l.getLast? = some t:=by rw [hcat];simp
      rw [hout,hlast]
      refine qaa.go Tryz.func30 rfl Tryz.ntmps30 rfl rfl rfl (fun C hro=>?_)
      have fx:=trivial
      replace fx:=ai12 g0 (ai12 e0 (ai12 hw (ai12 hix trivial)))
      repeat' (first|refine stp [0,1,4,12,19] ?_|(refine RS.sE ?_;refine rnx ?_)|(refine RS.pk ?_;refine rnx ?_)|(refine RS.gF ?_;refine rnx ?_)|(refine RS.lC ?_;refine rnx ?_)|(refine RS.xC ?_;refine rnx ?_)|refine WP.cn (fun hc=>?_) (fun hc=>?_)|fail)
      rfl
theorem qgq (l:List Tok) (e a:Int) (hl:l.length≤1048576):qaa Tryz.prog 134 [.a (.v (.int .i64 e)),.a (.sl (l.map Tok.at)),.a (.v (.int .i64 a))] (.r (G6.at (bad6 l e a))):=by
  have ht:=qbs l a hl
  have p1:=G6.lit0
  unfold bad6
  generalize nowT l a=t at *
  refine qaa.go Tryz.func134 rfl Tryz.ntmps134 rfl rfl rfl (fun C hro=>?_)
  have fx:=trivial
  replace fx:=ai12 p1 trivial
  repeat' (first|refine stp [0,1,2,6] ?_|(refine RS.sE ?_;refine rnx ?_)|(refine stc (r1:=by exact ht) (r2:=?_);refine rnx ?_)|fail)
  rfl
theorem pdAtom (l:List Tok) (a:Int) (b:Bool) (hl:l.length≤1048576) (h0:0≤a) (h1:a≤1048578):qaa Tryz.prog 142 [.a (.sl (l.map Tok.at)),.a (.v (.int .i64 a)),.a (.v (.bool b))] (.r (G6.at (qbg l a b))):=by
  have ht:=qbs l a hl
  have hi1:=pdIs (nowT l a) [116,104,105,115]
  have hi2:=pdIs (nowT l a) [110,117,108,108]
  have hb:=qgq l 3 a hl
  have hw:IntKind.i64.wrap (a+1)=a+1:=qah (by omega) (by omega)
  have p1:∀(k n:Int) (s:List UInt8) (a b c:Int),[A.v (.int .i64 k),.v (.int .i64 n),.v (.string (bs s)),.sl [],.v (.int .i64 a),.v (.int .i64 b),.v (.int .i64 c)]=G6.at ⟨⟨k,n,s,[]⟩,a,b,c⟩:=fun k n s=>G6.lit k n s [] [] rfl
  have p2:∀(k n:Int) (a b c:Int),[A.v (.int .i64 k),.v (.int .i64 n),.v (.string ⟨#[]⟩),.sl [],.v (.int .i64 a),.v (.int .i64 b),.v (.int .i64 c)]=G6.at ⟨⟨k,n,[],[]⟩,a,b,c⟩:=fun k n=>G6.lit k n [] [] [] rfl
  have p3:=G6.litE
  unfold qbg
  generalize nowT l a=t at *
  generalize bad6 l 3 a=w at *
  by_cases hk:t.kind=1
  · have g1:(t.kind==1)=true:=by simp [hk]
    rw [if_pos hk]
    refine qaa.go Tryz.func142 rfl Tryz.ntmps142 rfl rfl rfl (fun C hro=>?_)
    have fx:=trivial
    replace fx:=ai12 hw (ai12 p1 (ai12 p2 (ai12 p3 (ai12 g1 trivial))))
    repeat' (first|refine stp [0,1,2,6,7,13,21,30] ?_|(refine RS.sE ?_;refine rnx ?_)|(refine RS.pk ?_;refine rnx ?_)|(refine RS.gF ?_;refine rnx ?_)|(refine stc (r1:=by exact ht) (r2:=?_);refine rnx ?_)|refine WP.cn (fun hc=>?_) (fun hc=>?_)|fail)
    rfl
  have g1:(t.kind==1)=false:=by simp [hk]
  rw [if_neg hk]
  cases hc:isT t [116,104,105,115]
  · rw [if_neg (by decide)]
    rw [hc] at hi1
    cases b
    · rw [if_neg (by simp)]
      refine qaa.go Tryz.func142 rfl Tryz.ntmps142 rfl rfl rfl (fun C hro=>?_)
      have fx:=trivial
      replace fx:=ai12 hw (ai12 p1 (ai12 p2 (ai12 p3 (ai12 g1 trivial))))
      repeat' (first|refine stp [0,1,2,6,7,13,21,30] ?_|(refine RS.sE ?_;refine rnx ?_)|(refine RS.pk ?_;refine rnx ?_)|(refine RS.gF ?_;refine rnx ?_)|(refine stc (r1:=by first|exact ht|exact hi1|exact hi2|exact hb) (r2:=?_);refine rnx ?_)|refine WP.cn (fun hc=>?_) (fun hc=>?_)|fail)
      rfl
    · cases hu:isT t [110,117,108,108]
      · rw [if_neg (by simp)]
        rw [hu] at hi2
        refine qaa.go Tryz.func142 rfl Tryz.ntmps142 rfl rfl rfl (fun C hro=>?_)
        have fx:=trivial
        replace fx:=ai12 hw (ai12 p1 (ai12 p2 (ai12 p3 (ai12 g1 trivial))))
        repeat' (first|refine stp [0,1,2,6,7,13,21,30] ?_|(refine RS.sE ?_;refine rnx ?_)|(refine RS.pk ?_;refine rnx ?_)|(refine RS.gF ?_;refine rnx ?_)|(refine stc (r1:=by first|exact ht|exact hi1|exact hi2|exact hb) (r2:=?_);refine rnx ?_)|refine WP.cn (fun hc=>?_) (fun hc=>?_)|fail)
        rfl
      · rw [if_pos (by simp)]
        rw [hu] at hi2
        refine qaa.go Tryz.func142 rfl Tryz.ntmps142 rfl rfl rfl (fun C hro=>?_)
        have fx:=trivial
        replace fx:=ai12 hw (ai12 p1 (ai12 p2 (ai12 p3 (ai12 g1 trivial))))
        repeat' (first|refine stp [0,1,2,6,7,13,21,30] ?_|(refine RS.sE ?_;refine rnx ?_)|(refine RS.pk ?_;refine rnx ?_)|(refine RS.gF ?_;refine rnx ?_)|(refine stc (r1:=by first|exact ht|exact hi1|exact hi2|exact hb) (r2:=?_);refine rnx ?_)|refine WP.cn (fun hc=>?_) (fun hc=>?_)|fail)
        rfl
  · rw [if_pos rfl]
    rw [hc] at hi1
    refine qaa.go Tryz.func142 rfl Tryz.ntmps142 rfl rfl rfl (fun C hro=>?_)
    have fx:=trivial
    replace fx:=ai12 hw (ai12 p1 (ai12 p2 (ai12 p3 (ai12 g1 trivial))))
    repeat' (first|refine stp [0,1,2,6,7,13,21,30] ?_|(refine RS.sE ?_;refine rnx ?_)|(refine RS.pk ?_;refine rnx ?_)|(refine RS.gF ?_;refine rnx ?_)|(refine stc (r1:=by first|exact ht|exact hi1) (r2:=?_);refine rnx ?_)|refine WP.cn (fun hc=>?_) (fun hc=>?_)|fail)
    rfl
theorem pdWant' (l:List Tok) (g:G6) (s:List UInt8) (hl:l.length≤1048576) (hg:g.err=0→0≤g.next∧g.next≤1048578):qaa Tryz.prog 140 [.a (.sl (l.map Tok.at)),.r (G6.at g),.a (.v (.string (bs s)))] (.r (G6.at (qba l g s))):=by
  have ht:=qbs l g.next hl
  have hi:=pdIs (nowT l g.next) s
  have hb:=qgq l 3 g.next hl
  unfold qba
  generalize nowT l g.next=t at *
  generalize bad6 l 3 g.next=w at *
  by_cases he:g.err=0
  · have g1:(g.err != 0)=false:=by simp [he]
    obtain⟨h0,h1⟩:=hg he
    have hw:IntKind.i64.wrap (g.next+1)=g.next+1:=qah (by omega) (by omega)
    rw [if_neg (by simp [he])]
    cases hc:isT t s
    · rw [if_neg (by decide)]
      rw [hc] at hi
      refine qaa.go Tryz.func140 rfl Tryz.ntmps140 rfl rfl rfl (fun C hro=>?_)
      have fx:=trivial
      replace fx:=ai12 g1 (ai12 hw trivial)
      repeat' (first|refine stp [0,1,2,4,6,10,18] ?_|(refine RS.sE ?_;refine rnx ?_)|(refine stc (r1:=by first|exact ht|exact hi|exact hb) (r2:=?_);refine rnx ?_)|refine WP.cn (fun hc=>?_) (fun hc=>?_)|fail)
      rfl
    · rw [if_pos rfl]
      rw [hc] at hi
      refine qaa.go Tryz.func140 rfl Tryz.ntmps140 rfl rfl rfl (fun C hro=>?_)
      have fx:=trivial
      replace fx:=ai12 g1 (ai12 hw trivial)
      repeat' (first|refine stp [0,1,2,4,6,10,18] ?_|(refine RS.sE ?_;refine rnx ?_)|(refine stc (r1:=by first|exact ht|exact hi|exact hb) (r2:=?_);refine rnx ?_)|refine WP.cn (fun hc=>?_) (fun hc=>?_)|fail)
      rfl
  · have g1:(g.err != 0)=true:=by simp [he]
    rw [if_pos he]
    refine qaa.go Tryz.func140 rfl Tryz.ntmps140 rfl rfl rfl (fun C hro=>?_)
    have fx:=trivial
    replace fx:=ai12 g1 trivial
    repeat' (first|refine stp [0,1,2,4,6,10,18] ?_|(refine RS.sE ?_;refine rnx ?_)|refine WP.cn (fun hc=>?_) (fun hc=>?_)|fail)
    rfl
theorem qls (l:List Tok) (g:G6) (s:List UInt8) (hl:l.length≤1048576) (h0:0≤g.next) (h1:g.next≤1048578):qaa Tryz.prog 140 [.a (.sl (l.map Tok.at)),.r (G6.at g),.a (.v (.string (bs s)))] (.r (G6.at (qba l g s))):=pdWant' l g s hl fun _=>⟨h0,h1⟩
theorem qh2 {l:List Tok} {a:Int} {b:Bool} (h:(qbg l a b).err=0):(qbg l a b).next=a+1:=by
  unfold qbg at h ⊢
  split
  · rfl
  split
  · rfl
  split
  · rfl
  · rename_i h1 h2 h3
    rw [if_neg h1,if_neg h2,if_neg h3] at h
    exact absurd h (by show (3:Int)≠0;decide)
theorem pdAsk (l:List Tok) (a:Int) (hl:l.length≤1048576) (h0:0≤a) (h1:a≤1048570):qaa Tryz.prog 141 [.a (.sl (l.map Tok.at)),.a (.v (.int .i64 a))] (.r (G6.at (askD l a))):=by
  have ht:=qbs l a hl
  have hi:=pdIs (nowT l a) [115,97,109,101]
  have hw:IntKind.i64.wrap (a+1)=a+1:=qah (by omega) (by omega)
  have p1:=G6.lit0
  have hm:=qls l ⟨Ex.zero,a+1,0,0⟩ [40] hl (by dsimp only;omega) (by dsimp only;omega)
  unfold askD
  by_cases e1:(qba l ⟨Ex.zero,a+1,0,0⟩ [40]).err=0
  · obtain⟨_,n1,_,_,_⟩:=qee (qad l) e1
    rw [if_neg (by simp [e1])]
    have g1:((qba l ⟨Ex.zero,a+1,0,0⟩ [40]).err != 0)=false:=by simp [e1]
    generalize qba l ⟨Ex.zero,a+1,0,0⟩ [40]=w at *
    dsimp only at n1
    have hA:=pdAtom l w.next (isT (nowT l a) [115,97,109,101]) hl (by omega) (by omega)
    by_cases e2:(qbg l w.next (isT (nowT l a) [115,97,109,101])).err=0
    · rw [if_neg (by simp [e2])]
      have n2:=qh2 e2
      have g2:((qbg l w.next (isT (nowT l a) [115,97,109,101])).err != 0)=false:=by simp [e2]
      cases two:isT (nowT l a) [115,97,109,101]
      · rw [two] at hA e2 g2 n2 hi
        rw [if_neg (by decide)]
        dsimp only
        generalize nowT l a=t at *
        generalize qbg l w.next false=x at *
        have hc:=qls l x [41] hl (by omega) (by omega)
        unfold clsD
        generalize qba l x [41]=c at *
        by_cases e3:c.err=0
        · have g3:(c.err != 0)=false:=by simp [e3]
          rw [if_neg (by simp [e3])]
          refine qaa.go Tryz.func141 rfl Tryz.ntmps141 rfl rfl rfl (fun C hro=>?_)
          have fx:=trivial
          replace fx:=ai12 hw (ai12 p1 (ai12 g1 (ai12 g2 (ai12 g3 trivial))))
          repeat' (first|refine stp [0,1,4,5,6,7,8,9,10,11,24,34,40,47,56,73] ?_|(refine RS.ls ?_;refine rnx ?_)|(refine RS.sE ?_;refine rnx ?_)|(refine RS.bC ?_;refine rnx ?_)|(refine stc (r1:=by first|exact ht|exact hi|exact hm|exact hA|exact hc) (r2:=?_);refine rnx ?_)|refine WP.cn (fun hc=>?_) (fun hc=>?_)|fail)
          rfl
        · have g3:(c.err != 0)=true:=by simp [e3]
          rw [if_pos e3]
          refine qaa.go Tryz.func141 rfl Tryz.ntmps141 rfl rfl rfl (fun C hro=>?_)
          have fx:=trivial
          replace fx:=ai12 hw (ai12 p1 (ai12 g1 (ai12 g2 (ai12 g3 trivial))))
          repeat' (first|refine stp [0,1,4,5,6,7,8,9,10,11,24,34,40,47,56,73] ?_|(refine RS.ls ?_;refine rnx ?_)|(refine RS.sE ?_;refine rnx ?_)|(refine RS.bC ?_;refine rnx ?_)|(refine stc (r1:=by first|exact ht|exact hi|exact hm|exact hA|exact hc) (r2:=?_);refine rnx ?_)|refine WP.cn (fun hc=>?_) (fun hc=>?_)|fail)
          rfl
      · rw [two] at hA e2 g2 n2 hi
        rw [if_pos rfl]
        dsimp only
        generalize nowT l a=t at *
        generalize qbg l w.next true=x at *
        have hv:=qls l x [44] hl (by omega) (by omega)
        by_cases e3:(qba l x [44]).err=0
        · obtain⟨_,n3,_,_,_⟩:=qee (qad l) e3
          have g3:((qba l x [44]).err != 0)=false:=by simp [e3]
          rw [if_neg (by simp [e3])]
          generalize qba l x [44]=v at *
          have hB:=pdAtom l v.next true hl (by omega) (by omega)
          by_cases e4:(qbg l v.next true).err=0
          · have n4:=qh2 e4
            have g4:((qbg l v.next true).err != 0)=false:=by simp [e4]
            rw [if_neg (by simp [e4])]
            generalize qbg l v.next true=y at *
            have hc:=qls l y [41] hl (by omega) (by omega)
            unfold clsD
            generalize qba l y [41]=c at *
            by_cases e5:c.err=0
            · have g5:(c.err != 0)=false:=by simp [e5]
              rw [if_neg (by simp [e5])]
              refine qaa.go Tryz.func141 rfl Tryz.ntmps141 rfl rfl rfl (fun C hro=>?_)
              have fx:=trivial
              replace fx:=ai12 hw (ai12 p1 (ai12 g1 (ai12 g2 (ai12 g3 (ai12 g4 (ai12 g5 trivial))))))
              repeat' (first|refine stp [0,1,4,5,6,7,8,9,10,11,24,34,40,47,56,73] ?_|(refine RS.ls ?_;refine rnx ?_)|(refine RS.sE ?_;refine rnx ?_)|(refine RS.bC ?_;refine rnx ?_)|(refine stc (r1:=by first|exact ht|exact hi|exact hm|exact hA|exact hv|exact hB|exact hc) (r2:=?_);refine rnx ?_)|refine WP.cn (fun hc=>?_) (fun hc=>?_)|fail)
              rfl
            · have g5:(c.err != 0)=true:=by simp [e5]
              rw [if_pos e5]
              refine qaa.go Tryz.func141 rfl Tryz.ntmps141 rfl rfl rfl (fun C hro=>?_)
              have fx:=trivial
              replace fx:=ai12 hw (ai12 p1 (ai12 g1 (ai12 g2 (ai12 g3 (ai12 g4 (ai12 g5 trivial))))))
              repeat' (first|refine stp [0,1,4,5,6,7,8,9,10,11,24,34,40,47,56,73] ?_|(refine RS.ls ?_;refine rnx ?_)|(refine RS.sE ?_;refine rnx ?_)|(refine RS.bC ?_;refine rnx ?_)|(refine stc (r1:=by first|exact ht|exact hi|exact hm|exact hA|exact hv|exact hB|exact hc) (r2:=?_);refine rnx ?_)|refine WP.cn (fun hc=>?_) (fun hc=>?_)|fail)
              rfl
          · have g4:((qbg l v.next true).err != 0)=true:=by simp [e4]
            rw [if_pos e4]
            generalize qbg l v.next true=y at *
            refine qaa.go Tryz.func141 rfl Tryz.ntmps141 rfl rfl rfl (fun C hro=>?_)
            have fx:=trivial
            replace fx:=ai12 hw (ai12 p1 (ai12 g1 (ai12 g2 (ai12 g3 (ai12 g4 trivial)))))
            repeat' (first|refine stp [0,1,4,5,6,7,8,9,10,11,24,34,40,47,56,73] ?_|(refine RS.ls ?_;refine rnx ?_)|(refine RS.sE ?_;refine rnx ?_)|(refine RS.bC ?_;refine rnx ?_)|(refine stc (r1:=by first|exact ht|exact hi|exact hm|exact hA|exact hv|exact hB) (r2:=?_);refine rnx ?_)|refine WP.cn (fun hc=>?_) (fun hc=>?_)|fail)
            rfl
        · have g3:((qba l x [44]).err != 0)=true:=by simp [e3]
          rw [if_pos e3]
          generalize qba l x [44]=v at *
          refine qaa.go Tryz.func141 rfl Tryz.ntmps141 rfl rfl rfl (fun C hro=>?_)
          have fx:=trivial
          replace fx:=ai12 hw (ai12 p1 (ai12 g1 (ai12 g2 (ai12 g3 trivial))))
          repeat' (first|refine stp [0,1,4,5,6,7,8,9,10,11,24,34,40,47,56,73] ?_|(refine RS.ls ?_;refine rnx ?_)|(refine RS.sE ?_;refine rnx ?_)|(refine RS.bC ?_;refine rnx ?_)|(refine stc (r1:=by first|exact ht|exact hi|exact hm|exact hA|exact hv) (r2:=?_);refine rnx ?_)|refine WP.cn (fun hc=>?_) (fun hc=>?_)|fail)
          rfl
    · have g2:((qbg l w.next (isT (nowT l a) [115,97,109,101])).err != 0)=true:=by simp [e2]
      rw [if_pos e2]
      generalize isT (nowT l a) [115,97,109,101]=two at *
      generalize nowT l a=t at *
      generalize qbg l w.next two=x at *
      refine qaa.go Tryz.func141 rfl Tryz.ntmps141 rfl rfl rfl (fun C hro=>?_)
      have fx:=trivial
      replace fx:=ai12 hw (ai12 p1 (ai12 g1 (ai12 g2 trivial)))
      repeat' (first|refine stp [0,1,4,5,6,7,8,9,10,11,24,34,40,47,56,73] ?_|(refine RS.ls ?_;refine rnx ?_)|(refine RS.sE ?_;refine rnx ?_)|(refine RS.bC ?_;refine rnx ?_)|(refine stc (r1:=by first|exact ht|exact hi|exact hm|exact hA) (r2:=?_);refine rnx ?_)|refine WP.cn (fun hc=>?_) (fun hc=>?_)|fail)
      rfl
  · have g1:((qba l ⟨Ex.zero,a+1,0,0⟩ [40]).err != 0)=true:=by simp [e1]
    rw [if_pos e1]
    generalize qba l ⟨Ex.zero,a+1,0,0⟩ [40]=w at *
    generalize isT (nowT l a) [115,97,109,101]=two at *
    generalize nowT l a=t at *
    refine qaa.go Tryz.func141 rfl Tryz.ntmps141 rfl rfl rfl (fun C hro=>?_)
    have fx:=trivial
    replace fx:=ai12 hw (ai12 p1 (ai12 g1 trivial))
    repeat' (first|refine stp [0,1,4,5,6,7,8,9,10,11,24,34,40,47,56,73] ?_|(refine RS.ls ?_;refine rnx ?_)|(refine RS.sE ?_;refine rnx ?_)|(refine RS.bC ?_;refine rnx ?_)|(refine stc (r1:=by first|exact ht|exact hi|exact hm) (r2:=?_);refine rnx ?_)|refine WP.cn (fun hc=>?_) (fun hc=>?_)|fail)
    rfl
theorem ixL (q2:Option (Nat×Nat)) (rows:List (List A)) (j:Nat) (row:List A) (h:rows[j]? = some row) (hl:row.length=1):ixD (some 1) q2 (.a (.sl rows)) (.a (.v (.int .i64 (j:Int))))=some (.a (.ref row 0)):=by
  refine qar (j:=j) (row:=row) rfl h hl
theorem pdKind (s:List UInt8) (hs:s=[43]∨s=[45]∨s=[42]∨s=[60]∨s=[61,61]∨s=[38,38]):qaa Tryz.prog 132 [.a (.v (.string (bs s)))] (.a (.v (.int .i64 (kndD s)))):=by
  have h0:∀q2,ixD (some 1) q2 (.a (.sl [[.v (.string ⟨#[43]⟩)],[.v (.string ⟨#[45]⟩)],[.v (.string ⟨#[42]⟩)],[.v (.string ⟨#[60]⟩)],[.v (.string ⟨#[61,61]⟩)],[.v (.string ⟨#[38,38]⟩)]])) (.a (.v (.int .i64 0)))=some (.a (.ref [.v (.string ⟨#[43]⟩)] 0)):=fun q2=>ixL q2 _ 0 _ rfl rfl
  have h1:∀q2,ixD (some 1) q2 (.a (.sl [[.v (.string ⟨#[43]⟩)],[.v (.string ⟨#[45]⟩)],[.v (.string ⟨#[42]⟩)],[.v (.string ⟨#[60]⟩)],[.v (.string ⟨#[61,61]⟩)],[.v (.string ⟨#[38,38]⟩)]])) (.a (.v (.int .i64 1)))=some (.a (.ref [.v (.string ⟨#[45]⟩)] 0)):=fun q2=>ixL q2 _ 1 _ rfl rfl
  have h2:∀q2,ixD (some 1) q2 (.a (.sl [[.v (.string ⟨#[43]⟩)],[.v (.string ⟨#[45]⟩)],[.v (.string ⟨#[42]⟩)],[.v (.string ⟨#[60]⟩)],[.v (.string ⟨#[61,61]⟩)],[.v (.string ⟨#[38,38]⟩)]])) (.a (.v (.int .i64 2)))=some (.a (.ref [.v (.string ⟨#[42]⟩)] 0)):=fun q2=>ixL q2 _ 2 _ rfl rfl
  have h3:∀q2,ixD (some 1) q2 (.a (.sl [[.v (.string ⟨#[43]⟩)],[.v (.string ⟨#[45]⟩)],[.v (.string ⟨#[42]⟩)],[.v (.string ⟨#[60]⟩)],[.v (.string ⟨#[61,61]⟩)],[.v (.string ⟨#[38,38]⟩)]])) (.a (.v (.int .i64 3)))=some (.a (.ref [.v (.string ⟨#[60]⟩)] 0)):=fun q2=>ixL q2 _ 3 _ rfl rfl
  have h4:∀q2,ixD (some 1) q2 (.a (.sl [[.v (.string ⟨#[43]⟩)],[.v (.string ⟨#[45]⟩)],[.v (.string ⟨#[42]⟩)],[.v (.string ⟨#[60]⟩)],[.v (.string ⟨#[61,61]⟩)],[.v (.string ⟨#[38,38]⟩)]])) (.a (.v (.int .i64 4)))=some (.a (.ref [.v (.string ⟨#[61,61]⟩)] 0)):=fun q2=>ixL q2 _ 4 _ rfl rfl
  have h5:∀q2,ixD (some 1) q2 (.a (.sl [[.v (.string ⟨#[43]⟩)],[.v (.string ⟨#[45]⟩)],[.v (.string ⟨#[42]⟩)],[.v (.string ⟨#[60]⟩)],[.v (.string ⟨#[61,61]⟩)],[.v (.string ⟨#[38,38]⟩)]])) (.a (.v (.int .i64 5)))=some (.a (.ref [.v (.string ⟨#[38,38]⟩)] 0)):=fun q2=>ixL q2 _ 5 _ rfl rfl
  rcases hs with rfl|rfl|rfl|rfl|rfl|rfl
  · refine qaa.go Tryz.func132 rfl Tryz.ntmps132 rfl rfl rfl (fun C hro=>?_)
    have fx:=trivial
    replace fx:=ai12 h0 (ai12 h1 (ai12 h2 (ai12 h3 (ai12 h4 (ai12 h5 trivial)))))
    repeat' (first|refine stp [0,2,3,4,9,17] ?_|(refine RS.ls ?_;refine rnx ?_)|(refine RS.lC ?_;refine rnx ?_)|(refine RS.xC ?_;refine rnx ?_)|(refine RS.bC ?_;refine rnx ?_)|refine WP.cn (fun hc=>?_) (fun hc=>?_)|refine WP.loop_in ?_|refine WPIn.unroll ?_|fail)
    rfl
  · refine qaa.go Tryz.func132 rfl Tryz.ntmps132 rfl rfl rfl (fun C hro=>?_)
    have fx:=trivial
    replace fx:=ai12 h0 (ai12 h1 (ai12 h2 (ai12 h3 (ai12 h4 (ai12 h5 trivial)))))
    repeat' (first|refine stp [0,2,3,4,9,17] ?_|(refine RS.ls ?_;refine rnx ?_)|(refine RS.lC ?_;refine rnx ?_)|(refine RS.xC ?_;refine rnx ?_)|(refine RS.bC ?_;refine rnx ?_)|refine WP.cn (fun hc=>?_) (fun hc=>?_)|refine WP.loop_in ?_|refine WPIn.unroll ?_|fail)
    rfl
  · refine qaa.go Tryz.func132 rfl Tryz.ntmps132 rfl rfl rfl (fun C hro=>?_)
    have fx:=trivial
    replace fx:=ai12 h0 (ai12 h1 (ai12 h2 (ai12 h3 (ai12 h4 (ai12 h5 trivial)))))
    repeat' (first|refine stp [0,2,3,4,9,17] ?_|(refine RS.ls ?_;refine rnx ?_)|(refine RS.lC ?_;refine rnx ?_)|(refine RS.xC ?_;refine rnx ?_)|(refine RS.bC ?_;refine rnx ?_)|refine WP.cn (fun hc=>?_) (fun hc=>?_)|refine WP.loop_in ?_|refine WPIn.unroll ?_|fail)
    rfl
  · refine qaa.go Tryz.func132 rfl Tryz.ntmps132 rfl rfl rfl (fun C hro=>?_)
    have fx:=trivial
    replace fx:=ai12 h0 (ai12 h1 (ai12 h2 (ai12 h3 (ai12 h4 (ai12 h5 trivial)))))
    repeat' (first|refine stp [0,2,3,4,9,17] ?_|(refine RS.ls ?_;refine rnx ?_)|(refine RS.lC ?_;refine rnx ?_)|(refine RS.xC ?_;refine rnx ?_)|(refine RS.bC ?_;refine rnx ?_)|refine WP.cn (fun hc=>?_) (fun hc=>?_)|refine WP.loop_in ?_|refine WPIn.unroll ?_|fail)
    rfl
  · refine qaa.go Tryz.func132 rfl Tryz.ntmps132 rfl rfl rfl (fun C hro=>?_)
    have fx:=trivial
    replace fx:=ai12 h0 (ai12 h1 (ai12 h2 (ai12 h3 (ai12 h4 (ai12 h5 trivial)))))
    repeat' (first|refine stp [0,2,3,4,9,17] ?_|(refine RS.ls ?_;refine rnx ?_)|(refine RS.lC ?_;refine rnx ?_)|(refine RS.xC ?_;refine rnx ?_)|(refine RS.bC ?_;refine rnx ?_)|refine WP.cn (fun hc=>?_) (fun hc=>?_)|refine WP.loop_in ?_|refine WPIn.unroll ?_|fail)
    rfl
  · refine qaa.go Tryz.func132 rfl Tryz.ntmps132 rfl rfl rfl (fun C hro=>?_)
    have fx:=trivial
    replace fx:=ai12 h0 (ai12 h1 (ai12 h2 (ai12 h3 (ai12 h4 (ai12 h5 trivial)))))
    repeat' (first|refine stp [0,2,3,4,9,17] ?_|(refine RS.ls ?_;refine rnx ?_)|(refine RS.lC ?_;refine rnx ?_)|(refine RS.xC ?_;refine rnx ?_)|(refine RS.bC ?_;refine rnx ?_)|refine WP.cn (fun hc=>?_) (fun hc=>?_)|refine WP.loop_in ?_|refine WPIn.unroll ?_|fail)
    rfl
theorem qih (level:Int) (h:level=0∨level=1∨level=2∨level=3):qaa Tryz.prog 143 [.a (.v (.int .i64 level))] (.a (.sl ((sgD level).map qaj))):=by
  have h0:∀q2,ixD (some 1) q2 (.a (.sl [[.sl [[.v (.string ⟨#[38,38]⟩)]]],[.sl [[.v (.string ⟨#[60]⟩)],[.v (.string ⟨#[61,61]⟩)]]],[.sl [[.v (.string ⟨#[43]⟩)],[.v (.string ⟨#[45]⟩)]]],[.sl [[.v (.string ⟨#[42]⟩)]]]])) (.a (.v (.int .i64 0)))=some (.a (.ref [.sl [[.v (.string ⟨#[38,38]⟩)]]] 0)):=fun q2=>ixL q2 _ 0 _ rfl rfl
  have h1:∀q2,ixD (some 1) q2 (.a (.sl [[.sl [[.v (.string ⟨#[38,38]⟩)]]],[.sl [[.v (.string ⟨#[60]⟩)],[.v (.string ⟨#[61,61]⟩)]]],[.sl [[.v (.string ⟨#[43]⟩)],[.v (.string ⟨#[45]⟩)]]],[.sl [[.v (.string ⟨#[42]⟩)]]]])) (.a (.v (.int .i64 1)))=some (.a (.ref [.sl [[.v (.string ⟨#[60]⟩)],[.v (.string ⟨#[61,61]⟩)]]] 0)):=fun q2=>ixL q2 _ 1 _ rfl rfl
  have h2:∀q2,ixD (some 1) q2 (.a (.sl [[.sl [[.v (.string ⟨#[38,38]⟩)]]],[.sl [[.v (.string ⟨#[60]⟩)],[.v (.string ⟨#[61,61]⟩)]]],[.sl [[.v (.string ⟨#[43]⟩)],[.v (.string ⟨#[45]⟩)]]],[.sl [[.v (.string ⟨#[42]⟩)]]]])) (.a (.v (.int .i64 2)))=some (.a (.ref [.sl [[.v (.string ⟨#[43]⟩)],[.v (.string ⟨#[45]⟩)]]] 0)):=fun q2=>ixL q2 _ 2 _ rfl rfl
  have h3:∀q2,ixD (some 1) q2 (.a (.sl [[.sl [[.v (.string ⟨#[38,38]⟩)]]],[.sl [[.v (.string ⟨#[60]⟩)],[.v (.string ⟨#[61,61]⟩)]]],[.sl [[.v (.string ⟨#[43]⟩)],[.v (.string ⟨#[45]⟩)]]],[.sl [[.v (.string ⟨#[42]⟩)]]]])) (.a (.v (.int .i64 3)))=some (.a (.ref [.sl [[.v (.string ⟨#[42]⟩)]]] 0)):=fun q2=>ixL q2 _ 3 _ rfl rfl
  rcases h with rfl|rfl|rfl|rfl
  · refine qaa.go Tryz.func143 rfl Tryz.ntmps143 rfl rfl rfl (fun C hro=>?_)
    have fx:=trivial
    replace fx:=ai12 h0 trivial
    repeat' (first|refine stp [0,2,3] ?_|(refine RS.ls ?_;refine rnx ?_)|(refine RS.xC ?_;refine rnx ?_)|(refine RS.bC ?_;refine rnx ?_)|fail)
    rfl
  · refine qaa.go Tryz.func143 rfl Tryz.ntmps143 rfl rfl rfl (fun C hro=>?_)
    have fx:=trivial
    replace fx:=ai12 h1 trivial
    repeat' (first|refine stp [0,2,3] ?_|(refine RS.ls ?_;refine rnx ?_)|(refine RS.xC ?_;refine rnx ?_)|(refine RS.bC ?_;refine rnx ?_)|fail)
    rfl
  · refine qaa.go Tryz.func143 rfl Tryz.ntmps143 rfl rfl rfl (fun C hro=>?_)
    have fx:=trivial
    replace fx:=ai12 h2 trivial
    repeat' (first|refine stp [0,2,3] ?_|(refine RS.ls ?_;refine rnx ?_)|(refine RS.xC ?_;refine rnx ?_)|(refine RS.bC ?_;refine rnx ?_)|fail)
    rfl
  · refine qaa.go Tryz.func143 rfl Tryz.ntmps143 rfl rfl rfl (fun C hro=>?_)
    have fx:=trivial
    replace fx:=ai12 h3 trivial
    repeat' (first|refine stp [0,2,3] ?_|(refine RS.ls ?_;refine rnx ?_)|(refine RS.xC ?_;refine rnx ?_)|(refine RS.bC ?_;refine rnx ?_)|fail)
    rfl
theorem pdBet0 (l:List Tok) (a:Int) (hl:l.length≤1048576):qaa Tryz.prog 131 [.a (.sl (l.map Tok.at)),.a (.v (.int .i64 a)),.a (.v (.int .i64 0))] (.a (.v (.string (bs (betD l a 0))))):=by
  have ht:=qbs l a hl
  have hS:qaa Tryz.prog 143 [.a (.v (.int .i64 0))] (.a (.sl [[.v (.string (bs [38,38]))]])):=qih 0 (by decide)
  have hi0:=pdIs (nowT l a) [38,38]
  have x0:∀q2,ixD (some 1) q2 (.a (.sl [[.v (.string (bs [38,38]))]])) (.a (.v (.int .i64 0)))=some (.a (.ref [.v (.string (bs [38,38]))] 0)):=fun q2=>ixL q2 _ 0 _ rfl rfl
  unfold betD
  generalize nowT l a=t at *
  cases c0:isT t [38,38]
  · rw [c0] at hi0
    rw [show ((sgD 0).find? fun s=>isT t s).getD []=[] by simp [sgD,c0]]
    refine qaa.go Tryz.func131 rfl Tryz.ntmps131 rfl rfl rfl (fun C hro=>?_)
    have fx:=trivial
    replace fx:=ai12 x0 trivial
    repeat' (first|refine stp [0,1,2,6,7,8,14,24] ?_|(refine RS.lC ?_;refine rnx ?_)|(refine RS.xC ?_;refine rnx ?_)|(refine stc (r1:=by first|exact ht|exact hS|exact hi0) (r2:=?_);refine rnx ?_)|refine WP.cn (fun hc=>?_) (fun hc=>?_)|refine WP.loop_in ?_|refine WPIn.unroll ?_|((first|refine WP.dw (id:=5) 8 [0,1,2,6,7,8,14,24] ?_);simp only [qat,List.drop_succ_cons,List.drop_zero,List.drop_nil])|fail)
    rfl
  · rw [c0] at hi0
    rw [show ((sgD 0).find? fun s=>isT t s).getD []=[38,38] by simp [sgD,c0]]
    refine qaa.go Tryz.func131 rfl Tryz.ntmps131 rfl rfl rfl (fun C hro=>?_)
    have fx:=trivial
    replace fx:=ai12 x0 trivial
    repeat' (first|refine stp [0,1,2,6,7,8,14,24] ?_|(refine RS.lC ?_;refine rnx ?_)|(refine RS.xC ?_;refine rnx ?_)|(refine stc (r1:=by first|exact ht|exact hS|exact hi0) (r2:=?_);refine rnx ?_)|refine WP.cn (fun hc=>?_) (fun hc=>?_)|refine WP.loop_in ?_|refine WPIn.unroll ?_|((first|refine WP.dw (id:=5) 8 [0,1,2,6,7,8,14,24] ?_);simp only [qat,List.drop_succ_cons,List.drop_zero,List.drop_nil])|fail)
    rfl
theorem pdBet1 (l:List Tok) (a:Int) (hl:l.length≤1048576):qaa Tryz.prog 131 [.a (.sl (l.map Tok.at)),.a (.v (.int .i64 a)),.a (.v (.int .i64 1))] (.a (.v (.string (bs (betD l a 1))))):=by
  have ht:=qbs l a hl
  have hS:qaa Tryz.prog 143 [.a (.v (.int .i64 1))] (.a (.sl [[.v (.string (bs [60]))],[.v (.string (bs [61,61]))]])):=qih 1 (by decide)
  have hi0:=pdIs (nowT l a) [60]
  have x0:∀q2,ixD (some 1) q2 (.a (.sl [[.v (.string (bs [60]))],[.v (.string (bs [61,61]))]])) (.a (.v (.int .i64 0)))=some (.a (.ref [.v (.string (bs [60]))] 0)):=fun q2=>ixL q2 _ 0 _ rfl rfl
  have hi1:=pdIs (nowT l a) [61,61]
  have x1:∀q2,ixD (some 1) q2 (.a (.sl [[.v (.string (bs [60]))],[.v (.string (bs [61,61]))]])) (.a (.v (.int .i64 1)))=some (.a (.ref [.v (.string (bs [61,61]))] 0)):=fun q2=>ixL q2 _ 1 _ rfl rfl
  unfold betD
  generalize nowT l a=t at *
  cases c0:isT t [60]
  · rw [c0] at hi0
    cases c1:isT t [61,61]
    · rw [c1] at hi1
      rw [show ((sgD 1).find? fun s=>isT t s).getD []=[] by simp [sgD,c0,c1]]
      refine qaa.go Tryz.func131 rfl Tryz.ntmps131 rfl rfl rfl (fun C hro=>?_)
      have fx:=trivial
      replace fx:=ai12 x0 (ai12 x1 trivial)
      repeat' (first|refine stp [0,1,2,6,7,8,14,24] ?_|(refine RS.lC ?_;refine rnx ?_)|(refine RS.xC ?_;refine rnx ?_)|(refine stc (r1:=by first|exact ht|exact hS|exact hi0|exact hi1) (r2:=?_);refine rnx ?_)|refine WP.cn (fun hc=>?_) (fun hc=>?_)|refine WP.loop_in ?_|refine WPIn.unroll ?_|((first|refine WP.dw (id:=5) 8 [0,1,2,6,7,8,14,24] ?_);simp only [qat,List.drop_succ_cons,List.drop_zero,List.drop_nil])|fail)
      rfl
    · rw [c1] at hi1
      rw [show ((sgD 1).find? fun s=>isT t s).getD []=[61,61] by simp [sgD,c0,c1]]
      refine qaa.go Tryz.func131 rfl Tryz.ntmps131 rfl rfl rfl (fun C hro=>?_)
      have fx:=trivial
      replace fx:=ai12 x0 (ai12 x1 trivial)
      repeat' (first|refine stp [0,1,2,6,7,8,14,24] ?_|(refine RS.lC ?_;refine rnx ?_)|(refine RS.xC ?_;refine rnx ?_)|(refine stc (r1:=by first|exact ht|exact hS|exact hi0|exact hi1) (r2:=?_);refine rnx ?_)|refine WP.cn (fun hc=>?_) (fun hc=>?_)|refine WP.loop_in ?_|refine WPIn.unroll ?_|((first|refine WP.dw (id:=5) 8 [0,1,2,6,7,8,14,24] ?_);simp only [qat,List.drop_succ_cons,List.drop_zero,List.drop_nil])|fail)
      rfl
  · rw [c0] at hi0
    rw [show ((sgD 1).find? fun s=>isT t s).getD []=[60] by simp [sgD,c0]]
    refine qaa.go Tryz.func131 rfl Tryz.ntmps131 rfl rfl rfl (fun C hro=>?_)
    have fx:=trivial
    replace fx:=ai12 x0 (ai12 x1 trivial)
    repeat' (first|refine stp [0,1,2,6,7,8,14,24] ?_|(refine RS.lC ?_;refine rnx ?_)|(refine RS.xC ?_;refine rnx ?_)|(refine stc (r1:=by first|exact ht|exact hS|exact hi0|exact hi1) (r2:=?_);refine rnx ?_)|refine WP.cn (fun hc=>?_) (fun hc=>?_)|refine WP.loop_in ?_|refine WPIn.unroll ?_|((first|refine WP.dw (id:=5) 8 [0,1,2,6,7,8,14,24] ?_);simp only [qat,List.drop_succ_cons,List.drop_zero,List.drop_nil])|fail)
    rfl
theorem pdBet2 (l:List Tok) (a:Int) (hl:l.length≤1048576):qaa Tryz.prog 131 [.a (.sl (l.map Tok.at)),.a (.v (.int .i64 a)),.a (.v (.int .i64 2))] (.a (.v (.string (bs (betD l a 2))))):=by
  have ht:=qbs l a hl
  have hS:qaa Tryz.prog 143 [.a (.v (.int .i64 2))] (.a (.sl [[.v (.string (bs [43]))],[.v (.string (bs [45]))]])):=qih 2 (by decide)
  have hi0:=pdIs (nowT l a) [43]
  have x0:∀q2,ixD (some 1) q2 (.a (.sl [[.v (.string (bs [43]))],[.v (.string (bs [45]))]])) (.a (.v (.int .i64 0)))=some (.a (.ref [.v (.string (bs [43]))] 0)):=fun q2=>ixL q2 _ 0 _ rfl rfl
  have hi1:=pdIs (nowT l a) [45]
  have x1:∀q2,ixD (some 1) q2 (.a (.sl [[.v (.string (bs [43]))],[.v (.string (bs [45]))]])) (.a (.v (.int .i64 1)))=some (.a (.ref [.v (.string (bs [45]))] 0)):=fun q2=>ixL q2 _ 1 _ rfl rfl
  unfold betD
  generalize nowT l a=t at *
  cases c0:isT t [43]
  · rw [c0] at hi0
    cases c1:isT t [45]
    · rw [c1] at hi1
      rw [show ((sgD 2).find? fun s=>isT t s).getD []=[] by simp [sgD,c0,c1]]
      refine qaa.go Tryz.func131 rfl Tryz.ntmps131 rfl rfl rfl (fun C hro=>?_)
      have fx:=trivial
      replace fx:=ai12 x0 (ai12 x1 trivial)
      repeat' (first|refine stp [0,1,2,6,7,8,14,24] ?_|(refine RS.lC ?_;refine rnx ?_)|(refine RS.xC ?_;refine rnx ?_)|(refine stc (r1:=by first|exact ht|exact hS|exact hi0|exact hi1) (r2:=?_);refine rnx ?_)|refine WP.cn (fun hc=>?_) (fun hc=>?_)|refine WP.loop_in ?_|refine WPIn.unroll ?_|((first|refine WP.dw (id:=5) 8 [0,1,2,6,7,8,14,24] ?_);simp only [qat,List.drop_succ_cons,List.drop_zero,List.drop_nil])|fail)
      rfl
    · rw [c1] at hi1
      rw [show ((sgD 2).find? fun s=>isT t s).getD []=[45] by simp [sgD,c0,c1]]
      refine qaa.go Tryz.func131 rfl Tryz.ntmps131 rfl rfl rfl (fun C hro=>?_)
      have fx:=trivial
      replace fx:=ai12 x0 (ai12 x1 trivial)
      repeat' (first|refine stp [0,1,2,6,7,8,14,24] ?_|(refine RS.lC ?_;refine rnx ?_)|(refine RS.xC ?_;refine rnx ?_)|(refine stc (r1:=by first|exact ht|exact hS|exact hi0|exact hi1) (r2:=?_);refine rnx ?_)|refine WP.cn (fun hc=>?_) (fun hc=>?_)|refine WP.loop_in ?_|refine WPIn.unroll ?_|((first|refine WP.dw (id:=5) 8 [0,1,2,6,7,8,14,24] ?_);simp only [qat,List.drop_succ_cons,List.drop_zero,List.drop_nil])|fail)
      rfl
  · rw [c0] at hi0
    rw [show ((sgD 2).find? fun s=>isT t s).getD []=[43] by simp [sgD,c0]]
    refine qaa.go Tryz.func131 rfl Tryz.ntmps131 rfl rfl rfl (fun C hro=>?_)
    have fx:=trivial
    replace fx:=ai12 x0 (ai12 x1 trivial)
    repeat' (first|refine stp [0,1,2,6,7,8,14,24] ?_|(refine RS.lC ?_;refine rnx ?_)|(refine RS.xC ?_;refine rnx ?_)|(refine stc (r1:=by first|exact ht|exact hS|exact hi0|exact hi1) (r2:=?_);refine rnx ?_)|refine WP.cn (fun hc=>?_) (fun hc=>?_)|refine WP.loop_in ?_|refine WPIn.unroll ?_|((first|refine WP.dw (id:=5) 8 [0,1,2,6,7,8,14,24] ?_);simp only [qat,List.drop_succ_cons,List.drop_zero,List.drop_nil])|fail)
    rfl
theorem pdBet3 (l:List Tok) (a:Int) (hl:l.length≤1048576):qaa Tryz.prog 131 [.a (.sl (l.map Tok.at)),.a (.v (.int .i64 a)),.a (.v (.int .i64 3))] (.a (.v (.string (bs (betD l a 3))))):=by
  have ht:=qbs l a hl
  have hS:qaa Tryz.prog 143 [.a (.v (.int .i64 3))] (.a (.sl [[.v (.string (bs [42]))]])):=qih 3 (by decide)
  have hi0:=pdIs (nowT l a) [42]
  have x0:∀q2,ixD (some 1) q2 (.a (.sl [[.v (.string (bs [42]))]])) (.a (.v (.int .i64 0)))=some (.a (.ref [.v (.string (bs [42]))] 0)):=fun q2=>ixL q2 _ 0 _ rfl rfl
  unfold betD
  generalize nowT l a=t at *
  cases c0:isT t [42]
  · rw [c0] at hi0
    rw [show ((sgD 3).find? fun s=>isT t s).getD []=[] by simp [sgD,c0]]
    refine qaa.go Tryz.func131 rfl Tryz.ntmps131 rfl rfl rfl (fun C hro=>?_)
    have fx:=trivial
    replace fx:=ai12 x0 trivial
    repeat' (first|refine stp [0,1,2,6,7,8,14,24] ?_|(refine RS.lC ?_;refine rnx ?_)|(refine RS.xC ?_;refine rnx ?_)|(refine stc (r1:=by first|exact ht|exact hS|exact hi0) (r2:=?_);refine rnx ?_)|refine WP.cn (fun hc=>?_) (fun hc=>?_)|refine WP.loop_in ?_|refine WPIn.unroll ?_|((first|refine WP.dw (id:=5) 8 [0,1,2,6,7,8,14,24] ?_);simp only [qat,List.drop_succ_cons,List.drop_zero,List.drop_nil])|fail)
    rfl
  · rw [c0] at hi0
    rw [show ((sgD 3).find? fun s=>isT t s).getD []=[42] by simp [sgD,c0]]
    refine qaa.go Tryz.func131 rfl Tryz.ntmps131 rfl rfl rfl (fun C hro=>?_)
    have fx:=trivial
    replace fx:=ai12 x0 trivial
    repeat' (first|refine stp [0,1,2,6,7,8,14,24] ?_|(refine RS.lC ?_;refine rnx ?_)|(refine RS.xC ?_;refine rnx ?_)|(refine stc (r1:=by first|exact ht|exact hS|exact hi0) (r2:=?_);refine rnx ?_)|refine WP.cn (fun hc=>?_) (fun hc=>?_)|refine WP.loop_in ?_|refine WPIn.unroll ?_|((first|refine WP.dw (id:=5) 8 [0,1,2,6,7,8,14,24] ?_);simp only [qat,List.drop_succ_cons,List.drop_zero,List.drop_nil])|fail)
    rfl
theorem pdBet (l:List Tok) (a level:Int) (hl:l.length≤1048576) (h:level=0∨level=1∨level=2∨level=3):qaa Tryz.prog 131 [.a (.sl (l.map Tok.at)),.a (.v (.int .i64 a)),.a (.v (.int .i64 level))] (.a (.v (.string (bs (betD l a level))))):=by
  rcases h with rfl|rfl|rfl|rfl
  · exact pdBet0 l a hl
  · exact pdBet1 l a hl
  · exact pdBet2 l a hl
  · exact pdBet3 l a hl
theorem pd02Num (t:List UInt8) (ht:t.length≤1048576):qaa Tryz.prog 29 [.a (.v (.string (bs t)))] (.t [.a (.v (.int .i64 (((numL t).getD 0:Nat):Int))),.a (.v (.bool (numL t).isSome))]):=by
  have:=qaa.scalT (P:=Tryz.prog) (f:=29) (xs:=[.string (bs t)]) (zs:=[.int .i64 (((numL t).getD 0:Nat):Int),.bool (numL t).isSome]) (qbp Tryz.func29 rfl rfl) rfl fun w=>by
    have:=qcr (bs t) w (by rw [qk4];omega)
    rw [qk5] at this
    unfold numV at this
    cases hN:numL t with
    | none=>rw [hN] at this;exact this.mono fun e w' h=>⟨h.1,by obtain⟨_,rfl⟩:=h;exact Grw.refl _⟩
    | some n=>rw [hN] at this;exact this.mono fun e w' h=>⟨h.1,by obtain⟨_,rfl⟩:=h;exact Grw.refl _⟩
  exact this
theorem pdEasy (l:List Tok) (a nest:Int) (hl:l.length≤1048576) (h0:0≤a) (h1:a≤1048570) (hx:(nowT l a).text.length≤1048576) (hp:isT (nowT l a) [40]=false) (hq:isT (nowT l a) [33]=false):qaa Tryz.prog 130 [.a (.sl (l.map Tok.at)),.a (.v (.int .i64 a)),.a (.v (.int .i64 nest))] (.r (G6.at (easyD l a))):=by
  have ht:=qbs l a hl
  have hi:=pdIs (nowT l a) [40]
  have hj:=pdIs (nowT l a) [33]
  have i1:=pdIs (nowT l a) [110,105,108]
  have i2:=pdIs (nowT l a) [115,97,109,101]
  have i3:=pdIs (nowT l a) [105,110,112,117,116]
  have hN:=pd02Num (nowT l a).text hx
  have hA:=pdAsk l a hl h0 h1
  have hB:=pdAtom l a true hl h0 (by omega)
  have hw:IntKind.i64.wrap (a+1)=a+1:=qah (by omega) (by omega)
  have p1:=G6.lit0
  rw [hp] at hi
  rw [hq] at hj
  unfold easyD
  generalize askD l a=ak at *
  generalize qbg l a true=at_ at *
  generalize nowT l a=t at *
  cases g1:isT t [110,105,108]
  · cases g2:isT t [115,97,109,101]
    · rw [if_neg (by decide)]
      rw [g1] at i1
      rw [g2] at i2
      cases g3:isT t [105,110,112,117,116]
      · rw [if_neg (by decide)]
        rw [g3] at i3
        by_cases hk:t.kind=2
        · have ek:(t.kind==2)=true:=by simp [hk]
          rw [if_pos hk]
          cases hL:numL t.text with
          | none =>
            rw [hL] at hN
            refine qaa.go Tryz.func130 rfl Tryz.ntmps130 rfl rfl rfl (fun C hro=>?_)
            have fx:=trivial
            replace fx:=ai12 ek (ai12 hw (ai12 p1 trivial))
            repeat' (first|refine stp [0,1,2,6,7,8,9,10,23,28,38,48,58,68,73,89] ?_|(refine RS.ls ?_;refine rnx ?_)|(refine RS.sE ?_;refine rnx ?_)|(refine RS.pk ?_;refine rnx ?_)|(refine RS.gF ?_;refine rnx ?_)|(refine RS.bC ?_;refine rnx ?_)|(refine stc (r1:=by first|exact ht|exact hi|exact hj|exact i1|exact i2|exact i3|exact hN|exact hB) (r2:=?_);refine rnx ?_)|refine WP.cn (fun hc=>?_) (fun hc=>?_)|fail)
            rfl
          | some n =>
            rw [hL] at hN
            refine qaa.go Tryz.func130 rfl Tryz.ntmps130 rfl rfl rfl (fun C hro=>?_)
            have fx:=trivial
            replace fx:=ai12 ek (ai12 hw (ai12 p1 trivial))
            repeat' (first|refine stp [0,1,2,6,7,8,9,10,23,28,38,48,58,68,73,89] ?_|(refine RS.ls ?_;refine rnx ?_)|(refine RS.sE ?_;refine rnx ?_)|(refine RS.pk ?_;refine rnx ?_)|(refine RS.gF ?_;refine rnx ?_)|(refine RS.bC ?_;refine rnx ?_)|(refine stc (r1:=by first|exact ht|exact hi|exact hj|exact i1|exact i2|exact i3|exact hN) (r2:=?_);refine rnx ?_)|refine WP.cn (fun hc=>?_) (fun hc=>?_)|fail)
            rfl
        · have ek:(t.kind==2)=false:=by simp [hk]
          rw [if_neg hk]
          refine qaa.go Tryz.func130 rfl Tryz.ntmps130 rfl rfl rfl (fun C hro=>?_)
          have fx:=trivial
          replace fx:=ai12 ek (ai12 hw (ai12 p1 trivial))
          repeat' (first|refine stp [0,1,2,6,7,8,9,10,23,28,38,48,58,68,73,89] ?_|(refine RS.ls ?_;refine rnx ?_)|(refine RS.sE ?_;refine rnx ?_)|(refine RS.pk ?_;refine rnx ?_)|(refine RS.gF ?_;refine rnx ?_)|(refine RS.bC ?_;refine rnx ?_)|(refine stc (r1:=by first|exact ht|exact hi|exact hj|exact i1|exact i2|exact i3|exact hN|exact hB) (r2:=?_);refine rnx ?_)|refine WP.cn (fun hc=>?_) (fun hc=>?_)|fail)
          rfl
      · rw [if_pos rfl]
        rw [g3] at i3
        refine qaa.go Tryz.func130 rfl Tryz.ntmps130 rfl rfl rfl (fun C hro=>?_)
        have fx:=trivial
        replace fx:=ai12 hw (ai12 p1 trivial)
        repeat' (first|refine stp [0,1,2,6,7,8,9,10,23,28,38,48,58,68,73,89] ?_|(refine RS.ls ?_;refine rnx ?_)|(refine RS.sE ?_;refine rnx ?_)|(refine RS.pk ?_;refine rnx ?_)|(refine RS.gF ?_;refine rnx ?_)|(refine RS.bC ?_;refine rnx ?_)|(refine stc (r1:=by first|exact ht|exact hi|exact hj|exact i1|exact i2|exact i3) (r2:=?_);refine rnx ?_)|refine WP.cn (fun hc=>?_) (fun hc=>?_)|fail)
        rfl
    · rw [if_pos (by simp)]
      rw [g1] at i1
      rw [g2] at i2
      refine qaa.go Tryz.func130 rfl Tryz.ntmps130 rfl rfl rfl (fun C hro=>?_)
      have fx:=trivial
      replace fx:=ai12 hw (ai12 p1 trivial)
      repeat' (first|refine stp [0,1,2,6,7,8,9,10,23,28,38,48,58,68,73,89] ?_|(refine RS.ls ?_;refine rnx ?_)|(refine RS.sE ?_;refine rnx ?_)|(refine RS.pk ?_;refine rnx ?_)|(refine RS.gF ?_;refine rnx ?_)|(refine RS.bC ?_;refine rnx ?_)|(refine stc (r1:=by first|exact ht|exact hi|exact hj|exact i1|exact i2|exact hA) (r2:=?_);refine rnx ?_)|refine WP.cn (fun hc=>?_) (fun hc=>?_)|fail)
      rfl
  · rw [if_pos (by simp)]
    rw [g1] at i1
    refine qaa.go Tryz.func130 rfl Tryz.ntmps130 rfl rfl rfl (fun C hro=>?_)
    have fx:=trivial
    replace fx:=ai12 hw (ai12 p1 trivial)
    repeat' (first|refine stp [0,1,2,6,7,8,9,10,23,28,38,48,58,68,73,89] ?_|(refine RS.ls ?_;refine rnx ?_)|(refine RS.sE ?_;refine rnx ?_)|(refine RS.pk ?_;refine rnx ?_)|(refine RS.gF ?_;refine rnx ?_)|(refine RS.bC ?_;refine rnx ?_)|(refine stc (r1:=by first|exact ht|exact hi|exact hj|exact i1|exact hA) (r2:=?_);refine rnx ?_)|refine WP.cn (fun hc=>?_) (fun hc=>?_)|fail)
    rfl
theorem pdTight20 (l:List Tok) (a:Int) (hl:l.length≤1048576) (hp:(isT (nowT l a) [40]||isT (nowT l a) [33])=true):qaa Tryz.prog 130 [.a (.sl (l.map Tok.at)),.a (.v (.int .i64 a)),.a (.v (.int .i64 20))] (.r (G6.at (bad6 l 5 a))):=by
  have ht:=qbs l a hl
  have hi:=pdIs (nowT l a) [40]
  have hj:=pdIs (nowT l a) [33]
  have hb:=qgq l 5 a hl
  have p1:=G6.lit0
  generalize bad6 l 5 a=w at *
  generalize nowT l a=t at *
  cases g1:isT t [40]
  · rw [g1,Bool.false_or] at hp
    rw [g1] at hi
    rw [hp] at hj
    refine qaa.go Tryz.func130 rfl Tryz.ntmps130 rfl rfl rfl (fun C hro=>?_)
    have fx:=trivial
    replace fx:=ai12 p1 trivial
    repeat' (first|refine stp [0,1,2,6,7,8,9,10,23,28,38,48,58,68,73,89] ?_|(refine RS.ls ?_;refine rnx ?_)|(refine RS.sE ?_;refine rnx ?_)|(refine RS.pk ?_;refine rnx ?_)|(refine RS.gF ?_;refine rnx ?_)|(refine RS.bC ?_;refine rnx ?_)|(refine stc (r1:=by first|exact ht|exact hi|exact hj|exact hb) (r2:=?_);refine rnx ?_)|refine WP.cn (fun hc=>?_) (fun hc=>?_)|fail)
    rfl
  · rw [g1] at hi
    refine qaa.go Tryz.func130 rfl Tryz.ntmps130 rfl rfl rfl (fun C hro=>?_)
    have fx:=trivial
    replace fx:=ai12 p1 trivial
    repeat' (first|refine stp [0,1,2,6,7,8,9,10,23,28,38,48,58,68,73,89] ?_|(refine RS.ls ?_;refine rnx ?_)|(refine RS.sE ?_;refine rnx ?_)|(refine RS.pk ?_;refine rnx ?_)|(refine RS.gF ?_;refine rnx ?_)|(refine RS.bC ?_;refine rnx ?_)|(refine stc (r1:=by first|exact ht|exact hi|exact hj|exact hb) (r2:=?_);refine rnx ?_)|refine WP.cn (fun hc=>?_) (fun hc=>?_)|fail)
    rfl
theorem pdTightP (l:List Tok) (a nest:Int) (x:G6) (hl:l.length≤1048576) (h0:0≤a) (h1:a≤1048570) (hn0:0≤nest) (hn:nest<20) (hxx:x.err=0→0≤x.next∧x.next≤1048578) (hp:isT (nowT l a) [40]=true) (hc:qaa Tryz.prog 123 [.a (.sl (l.map Tok.at)),.a (.v (.int .i64 (a+1))),.a (.v (.int .i64 0)),.a (.v (.int .i64 (nest+1)))] (.r (G6.at x))):qaa Tryz.prog 130 [.a (.sl (l.map Tok.at)),.a (.v (.int .i64 a)),.a (.v (.int .i64 nest))] (.r (G6.at (qba l x [41]))):=by
  have ht:=qbs l a hl
  have hi:=pdIs (nowT l a) [40]
  have hm:=pdWant' l x [41] hl hxx
  have p1:=G6.lit0
  have e0:(nest==20)=false:=by simp;omega
  have w1:IntKind.i64.wrap (a+1)=a+1:=qah (by omega) (by omega)
  have w2:IntKind.i64.wrap (nest+1)=nest+1:=qah (by omega) (by omega)
  rw [hp] at hi
  generalize nowT l a=t at *
  generalize qba l x [41]=w at *
  refine qaa.go Tryz.func130 rfl Tryz.ntmps130 rfl rfl rfl (fun C hro=>?_)
  have fx:=trivial
  replace fx:=ai12 p1 (ai12 e0 (ai12 w1 (ai12 w2 trivial)))
  repeat' (first|refine stp [0,1,2,6,7,8,9,10,23,28,38,48,58,68,73,89] ?_|(refine RS.ls ?_;refine rnx ?_)|(refine RS.sE ?_;refine rnx ?_)|(refine RS.pk ?_;refine rnx ?_)|(refine RS.gF ?_;refine rnx ?_)|(refine RS.bC ?_;refine rnx ?_)|(refine stc (r1:=by first|exact ht|exact hi|exact hm|exact hc) (r2:=?_);refine rnx ?_)|refine WP.cn (fun hc=>?_) (fun hc=>?_)|fail)
  rfl
theorem pdTightN (l:List Tok) (a nest:Int) (x:G6) (hl:l.length≤1048576) (h0:0≤a) (h1:a≤1048570) (hn0:0≤nest) (hn:nest<20) (hsz:x.err=0→x.e.sz≤1048000) (hp:isT (nowT l a) [40]=false) (hq:isT (nowT l a) [33]=true) (hc:qaa Tryz.prog 130 [.a (.sl (l.map Tok.at)),.a (.v (.int .i64 (a+1))),.a (.v (.int .i64 (nest+1)))] (.r (G6.at x))):qaa Tryz.prog 130 [.a (.sl (l.map Tok.at)),.a (.v (.int .i64 a)),.a (.v (.int .i64 nest))] (.r (G6.at (if x.err≠0 then x else if (⟨12,0,[],[x.e]⟩:Ex).deep>20 then bad6 l 5 a else ⟨⟨12,0,[],[x.e]⟩,x.next,x.err,x.fat⟩))):=by
  have ht:=qbs l a hl
  have hi:=pdIs (nowT l a) [40]
  have hj:=pdIs (nowT l a) [33]
  have hb:=qgq l 5 a hl
  have p1:=G6.lit0
  have e0:(nest==20)=false:=by simp;omega
  have w1:IntKind.i64.wrap (a+1)=a+1:=qah (by omega) (by omega)
  have w2:IntKind.i64.wrap (nest+1)=nest+1:=qah (by omega) (by omega)
  rw [hp] at hi
  rw [hq] at hj
  generalize bad6 l 5 a=w at *
  generalize nowT l a=t at *
  by_cases he:x.err=0
  · have g1:(x.err != 0)=false:=by simp [he]
    have hD:=pDeep _ (⟨12,0,[],[x.e]⟩:Ex) (Nat.le_refl _) (by have:=hsz he;rw [sz_k1];omega)
    rw [if_neg (by simp [he])]
    by_cases hd:(⟨12,0,[],[x.e]⟩:Ex).deep>20
    · have g2:decide (((⟨12,0,[],[x.e]⟩:Ex).deep:Int)>20)=true:=decide_eq_true (by omega)
      rw [if_pos hd]
      refine qaa.go Tryz.func130 rfl Tryz.ntmps130 rfl rfl rfl (fun C hro=>?_)
      have fx:=trivial
      replace fx:=ai12 p1 (ai12 e0 (ai12 w1 (ai12 w2 (ai12 g1 (ai12 g2 trivial)))))
      repeat' (first|refine stp [0,1,2,6,7,8,9,10,23,28,38,48,58,68,73,89] ?_|(refine RS.ls ?_;refine rnx ?_)|(refine RS.sE ?_;refine rnx ?_)|(refine RS.pk ?_;refine rnx ?_)|(refine RS.gF ?_;refine rnx ?_)|(refine RS.bC ?_;refine rnx ?_)|(refine stc (r1:=by first|exact ht|exact hi|exact hj|exact hb|exact hc|exact hD) (r2:=?_);refine rnx ?_)|refine WP.cn (fun hc=>?_) (fun hc=>?_)|fail)
      rfl
    · have g2:decide (((⟨12,0,[],[x.e]⟩:Ex).deep:Int)>20)=false:=decide_eq_false (by omega)
      rw [if_neg hd]
      refine qaa.go Tryz.func130 rfl Tryz.ntmps130 rfl rfl rfl (fun C hro=>?_)
      have fx:=trivial
      replace fx:=ai12 p1 (ai12 e0 (ai12 w1 (ai12 w2 (ai12 g1 (ai12 g2 trivial)))))
      repeat' (first|refine stp [0,1,2,6,7,8,9,10,23,28,38,48,58,68,73,89] ?_|(refine RS.ls ?_;refine rnx ?_)|(refine RS.sE ?_;refine rnx ?_)|(refine RS.pk ?_;refine rnx ?_)|(refine RS.gF ?_;refine rnx ?_)|(refine RS.bC ?_;refine rnx ?_)|(refine stc (r1:=by first|exact ht|exact hi|exact hj|exact hb|exact hc|exact hD) (r2:=?_);refine rnx ?_)|refine WP.cn (fun hc=>?_) (fun hc=>?_)|fail)
      rfl
  · have g1:(x.err != 0)=true:=by simp [he]
    rw [if_pos he]
    refine qaa.go Tryz.func130 rfl Tryz.ntmps130 rfl rfl rfl (fun C hro=>?_)
    have fx:=trivial
    replace fx:=ai12 p1 (ai12 e0 (ai12 w1 (ai12 w2 (ai12 g1 trivial))))
    repeat' (first|refine stp [0,1,2,6,7,8,9,10,23,28,38,48,58,68,73,89] ?_|(refine RS.ls ?_;refine rnx ?_)|(refine RS.sE ?_;refine rnx ?_)|(refine RS.pk ?_;refine rnx ?_)|(refine RS.gF ?_;refine rnx ?_)|(refine RS.bC ?_;refine rnx ?_)|(refine stc (r1:=by first|exact ht|exact hi|exact hj|exact hb|exact hc) (r2:=?_);refine rnx ?_)|refine WP.cn (fun hc=>?_) (fun hc=>?_)|fail)
    rfl
theorem kndD_mem {s:List UInt8} (h:kndD s≠0):s=[43]∨s=[45]∨s=[42]∨s=[60]∨s=[61,61]∨s=[38,38]:=by
  unfold kndD at h
  split at h
  · rename_i h1;exact .inl h1
  split at h
  · rename_i h1;exact .inr (.inl h1)
  split at h
  · rename_i h1;exact .inr (.inr (.inl h1))
  split at h
  · rename_i h1;exact .inr (.inr (.inr (.inl h1)))
  split at h
  · rename_i h1;exact .inr (.inr (.inr (.inr (.inl h1))))
  split at h
  · rename_i h1;exact .inr (.inr (.inr (.inr (.inr h1))))
  · exact absurd rfl h
theorem pdChain (l:List Tok) (hl:l.length≤16385) (hT:∀a,(nowT l a).kind=1→qan (nowT l a).text=true) (n:Nat) (IHc:∀f,f≤n→∀(a level nest:Int) (g:G6),0≤a→a≤l.length→0≤level→level≤4→0≤nest→nest≤20→qbo l f a level nest=some g→qaa Tryz.prog 123 [.a (.sl (l.map Tok.at)),.a (.v (.int .i64 a)),.a (.v (.int .i64 level)),.a (.v (.int .i64 nest))] (.r (G6.at g))) (IHt:∀(a nest:Int) (g:G6),0≤a→a≤l.length→0≤nest→nest≤20→qbr l n a nest=some g→qaa Tryz.prog 130 [.a (.sl (l.map Tok.at)),.a (.v (.int .i64 a)),.a (.v (.int .i64 nest))] (.r (G6.at g))) (a level nest:Int) (g:G6) (h0:0≤a) (h1:a≤l.length) (v0:0≤level) (v1:level≤4) (n0:0≤nest) (n1:nest≤20) (h:qbo l (n+1) a level nest=some g):qaa Tryz.prog 123 [.a (.sl (l.map Tok.at)),.a (.v (.int .i64 a)),.a (.v (.int .i64 level)),.a (.v (.int .i64 nest))] (.r (G6.at g)):=by
  have p1:=G6.lit0
  rw [qbo] at h
  by_cases h4:level=4
  · rw [if_pos h4] at h
    have hw:=IHt a nest g h0 h1 n0 n1 h
    have e4:(level==4)=true:=by simp [h4]
    refine qaa.go Tryz.func123 rfl Tryz.ntmps123 rfl rfl rfl (fun C hro=>?_)
    have fx:=trivial
    replace fx:=ai12 p1 (ai12 e4 trivial)
    repeat' (first|(refine RWL.fin ?_;try simp only [qab,qae])|refine stp [0,1,2,3,8,9,10,11,12,14,36,49,64,73] ?_|(refine RS.ls ?_;refine rnx ?_)|(refine RS.sE ?_;refine rnx ?_)|(refine RS.pk ?_;refine rnx ?_)|(refine RS.gF ?_;refine rnx ?_)|(refine RS.bC ?_;refine rnx ?_)|refine RWL.fr ?_|refine RWL.wt ?_|refine RWL.lS ?_|refine RWL.bC ?_|(refine stc (r1:=by exact hw) (r2:=?_);refine rnx ?_)|(refine' WP.dl (id:=9) [0,0,0,7,15,0,32,0,128,480,1023,0,4095] [0,1,2,3,8,9,10,11,12,14,36,49,64,73] [11,12] [(11,_),(12,_)] ?_)|refine RWL.re ?_ ?_|refine RdO.oz|refine RdO.oa ?_|refine RdO.oe ?_|refine RdO.on|refine WP.cn (fun hc=>?_) (fun hc=>?_)|fail)
    rfl
  rw [if_neg h4] at h
  have e4:(level==4)=false:=by simp [h4]
  have w0:IntKind.i64.wrap (level+1)=level+1:=qah (by omega) (by omega)
  split at h
  · cases h
  rename_i x hc
  have hx:=IHc n (Nat.le_refl _) a (level+1) nest x h0 h1 (by omega) (by omega) n0 n1 hc
  have gx:=(qed (qad l) hT n).1 _ _ _ _ hc
  refine qaa.go Tryz.func123 rfl Tryz.ntmps123 rfl rfl rfl (fun C hro=>?_)
  have fx:=trivial
  replace fx:=ai12 p1 (ai12 e4 (ai12 w0 trivial))
  repeat' (first|(refine RWL.fin ?_;try simp only [qab,qae])|refine stp [0,1,2,3,8,9,10,11,12,14,36,49,64,73] ?_|(refine RS.ls ?_;refine rnx ?_)|(refine RS.sE ?_;refine rnx ?_)|(refine RS.pk ?_;refine rnx ?_)|(refine RS.gF ?_;refine rnx ?_)|(refine RS.bC ?_;refine rnx ?_)|refine RWL.fr ?_|refine RWL.wt ?_|refine RWL.lS ?_|refine RWL.bC ?_|(refine stc (r1:=by exact hx) (r2:=?_);refine rnx ?_)|(refine' WP.dl (id:=9) [0,0,0,7,15,0,32,0,128,480,1023,0,4095] [0,1,2,3,8,9,10,11,12,14,36,49,64,73] [11,12] [(11,_),(12,_)] ?_)|refine RWL.re ?_ ?_|refine RdO.oz|refine RdO.oa ?_|refine RdO.oe ?_|refine RdO.on|refine WP.cn (fun hc=>?_) (fun hc=>?_)|fail)
  refine WP.loopX (α:={ y:Nat×G6 // y.1≤n∧rowD l y.1 level nest y.2=some g∧Got6 l.length a y.2 }) (fun _=>[(0,.a (.sl (l.map Tok.at))),(2,.a (.v (.int .i64 level))),(3,.a (.v (.int .i64 nest))),(8,.a (.ptr 0 0)),(9,.a (.ptr 1 0))]) (fun y=>[.cell (G6.at ⟨Ex.zero,0,0,0⟩),.cell (G6.at y.1.2)]) (fun y=>y.1.1) ⟨(n,x),Nat.le_refl _,h,gx⟩ (by simp only [qal,go_sem,simprocAttr];first|done|rfl) rfl ?_
  clear h hx gx hc
  rintro⟨⟨k,x⟩,hk,h,gx⟩
  dsimp only at hk h gx ⊢
  cases k with
  | zero=>simp [rowD] at h
  | succ k =>
  rw [rowD] at h
  by_cases he:x.err=0
  · have e0:(x.err==0)=true:=by simp [he]
    obtain⟨x1,x2,x3,x4,x5,x6⟩:=gx he
    have hB:=pdBet l x.next level (by omega) (by omega)
    by_cases hb:betD l x.next level=[]
    · rw [if_neg (by intro hq;exact hq.2 hb)] at h
      injection h with h
      subst h
      rw [hb] at hB
      replace hB:qaa Tryz.prog 131 [.a (.sl (l.map Tok.at)),.a (.v (.int .i64 x.next)),.a (.v (.int .i64 level))] (.a (.v (.string ⟨#[]⟩))):=hB
      replace fx:=ai12 p1 (ai12 e0 trivial)
      repeat' (first|(refine RWL.fin ?_;try simp only [qab,qae])|refine stp [0,1,2,3,8,9,10,11,12,14,36,49,64,73] ?_|(refine RS.ls ?_;refine rnx ?_)|(refine RS.sE ?_;refine rnx ?_)|(refine RS.pk ?_;refine rnx ?_)|(refine RS.gF ?_;refine rnx ?_)|(refine RS.bC ?_;refine rnx ?_)|refine RWL.fr ?_|refine RWL.wt ?_|refine RWL.lS ?_|refine RWL.bC ?_|(refine stc (r1:=by exact hB) (r2:=?_);refine rnx ?_)|(refine' WP.dl (id:=9) [0,0,0,7,15,0,32,0,128,480,1023,0,4095] [0,1,2,3,8,9,10,11,12,14,36,49,64,73] [11,12] [(11,_),(12,_)] ?_)|refine RWL.re ?_ ?_|refine RdO.oz|refine RdO.oa ?_|refine RdO.oe ?_|refine RdO.on|refine WP.cn (fun hc=>?_) (fun hc=>?_)|fail)
      rfl
    obtain⟨hk6,hit⟩:=qkv hb
    have hlt:=qam (qad l) hit
    rw [if_pos ⟨he,hb⟩] at h
    have w1:IntKind.i64.wrap (x.next+1)=x.next+1:=qah (by omega) (by omega)
    split at h
    · cases h
    rename_i y hc
    have hy:=IHc k (by omega) (x.next+1) (level+1) nest y (by omega) (by omega) (by omega) (by omega) n0 n1 hc
    have gy:=(qed (qad l) hT k).1 _ _ _ _ hc
    have hK:=pdKind (betD l x.next level) (kndD_mem (by omega))
    have hb1:(betD l x.next level==[])=false:=by simpa using hb
    have hb2:(betD l x.next level != [])=true:=by simpa using hb
    have w2:IntKind.i64.wrap (level+1)=level+1:=w0
    generalize hbt:betD l x.next level=bt at *
    by_cases ye:y.err=0
    · have e1:(y.err != 0)=false:=by simp [ye]
      obtain⟨y1,y2,y3,y4,y5,y6⟩:=gy ye
      rw [if_neg (by simp [ye])] at h
      have hD:=pDeep _ (⟨kndD bt,0,[],[x.e,y.e]⟩:Ex) (Nat.le_refl _) (by rw [sz_k2];omega)
      have hW:=qgq l 5 x.next (by omega)
      by_cases hd:(⟨kndD bt,0,[],[x.e,y.e]⟩:Ex).deep>20
      · have g2:decide (((⟨kndD bt,0,[],[x.e,y.e]⟩:Ex).deep:Int)>20)=true:=decide_eq_true (by omega)
        rw [if_pos hd] at h
        injection h with h
        subst h
        replace fx:=ai12 p1 (ai12 e0 (ai12 e1 (ai12 hb1 (ai12 hb2 (ai12 w0 (ai12 w1 (ai12 g2 trivial)))))))
        repeat' (first|(refine RWL.fin ?_;try simp only [qab,qae])|refine stp [0,1,2,3,8,9,10,11,12,14,36,49,64,73] ?_|(refine RS.ls ?_;refine rnx ?_)|(refine RS.sE ?_;refine rnx ?_)|(refine RS.pk ?_;refine rnx ?_)|(refine RS.gF ?_;refine rnx ?_)|(refine RS.bC ?_;refine rnx ?_)|refine RWL.fr ?_|refine RWL.wt ?_|refine RWL.lS ?_|refine RWL.bC ?_|(refine stc (r1:=by first|exact hB|exact hy|exact hK|exact hD|exact hW) (r2:=?_);refine rnx ?_)|(refine' WP.dl (id:=9) [0,0,0,7,15,0,32,0,128,480,1023,0,4095] [0,1,2,3,8,9,10,11,12,14,36,49,64,73] [11,12] [(11,_),(12,_)] ?_)|refine RWL.re ?_ ?_|refine RdO.oz|refine RdO.oa ?_|refine RdO.oe ?_|refine RdO.on|refine WP.cn (fun hc=>?_) (fun hc=>?_)|fail)
        rfl
      · have g2:decide (((⟨kndD bt,0,[],[x.e,y.e]⟩:Ex).deep:Int)>20)=false:=decide_eq_false (by omega)
        rw [if_neg hd] at h
        by_cases hl1:level=1
        · have g3:(level==1)=true:=by simp [hl1]
          rw [if_pos hl1] at h
          injection h with h
          subst h
          replace fx:=ai12 p1 (ai12 e0 (ai12 e1 (ai12 hb1 (ai12 hb2 (ai12 w0 (ai12 w1 (ai12 g2 (ai12 g3 trivial))))))))
          repeat' (first|(refine RWL.fin ?_;try simp only [qab,qae])|refine stp [0,1,2,3,8,9,10,11,12,14,36,49,64,73] ?_|(refine RS.ls ?_;refine rnx ?_)|(refine RS.sE ?_;refine rnx ?_)|(refine RS.pk ?_;refine rnx ?_)|(refine RS.gF ?_;refine rnx ?_)|(refine RS.bC ?_;refine rnx ?_)|refine RWL.fr ?_|refine RWL.wt ?_|refine RWL.lS ?_|refine RWL.bC ?_|(refine stc (r1:=by first|exact hB|exact hy|exact hK|exact hD) (r2:=?_);refine rnx ?_)|(refine' WP.dl (id:=9) [0,0,0,7,15,0,32,0,128,480,1023,0,4095] [0,1,2,3,8,9,10,11,12,14,36,49,64,73] [11,12] [(11,_),(12,_)] ?_)|refine RWL.re ?_ ?_|refine RdO.oz|refine RdO.oa ?_|refine RdO.oe ?_|refine RdO.on|refine WP.cn (fun hc=>?_) (fun hc=>?_)|fail)
          rfl
        · have g3:(level==1)=false:=by simp [hl1]
          rw [if_neg hl1] at h
          have gz:Got6 l.length a ⟨⟨kndD bt,0,[],[x.e,y.e]⟩,y.next,0,0⟩:=fun _=>⟨qmd hk6 x1 y1,by dsimp only;omega,by dsimp only;omega,y4,by
            dsimp only;rw [sz_k2];omega,rfl⟩
          replace fx:=ai12 p1 (ai12 e0 (ai12 e1 (ai12 hb1 (ai12 hb2 (ai12 w0 (ai12 w1 (ai12 g2 (ai12 g3 trivial))))))))
          repeat' (first|(refine RWL.fin ?_;try simp only [qab,qae])|refine stp [0,1,2,3,8,9,10,11,12,14,36,49,64,73] ?_|(refine RS.ls ?_;refine rnx ?_)|(refine RS.sE ?_;refine rnx ?_)|(refine RS.pk ?_;refine rnx ?_)|(refine RS.gF ?_;refine rnx ?_)|(refine RS.bC ?_;refine rnx ?_)|refine RWL.fr ?_|refine RWL.wt ?_|refine RWL.lS ?_|refine RWL.bC ?_|(refine stc (r1:=by first|exact hB|exact hy|exact hK|exact hD) (r2:=?_);refine rnx ?_)|(refine' WP.dl (id:=9) [0,0,0,7,15,0,32,0,128,480,1023,0,4095] [0,1,2,3,8,9,10,11,12,14,36,49,64,73] [11,12] [(11,_),(12,_)] ?_)|refine RWL.re ?_ ?_|refine RdO.oz|refine RdO.oa ?_|refine RdO.oe ?_|refine RdO.on|refine WP.cn (fun hc=>?_) (fun hc=>?_)|fail)
          exact⟨⟨(k,⟨⟨kndD bt,0,[],[x.e,y.e]⟩,y.next,0,0⟩),by dsimp only;omega,h,gz⟩,[.cell (G6.at y),.cell (Ex.at ⟨kndD bt,0,[],[x.e,y.e]⟩)],by dsimp only;omega,by simp only [qal,go_sem,simprocAttr],rfl,rfl,by (simp only [go_sem])<;>rfl⟩
    · have e1:(y.err != 0)=true:=by simp [ye]
      rw [if_pos ye] at h
      injection h with h
      subst h
      replace fx:=ai12 p1 (ai12 e0 (ai12 e1 (ai12 hb1 (ai12 hb2 (ai12 w0 (ai12 w1 trivial))))))
      repeat' (first|(refine RWL.fin ?_;try simp only [qab,qae])|refine stp [0,1,2,3,8,9,10,11,12,14,36,49,64,73] ?_|(refine RS.ls ?_;refine rnx ?_)|(refine RS.sE ?_;refine rnx ?_)|(refine RS.pk ?_;refine rnx ?_)|(refine RS.gF ?_;refine rnx ?_)|(refine RS.bC ?_;refine rnx ?_)|refine RWL.fr ?_|refine RWL.wt ?_|refine RWL.lS ?_|refine RWL.bC ?_|(refine stc (r1:=by first|exact hB|exact hy) (r2:=?_);refine rnx ?_)|(refine' WP.dl (id:=9) [0,0,0,7,15,0,32,0,128,480,1023,0,4095] [0,1,2,3,8,9,10,11,12,14,36,49,64,73] [11,12] [(11,_),(12,_)] ?_)|refine RWL.re ?_ ?_|refine RdO.oz|refine RdO.oa ?_|refine RdO.oe ?_|refine RdO.on|refine WP.cn (fun hc=>?_) (fun hc=>?_)|fail)
      rfl
  · have e0:(x.err==0)=false:=by simp [he]
    rw [if_neg (by intro hq;exact he hq.1)] at h
    injection h with h
    subst h
    replace fx:=ai12 p1 (ai12 e0 trivial)
    repeat' (first|(refine RWL.fin ?_;try simp only [qab,qae])|refine stp [0,1,2,3,8,9,10,11,12,14,36,49,64,73] ?_|(refine RS.ls ?_;refine rnx ?_)|(refine RS.sE ?_;refine rnx ?_)|(refine RS.pk ?_;refine rnx ?_)|(refine RS.gF ?_;refine rnx ?_)|(refine RS.bC ?_;refine rnx ?_)|refine RWL.fr ?_|refine RWL.wt ?_|refine RWL.lS ?_|refine RWL.bC ?_|(refine' WP.dl (id:=9) [0,0,0,7,15,0,32,0,128,480,1023,0,4095] [0,1,2,3,8,9,10,11,12,14,36,49,64,73] [11,12] [(11,_),(12,_)] ?_)|refine RWL.re ?_ ?_|refine RdO.oz|refine RdO.oa ?_|refine RdO.oe ?_|refine RdO.on|refine WP.cn (fun hc=>?_) (fun hc=>?_)|fail)
    rfl
theorem pdAll (l:List Tok) (hl:l.length≤16385) (hx:∀a,(nowT l a).text.length≤1048576) (hT:∀a,(nowT l a).kind=1→qan (nowT l a).text=true):∀n f:Nat,f≤n→(∀(a level nest:Int) (g:G6),0≤a→a≤l.length→0≤level→level≤4→0≤nest→nest≤20→qbo l f a level nest=some g→qaa Tryz.prog 123 [.a (.sl (l.map Tok.at)),.a (.v (.int .i64 a)),.a (.v (.int .i64 level)),.a (.v (.int .i64 nest))] (.r (G6.at g)))∧(∀(a nest:Int) (g:G6),0≤a→a≤l.length→0≤nest→nest≤20→qbr l f a nest=some g→qaa Tryz.prog 130 [.a (.sl (l.map Tok.at)),.a (.v (.int .i64 a)),.a (.v (.int .i64 nest))] (.r (G6.at g)))
  | 0,f,hf=>by
    obtain rfl:f=0:=by omega
    exact⟨fun _ _ _ _ _ _ _ _ _ _ h=>by simp [qbo] at h,fun _ _ _ _ _ _ _ h=>by simp [qbr] at h⟩
  | n+1,f,hf=>by
    rcases (show f≤n∨f=n+1 by omega) with h|rfl
    · exact pdAll l hl hx hT n f h
    have IH:=pdAll l hl hx hT n
    refine⟨fun a level nest g a0 a1 v0 v1 n0 n1 h=>pdChain l hl hT n (fun f hf=>(IH f hf).1) (IH n (Nat.le_refl _)).2 a level nest g a0 a1 v0 v1 n0 n1 h,fun a nest g a0 a1 n0 n1 h=>?_⟩
    rw [qbr] at h
    by_cases h20:((isT (nowT l a) [40]||isT (nowT l a) [33])&&nest==20)=true
    · rw [if_pos h20] at h
      injection h with h
      subst h
      rw [Bool.and_eq_true] at h20
      obtain rfl:nest=20:=by simpa using h20.2
      exact pdTight20 l a (by omega) h20.1
    rw [if_neg h20] at h
    cases hp:isT (nowT l a) [40]
    · rw [hp,if_neg (by decide)] at h
      cases hq:isT (nowT l a) [33]
      · rw [hq,if_neg (by decide)] at h
        injection h with h
        subst h
        exact pdEasy l a nest (by omega) a0 (by omega) (hx a) hp hq
      · rw [hq,if_pos rfl] at h
        have hlt:=qam (qad l) hq
        have hn:nest<20:=by
          have hne:nest≠20:=fun he=>h20 (by rw [hp,hq,he];rfl)
          omega
        split at h
        · cases h
        rename_i x hc
        have hw:=(IH n (Nat.le_refl _)).2 (a+1) (nest+1) x (by omega) (by omega) (by omega) (by omega) hc
        have gx:=(qed (qad l) hT n).2.2 _ _ _ hc
        have:=pdTightN l a nest x (by omega) a0 (by omega) n0 hn (fun he=>by obtain⟨x1,x2,x3,x4,x5,x6⟩:=gx he;omega) hp hq hw
        by_cases he:x.err=0
        · obtain⟨x1,x2,x3,x4,x5,x6⟩:=gx he
          rw [if_neg (by simp [he])] at h this
          rw [he,x6] at this
          by_cases hd:(⟨12,0,[],[x.e]⟩:Ex).deep>20
          · rw [if_pos hd] at h this
            injection h with h
            rw [←h]
            exact this
          · rw [if_neg hd] at h this
            injection h with h
            rw [←h]
            exact this
        · rw [if_pos he] at h this
          injection h with h
          rw [←h]
          exact this
    · rw [hp,if_pos rfl] at h
      have hlt:=qam (qad l) hp
      have hn:nest<20:=by
        have hne:nest≠20:=fun hq=>h20 (by rw [hp,hq];rfl)
        omega
      split at h
      · cases h
      rename_i x hc
      have hw:=(IH n (Nat.le_refl _)).1 (a+1) 0 (nest+1) x (by omega) (by omega) (by omega) (by omega) (by omega) (by omega) hc
      have gx:=(qed (qad l) hT n).1 _ _ _ _ hc
      have h2:=Option.some.inj h
      rw [←h2]
      exact pdTightP l a nest x (by omega) a0 (by omega) n0 hn (fun he=>by obtain⟨x1,x2,x3,x4,x5,x6⟩:=gx he;omega) hp hw
def par6 (g:G6):G6:=if g.err≠0 then ⟨Ex.zero,0,g.err,g.fat⟩ else g
theorem pdParse (l:List Tok) (a:Int) (g:G6) (hc:qaa Tryz.prog 123 [.a (.sl (l.map Tok.at)),.a (.v (.int .i64 a)),.a (.v (.int .i64 0)),.a (.v (.int .i64 0))] (.r (G6.at g))):qaa Tryz.prog 114 [.a (.sl (l.map Tok.at)),.a (.v (.int .i64 a))] (.r (G6.at (par6 g))):=by
  have p1:=G6.lit0
  unfold par6
  by_cases he:g.err=0
  · have g1:(g.err != 0)=false:=by simp [he]
    rw [if_neg (by simp [he])]
    refine qaa.go Tryz.func114 rfl Tryz.ntmps114 rfl rfl rfl (fun C hro=>?_)
    have fx:=trivial
    replace fx:=ai12 p1 (ai12 g1 trivial)
    repeat' (first|refine stp [0,1,4,5,12] ?_|(refine RS.sE ?_;refine rnx ?_)|(refine stc (r1:=by exact hc) (r2:=?_);refine rnx ?_)|refine WP.cn (fun hc=>?_) (fun hc=>?_)|fail)
    rfl
  · have g1:(g.err != 0)=true:=by simp [he]
    rw [if_pos he]
    refine qaa.go Tryz.func114 rfl Tryz.ntmps114 rfl rfl rfl (fun C hro=>?_)
    have fx:=trivial
    replace fx:=ai12 p1 (ai12 g1 trivial)
    repeat' (first|refine stp [0,1,4,5,12] ?_|(refine RS.sE ?_;refine rnx ?_)|(refine stc (r1:=by exact hc) (r2:=?_);refine rnx ?_)|refine WP.cn (fun hc=>?_) (fun hc=>?_)|fail)
    rfl
structure G7 where
  l:List (Int×Int)
  t:Ty
  v:Vr
  next:Int
  err:Int
  fat:Int
def G7.at (s:G7):List A:=[.sl (s.l.map owAt)]++Ty.at s.t++Vr.at s.v++[.v (.int .i64 s.next),.v (.int .i64 s.err),.v (.int .i64 s.fat)]
section
variable (s:G7)
theorem G7.row:G7.at s=[.sl (s.l.map owAt),.v (.int .i64 s.t.kind),.v (.string (bs s.t.cls)),.v (.int .i64 s.t.n),.v (.int .i64 s.t.o0.1),.v (.int .i64 s.t.o0.2),.v (.int .i64 s.t.o1.1),.v (.int .i64 s.t.o1.2),.v (.int .i64 s.t.o2.1),.v (.int .i64 s.t.o2.2),.v (.int .i64 s.t.o3.1),.v (.int .i64 s.t.o3.2),.v (.string (bs s.v.name)),.v (.int .i64 s.v.ty.kind),.v (.string (bs s.v.ty.cls)),.v (.int .i64 s.v.ty.n),.v (.int .i64 s.v.ty.o0.1),.v (.int .i64 s.v.ty.o0.2),.v (.int .i64 s.v.ty.o1.1),.v (.int .i64 s.v.ty.o1.2),.v (.int .i64 s.v.ty.o2.1),.v (.int .i64 s.v.ty.o2.2),.v (.int .i64 s.v.ty.o3.1),.v (.int .i64 s.v.ty.o3.2),.v (.int .i64 s.v.at_),.v (.int .i64 s.next),.v (.int .i64 s.err),.v (.int .i64 s.fat)]:=by obtain⟨l,⟨t_kind,t_cls,t_n,t_o0,t_o1,t_o2,t_o3⟩,⟨v_name,⟨v_ty_kind,v_ty_cls,v_ty_n,v_ty_o0,v_ty_o1,v_ty_o2,v_ty_o3⟩,v_at_⟩,next,err,fat⟩:=s;simp only [G7.at,Ty.at,Vr.at];rfl
@[go_sem] theorem G7.len:(G7.at s).length=28:=by rw [G7.row];rfl
end
def G7.zero:G7:=⟨[],Ty.zero,Vr.zero,0,0,0⟩
def wrdD (t:Tok):Int:=bif isT t [114,101,112] then 1 else bif isT t [112,101,101,114] then 2 else bif isT t [119,111,114,108,100] then 4 else bif isT t [97,110,121] then 5 else bif isT t [117,110,105,113,117,101] then 6 else 0
def fndD (s:List UInt8):List (List UInt8)→Nat→Nat
  | [],_=>0
  | x::r,k=>bif x==s then k+1 else fndD s r (k+1)
def nmdD (t:Tok) (ps:List (List UInt8)):Int×Int:=if fndD t.text ps 0=0 then (0,0) else (3,(fndD t.text ps 0:Nat))
def bad7 (l:List Tok) (e a:Int):G7:=⟨[],Ty.zero,Vr.zero,0,e,(nowT l a).pos⟩
set_option maxRecDepth 100000
attribute [local irreducible] nowT isT
theorem qc4 (l:List Tok) (e a:Int) (hl:l.length≤1048576):qaa Tryz.prog 82 [.a (.v (.int .i64 e)),.a (.sl (l.map Tok.at)),.a (.v (.int .i64 a))] (.r (G7.at (bad7 l e a))):=by
  refine qaa.vx [0,1,2,6] Tryz.func82 rfl Tryz.ntmps82 rfl rfl rfl (fun C hro hst=>?_)
  repeat' ((conv=>whnf);first|(show VD ..;refine .q ?_)|(show VK ..;refine xK ?_)|(show VB ..;first|refine VB.tt (by decide) ?_|refine VB.ff (by decide) ?_|refine VB.mk (fun hc=>?_) fun hc=>?_)|(show VC ..;first|refine xC (fun hg=>by exact qbs _ _ hl) ?_|refine xL (fun hg=>by exact qbs _ _ hl) ?_)|(show VI ..;refine xJ ?_)|(show VG ..;refine xG ?_)|(show VA ..;refine xA ?_)|(show VZ ..;refine .s ?_)|(show VE ..;refine .mk ?_))
  rfl
theorem qdn (t:Tok):qaa Tryz.prog 83 [.r (Tok.at t)] (.r (owAt (wrdD t,0))):=by
  unfold wrdD
  cases c1:isT t [114,101,112] with
  | true =>
    refine qaa.vx [0,1,2,3,4,9,24] Tryz.func83 rfl Tryz.ntmps83 rfl rfl rfl (fun C hro hst=>?_)
    repeat' ((conv=>whnf);first|(show VD ..;refine .q ?_)|(show VK ..;refine xK ?_)|(show VB ..;first|refine VB.tt (by first|decide|(rw [c1];simp only [qac];rfl)) ?_|refine VB.ff (by first|decide|(rw [c1];simp only [qac];rfl)) ?_|refine VB.mk (fun hc=>?_) fun hc=>?_)|(show VC ..;first|refine xC (fun hg=>by exact pdIs _ _) ?_|refine xL (fun hg=>by exact pdIs _ _) ?_)|(show VI ..;refine xJ ?_)|(show VG ..;refine xG ?_)|(show VA ..;refine xA ?_)|(show VZ ..;refine .s ?_)|(show VE ..;refine .mk ?_)|(show VL ..;refine .un ?_)|(show VLI ..;refine .un ?_))
    all_goals rfl
  | false =>
    cases c2:isT t [112,101,101,114] with
    | true =>
      refine qaa.vx [0,1,2,3,4,9,24] Tryz.func83 rfl Tryz.ntmps83 rfl rfl rfl (fun C hro hst=>?_)
      repeat' ((conv=>whnf);first|(show VD ..;refine .q ?_)|(show VK ..;refine xK ?_)|(show VB ..;first|refine VB.tt (by first|decide|(rw [c1];simp only [qac];rfl)|(rw [c2];simp only [qac];rfl)) ?_|refine VB.ff (by first|decide|(rw [c1];simp only [qac];rfl)|(rw [c2];simp only [qac];rfl)) ?_|refine VB.mk (fun hc=>?_) fun hc=>?_)|(show VC ..;first|refine xC (fun hg=>by exact pdIs _ _) ?_|refine xL (fun hg=>by exact pdIs _ _) ?_)|(show VI ..;refine xJ ?_)|(show VG ..;refine xG ?_)|(show VA ..;refine xA ?_)|(show VZ ..;refine .s ?_)|(show VE ..;refine .mk ?_)|(show VL ..;refine .un ?_)|(show VLI ..;refine .un ?_))
      all_goals rfl
    | false =>
      cases c3:isT t [] with
      | true =>
        cases c4:isT t [119,111,114,108,100] with
        | true =>
          refine qaa.vx [0,1,2,3,4,9,24] Tryz.func83 rfl Tryz.ntmps83 rfl rfl rfl (fun C hro hst=>?_)
          repeat' ((conv=>whnf);first|(show VD ..;refine .q ?_)|(show VK ..;refine xK ?_)|(show VB ..;first|refine VB.tt (by first|decide|(rw [c1];simp only [qac];rfl)|(rw [c2];simp only [qac];rfl)|(rw [c3];simp only [qac];rfl)|(rw [c4];simp only [qac];rfl)) ?_|refine VB.ff (by first|decide|(rw [c1];simp only [qac];rfl)|(rw [c2];simp only [qac];rfl)|(rw [c3];simp only [qac];rfl)|(rw [c4];simp only [qac];rfl)) ?_|refine VB.mk (fun hc=>?_) fun hc=>?_)|(show VC ..;first|refine xC (fun hg=>by exact pdIs _ _) ?_|refine xL (fun hg=>by exact pdIs _ _) ?_)|(show VI ..;refine xJ ?_)|(show VG ..;refine xG ?_)|(show VA ..;refine xA ?_)|(show VZ ..;refine .s ?_)|(show VE ..;refine .mk ?_)|(show VL ..;refine .un ?_)|(show VLI ..;refine .un ?_))
          all_goals rfl
        | false =>
          cases c5:isT t [97,110,121] with
          | true =>
            refine qaa.vx [0,1,2,3,4,9,24] Tryz.func83 rfl Tryz.ntmps83 rfl rfl rfl (fun C hro hst=>?_)
            repeat' ((conv=>whnf);first|(show VD ..;refine .q ?_)|(show VK ..;refine xK ?_)|(show VB ..;first|refine VB.tt (by first|decide|(rw [c1];simp only [qac];rfl)|(rw [c2];simp only [qac];rfl)|(rw [c3];simp only [qac];rfl)|(rw [c4];simp only [qac];rfl)|(rw [c5];simp only [qac];rfl)) ?_|refine VB.ff (by first|decide|(rw [c1];simp only [qac];rfl)|(rw [c2];simp only [qac];rfl)|(rw [c3];simp only [qac];rfl)|(rw [c4];simp only [qac];rfl)|(rw [c5];simp only [qac];rfl)) ?_|refine VB.mk (fun hc=>?_) fun hc=>?_)|(show VC ..;first|refine xC (fun hg=>by exact pdIs _ _) ?_|refine xL (fun hg=>by exact pdIs _ _) ?_)|(show VI ..;refine xJ ?_)|(show VG ..;refine xG ?_)|(show VA ..;refine xA ?_)|(show VZ ..;refine .s ?_)|(show VE ..;refine .mk ?_)|(show VL ..;refine .un ?_)|(show VLI ..;refine .un ?_))
            all_goals rfl
          | false =>
            cases c6:isT t [117,110,105,113,117,101] with
            | true =>
              refine qaa.vx [0,1,2,3,4,9,24] Tryz.func83 rfl Tryz.ntmps83 rfl rfl rfl (fun C hro hst=>?_)
              repeat' ((conv=>whnf);first|(show VD ..;refine .q ?_)|(show VK ..;refine xK ?_)|(show VB ..;first|refine VB.tt (by first|decide|(rw [c1];simp only [qac];rfl)|(rw [c2];simp only [qac];rfl)|(rw [c3];simp only [qac];rfl)|(rw [c4];simp only [qac];rfl)|(rw [c5];simp only [qac];rfl)|(rw [c6];simp only [qac];rfl)) ?_|refine VB.ff (by first|decide|(rw [c1];simp only [qac];rfl)|(rw [c2];simp only [qac];rfl)|(rw [c3];simp only [qac];rfl)|(rw [c4];simp only [qac];rfl)|(rw [c5];simp only [qac];rfl)|(rw [c6];simp only [qac];rfl)) ?_|refine VB.mk (fun hc=>?_) fun hc=>?_)|(show VC ..;first|refine xC (fun hg=>by exact pdIs _ _) ?_|refine xL (fun hg=>by exact pdIs _ _) ?_)|(show VI ..;refine xJ ?_)|(show VG ..;refine xG ?_)|(show VA ..;refine xA ?_)|(show VZ ..;refine .s ?_)|(show VE ..;refine .mk ?_)|(show VL ..;refine .un ?_)|(show VLI ..;refine .un ?_))
              all_goals rfl
            | false =>
              refine qaa.vx [0,1,2,3,4,9,24] Tryz.func83 rfl Tryz.ntmps83 rfl rfl rfl (fun C hro hst=>?_)
              repeat' ((conv=>whnf);first|(show VD ..;refine .q ?_)|(show VK ..;refine xK ?_)|(show VB ..;first|refine VB.tt (by first|decide|(rw [c1];simp only [qac];rfl)|(rw [c2];simp only [qac];rfl)|(rw [c3];simp only [qac];rfl)|(rw [c4];simp only [qac];rfl)|(rw [c5];simp only [qac];rfl)|(rw [c6];simp only [qac];rfl)) ?_|refine VB.ff (by first|decide|(rw [c1];simp only [qac];rfl)|(rw [c2];simp only [qac];rfl)|(rw [c3];simp only [qac];rfl)|(rw [c4];simp only [qac];rfl)|(rw [c5];simp only [qac];rfl)|(rw [c6];simp only [qac];rfl)) ?_|refine VB.mk (fun hc=>?_) fun hc=>?_)|(show VC ..;first|refine xC (fun hg=>by exact pdIs _ _) ?_|refine xL (fun hg=>by exact pdIs _ _) ?_)|(show VI ..;refine xJ ?_)|(show VG ..;refine xG ?_)|(show VA ..;refine xA ?_)|(show VZ ..;refine .s ?_)|(show VE ..;refine .mk ?_)|(show VL ..;refine .un ?_)|(show VLI ..;refine .un ?_))
              all_goals rfl
      | false =>
        cases c4:isT t [119,111,114,108,100] with
        | true =>
          refine qaa.vx [0,1,2,3,4,9,24] Tryz.func83 rfl Tryz.ntmps83 rfl rfl rfl (fun C hro hst=>?_)
          repeat' ((conv=>whnf);first|(show VD ..;refine .q ?_)|(show VK ..;refine xK ?_)|(show VB ..;first|refine VB.tt (by first|decide|(rw [c1];simp only [qac];rfl)|(rw [c2];simp only [qac];rfl)|(rw [c3];simp only [qac];rfl)|(rw [c4];simp only [qac];rfl)) ?_|refine VB.ff (by first|decide|(rw [c1];simp only [qac];rfl)|(rw [c2];simp only [qac];rfl)|(rw [c3];simp only [qac];rfl)|(rw [c4];simp only [qac];rfl)) ?_|refine VB.mk (fun hc=>?_) fun hc=>?_)|(show VC ..;first|refine xC (fun hg=>by exact pdIs _ _) ?_|refine xL (fun hg=>by exact pdIs _ _) ?_)|(show VI ..;refine xJ ?_)|(show VG ..;refine xG ?_)|(show VA ..;refine xA ?_)|(show VZ ..;refine .s ?_)|(show VE ..;refine .mk ?_)|(show VL ..;refine .un ?_)|(show VLI ..;refine .un ?_))
          all_goals rfl
        | false =>
          cases c5:isT t [97,110,121] with
          | true =>
            refine qaa.vx [0,1,2,3,4,9,24] Tryz.func83 rfl Tryz.ntmps83 rfl rfl rfl (fun C hro hst=>?_)
            repeat' ((conv=>whnf);first|(show VD ..;refine .q ?_)|(show VK ..;refine xK ?_)|(show VB ..;first|refine VB.tt (by first|decide|(rw [c1];simp only [qac];rfl)|(rw [c2];simp only [qac];rfl)|(rw [c3];simp only [qac];rfl)|(rw [c4];simp only [qac];rfl)|(rw [c5];simp only [qac];rfl)) ?_|refine VB.ff (by first|decide|(rw [c1];simp only [qac];rfl)|(rw [c2];simp only [qac];rfl)|(rw [c3];simp only [qac];rfl)|(rw [c4];simp only [qac];rfl)|(rw [c5];simp only [qac];rfl)) ?_|refine VB.mk (fun hc=>?_) fun hc=>?_)|(show VC ..;first|refine xC (fun hg=>by exact pdIs _ _) ?_|refine xL (fun hg=>by exact pdIs _ _) ?_)|(show VI ..;refine xJ ?_)|(show VG ..;refine xG ?_)|(show VA ..;refine xA ?_)|(show VZ ..;refine .s ?_)|(show VE ..;refine .mk ?_)|(show VL ..;refine .un ?_)|(show VLI ..;refine .un ?_))
            all_goals rfl
          | false =>
            cases c6:isT t [117,110,105,113,117,101] with
            | true =>
              refine qaa.vx [0,1,2,3,4,9,24] Tryz.func83 rfl Tryz.ntmps83 rfl rfl rfl (fun C hro hst=>?_)
              repeat' ((conv=>whnf);first|(show VD ..;refine .q ?_)|(show VK ..;refine xK ?_)|(show VB ..;first|refine VB.tt (by first|decide|(rw [c1];simp only [qac];rfl)|(rw [c2];simp only [qac];rfl)|(rw [c3];simp only [qac];rfl)|(rw [c4];simp only [qac];rfl)|(rw [c5];simp only [qac];rfl)|(rw [c6];simp only [qac];rfl)) ?_|refine VB.ff (by first|decide|(rw [c1];simp only [qac];rfl)|(rw [c2];simp only [qac];rfl)|(rw [c3];simp only [qac];rfl)|(rw [c4];simp only [qac];rfl)|(rw [c5];simp only [qac];rfl)|(rw [c6];simp only [qac];rfl)) ?_|refine VB.mk (fun hc=>?_) fun hc=>?_)|(show VC ..;first|refine xC (fun hg=>by exact pdIs _ _) ?_|refine xL (fun hg=>by exact pdIs _ _) ?_)|(show VI ..;refine xJ ?_)|(show VG ..;refine xG ?_)|(show VA ..;refine xA ?_)|(show VZ ..;refine .s ?_)|(show VE ..;refine .mk ?_)|(show VL ..;refine .un ?_)|(show VLI ..;refine .un ?_))
              all_goals rfl
            | false =>
              refine qaa.vx [0,1,2,3,4,9,24] Tryz.func83 rfl Tryz.ntmps83 rfl rfl rfl (fun C hro hst=>?_)
              repeat' ((conv=>whnf);first|(show VD ..;refine .q ?_)|(show VK ..;refine xK ?_)|(show VB ..;first|refine VB.tt (by first|decide|(rw [c1];simp only [qac];rfl)|(rw [c2];simp only [qac];rfl)|(rw [c3];simp only [qac];rfl)|(rw [c4];simp only [qac];rfl)|(rw [c5];simp only [qac];rfl)|(rw [c6];simp only [qac];rfl)) ?_|refine VB.ff (by first|decide|(rw [c1];simp only [qac];rfl)|(rw [c2];simp only [qac];rfl)|(rw [c3];simp only [qac];rfl)|(rw [c4];simp only [qac];rfl)|(rw [c5];simp only [qac];rfl)|(rw [c6];simp only [qac];rfl)) ?_|refine VB.mk (fun hc=>?_) fun hc=>?_)|(show VC ..;first|refine xC (fun hg=>by exact pdIs _ _) ?_|refine xL (fun hg=>by exact pdIs _ _) ?_)|(show VI ..;refine xJ ?_)|(show VG ..;refine xG ?_)|(show VA ..;refine xA ?_)|(show VZ ..;refine .s ?_)|(show VE ..;refine .mk ?_)|(show VL ..;refine .un ?_)|(show VLI ..;refine .un ?_))
              all_goals rfl
section
variable (l:List Tok) (ps:List (List UInt8))
def ow1D (t:Tok):Int×Int:=bif t.kind==1 then nmdD t ps else (wrdD t,0)
def qes:Nat→Int→List (Int×Int)→G7
  | k,a,out =>
    bif (nowT l (a+1)).kind==1&&(nmdD (nowT l (a+1)) ps).1==0 then bad7 l 4 (a+1)
    else bif (bif (ow1D ps (nowT l (a+1))).1==0 then true else (ow1D ps (nowT l (a+1))).1==6) then bad7 l 3 (a+1)
    else bif (out.length:Int)==3 then bad7 l 10 (a+1)
    else bif isT (nowT l (a+2)) [62] then ⟨out++[ow1D ps (nowT l (a+1))],Ty.zero,Vr.zero,a+3,0,0⟩
    else bif !isT (nowT l (a+2)) [44] then bad7 l 3 (a+2)
    else match k with
      | 0=>bad7 l 10 (a+1)
      | k+1=>qes k (a+2) (out++[ow1D ps (nowT l (a+1))])
def own7 (a:Int):G7:=bif !isT (nowT l a) [60] then bad7 l 3 a else qes l ps 3 a []
def qj2 (a:Int) (follows:Bool):Bool :=
  (nowT l (a+1)).kind==1&&(!follows||(nowT l (a+2)).kind==1||isT (nowT l (a+2)) [60]||isT (nowT l (a+2)) [116,104,105,115]||isT (nowT l (a+2)) [110,117,108,108])
def qil (l:List (Int×Int)) (i:Nat):Int×Int:=l[i]?.getD (0,0)
def ty7 (a:Int) (o:Int×Int):G7 :=
  bif (nowT l a).kind != 1 then bad7 l 3 a
  else bif !isT (nowT l (a+1)) [60] then ⟨[],⟨2,(nowT l a).text,0,o,(0,0),(0,0),(0,0)⟩,Vr.zero,a+1,0,0⟩
  else bif (own7 l ps (a+1)).err != 0 then own7 l ps (a+1)
  else ⟨[],⟨2,(nowT l a).text,(own7 l ps (a+1)).l.length,o,qil (own7 l ps (a+1)).l 0,qil (own7 l ps (a+1)).l 1,qil (own7 l ps (a+1)).l 2⟩,Vr.zero,(own7 l ps (a+1)).next,0,0⟩
def par7 (a:Int) (follows:Bool):G7 :=
  bif isT (nowT l a) [118,111,105,100] then ⟨[],Ty.zero,Vr.zero,a+1,0,0⟩
  else bif isT (nowT l a) [105,110,116] then ⟨[],{ Ty.zero with kind:=1 },Vr.zero,a+1,0,0⟩
  else bif wrdD (nowT l a) != 0 then ty7 l ps (a+1) (wrdD (nowT l a),0)
  else bif (nowT l a).kind==1&&qj2 l a follows then (bif (nmdD (nowT l a) ps).1==0 then bad7 l 4 a else ty7 l ps (a+1) (nmdD (nowT l a) ps))
  else ty7 l ps a (7,0)
def var7 (a:Int):G7 :=
  bif (par7 l ps a true).err != 0 then par7 l ps a true
  else bif (par7 l ps a true).t.kind==0 then bad7 l 3 a
  else bif (nowT l (par7 l ps a true).next).kind != 1 then bad7 l 3 (par7 l ps a true).next
  else ⟨[],Ty.zero,⟨(nowT l (par7 l ps a true).next).text,(par7 l ps a true).t,(nowT l a).pos⟩,(par7 l ps a true).next+1,0,0⟩
def beg7 (a:Int):Bool :=
  bif isT (nowT l a) [105,110,116]||wrdD (nowT l a) != 0 then true
  else bif (nowT l a).kind != 1 then false
  else (nowT l (a+1)).kind==1||isT (nowT l (a+1)) [60]
end
theorem qij (l:List Tok) (ps:List (List UInt8)) (k:Nat) (a:Int) (out:List (Int×Int)):qes l ps k a out =
    bif (nowT l (a+1)).kind==1&&(nmdD (nowT l (a+1)) ps).1==0 then bad7 l 4 (a+1)
    else bif (bif (ow1D ps (nowT l (a+1))).1==0 then true else (ow1D ps (nowT l (a+1))).1==6) then bad7 l 3 (a+1)
    else bif (out.length:Int)==3 then bad7 l 10 (a+1)
    else bif isT (nowT l (a+2)) [62] then ⟨out++[ow1D ps (nowT l (a+1))],Ty.zero,Vr.zero,a+3,0,0⟩
    else bif !isT (nowT l (a+2)) [44] then bad7 l 3 (a+2)
    else match k with
      | 0=>bad7 l 10 (a+1)
      | k+1=>qes l ps k (a+2) (out++[ow1D ps (nowT l (a+1))]):=by cases k<;>rfl
/-! ### What was read -/
theorem fndD_lt (s:List UInt8):∀(ps:List (List UInt8)) (k:Nat),fndD s ps k=0∨(k<fndD s ps k∧fndD s ps k≤k+ps.length)
  | [],_=>.inl rfl
  | x::r,k=>by
    rw [fndD]
    cases x==s with
    | true=>exact .inr ⟨Nat.lt_succ_self k,by rw [cond_true,List.length_cons];omega⟩
    | false =>
      rw [cond_false,List.length_cons]
      rcases fndD_lt s r (k+1) with h|⟨h1,h2⟩
      · exact .inl h
      · exact .inr ⟨by omega,by omega⟩
theorem qi1 (t:Tok):wrdD t=0∨wrdD t=1∨wrdD t=2∨wrdD t=4∨wrdD t=5∨wrdD t=6:=by
  unfold wrdD
  cases isT t [114,101,112]<;>cases isT t [112,101,101,114]<;>cases isT t [119,111,114,108,100]<;>cases isT t [97,110,121]<;>cases isT t [117,110,105,113,117,101]<;>simp
theorem qla {t:Tok} (h:wrdD t≠0):t.kind≠0∧t.kind≠1:=by
  have hk:∀s,isT t s=true→t.kind≠0∧t.kind≠1:=fun s hs=>by
    unfold isT at hs
    simp only [Bool.and_eq_true,Bool.or_eq_true,beq_iff_eq] at hs
    rcases hs.1 with h|h<;>rw [h]<;>decide
  unfold wrdD at h
  cases h1:isT t [114,101,112] with
  | true=>exact hk _ h1
  | false =>
  cases h2:isT t [112,101,101,114] with
  | true=>exact hk _ h2
  | false =>
  cases h3:isT t [119,111,114,108,100] with
  | true=>exact hk _ h3
  | false =>
  cases h4:isT t [97,110,121] with
  | true=>exact hk _ h4
  | false =>
  cases h5:isT t [117,110,105,113,117,101] with
  | true=>exact hk _ h5
  | false=>rw [h1,h2,h3,h4,h5] at h;exact absurd rfl h
def Ow7 (p:Nat) (o:Int×Int):Prop:=owB o p=true∧o.1≠0∧o.1≠7
theorem ow1_ok {ps:List (List UInt8)} {t:Tok} (h:(ow1D ps t).1≠0):Ow7 ps.length (ow1D ps t)∧t.kind≠0:=by
  unfold ow1D at h ⊢
  cases hk:t.kind==1 with
  | true =>
    rw [hk,cond_true] at h
    rw [cond_true]
    rw [beq_iff_eq] at hk
    unfold nmdD at h ⊢
    split at h
    · exact absurd rfl h
    · rename_i hf
      rw [if_neg hf]
      rcases fndD_lt t.text ps 0 with h1|⟨h1,h2⟩
      · exact absurd h1 hf
      · refine⟨⟨?_,by show (3:Int)≠0;decide,by show (3:Int)≠7;decide⟩,by rw [hk];decide⟩
        unfold owB
        simp
        omega
  | false =>
    rw [hk,cond_false] at h
    rw [cond_false]
    refine⟨⟨?_,h,?_⟩,(qla h).1⟩
    · rcases qi1 t with h|h|h|h|h|h<;>rw [h]<;>simp [owB]<;>(try exact absurd h (by assumption))<;>rfl
    · rcases qi1 t with h|h|h|h|h|h<;>rw [h]<;>show (_:Int)≠7<;>decide
end Go.Proofs.YtfbopaaambkfkaaGreatDoor
