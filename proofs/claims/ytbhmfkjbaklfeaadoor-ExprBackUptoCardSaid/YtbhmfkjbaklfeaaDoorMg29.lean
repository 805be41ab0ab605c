/- The tokens of an expression's text: the law. No program in sight. Conditions: none. -/
import Derived.Test.YtbhmfkjbaklfeaaDoorMg24
import Derived.Test.YtbhmfkjbaklfeaaDoorMg28
set_option linter.unusedVariables false
set_option maxRecDepth 100000
set_option maxHeartbeats 8000000
set_option linter.unusedSimpArgs false
namespace Go.Proofs.YtbhmfkjbaklfeaaDoor
open Go.RowKit
theorem lex_kw {c:UInt8} {t:List UInt8} (hc:letterI c.toNat=true) (hs:(c::t).all innerB=true) (hf:0<findW (c::t)):Lex (c::t) [(3,c::t)]:=by
 have:=lex_word hc hs (by rw [if_pos hf];rfl)
 rw [if_pos hf] at this
 exact this
theorem name_of {e:Ex} (h:e.formB=true) (hk:e.kind=2):nameB e.name=true:=by
 rw [Ex.form_eq,Bool.and_eq_true] at h
 have h1:=h.1
 simp only [Ex.plainB,Bool.not_eq_true',Bool.or_eq_false_iff,decide_eq_false_iff_not,Bool.and_eq_false_iff,bne_eq_false_iff_eq,Bool.not_eq_false',beq_iff_eq] at h1
 cases hn:nameB e.name
 ·simp [hk,hn] at h1
 ·rfl
theorem lex_name {s:List UInt8} (h:nameB s=true):Lex s [(1,s)]∧begL s=true∧1≤s.length:=by
 unfold nameB at h
 simp only [Bool.and_eq_true,decide_eq_true_eq,beq_iff_eq] at h
 obtain⟨⟨⟨⟨h1,h2⟩,h3⟩,h4⟩,h5⟩:=h
 cases s with
 | nil=>simp at h1
 | cons c t =>
  have hc:letterI c.toNat=true:=by simpa using h3
  have hf:¬0<findW (c::t):=by rw [h5];omega
  have:=lex_word hc (show (c::t).all innerB=true from h4) (by rw [if_neg hf];simp [badT];simpa using h2)
  rw [if_neg hf] at this
  refine⟨this,?_,h1⟩
  simp only [begL]
  have hb:blankI c.toNat=false:=by
   simp only [letterI] at hc;simp only [blankI];simp at hc ⊢;omega
  rw [hb]
  simp only [Bool.not_false,Bool.true_and,bne_iff_ne]
  rintro rfl
  cases hc
theorem lex_num {n:Nat} (h:n<1000000000):Lex (decL n) [(2,decL n)]∧begL (decL n)=true∧1≤(decL n).length:=by
 obtain⟨h1,_,h3,_⟩:=decL_all n n (Nat.le_refl _)
 have hn:=numL_dec h
 cases hd:decL n with
 | nil=>rw [hd] at h3;simp at h3
 | cons c t =>
  rw [hd] at h1 hn
  have hall:(c::t).all digB=true:=h1
  refine⟨lex_dig hall (by simp [badT,hn]),?_,by simp⟩
  have hdg:digitI c.toNat=true:=by rw [List.all_cons,Bool.and_eq_true] at hall;exact hall.1
  rw [digitI_iff] at hdg
  simp only [begL]
  have hb:blankI c.toNat=false:=by simp only [blankI];simp;omega
  rw [hb]
  simp only [Bool.not_false,Bool.true_and,bne_iff_ne]
  rintro rfl
  have:(47:UInt8).toNat=47:=rfl
  omega
theorem beg_app {s:List UInt8} (h:begL s=true) (r:List UInt8):begL (s++r)=true:=by
 cases s with
 | nil=>cases h
 | cons c t=>exact h
def LexE (s:List UInt8) (ts:List TK):Prop:=Lex s ts∧begL s=true∧ts.length≤s.length
theorem lexE_par {s:List UInt8} {ts:List TK} (h:LexE s ts):LexE ([40]++s++[41]) ([(4,[40])]++ts++[(4,[41])]):=by
 obtain⟨h1,h2,h3⟩:=h
 have a:=lexU_then (lex_sign (c:=40) (by decide)) h1 h2
 have b:=lex_thenU a (lex_sign (c:=41) (by decide)) rfl fun r=>rfl
 exact⟨b.lex,rfl,by simp;omega⟩
theorem lexE_wrt {e:Ex} (h:LexE (e.txt dgN) (e.tks dgN)) (least:Int):LexE (e.wrt dgN least) (e.wtk dgN least):=by
 unfold Ex.wrt Ex.wtk parB parT
 dsimp only
 split
 ·exact lexE_par h
 ·exact h
theorem lex_all:∀(m:Nat) (e:Ex),e.sz≤m→e.formB=true→LexE (e.txt dgN) (e.tks dgN)
 | 0,e,h,_=>by have:=e.sz_pos;omega
 | m+1,e,h,hf=>by
  have IH:∀k∈e.kids,k.formB=true→LexE (k.txt dgN) (k.tks dgN):=fun k hk=>lex_all m k (by have:=Ex.kid_lt hk;omega)
  have hnm:=fun hk=>name_of hf hk
  cases e.shp hf with
  | num n hn =>
   obtain⟨h1,h2,h3⟩:=lex_num hn
   exact⟨h1,h2,h3⟩
  | var s =>
   obtain⟨h1,h2,h3⟩:=lex_name (hnm rfl)
   exact⟨h1,h2,h3⟩
  | this=>exact⟨lex_kw rfl rfl (by decide),rfl,by decide⟩
  | null=>exact⟨lex_kw rfl rfl (by decide),rfl,by decide⟩
  | input=>exact⟨lex_kw rfl rfl (by decide),rfl,by decide⟩
  | bin k a b hk ha hb =>
   have ia:=lexE_wrt (IH a (by simp) ha) (lfK k)
   have ib:=lexE_wrt (IH b (by simp) hb) (lvK k+1)
   obtain⟨s1,s2⟩:=lex_sg hk
   have c1:=lex_sp ia.1 s1.lex s2
   have c2:=lex_sp c1 ib.1 ib.2.1
   have h14:k≠14:=by omega
   have e1:Ex.txt dgN ⟨k,0,[],[a,b]⟩=a.wrt dgN (lfK k)++[32]++sgK k++[32]++b.wrt dgN (lvK k+1):=by
    rw [Ex.txt_eq];simp only [Ex.txts,txK];rw [if_neg h14];rfl
   have e2:Ex.tks dgN ⟨k,0,[],[a,b]⟩=a.wtk dgN (lfK k)++[(4,sgK k)]++b.wtk dgN (lvK k+1):=by
    rw [Ex.tks];simp only [Ex.tkss,tksK];rw [if_neg h14];rfl
   rw [e1,e2]
   refine⟨c2,?_,?_⟩
   ·simp only [List.append_assoc];exact beg_app ia.2.1 _
   ·have:=ia.2.2;have:=ib.2.2
    simp only [List.length_append,List.length_cons,List.length_nil]
    omega
  | not a ha =>
   have ia:=lexE_wrt (IH a (by simp) ha) 4
   have c1:=lexU_then (lex_sign (c:=33) (by decide)) ia.1 ia.2.1
   refine⟨c1,rfl,?_⟩
   have:=ia.2.2
   show ([(4,[33])]++a.wtk dgN 4).length≤([33]++a.wrt dgN 4).length
   simp only [List.length_append,List.length_cons,List.length_nil];omega
  | nil a ha hl =>
   have ia:=lexE_wrt (IH a (by simp) ha) 4
   have c0:LexU ([110,105,108]++[40]) ([(3,[110,105,108])]++[(4,[40])]):=lex_thenU (lex_kw rfl rfl (by decide)) (lex_sign (c:=40) (by decide)) rfl fun r=>rfl
   have c1:=lexU_then c0 ia.1 ia.2.1
   have c2:=lex_thenU c1 (lex_sign (c:=41) (by decide)) rfl fun r=>rfl
   refine⟨c2.lex,rfl,?_⟩
   have:=ia.2.2
   show ([(3,[110,105,108]),(4,[40])]++a.wtk dgN 4++[(4,[41])]).length≤([110,105,108,40]++a.wrt dgN 4++[41]).length
   simp only [List.length_append,List.length_cons,List.length_nil];omega
  | same a b ha hb hla hlb =>
   have ia:=lexE_wrt (IH a (by simp) ha) 4
   have ib:=lexE_wrt (IH b (by simp) hb) 4
   have c0:LexU ([115,97,109,101]++[40]) ([(3,[115,97,109,101])]++[(4,[40])]):=lex_thenU (lex_kw rfl rfl (by decide)) (lex_sign (c:=40) (by decide)) rfl fun r=>rfl
   have c1:=lexU_then c0 ia.1 ia.2.1
   have c2:=lex_thenU c1 (lex_sign (c:=44) (by decide)) rfl fun r=>rfl
   have c3:=lex_sp c2.lex ib.1 ib.2.1
   have c4:=lex_thenU c3 (lex_sign (c:=41) (by decide)) rfl fun r=>rfl
   have e1:Ex.txt dgN ⟨14,0,[],[a,b]⟩=[115,97,109,101]++[40]++a.wrt dgN 4++[44]++[32]++b.wrt dgN 4++[41]:=by
    show [115,97,109,101,40]++a.wrt dgN 4++[44,32]++b.wrt dgN 4++[41]=_
    simp
   have e2:Ex.tks dgN ⟨14,0,[],[a,b]⟩=[(3,[115,97,109,101])]++[(4,[40])]++a.wtk dgN 4++[(4,[44])]++b.wtk dgN 4++[(4,[41])]:=rfl
   rw [e1,e2]
   refine⟨c4.lex,rfl,?_⟩
   have:=ia.2.2;have:=ib.2.2
   simp only [List.length_append,List.length_cons,List.length_nil];omega
theorem tok_txt {e:Ex} (hf:e.formB=true) (hl:(e.txt dgN).length≤16384):∃(X:List Tok) (p:Int),X.map tkE=e.tks dgN∧tokOf (e.txt dgN)=(X++[⟨0,[],p⟩],0,0):=by
 obtain⟨h1,h2,h3⟩:=lex_all e.sz e (Nat.le_refl _) hf
 obtain⟨X,hX,h4⟩:=h1 [] ((e.txt dgN).length+1-(e.tks dgN).length) 0 [] rfl
 refine⟨X,(e.txt dgN).length,hX,?_⟩
 have hs:sk false (e.txt dgN)=0:=by have:=sk_beg h2 [];rwa [List.append_nil] at this
 unfold tokOf
 rw [if_neg (by omega),hs,List.drop_zero]
 have hn:(e.txt dgN).length+1-(e.tks dgN).length+(e.tks dgN).length=(e.txt dgN).length+1:=by omega
 rw [List.append_nil,hn] at h4
 rw [h4]
 obtain⟨g,hg⟩:∃g,(e.txt dgN).length+1-(e.tks dgN).length=g+1:=⟨(e.txt dgN).length-(e.tks dgN).length,by omega⟩
 rw [hg]
 have hsk:sk false ([]:List UInt8)=0:=by simp [sk]
 rw [hsk,List.drop_nil,tokF,if_pos rfl]
 simp
def Tok.good (t:Tok):Prop:=(t.kind=1→nameB t.text=true)∧t.text.length≤16384
theorem twl_take {p:UInt8→Bool}:∀l:List UInt8,(l.take (twl p l)).all p=true
 | []=>rfl
 | c::r=>by
  cases h:p c
  ·rw [twl_no h];rfl
  ·rw [twl_yes h,Nat.add_comm,List.take_succ_cons,List.all_cons,h,twl_take r];rfl
theorem oneL_good {l:List UInt8} (hl:l.length≤16384) (hb:badT (oneL l)=false) (p:Int):Tok.good ⟨((oneL l).1:Nat),(oneL l).2,p⟩:=by
 refine⟨fun h1=>?_,by have:=oneL_le l;show (oneL l).2.length≤16384;omega⟩
 replace h1:(oneL l).1=1:=by have:(((oneL l).1:Nat):Int)=1:=h1;omega
 show nameB (oneL l).2=true
 have h20:(oneL l).2.length≤20:=by
  unfold badT at hb
  rw [h1] at hb
  simp at hb
  exact hb
 cases l with
 | nil=>simp [oneL] at h1
 | cons c r =>
  cases hc:letterI c.toNat
  ·exfalso
   unfold oneL at h1
   simp only [hc,Bool.false_eq_true,if_false] at h1
   split at h1
   ·simp at h1
   ·split at h1<;>simp at h1
  ·rw [oneL_letter hc] at h1 h20 ⊢
   dsimp only at h1 h20 ⊢
   have hin:innerB c=true:=by unfold innerB;rw [hc];rfl
   rw [twl_yes hin,Nat.add_comm,List.take_succ_cons] at h1 h20 ⊢
   have hall:(c::r.take (twl innerB r)).all innerB=true:=by rw [List.all_cons,hin,twl_take];rfl
   split at h1
   ·cases h1
   ·rename_i hf
    rw [nameB_end (c:=c) rfl h20 hc hall]
    simp;omega
theorem tokF_any:∀(f a:Nat) (l:List UInt8) (acc:List Tok),l.length<f→l.length≤16384→(∀t∈acc,t.good)→(tokF f a l acc).2.1≠0∨∃(X:List Tok) (p:Int),tokF f a l acc=(X++[⟨0,[],p⟩],0,0)∧X.length≤acc.length+l.length∧∀t∈X,t.good
 | 0,a,l,acc,h,_,_=>by omega
 | f+1,a,l,acc,h,hl,hg=>by
  rw [tokF]
  split
  ·exact .inr ⟨acc,a,rfl,by omega,hg⟩
  split
  ·exact .inl (by show (1:Nat)≠0;decide)
  rename_i h1
  cases hb:badT (oneL l)
  ·rw [if_neg (by decide)]
   have hp:=oneL_pos l h1
   have hle:=oneL_le l
   have hd:(((l.drop (oneL l).2.length).drop (sk false (l.drop (oneL l).2.length)))).length+1≤l.length:=by
    rw [List.length_drop,List.length_drop];omega
   rcases tokF_any f (a+(oneL l).2.length+sk false (l.drop (oneL l).2.length)) ((l.drop (oneL l).2.length).drop (sk false (l.drop (oneL l).2.length))) (acc++[⟨(oneL l).1,(oneL l).2,a⟩]) (by omega) (by omega) (fun t ht=>by
    rw [List.mem_append] at ht
    rcases ht with ht|ht
    ·exact hg t ht
    ·rw [List.mem_singleton] at ht;subst ht;exact oneL_good hl hb a) with h2|⟨X,p,h2,h3,h4⟩
   ·exact .inl h2
   ·exact .inr ⟨X,p,h2,by rw [List.length_append] at h3;simp at h3;omega,h4⟩
  ·rw [if_pos rfl];exact .inl (by show (2:Nat)≠0;decide)
theorem tok_any (s:List UInt8):(tokOf s).2.1≠0∨∃(X:List Tok) (p:Int),tokOf s=(X++[⟨0,[],p⟩],0,0)∧X.length≤16384∧∀t∈X,t.good:=by
 unfold tokOf
 split
 ·exact .inl (by show (6:Nat)≠0;decide)
 ·have hd:=List.length_drop (i:=sk false s) (l:=s)
  rcases tokF_any (s.length+1) (sk false s) (s.drop (sk false s)) [] (by omega) (by omega) (fun t h=>by cases h) with h|⟨X,p,h1,h2,h3⟩
  ·exact .inl h
  ·exact .inr ⟨X,p,h1,by simp at h2;omega,h3⟩
section
variable {X:List Tok} {p:Int}
theorem now_mem (a:Int):nowT (X++[⟨0,[],p⟩]) a∈X∨((nowT (X++[⟨0,[],p⟩]) a).kind=0∧(nowT (X++[⟨0,[],p⟩]) a).text=[]):=by
 unfold nowT
 split
 ·rename_i h
  obtain⟨h1,h2⟩:=h
  rw [List.length_append] at h2
  rw [List.getD_eq_getElem?_getD,List.getElem?_append]
  split
  ·rename_i h3
   rw [List.getElem?_eq_getElem h3]
   exact .inl (List.getElem_mem h3)
  ·have:a.toNat-X.length=0:=by simp at h2;omega
   rw [this]
   exact .inr ⟨rfl,rfl⟩
 ·rw [List.getLast?_append]
  exact .inr ⟨rfl,rfl⟩
theorem now_eof (a:Int) (h:(X.length:Int)≤a):(nowT (X++[⟨0,[],p⟩]) a).kind=0:=by
 unfold nowT
 split
 ·rename_i h1
  have h2:=h1.2
  rw [List.length_append] at h2
  rw [List.getD_eq_getElem?_getD,List.getElem?_append_right (by omega)]
  have:a.toNat-X.length=0:=by simp at h2;omega
  rw [this];rfl
 ·rw [List.getLast?_append];rfl
theorem atL_of (l:List Tok):AtL l 0 (l.map tkE):=fun i q hq=>by
 rw [List.getElem?_map] at hq
 cases ht:l[i]? with
 | none=>rw [ht] at hq;cases hq
 | some t =>
  rw [ht] at hq
  injection hq with hq
  subst hq
  have hi:i<l.length:=(List.getElem?_eq_some_iff.1 ht).1
  have:nowT l (0+(i:Int))=t:=by
   unfold nowT
   rw [if_pos (by omega),List.getD_eq_getElem?_getD]
   rw [show (0+(i:Int)).toNat=i by omega,ht];rfl
  rw [this]
  exact⟨rfl,rfl⟩
end
/-! ### What is wrong -/
def Wrong (ok:Bool) (s:Ps):Prop:=ok=false→s.err=3∨s.err=5
section
variable {l:List Tok}
theorem must_wr {s:Ps} {t:List UInt8}:Wrong (mustP l s t).1 (mustP l s t).2:=by
 unfold mustP
 split
 ·intro h;cases h
 ·intro _;exact .inl rfl
theorem atom_wr {s:Ps} {b:Bool}:Wrong (atomP l s b).2.1 (atomP l s b).2.2:=by
 unfold atomP
 split
 ·intro h;cases h
 split
 ·intro h;cases h
 split
 ·intro h;cases h
 ·intro _;exact .inl rfl
theorem wr_of {ok:Bool} {s:Ps} (h:Wrong ok s) (hk:¬ok=true):Wrong false s:=fun _=>h (by simpa using hk)
theorem nil_wr {s:Ps}:Wrong (nilP l s).2.1 (nilP l s).2.2:=by
 unfold nilP
 split
 ·split
  ·exact must_wr
  ·rename_i h;exact wr_of atom_wr h
 ·rename_i h;exact wr_of must_wr h
theorem sam2_wr {s:Ps} {x:Pt}:Wrong (sam2 l x s).2.1 (sam2 l x s).2.2:=by
 unfold sam2
 split
 ·split
  ·exact must_wr
  ·rename_i h;exact wr_of atom_wr h
 ·rename_i h;exact wr_of must_wr h
theorem sam_wr {s:Ps}:Wrong (samP l s).2.1 (samP l s).2.2:=by
 unfold samP
 split
 ·split
  ·exact sam2_wr
  ·rename_i h;exact wr_of atom_wr h
 ·rename_i h;exact wr_of must_wr h
theorem easy_wr {s:Ps}:Wrong (easyP l s).2.1 (easyP l s).2.2:=by
 unfold easyP
 split
 ·exact nil_wr
 split
 ·exact sam_wr
 split
 ·intro h;cases h
 split
 ·split
  ·intro h;cases h
  ·exact atom_wr
 ·exact atom_wr
theorem all_wr:∀f:Nat,(∀(least:Int) (s:Ps) (r:Pt×Bool×Ps),climbF l f least s=some r→Wrong r.2.1 r.2.2)∧(∀(least:Int) (x:Pt) (most:Int) (s:Ps) (r:Pt×Bool×Ps),loopF l f least x most s=some r→Wrong r.2.1 r.2.2)∧(∀(s:Ps) (r:Pt×Bool×Ps),tightF l f s=some r→Wrong r.2.1 r.2.2)
 | 0=>⟨fun _ _ _ h=>by simp [climbF] at h,fun _ _ _ _ _ h=>by simp [loopF] at h,fun _ _ h=>by simp [tightF] at h⟩
 | f+1=>by
  obtain⟨ic,il,it⟩:=all_wr f
  refine⟨fun least s r h=>?_,fun least x most s r h=>?_,fun s r h=>?_⟩
  ·rw [climbF] at h
   split at h
   ·cases h
   ·rename_i x ok s' ht
    split at h
    ·exact il _ _ _ _ _ h
    ·rename_i hok
     injection h with h;subst h
     have w:=it _ _ ht;exact wr_of (ok:=ok) (s:=s') w hok
  ·rw [loopF] at h
   split at h
   ·injection h with h;subst h;intro h;cases h
   ·split at h
    ·injection h with h;subst h;intro h;cases h
    ·split at h
     ·cases h
     ·rename_i y ok s' hc
      split at h
      ·split at h
       ·injection h with h;subst h;exact fun _=>.inr rfl
       ·exact il _ _ _ _ _ h
      ·rename_i hok
       injection h with h;subst h
       have w:=ic _ _ _ hc;exact wr_of (ok:=ok) (s:=s') w hok
  ·rw [tightF] at h
   split at h
   ·split at h
    ·injection h with h;subst h;exact fun _=>.inr rfl
    ·split at h
     ·cases h
     ·rename_i x ok s' hc
      split at h
      ·injection h with h;subst h;exact must_wr
      ·rename_i hok
       injection h with h;subst h
       have w:=ic _ _ _ hc;exact wr_of (ok:=ok) (s:=s') w hok
   ·split at h
    ·split at h
     ·injection h with h;subst h;exact fun _=>.inr rfl
     ·split at h
      ·cases h
      ·rename_i x ok s' hc
       split at h
       ·split at h
        ·injection h with h;subst h;exact fun _=>.inr rfl
        ·injection h with h;subst h;intro h;cases h
       ·rename_i hok
        injection h with h;subst h
        have w:=it _ _ hc;exact wr_of (ok:=ok) (s:=s') w hok
    ·injection h with h;subst h
     exact easy_wr
end
def SzR (a:Int) (r:Pt×Bool×Ps):Prop:=r.2.1=true→(r.1.e.sz:Int)≤21*(r.2.2.at_-a)
theorem sz_over1 (k:Int) (x:Pt):(overP k [x]).e.sz=1+x.e.sz:=by
 rw [Ex.sz_eq];simp [overP,Ex.szs]
theorem sz_over2 (k:Int) (x y:Pt):(overP k [x,y]).e.sz=1+(x.e.sz+y.e.sz):=by
 rw [Ex.sz_eq];simp [overP,Ex.szs]
section
variable {l:List Tok}
theorem must_one {s:Ps} {t:List UInt8} (h:(mustP l s t).1=true):(mustP l s t).2.at_=s.at_+1:=by
 unfold mustP at h ⊢
 split
 ·rfl
 ·rename_i hq;rw [if_neg hq] at h;cases h
variable (hT:∀a,(nowT l a).kind=1→nameB (nowT l a).text=true)
include hT
theorem atom_sz {s:Ps} {b:Bool}:SzR s.at_ (atomP l s b):=by
 unfold atomP SzR
 split
 ·rename_i h1
  intro _
  have hn:=hT _ h1
  unfold nameB at hn
  simp only [Bool.and_eq_true,decide_eq_true_eq] at hn
  have h20:=hn.1.1.1.2
  show ((⟨2,0,(nowT l s.at_).text,[]⟩:Ex).sz:Int)≤21*(s.at_+1-s.at_)
  rw [Ex.sz_eq]
  simp only [Ex.szs]
  omega
 split
 ·intro _
  show ((⟨3,0,[],[]⟩:Ex).sz:Int)≤21*(s.at_+1-s.at_)
  rw [Ex.sz_eq];simp only [Ex.szs,List.length_nil];omega
 split
 ·intro _
  show ((⟨4,0,[],[]⟩:Ex).sz:Int)≤21*(s.at_+1-s.at_)
  rw [Ex.sz_eq];simp only [Ex.szs,List.length_nil];omega
 ·intro h;cases h
theorem nil_sz {s:Ps}:SzR s.at_ (nilP l s):=by
 unfold nilP
 split
 ·rename_i h1
  have e1:=must_one h1
  split
  ·rename_i h2
   have e2:=atom_sz hT (s:=(mustP l s [40]).2) (b:=false) h2
   generalize atomP l (mustP l s [40]).2 false=a at *
   intro h3
   have e3:=must_one (show (mustP l a.2.2 [41]).1=true from h3)
   show ((overP 13 [a.1]).e.sz:Int)≤21*((mustP l a.2.2 [41]).2.at_-s.at_)
   rw [sz_over1];omega
  ·intro h;cases h
 ·intro h;cases h
theorem sam2_sz {s:Ps} {x:Pt} {a0:Int} (hx:(x.e.sz:Int)≤21*(s.at_-a0)):SzR a0 (sam2 l x s):=by
 unfold sam2
 split
 ·rename_i h1
  have e1:=must_one h1
  split
  ·rename_i h2
   have e2:=atom_sz hT (s:=(mustP l s [44]).2) (b:=true) h2
   generalize atomP l (mustP l s [44]).2 true=a at *
   intro h3
   have e3:=must_one (show (mustP l a.2.2 [41]).1=true from h3)
   show ((overP 14 [x,a.1]).e.sz:Int)≤21*((mustP l a.2.2 [41]).2.at_-a0)
   rw [sz_over2];omega
  ·intro h;cases h
 ·intro h;cases h
theorem sam_sz {s:Ps}:SzR s.at_ (samP l s):=by
 unfold samP
 split
 ·rename_i h1
  have e1:=must_one h1
  split
  ·rename_i h2
   have e2:=atom_sz hT (s:=(mustP l s [40]).2) (b:=true) h2
   exact sam2_sz hT (by omega)
  ·intro h;cases h
 ·intro h;cases h
theorem easy_sz {s:Ps}:SzR s.at_ (easyP l s):=by
 unfold easyP
 split
 ·intro h
  have:=nil_sz hT (s:=s.adv) h
  have e:s.adv.at_=s.at_+1:=rfl
  omega
 split
 ·intro h
  have:=sam_sz hT (s:=s.adv) h
  have e:s.adv.at_=s.at_+1:=rfl
  omega
 split
 ·intro _
  show ((⟨5,0,[],[]⟩:Ex).sz:Int)≤21*(s.at_+1-s.at_)
  rw [Ex.sz_eq];simp only [Ex.szs,List.length_nil];omega
 split
 ·split
  ·rename_i n _
   intro _
   show ((⟨1,n,[],[]⟩:Ex).sz:Int)≤21*(s.at_+1-s.at_)
   rw [Ex.sz_eq];simp only [Ex.szs,List.length_nil];omega
  ·exact atom_sz hT
 ·exact atom_sz hT
theorem all_sz:∀f:Nat,(∀(least:Int) (s:Ps) (r:Pt×Bool×Ps),climbF l f least s=some r→SzR s.at_ r)∧(∀(least:Int) (x:Pt) (most:Int) (s:Ps) (r:Pt×Bool×Ps) (a0:Int),(x.e.sz:Int)≤21*(s.at_-a0)→loopF l f least x most s=some r→SzR a0 r)∧(∀(s:Ps) (r:Pt×Bool×Ps),tightF l f s=some r→SzR s.at_ r)
 | 0=>⟨fun _ _ _ h=>by simp [climbF] at h,fun _ _ _ _ _ _ _ h=>by simp [loopF] at h,fun _ _ h=>by simp [tightF] at h⟩
 | f+1=>by
  obtain⟨ic,il,it⟩:=all_sz f
  refine⟨fun least s r h=>?_,fun least x most s r a0 hx h=>?_,fun s r h=>?_⟩
  ·rw [climbF] at h
   split at h
   ·cases h
   ·rename_i x ok s' ht
    split at h
    ·rename_i hok
     exact il _ _ _ _ _ _ (it _ _ ht hok) h
    ·injection h with h;subst h;intro h;cases h
  ·rw [loopF] at h
   split at h
   ·injection h with h;subst h;exact fun _=>hx
   ·split at h
    ·injection h with h;subst h;exact fun _=>hx
    ·split at h
     ·cases h
     ·rename_i y ok s' hc
      split at h
      ·rename_i hok
       have w:=ic _ _ _ hc hok
       have e:s.adv.at_=s.at_+1:=rfl
       split at h
       ·injection h with h;subst h;intro h;cases h
       ·refine il _ _ _ _ _ a0 ?_ h
        rw [sz_over2]
        dsimp only at w
        omega
      ·injection h with h;subst h;intro h;cases h
  ·rw [tightF] at h
   split at h
   ·split at h
    ·injection h with h;subst h;intro h;cases h
    ·split at h
     ·cases h
     ·rename_i x ok s' hc
      split at h
      ·rename_i hok
       have w:=ic _ _ _ hc hok
       have e:s.inn.at_=s.at_+1:=rfl
       injection h with h;subst h
       intro h3
       have e3:=must_one (show (mustP l s'.out [41]).1=true from h3)
       have e4:s'.out.at_=s'.at_:=rfl
       dsimp only at w ⊢
       omega
      ·injection h with h;subst h;intro h;cases h
   ·split at h
    ·split at h
     ·injection h with h;subst h;intro h;cases h
     ·split at h
      ·cases h
      ·rename_i x ok s' hc
       split at h
       ·rename_i hok
        have w:=it _ _ hc hok
        have e:s.inn.at_=s.at_+1:=rfl
        have e4:s'.out.at_=s'.at_:=rfl
        split at h
        ·injection h with h;subst h;intro h;cases h
        ·injection h with h;subst h
         intro _
         dsimp only at w ⊢
         rw [sz_over1]
         omega
       ·injection h with h;subst h;intro h;cases h
    ·injection h with h;subst h
     exact easy_sz hT
end
theorem tok_L (s:List UInt8) (h:(tokOf s).2.1=0):∃(X:List Tok) (p:Int),tokOf s=(X++[⟨0,[],p⟩],0,0)∧X.length≤16384∧(∀a,(nowT (X++[⟨0,[],p⟩]) a).text.length≤1048576)∧(∀a,(nowT (X++[⟨0,[],p⟩]) a).kind=1→nameB (nowT (X++[⟨0,[],p⟩]) a).text=true):=by
 rcases tok_any s with h1|⟨X,p,h1,h2,h3⟩
 ·exact absurd h h1
 ·refine⟨X,p,h1,h2,fun a=>?_,fun a hk=>?_⟩
  ·rcases now_mem (X:=X) (p:=p) a with hm|⟨_,ht⟩
   ·have:=(h3 _ hm).2;omega
   ·rw [ht];simp
  ·rcases now_mem (X:=X) (p:=p) a with hm|⟨h0,_⟩
   ·exact (h3 _ hm).1 hk
   ·rw [h0] at hk;cases hk
theorem par_any (s:List UInt8) (h:(tokOf s).2.1=0):∃r:Pt×Bool×Ps,(tokOf s).2=(0,0)∧(tokOf s).1.length≤16385∧DPure Tryd.prog 7 [.a (.sl ((tokOf s).1.map Tok.at)),.a (.v (.int .i64 0))] (parR r)∧((r.2.1=true∧r.1.e.rightB=true∧1≤r.2.2.at_∧r.2.2.at_<(tokOf s).1.length∧r.1.e.sz≤1048576)∨(r.2.1=false∧(r.2.2.err=3∨r.2.2.err=5))):=by
 obtain⟨X,p,h1,h2,h3,h4⟩:=tok_L s h
 rw [h1]
 dsimp only
 generalize hL:X++[⟨0,[],p⟩]=L at *
 have hlen:L.length=X.length+1:=by rw [←hL];simp
 have hN:∀a,((X.length:Nat):Int)≤a→(nowT L a).kind=0:=fun a ha=>by rw [←hL];exact now_eof a ha
 obtain⟨f,r,hr⟩:=(all_end hN X.length ⟨0,0,0,0⟩ (by show (0:Int)≤_;omega) (by show ((X.length:Nat):Int)-0≤_;omega)).2.1 1
 have hw:=(pkAll L (by omega) h3 h4 f f (Nat.le_refl _)).1 1 ⟨0,0,0,0⟩ r ⟨by show (0:Int)≤0;omega,by show (0:Int)≤_;omega,by show (0:Int)≤0;omega,by show (0:Int)≤20;omega⟩ hr
 refine⟨r,rfl,by omega,pkParse L 0 r hw,?_⟩
 have fw:=(all_fwd hN f).1 1 ⟨0,0,0,0⟩ r (by show (0:Int)≤_;omega) hr
 have fi:=(all_fine h4 f).1 1 ⟨0,0,0,0⟩ r hr
 have fz:=(all_sz h4 f).1 1 ⟨0,0,0,0⟩ r hr
 have fe:=(all_wr (l:=L) f).1 1 ⟨0,0,0,0⟩ r hr
 cases hk:r.2.1
 ·exact .inr ⟨rfl,fe hk⟩
 ·have h5:=fw.2.2.2 hk
  have h6:=fw.2.1
  have h7:=fz hk
  have h8:=fi hk
  have e0:(⟨0,0,0,0⟩:Ps).at_=0:=rfl
  refine .inl ⟨rfl,?_,by omega,by omega,by omega⟩
  unfold Ex.rightB
  have h9:(r.1.e.deep:Int)≤20:=by rw [←h8.2.1];exact h8.2.2
  rw [h8.1,Bool.true_and]
  exact decide_eq_true (by omega)
theorem par_txt (e:Ex) (hR:e.rightB=true) (hl:(e.txt dgN).length≤16384):∃n:Nat,(tokOf (e.txt dgN)).2=(0,0)∧(tokOf (e.txt dgN)).1.length=n+1∧n≤16384∧DPure Tryd.prog 7 [.a (.sl ((tokOf (e.txt dgN)).1.map Tok.at)),.a (.v (.int .i64 0))] (.t [.r (Ex.at e),.a (.v (.int .i64 (n:Int))),.r (ftR 0 0)]):=by
 unfold Ex.rightB at hR
 rw [Bool.and_eq_true,decide_eq_true_iff] at hR
 obtain⟨X0,p0,hX,hT⟩:=tok_txt hR.1 hl
 obtain⟨X,p,h1,h2,h3,h4⟩:=tok_L (e.txt dgN) (by rw [hT])
 have hXX:X0++[⟨0,[],p0⟩]=X++[⟨0,[],p⟩]:=by rw [hT] at h1;exact (Prod.mk.inj h1).1
 have hlen0:X0.length=X.length:=by have:=congrArg List.length hXX;simpa using this
 have hXe:X0=X:=(List.append_inj hXX hlen0).1
 subst hXe
 rw [h1]
 dsimp only
 generalize hL:X0++[⟨0,[],p⟩]=L at *
 have hlen:L.length=X0.length+1:=by rw [←hL];simp
 have hat:AtL L 0 (e.tks dgN++[(0,[])]):=by
  have:=atL_of L
  rw [←hL,List.map_append,hX] at this
  rw [←hL]
  exact this
 obtain⟨f,hr⟩:=rt_law hR.1 hR.2 hat
 have hw:=(pkAll L (by omega) h3 h4 f f (Nat.le_refl _)).1 1 ⟨0,0,0,0⟩ _ ⟨by show (0:Int)≤0;omega,by show (0:Int)≤_;omega,by show (0:Int)≤0;omega,by show (0:Int)≤20;omega⟩ hr
 have hn:(e.tks dgN).length=X0.length:=by rw [←hX];simp
 have:=pkParse L 0 _ hw
 rw [hn] at this
 exact⟨X0.length,rfl,hlen,h2,this⟩
end Go.Proofs.YtbhmfkjbaklfeaaDoor
