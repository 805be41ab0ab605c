/- Functions that call back, reckoned: what they yield, one by one, and that they stop where they are told to. No program in sight. Conditions: none. -/
import Derived.Test.YthkojpnjdpbcgaaGreatDoorMg17
import Derived.Test.YthkojpnjdpbcgaaGreatDoorMg43
set_option linter.unusedVariables false
set_option maxRecDepth 100000
set_option maxHeartbeats 8000000
set_option linter.unusedSimpArgs false
namespace Go.Proofs.YthkojpnjdpbcgaaGreatDoor
open Go.RowKit
/-! ### Less is known -/
def qbr (e' e:Nat→D):Prop:=∀t,e' t=.junk∨e' t=e t
theorem qbr.o {e' e:Nat→D} (h:qbr e' e) (x:Operand):evO e' x=.junk∨evO e' x=evO e x:=by
  cases x with
  | tmp t=>exact h t
  | _=>exact .inr rfl
theorem qbr.rep {e' e:Nat→D} (h:qbr e' e) {V:Vw} {x:Operand} {v:Value} (hr:RepD V (evO e x) v):RepD V (evO e' x) v:=by
  rcases h.o x with h1|h1
  · rw [h1];exact .junk _
  · rw [h1];exact hr
theorem OpJ.less {P:Program} {st:List Bx} {e' e:Nat→D} {o:Oper} {d:D} (h:qbr e' e) (hj:OpJ P st e' o d):OpJ P st e o d:=fun ρ V hV hok hu=>hj ρ V hV hok fun x hx=>h.rep (hu x hx)
theorem OpG.less {P:Program} {st st':List Bx} {e' e:Nat→D} {o:Oper} {d:D} (h:qbr e' e) (hj:OpG P st e' o d st'):OpG P st e o d st':=fun ρ V hV hok hu=>hj ρ V hV hok fun x hx=>h.rep (hu x hx)
theorem OpX.less {P:Program} {C:Cx P} {st:List Bx} {e' e:Nat→D} {o:Oper} {O:D→List Bx→D→Prop} (h:qbr e' e) (hg:e' 1000000=e 1000000) (hj:OpX C st e' o O):OpX C st e o O:=fun ρ V Nx hV hok hsep hnx henv hu=>hj ρ V Nx hV hok hsep hnx (hg▸henv) fun x hx=>h.rep (hu x hx)
theorem qau.less {P:Program} {ops:Array Oper} {st:List Bx} {e' e:Nat→D} {o:Oper} {d:D} (h:qbr e' e) (hj:qau ops e' o (OpJ P st e' o d)):qau ops e o (OpJ P st e o d):=by
  unfold qau at *
  cases hg:o.guard with
  | none=>rw [hg] at hj;exact hj.less h
  | some jb =>
    obtain⟨j,b⟩:=jb
    rw [hg] at hj
    simp only at hj ⊢
    cases hs:qa5 ops j with
    | none=>rw [hs] at hj;exact OpJ.less h hj
    | some t =>
      rw [hs] at hj
      simp only [Option.map_some] at hj ⊢
      rcases h t with h1|h1
      · rw [h1] at hj
        have:=OpJ.less h hj
        split
        · exact fun _=>this
        · trivial
        · exact this
      · rw [h1] at hj
        split at hj
        · exact fun hb=>OpJ.less h (hj hb)
        · trivial
        · exact OpJ.less h hj
theorem qkb.less {P:Program} {ops:Array Oper} {st st':List Bx} {e' e:Nat→D} {o:Oper} {d:D} (h:qbr e' e) (hj:qkb P ops st e' o d st'):qkb P ops st e o d st':=by
  rcases hj with ⟨h1,h2⟩|⟨h1,h2⟩
  · exact .inl ⟨h1,h2.less h⟩
  · exact .inr ⟨h1,h2.less h⟩
theorem qe6 {ops:Array Oper} {e' e:Nat→D} (h:qbr e' e):∀{f:Nat} {g:Option (Nat×Bool)},gOk ops e' f g→gOk ops e f g
  | 0,none,_=>by unfold gOk;trivial
  | _+1,none,_=>by unfold gOk;trivial
  | 0,some _,hg=>by unfold gOk at hg;exact hg.elim
  | f+1,some (j,b),hg=>by
    unfold gOk at hg ⊢
    refine⟨?_,qe6 h hg.2⟩
    have h1:=hg.1
    rw [Option.map_eq_some_iff] at h1 ⊢
    obtain⟨t,ht,he⟩:=h1
    refine⟨t,ht,?_⟩
    rcases h t with h2|h2
    · rw [h2] at he;cases he
    · rw [←h2];exact he
theorem Sat.less {P:Program} {C:Cx P} {V:Vw} {a:Act} {n:Nat} {e' e:Nat→D} (h:qbr e' e) (hm:Sat C V a n e):Sat C V a n e':=by
  obtain⟨ms,h1,h2,h3⟩:=hm
  refine⟨ms,h1,⟨h2.size,fun t ht=>?_,h2.ok,h2.le,h2.fr,h2.low,h2.sep,h2.x0,h2.xk,h2.xg,h2.nx,h2.nx0⟩,?_⟩
  · rcases h t with h4|h4
    · rw [h4];exact .junk _
    · rw [h4];exact h2.slot t ht
  · rcases h 1000000 with h4|h4
    · rw [h4];trivial
    · rw [h4];exact h3
theorem WP.less {P:Program} {C:Cx P} {n:Nat} {c:Code} {Q:Exit→(Nat→D)→List Bx→Prop} {e' e:Nat→D} {st:List Bx} (h:qbr e' e) (hw:WP C n c Q e' st):WP C n c Q e st:=fun a w x bl hm=>hw a w x bl (hm.less h)
theorem WPIn.less {P:Program} {C:Cx P} {n:Nat} {c:Code} {Q:Exit→(Nat→D)→List Bx→Prop} {e' e:Nat→D} {st:List Bx} (h:qbr e' e) (hw:WPIn C n c Q e' st):WPIn C n c Q e st:=fun a w x bl hm=>hw a w x bl (hm.less h)
/-! ### Whoever is called back lies in some slots -/
def ovE (L:Nat) (ys:List Nat) (l:EL) (t:Nat):D:=if t∈ys then yv L else getL l t
def JY (ys:List Nat) (l:EL):Prop:=∀t∈ys,getL l t=.junk
theorem qb2 {L:Nat} {ys:List Nat} {l:EL} (h:JY ys l):qbr (envL l) (ovE L ys l):=fun t=>by
  unfold ovE
  rw [←qad]
  split
  · rename_i ht;exact .inl (h t ht)
  · exact .inr rfl
theorem qar {l:EL} {t:Option Nat} {d:D} (k:Nat):getL (putL l t d) k=if t=some k then d else getL l k:=by
  cases t with
  | none=>simp [putL]
  | some t =>
    show (bif Nat.beq k t then d else getL l k)=_
    cases h:Nat.beq k t with
    | true=>rw [Nat.eq_of_beq_eq_true h];simp
    | false =>
      have:=Nat.ne_of_beq_eq_false h
      have h2:¬some t=some k:=fun e=>this (by injection e with e;exact e.symm)
      rw [if_neg h2];rfl
theorem qfp {e:Nat→D} {t:Option Nat} {d:D} (k:Nat):putE e t d k=if t=some k then d else e k:=by
  cases t with
  | none=>simp [putE]
  | some t =>
    show (if k=t then d else e k)=_
    by_cases h:k=t
    · subst h;simp
    · rw [if_neg h,if_neg (fun e=>h (by injection e with e;exact e.symm))]
def rmY (ys:List Nat) (t:Option Nat):List Nat:=ys.filter fun k=>!(t==some k)
theorem qiq {ys:List Nat} {t:Option Nat} {k:Nat}:k∈rmY ys t↔k∈ys∧t≠some k:=by simp [rmY]
theorem qnf {L:Nat} {ys:List Nat} {l:EL} {t:Option Nat} {d:D}:ovE L (rmY ys t) (putL l t d)=putE (ovE L ys l) t d:=by
  funext k
  unfold ovE
  rw [qfp,qar]
  by_cases h:t=some k
  · rw [if_neg (fun h2=>(qiq.1 h2).2 h),if_pos h,if_pos h]
  · rw [if_neg h,if_neg h]
    by_cases h2:k∈ys
    · rw [if_pos (qiq.2 ⟨h2,h⟩),if_pos h2]
    · rw [if_neg (fun h3=>h2 (qiq.1 h3).1),if_neg h2]
theorem JY.put {ys:List Nat} {l:EL} {t:Option Nat} {d:D} (h:JY ys l):JY (rmY ys t) (putL l t d):=fun k hk=>by
  obtain⟨h1,h2⟩:=qiq.1 hk
  rw [qar,if_neg h2];exact h k h1
def addY (ys:List Nat):Option Nat→List Nat
  | none=>ys
  | some t=>t::ys
theorem ov_add {L:Nat} {ys:List Nat} {l:EL} {t:Option Nat}:ovE L (addY ys t) (putL l t .junk)=putE (ovE L ys l) t (yv L):=by
  funext k
  rw [qfp]
  cases t with
  | none=>simp [addY,putL]
  | some t =>
    unfold ovE addY
    by_cases h:t=k
    · subst h;simp
    · have h2:¬some t=some k:=fun e=>h (by injection e)
      rw [if_neg h2,qar,if_neg h2]
      by_cases h3:k∈ys
      · rw [if_pos (by simp [h3]),if_pos h3]
      · rw [if_neg (by simp [h3];exact fun e=>h e.symm),if_neg h3]
theorem JY.add {ys:List Nat} {l:EL} {t:Option Nat} (h:JY ys l):JY (addY ys t) (putL l t .junk):=fun k hk=>by
  cases t with
  | none=>exact h k hk
  | some t =>
    rw [qar]
    split
    · rfl
    · rename_i hne
      rcases List.mem_cons.1 hk with rfl|hk
      · exact absurd rfl hne
      · exact h k hk
theorem qc1 {l:EL} (k:Nat):∀ks:List Nat,getL (qcl l ks) k=if k∈ks then getL l k else .junk
  | []=>by simp [qcl,getL]
  | t::r=>by
    rw [qcl,getL]
    cases h:Nat.beq k t with
    | true=>rw [Nat.eq_of_beq_eq_true h];simp
    | false =>
      have:=Nat.ne_of_beq_eq_false h
      rw [cond_false,qc1 k r]
      simp [this]
theorem qnm {e:Nat→D} (k:Nat):∀ks:List Nat,qao e ks k=if k∈ks then e k else .junk
  | []=>by simp [qao]
  | t::r=>by
    show (if k=t then e t else qao e r k)=_
    by_cases h:k=t
    · subst h;simp
    · rw [if_neg h,qnm k r];simp [h]
def qgj (ys ks:List Nat):List Nat:=ys.filter fun k=>ks.contains k
theorem qby {ys ks:List Nat} {k:Nat}:k∈qgj ys ks↔k∈ys∧k∈ks:=by simp [qgj]
theorem qmf {L:Nat} {ys:List Nat} {l:EL} {ks:List Nat}:ovE L (qgj ys ks) (qcl l ks)=qao (ovE L ys l) ks:=by
  funext k
  unfold ovE
  rw [qnm,qc1]
  by_cases h:k∈ks
  · rw [if_pos h,if_pos h]
    by_cases h2:k∈ys
    · rw [if_pos (qby.2 ⟨h2,h⟩),if_pos h2]
    · rw [if_neg (fun h3=>h2 (qby.1 h3).1),if_neg h2]
  · rw [if_neg h,if_neg h,if_neg (fun h3=>h (qby.1 h3).2)]
theorem JY.keep {ys:List Nat} {l:EL} {ks:List Nat} (h:JY ys l):JY (qgj ys ks) (qcl l ks):=fun k hk=>by
  obtain⟨h1,h2⟩:=qby.1 hk
  rw [qc1,if_pos h2];exact h k h1
theorem qbr.upd {e' e:Nat→D} (h:qbr e' e) (t:Nat) (d:D):qbr (upd e' t d) (upd e t d):=fun k=>by
  unfold Go.Proofs.YthkojpnjdpbcgaaGreatDoor.upd
  split
  · exact .inr rfl
  · exact h k
theorem qbr.bind {e' e:Nat→D} (h:qbr e' e) (ps:List Nat) (xs:List D):qbr (qdl e' ps xs) (qdl e ps xs):=by
  unfold qdl
  generalize ps.zip xs=z
  induction z generalizing e' e with
  | nil=>exact h
  | cons p r ih=>exact ih (h.upd p.1 p.2)
/-! ### Ranges inside functions that call back -/
def keepO (L:Nat) (ys:List Nat) (l:EL) (ks:List Nat):EL:=ks.map fun t=>(t,ovE L ys l t)
theorem qhj {L:Nat} {ys:List Nat} {l:EL}:∀ks:List Nat,qai (ovE L ys l) (keepO L ys l ks)
  | []=>trivial
  | _::r=>⟨rfl,qhj r⟩
theorem qk8 (l:EL):∀ks:List Nat,qcl l ks=ks.map fun t=>(t,getL l t)
  | []=>rfl
  | t::r=>by rw [qcl,qk8 l r];rfl
theorem qlh {m:Nat} {f:Nat→D} (k:Nat):∀ks:List Nat,envL ((ks.map fun t=>(t,f t)).filter fun p=>nrD m p.2) k=if k∈ks∧nrD m (f k)=true then f k else .junk
  | []=>by simp [envL]
  | t::r=>by
    rw [List.map_cons,List.filter_cons]
    by_cases hk:k=t
    · subst hk
      split
      · rename_i h
        rw [if_pos ⟨by simp,h⟩]
        show upd _ k (f k) k=f k
        unfold upd;rw [if_pos rfl]
      · rename_i h
        rw [qlh k r,if_neg (fun h2=>h h2.2),if_neg (fun h2=>h h2.2)]
    · have hm:k∈t::r↔k∈r:=by simp [hk]
      split
      · show upd _ t (f t) k=_
        unfold upd
        rw [if_neg hk,qlh k r];simp only [hm]
      · rw [qlh k r];simp only [hm]
def fltO (m L:Nat) (ys:List Nat) (l:EL) (ks:List Nat):EL:=(keepO L ys l ks).filter fun p=>nrD m p.2
theorem fltO_at {m L:Nat} {ys:List Nat} {l:EL} {ks:List Nat} (k:Nat):envL (fltO m L ys l ks) k=if k∈ks∧nrD m (ovE L ys l k)=true then ovE L ys l k else .junk:=qlh k ks
theorem qmp {m:Nat} {l:EL} {ks:List Nat} (k:Nat):getL (fltL m l ks) k=if k∈ks∧nrD m (getL l k)=true then getL l k else .junk:=by
  rw [qad,fltL,qk8];exact qlh k ks
theorem flt_less {m L:Nat} {ys:List Nat} {l:EL} {ks:List Nat} (h:JY ys l):qbr (envL (fltL m l ks)) (envL (fltO m L ys l ks)):=fun t=>by
  rw [←qad,qmp,fltO_at]
  by_cases ht:t∈ys
  · rw [h t ht];left;split<;>rfl
  · right;unfold ovE;rw [if_neg ht]
theorem flt_ov {m L:Nat} {ys:List Nat} {l:EL} {ks:List Nat}:ovE L (qgj ys ks) (fltL m l ks)=envL (fltO m L ys l ks):=by
  funext t
  rw [fltO_at]
  unfold ovE
  rw [qmp]
  by_cases ht:t∈ys
  · by_cases hk:t∈ks
    · rw [if_pos (qby.2 ⟨ht,hk⟩),if_pos ht,if_pos ⟨hk,rfl⟩]
    · rw [if_neg (fun h=>hk (qby.1 h).2),if_neg (fun h=>hk h.1),if_neg (fun h=>hk h.1)]
  · rw [if_neg (fun h=>ht (qby.1 h).1),if_neg ht]
theorem qlv {P:Program} {n:Nat} {ks:List Nat} {kI:FuncId→List A→List Bx→Option (List (List D))} {n0:Nat} {C:Cx P} (hro:C.ro=none) (hV:C.V0.st.length≤n0) (hI:∀gf caps ex tl,kI gf caps ex=some tl→DItM P gf caps ex tl) {g:Operand} {ps:List Nat} {assign body:Code} {Q:Exit→(Nat→D)→List Bx→Prop} {ys:List Nat} {l l':EL} {st st':List Bx} {ex:Exit} {round:EL→List D→List Bx→XM (Exit×EL×List Bx)} (hJ:JY ys l) (hg0:1000000∉ys)
    (hr:∀lst xs S ex l' S',round lst xs S=.ok (ex,l',S')→∃l1 S1,(∀C1:Cx P,∀K:Exit→(Nat→D)→List Bx→Prop,K .normal (envL l1) S1→WP C1 n assign K (envL ((1000000,getL l 1000000)::qmt lst ps xs)) S)∧∀C2:Cx P,∀K:Exit→(Nat→D)→List Bx→Prop,K ex (envL l') S'→WP C2 n body K (envL l1) S1)
    (h:qh7 n ks kI n0 g ps l st round=.ok (ex,l',st')) (hq:∀m,l'=(1000000,getL l 1000000)::fltL m l ks→Q ex (upd (envL (fltO m C.E.l ys l ks)) 1000000 (getL l 1000000)) st'):WP C n (.rangeFunc g ⟨ps⟩ assign body) Q (ovE C.E.l ys l) st:=by
  unfold qh7 at h
  split at h
  · rename_i gf caps hg
    obtain⟨S0,hS0⟩:∃S,S=st.take (ixM caps st.length):=⟨_,rfl⟩
    obtain⟨ex0,hex0⟩:∃S,S=st.drop (ixM caps st.length):=⟨_,rfl⟩
    have hst:st=S0++ex0:=by rw [hS0,hex0];exact (List.take_append_drop _ _).symm
    rw [←hS0,←hex0] at h
    generalize caps.map (shA (ixM caps st.length))=caps' at h
    unfold qi3 at h
    split at h
    · rename_i hc
      simp only [Bool.and_eq_true,Nat.ble_eq] at hc
      obtain⟨⟨⟨⟨c1,c2⟩,c4⟩,c5⟩,c7⟩:=hc
      have hj:ovE C.E.l ys l 1000000=getL l 1000000:=by unfold ovE;rw [if_neg hg0]
      have hg:evO (ovE C.E.l ys l) g=.a (.fn gf caps):=by
        rcases (qb2 (L:=C.E.l) hJ).o g with h0|h0
        · rw [←qad,hg] at h0;cases h0
        · rw [←h0,←qad];exact hg
      split at h
      · rename_i tl htl
        split at h
        · rename_i hps
          rw [Bool.and_eq_true] at hps
          obtain⟨e1,e2,e3,e4,e5,e6,e7⟩:=qiv c1
          have hV0:ex0=[]∨C.V0.st=[]:=by
            rcases e6 with h|h
            · exact .inl h
            · exact .inr (List.eq_nil_of_length_eq_zero (by omega))
          have key:∀(L:List (List Bx)) (out:Option (Exit×List Bx)),qdo (getL l 1000000) (round (fltL S0.length l ks)) tl S0=.ok (L,out)→(qmg L&&L.all fun s=>nrS s.length s)=true→(out=none→Q .normal (upd (envL (fltO S0.length C.E.l ys l ks)) 1000000 (getL l 1000000)) (stN L [] tl.length))→(∀ex S,out=some (ex,S)→Q ex (upd (envL (fltO S0.length C.E.l ys l ks)) 1000000 (getL l 1000000)) S)→WP C n (.rangeFunc g ⟨ps⟩ assign body) Q (ovE C.E.l ys l) st:=by
            intro L out hx hc2 hq1 hq2
            rw [Bool.and_eq_true] at hc2
            obtain⟨L',rfl⟩:=qff hx
            have hR:=qfe hx
            have hst0:stN (S0::L') [] 0=S0:=rfl
            have hnr:∀k,nrS (stN (S0::L') [] k).length (stN (S0::L') [] k)=true:=ql7 (p:=fun s=>nrS s.length s=true) (S0::L') [] rfl fun s hs=>List.all_eq_true.1 hc2.2 s hs
            refine WP.range2 (fltO S0.length C.E.l ys l ks) (stN (S0::L') []) ex0 tl (fun _=>getL l 1000000) (fun k=>k<(S0::L').length) (by simp) hro hj c4 (qfd (qhj ks)) (by rw [hst0,e3];exact hst) hV0 e7 e4 e5 (by rw [hst0];omega) (fun k=>?_) hnr (by rw [hst0];exact nrE_flt _ _) (by rw [hst0,e2];exact hg) c2 e1 (hI _ _ _ _ htl) (qkp hps.2) (by simpa using c5) (fun k xs hx=>?_) (fun C1 k xs hE hon hx hInv=>?_) (fun hInv=>?_)
            · cases k with
              | zero=>exact (qey L' S0 hc2.1 0).2
              | succ k=>exact (qey L' S0 hc2.1 k).1
            · have:=List.all_eq_true.1 hps.1 xs (lm4 hx)
              exact Nat.eq_of_beq_eq_true this
            · have hless:qbr (envL ((1000000,getL l 1000000)::qmt (fltL S0.length l ks) ps xs)) (upd (qdl (envL (fltO S0.length C.E.l ys l ks)) ps xs) 1000000 (getL l 1000000)):=by
                have h1:qbr (envL (fltL S0.length l ks)) (envL (fltO S0.length C.E.l ys l ks)):=flt_less hJ
                have h2:=(h1.bind ps xs).upd 1000000 (getL l 1000000)
                rw [←qlo] at h2
                exact h2
              refine WP.less hless ?_
              rcases qmb hR [] k xs hx hInv with ⟨l2,S2,ex2,q1,q2,q3,q4⟩|⟨ex2,l2,S2,q1,q2,q3,q4⟩
              · obtain⟨l1,S1,w1,w2⟩:=hr _ _ _ _ _ _ q1
                refine w1 C1 _ (fun C2 _ _=>w2 C2 _ ?_)
                rw [qad l2] at q2
                exact⟨q3,q2,ex2,q4⟩
              · obtain⟨l1,S1,w1,w2⟩:=hr _ _ _ _ _ _ q3
                refine w1 C1 _ (fun C2 _ _=>w2 C2 _ ?_)
                rw [qad l2] at q4
                have hqq:=hq2 ex2 S2 q1
                cases ex2 with
                | ret=>show Q .ret (upd _ _ (envL l2 1000000)) S2;rw [q4];exact hqq
                | exit id=>show Q (.exit id) (upd _ _ (envL l2 1000000)) S2;rw [q4];exact hqq
                | _=>cases q2
            · exact hq1 (qjh hR hInv)
          split at h
          · rename_i L hx
            split at h
            · rename_i hc2
              injection h with h;injection h with h1 h2;injection h2 with h2 h3;subst h1;subst h2;subst h3
              exact key L none hx hc2 (fun _=>hq _ rfl) (fun _ _ h=>by cases h)
            · cases h
          · rename_i L ex1 S1 hx
            split at h
            · rename_i hc2
              injection h with h;injection h with h1 h2;injection h2 with h2 h3;subst h1;subst h2;subst h3
              exact key L _ hx hc2 (fun h=>by cases h) (fun _ _ h=>by injection h with h;injection h with h1 h2;subst h1;subst h2;exact hq _ rfl)
            · cases h
          · cases h
          · cases h
        · cases h
      · cases h
    · cases h
  · cases h
/-! ### Operations -/
structure YR (α:Type) where
  main:α
  stops:List α
  ys:List (List D)
def cntD (k:Nat):D:=.a (.v (.int .i64 ((k:Nat):Int)))
theorem qnx {a b:Nat} (h:cntD a=cntD b):a=b:=by
  unfold cntD at h
  injection h with h;injection h with h;injection h with _ h
  omega
def qnn (l:EL):Option Nat :=
  match getL l 1000000 with
  | .a (.v (.int .i64 (.ofNat k)))=>some k
  | _=>none
theorem qk9 {l:EL} {k:Nat} (h:qnn l=some k):getL l 1000000=cntD k:=by
  unfold qnn at h
  split at h
  · rename_i k' hk;injection h with h;subst h;exact hk
  · cases h
abbrev YS:=List Nat×EL×List Bx
section
variable (P:Program) (pc:FuncId→List D→XM D) (mc:FuncId→List D→List Bx→XM (D×List Bx)) (yc:FuncId→List (Option D)→List Bx→Nat→XM (YR D))
def movT:Op→Option Nat
  | .move (.tmp t)=>some t
  | .assign (.tmp t)=>some t
  | _=>none
def yieldC (ys:List Nat) (op:Op) (e:Nat→D):Option (List D) :=
  match op with
  | .call c=>(match c.callee with
    | .value (.tmp t)=>if ys.contains t=true then some (c.args.toList.map (evO e)) else none
    | _=>none)
  | _=>none
def unl {α:Type} (b:Bool) (x:Option α):Option α:=match b with
  | true=>none
  | false=>x
theorem qm5 {α:Type} {b:Bool} {x:Option α} {a:α} (h:unl b x=some a):x=some a:=by
  cases b with
  | true=>cases h
  | false=>exact h
def argY (ys:List Nat) (e:Nat→D):Operand→Option D
  | .tmp t=>if ys.contains t=true then none else some (e t)
  | x=>some (evO e x)
def handC (ys:List Nat) (op:Op) (e:Nat→D):Option (FuncId×List (Option D)) :=
  match op with
  | .call c=>(match c.callee with
    | .value (.func f)=>if (c.args.toList.map (argY ys e)).any (fun o=>o.isNone)=true then some (f,c.args.toList.map (argY ys e)) else none
    | _=>none)
  | _=>none
def qgm (L:Nat) (az:List (Option D)):List D:=az.map fun o=>o.getD (yv L)
def clO:Option D→Bool
  | some d=>clD d
  | none=>true
def zops (ops:Array Oper):List Oper→List Nat→EL→List Bx→XM YS
  | [],ys,l,st=>.ok (ys,l,st)
  | o::r,ys,l,st=>if (o.dst != some 1000000)=true then (match movT o.op with
    | some t=>if ys.contains t=true then zops ops r (addY ys o.dst) (putL l o.dst .junk) st else zops ops r (rmY ys o.dst) (putL l o.dst (getL l t)) st
    | none=>(match xop P pc mc ops o l st with
      | .ok (l',st')=>zops ops r (rmY ys o.dst) l' st'
      | .no m=>.no m
      | .up=>.up)) else .no [825]
def goOn (ops:Array Oper) (dst:Option Nat) (r:List Oper) (ys:List Nat) (l:EL) (st:List Bx):List D→XM (List YS)
  | []=>.ok []
  | d::ds=>(match zops P pc mc ops r (rmY ys dst) ((1000000,.a (.v (.bool true)))::putL l dst d) st with
    | .ok s=>(match goOn ops dst r ys l st ds with
      | .ok z=>.ok (s::z)
      | .no m=>.no m
      | .up=>.up)
    | .no m=>.no m
    | .up=>.up)
def yops (ops:Array Oper):List Oper→List Nat→EL→List Bx→XM (YR YS)
  | [],ys,l,st=>.ok ⟨(ys,l,st),[],[]⟩
  | o::r,ys,l,st=>if (o.dst != some 1000000)=true then (match movT o.op with
    | some t=>if ys.contains t=true then yops ops r (addY ys o.dst) (putL l o.dst .junk) st else yops ops r (rmY ys o.dst) (putL l o.dst (getL l t)) st
    | none=>(match unl (offG ops (getL l) o.guard) (yieldC ys o.op (getL l)) with
      | some ds=>fL ds fun ds=>if (onG ops (getL l) 8 o.guard&&ds.all clD1)=true then (match qnn l with
        | some k=>(match zops P pc mc ops r (rmY ys o.dst) ((1000000,.a (.v (.bool true)))::putL l o.dst (.a (.v (.bool false)))) st with
          | .ok s=>(match yops ops r (rmY ys o.dst) ((1000000,cntD (k+1))::putL l o.dst (.a (.v (.bool true)))) st with
            | .ok y=>.ok ⟨y.main,s::y.stops,ds::y.ys⟩
            | .no m=>.no m
            | .up=>.up)
          | .no m=>.no (820::m)
          | .up=>.up)
        | none=>.no [821]) else .no [822]
      | none=>(match unl (offG ops (getL l) o.guard) (handC ys o.op (getL l)) with
        | some (f,az)=>fL az fun az=>if (onG ops (getL l) 8 o.guard&&az.all clO)=true then (match qnn l with
          | some k=>(match yc f az [] k with
            | .ok z=>if (scal z.main&&z.stops.all scal)=true then (match goOn P pc mc ops o.dst r ys l st z.stops with
              | .ok ss=>(match yops ops r (rmY ys o.dst) ((1000000,cntD (k+z.ys.length))::putL l o.dst z.main) st with
                | .ok y=>.ok ⟨y.main,ss++y.stops,z.ys++y.ys⟩
                | .no m=>.no m
                | .up=>.up)
              | .no m=>.no (823::m)
              | .up=>.up) else .no [824]
            | .no m=>.no (f::m)
            | .up=>.up)
          | none=>.no [821]) else .no [822]
        | none=>(match xop P pc mc ops o l st with
          | .ok (l',st')=>yops ops r (rmY ys o.dst) l' st'
          | .no m=>.no m
          | .up=>.up)))) else .no [825]
variable {P pc mc yc}
def YcOk (P:Program) (yc:FuncId→List (Option D)→List Bx→Nat→XM (YR D)):Prop :=
  ∀f az ex k z,yc f az ex k=.ok z→∀(E:Env P) (pre post:List (List D)),E.tl=pre++z.ys++post→pre.length=k →
    DG E f (qgm E.l az) ex (cntD k) fun d _ g=>(d=z.main∧g=cntD (k+z.ys.length))∨(d∈z.stops∧g=.a (.v (.bool true)))
theorem movT_some {op:Op} {t:Nat} (h:movT op=some t):op=.move (.tmp t)∨op=.assign (.tmp t):=by
  unfold movT at h
  split at h
  · injection h with h;subst h;exact .inl rfl
  · injection h with h;subst h;exact .inr rfl
  · cases h
theorem xop_step {C:Cx P} (hp:∀f ds d,pc f ds=.ok d→qab P f ds d) (hm:∀f ds st d st1,mc f ds st=.ok (d,st1)→DM P f ds st d st1) {ops:Array Oper} {o:Oper} {l l1:EL} {st st1:List Bx} (ho:xop P pc mc ops o l st=.ok (l1,st1)) :
    (∃d,l1=putL l o.dst d∧qkb P ops st (envL l) o d st1)∨(∃d,l1=putL (putL l o.dst d) (some 1000000) (getL l 1000000)∧gOk ops (envL l) 8 o.guard∧OpX C st (envL l) o fun d1 s1 g1=>d1=d∧s1=st1∧g1=envL l 1000000):=by
  unfold xop at ho
  rw [qad] at ho
  split at ho
  · rename_i hg
    injection ho with ho;injection ho with h1 h2;subst h1;subst h2
    exact .inl ⟨.undef,rfl,.inr ⟨rfl,qhd hg _⟩⟩
  · split at ho
    · rename_i d st2 hv
      rw [qb3,qcu] at ho
      injection ho with ho;injection ho with h1 h2;subst h1;subst h2
      have hv2:litO P o (envL l) st=some (d,st2):=by
        split at hv
        · exact hv
        · cases hv
      obtain⟨q1,q2⟩:=qir hv2
      exact .inl ⟨d,rfl,.inl ⟨q1,q2⟩⟩
    split at ho
    · rename_i d hv
      rw [qb3] at ho
      injection ho with ho;injection ho with h1 h2;subst h1;subst h2
      exact .inl ⟨d,rfl,.inr ⟨rfl,.of (xq_fr hv st)⟩⟩
    · rename_i d hv
      rw [qb3] at ho
      injection ho with ho;injection ho with h1 h2;subst h1;subst h2
      exact .inl ⟨d,rfl,.inr ⟨rfl,.of (xq_rd hv)⟩⟩
    · split at ho
      · rename_i d hv
        rw [qb3] at ho
        injection ho with ho;injection ho with h1 h2;subst h1;subst h2
        exact .inl ⟨d,rfl,.inr ⟨rfl,.of (qdp hp hv st)⟩⟩
      · cases ho
      · split at ho
        · rename_i d st2 hv
          rw [qb3,qcu] at ho
          injection ho with ho;injection ho with h1 h2;subst h1;subst h2
          split at hv
          · cases hv
          · rename_i hgu
            exact .inl ⟨d,rfl,.inl ⟨hgu,qfi hv⟩⟩
        · split at ho
          · rename_i hon
            split at ho
            · rename_i d st2 hv
              rw [qb3,qcu] at ho
              injection ho with ho;injection ho with h1 h2;subst h1;subst h2
              exact .inr ⟨d,by rw [qad],qc0 hon,qfg hm hv⟩
            · cases ho
            · cases ho
          · cases ho
theorem ov_step {C:Cx P} (hp:∀f ds d,pc f ds=.ok d→qab P f ds d) (hm:∀f ds st d st1,mc f ds st=.ok (d,st1)→DM P f ds st d st1) {L:Nat} {ys:List Nat} {ops:Array Oper} {o:Oper} {r:List Oper} {l l1:EL} {st st1:List Bx} (hJ:JY ys l) (hg:1000000∉ys) (hd:o.dst≠some 1000000) (ho:xop P pc mc ops o l st=.ok (l1,st1)) :
    JY (rmY ys o.dst) l1∧getL l1 1000000=getL l 1000000∧∀K,RS C ops r (ovE L (rmY ys o.dst) l1) st1 K→RS C ops (o::r) (ovE L ys l) st K:=by
  have hov:ovE L ys l 1000000=getL l 1000000:=by unfold ovE;rw [if_neg hg]
  rcases xop_step (C:=C) hp hm ho with ⟨d,rfl,h2⟩|⟨d,rfl,h2,h3⟩
  · refine⟨hJ.put,by rw [qar,if_neg hd],fun K ih=>?_⟩
    rw [qnf] at ih
    exact .inl ⟨d,st1,h2.less (qb2 hJ),ih⟩
  · have hsame:∀k,getL (putL (putL l o.dst d) (some 1000000) (getL l 1000000)) k=getL (putL l o.dst d) k:=fun k=>by
      rw [qar]
      split
      · rename_i hk;injection hk with hk;subst hk;rw [qar,if_neg hd]
      · rfl
    refine⟨fun k hk=>by rw [hsame];exact hJ.put k hk,by rw [hsame,qar,if_neg hd],fun K ih=>?_⟩
    have he:ovE L (rmY ys o.dst) (putL (putL l o.dst d) (some 1000000) (getL l 1000000))=upd (putE (ovE L ys l) o.dst d) 1000000 (envL l 1000000):=by
      rw [←qnf]
      funext k
      unfold ovE upd
      by_cases hk:k=1000000
      · subst hk
        rw [if_neg (fun h=>hg (qiq.1 h).1),if_pos rfl,hsame,qar,if_neg hd,qad]
      · rw [if_neg hk,hsame]
    rw [he] at ih
    exact .inr ⟨qe6 (qb2 hJ) h2,_,OpX.less (qb2 hJ) (by rw [hov,qad]) h3,fun d1 s1 g1 ⟨e1,e2,e3⟩=>by subst e1;subst e2;subst e3;exact ih⟩
theorem qgq {C:Cx P} {L:Nat} {ys:List Nat} {ops:Array Oper} {o:Oper} {r:List Oper} {l:EL} {st:List Bx} {K:(Nat→D)→List Bx→Prop} {t:Nat} (hmv:movT o.op=some t):(t∈ys→RS C ops r (ovE L (addY ys o.dst) (putL l o.dst .junk)) st K→RS C ops (o::r) (ovE L ys l) st K)∧(t∉ys→RS C ops r (ovE L (rmY ys o.dst) (putL l o.dst (getL l t))) st K→RS C ops (o::r) (ovE L ys l) st K):=by
  have hj:∀e:Nat→D,OpJ P st e o (e t):=fun e=>by
    rcases movT_some hmv with h|h
    · exact OpJ.move h
    · exact OpJ.assign h
  refine⟨fun ht ih=>?_,fun ht ih=>?_⟩
  · rw [ov_add] at ih
    have:ovE L ys l t=yv L:=if_pos ht
    exact .inl ⟨yv L,st,.inr ⟨rfl,.of (this▸hj _)⟩,ih⟩
  · rw [qnf] at ih
    have:ovE L ys l t=getL l t:=if_neg ht
    exact .inl ⟨getL l t,st,.inr ⟨rfl,.of (this▸hj _)⟩,ih⟩
theorem qa3 {ys:List Nat} {t:Option Nat} {k:Nat} (h:k∉ys):k∉rmY ys t:=fun h2=>h (qiq.1 h2).1
theorem qk1 {ys:List Nat} {t:Option Nat} {k:Nat} (h:k∉ys) (ht:t≠some k):k∉addY ys t:=by
  cases t with
  | none=>exact h
  | some t=>exact fun h2=>(List.mem_cons.1 h2).elim (fun e=>ht (by rw [e])) h
theorem qb8 {C:Cx P} (hp:∀f ds d,pc f ds=.ok d→qab P f ds d) (hm:∀f ds st d st1,mc f ds st=.ok (d,st1)→DM P f ds st d st1) {L:Nat} {ops:Array Oper}:∀(r:List Oper) (ys:List Nat) (l:EL) (st:List Bx) (s:YS),zops P pc mc ops r ys l st=.ok s→JY ys l→1000000∉ys→JY s.1 s.2.1∧∀K,K (ovE L s.1 s.2.1) s.2.2→RS C ops r (ovE L ys l) st K
  | [],ys,l,st,s,h,hJ,hg=>by
    injection h with h;subst h
    exact⟨hJ,fun K h=>h⟩
  | o::r,ys,l,st,s,h,hJ,hg=>by
    rw [zops] at h
    split at h
    · rename_i hd0
      have hd:o.dst≠some 1000000:=by simpa using hd0
      split at h
      · rename_i t hmv
        split at h
        · rename_i ht
          obtain⟨i1,i2⟩:=qb8 (C:=C) (L:=L) hp hm r _ _ st s h hJ.add (qk1 hg hd)
          exact⟨i1,fun K hK=>(qgq hmv).1 (by simpa using ht) (i2 K hK)⟩
        · rename_i ht
          obtain⟨i1,i2⟩:=qb8 (C:=C) (L:=L) hp hm r _ _ st s h hJ.put (qa3 hg)
          exact⟨i1,fun K hK=>(qgq hmv).2 (by simpa using ht) (i2 K hK)⟩
      · split at h
        · rename_i l1 st1 hx
          obtain⟨q1,q2,q3⟩:=ov_step (C:=C) (L:=L) (r:=r) hp hm hJ hg hd hx
          obtain⟨i1,i2⟩:=qb8 (C:=C) (L:=L) hp hm r _ _ st1 s h q1 (qa3 hg)
          exact⟨i1,fun K hK=>q3 K (i2 K hK)⟩
        · cases h
        · cases h
    · cases h
theorem qiu {ops:Array Oper} {dst:Option Nat} {r:List Oper} {ys:List Nat} {l:EL} {st:List Bx}:∀{ds:List D} {ss:List YS},goOn P pc mc ops dst r ys l st ds=.ok ss→(∀d∈ds,∃s∈ss,zops P pc mc ops r (rmY ys dst) ((1000000,.a (.v (.bool true)))::putL l dst d) st=.ok s)∧∀s∈ss,∃d,zops P pc mc ops r (rmY ys dst) ((1000000,.a (.v (.bool true)))::putL l dst d) st=.ok s
  | [],ss,h=>by injection h with h;subst h;exact⟨fun d hd=>by simp at hd,fun s hs=>by simp at hs⟩
  | x::ds,ss,h=>by
    rw [goOn] at h
    split at h
    · rename_i s hs
      split at h
      · rename_i z hz
        injection h with h;subst h
        obtain⟨i1,i2⟩:=qiu hz
        refine⟨fun d hd=>?_,fun s' hs'=>?_⟩
        · rcases List.mem_cons.1 hd with rfl|hd
          · exact⟨s,by simp,hs⟩
          · obtain⟨s2,h1,h2⟩:=i1 d hd
            exact⟨s2,by simp [h1],h2⟩
        · rcases List.mem_cons.1 hs' with rfl|hs'
          · exact⟨x,hs⟩
          · exact i2 s' hs'
      · cases h
      · cases h
    · cases h
    · cases h
theorem tl_at {pre rest post:List (List D)} {x:List D} {tl:List (List D)} (h:tl=pre++(x::rest)++post) {k:Nat} (hk:pre.length=k):tl[k]? = some x:=by
  subst h;subst hk;simp
theorem JY.cnt {ys:List Nat} {l:EL} {d:D} (h:JY ys l) (hg:1000000∉ys):JY ys ((1000000,d)::l):=fun k hk=>by
  have:(1000000,d)::l=putL l (some 1000000) d:=rfl
  rw [this,qar,if_neg (fun e=>hg (by injection e with e;rw [e];exact hk))]
  exact h k hk
theorem ov_cnt {L:Nat} {ys:List Nat} {l:EL} {t:Option Nat} {d g:D} (hg:1000000∉ys):ovE L (rmY ys t) ((1000000,g)::putL l t d)=upd (putE (ovE L ys l) t d) 1000000 g:=by
  rw [←qnf]
  funext k
  unfold ovE upd
  have:(1000000,g)::putL l t d=putL (putL l t d) (some 1000000) g:=rfl
  rw [this,qar]
  by_cases hk:k=1000000
  · subst hk
    rw [if_neg (qa3 hg),if_pos rfl,if_pos rfl]
  · rw [if_neg hk]
    have h2:¬some 1000000=some k:=fun e=>hk (by injection e with e;exact e.symm)
    rw [if_neg h2]
theorem arg_ov {L:Nat} {ys:List Nat} {l:EL} (x:Operand):evO (ovE L ys l) x=(argY ys (getL l) x).getD (yv L):=by
  cases x with
  | tmp t =>
    show (if t∈ys then yv L else getL l t)=(if ys.contains t=true then none else some (getL l t)).getD (yv L)
    by_cases h:t∈ys
    · rw [if_pos h,if_pos (by simpa using h)];rfl
    · rw [if_neg h,if_neg (by simpa using h)];rfl
  | _=>rfl
theorem qb9 {C:Cx P} (hon:C.on) (hp:∀f ds d,pc f ds=.ok d→qab P f ds d) (hm:∀f ds st d st1,mc f ds st=.ok (d,st1)→DM P f ds st d st1) (hy:YcOk P yc) {ops:Array Oper}:∀(r:List Oper) (ys:List Nat) (l:EL) (st:List Bx) (y:YR YS) (k:Nat) (pre post:List (List D)),yops P pc mc yc ops r ys l st=.ok y→JY ys l→1000000∉ys→getL l 1000000=cntD k→C.E.tl=pre++y.ys++post→pre.length=k →
    (JY y.main.1 y.main.2.1∧1000000∉y.main.1∧getL y.main.2.1 1000000=cntD (k+y.ys.length))∧(∀s∈y.stops,JY s.1 s.2.1)∧∀K:(Nat→D)→List Bx→Prop,K (ovE C.E.l y.main.1 y.main.2.1) y.main.2.2→(∀s∈y.stops,K (ovE C.E.l s.1 s.2.1) s.2.2)→RS C ops r (ovE C.E.l ys l) st K
  | [],ys,l,st,y,k,pre,post,h,hJ,hg,hk,ht,hpk=>by
    injection h with h;subst h
    exact⟨⟨hJ,hg,hk⟩,fun s hs=>by simp at hs,fun K h1 _=>h1⟩
  | o::r,ys,l,st,y,k,pre,post,h,hJ,hg,hk,ht,hpk=>by
    rw [yops] at h
    split at h
    · rename_i hd0
      have hd:o.dst≠some 1000000:=by simpa using hd0
      split at h
      · rename_i t hmv
        split at h
        · rename_i hty
          obtain⟨i1,i2,i3⟩:=qb9 hon hp hm hy r _ _ st y k pre post h hJ.add (qk1 hg hd) (by rw [qar,if_neg hd];exact hk) ht hpk
          exact⟨i1,i2,fun K h1 h2=>(qgq hmv).1 (by simpa using hty) (i3 K h1 h2)⟩
        · rename_i hty
          obtain⟨i1,i2,i3⟩:=qb9 hon hp hm hy r _ _ st y k pre post h hJ.put (qa3 hg) (by rw [qar,if_neg hd];exact hk) ht hpk
          exact⟨i1,i2,fun K h1 h2=>(qgq hmv).2 (by simpa using hty) (i3 K h1 h2)⟩
      · split at h
        · rename_i ds hyc
          rw [qcu] at h
          split at h
          · rename_i hc
            rw [Bool.and_eq_true] at hc
            split at h
            · rename_i k' hk'
              obtain rfl:k'=k:=qnx ((qk9 hk').symm.trans hk)
              split at h
              · rename_i s hs
                split at h
                · rename_i y1 hy1
                  injection h with h;subst h
                  have ht2:C.E.tl=(pre++[ds])++y1.ys++post:=by rw [ht];simp
                  obtain⟨i1,i2,i3⟩:=qb9 hon hp hm hy r _ _ st y1 (k'+1) (pre++[ds]) post hy1 (hJ.put.cnt (qa3 hg)) (qa3 hg) (by rw [getL];rfl) ht2 (by simp [hpk])
                  obtain⟨z1,z2⟩:=qb8 (C:=C) (L:=C.E.l) hp hm r _ _ st s hs (hJ.put.cnt (qa3 hg)) (qa3 hg)
                  refine⟨⟨i1.1,i1.2.1,by rw [i1.2.2];show cntD _=cntD (k'+(y1.ys.length+1));congr 1;omega⟩,fun s' hs'=>?_,fun K h1 h2=>?_⟩
                  · rcases List.mem_cons.1 hs' with rfl|hs'
                    · exact z1
                    · exact i2 s' hs'
                  · have ih1:=i3 K h1 fun s hs=>h2 s (by simp [hs])
                    have ih2:=z2 K (h2 s (by simp))
                    rw [ov_cnt hg] at ih1 ih2
                    replace hyc:=qm5 hyc
                    unfold yieldC at hyc
                    split at hyc
                    · rename_i c ho
                      split at hyc
                      · rename_i t hcal
                        split at hyc
                        · rename_i hyt
                          obtain⟨dst,op,ty,pos,after,guard⟩:=o
                          obtain⟨cal,⟨xs⟩,tys⟩:=c
                          dsimp only at ho hcal hyc
                          subst hcal;subst ho
                          injection hyc with hyc
                          have hyv:evO (ovE C.E.l ys l) (.tmp t)=yv C.E.l:=if_pos (by simpa using hyt)
                          have hxs:xs.map (evO (ovE C.E.l ys l))=ds:=by
                            rw [←hyc]
                            refine List.map_congr_left fun x hx=>?_
                            rcases (qb2 (L:=C.E.l) hJ).o x with h0|h0
                            · exfalso
                              have:=List.all_eq_true.1 hc.2 (evO (getL l) x) (by rw [←hyc];exact List.mem_map.2 ⟨x,hx,rfl⟩)
                              rw [qad,h0] at this
                              cases this
                            · rw [←h0,qad]
                          have hov:ovE C.E.l ys l 1000000=.a (.v (.int .i64 (k':Nat))):=by unfold ovE;rw [if_neg hg];exact hk
                          exact RS.yield hyv hov hxs hc.2 (tl_at (rest:=y1.ys) ht hpk) ih1 ih2 (qe6 (qb2 hJ) (by rw [←qad];exact qc0 hc.1))
                        · cases hyc
                      · cases hyc
                    · cases hyc
                · cases h
                · cases h
              · cases h
              · cases h
            · cases h
          · cases h
        · split at h
          · rename_i f az hhc
            rw [qcu] at h
            split at h
            · rename_i hc
              rw [Bool.and_eq_true] at hc
              split at h
              · rename_i k' hk'
                obtain rfl:k'=k:=qnx ((qk9 hk').symm.trans hk)
                split at h
                · rename_i z hz
                  split at h
                  · rename_i hsc
                    rw [Bool.and_eq_true] at hsc
                    split at h
                    · rename_i ss hss
                      split at h
                      · rename_i y1 hy1
                        injection h with h;subst h
                        have ht2:C.E.tl=(pre++z.ys)++y1.ys++post:=by rw [ht];simp
                        obtain⟨i1,i2,i3⟩:=qb9 hon hp hm hy r _ _ st y1 (k'+z.ys.length) (pre++z.ys) post hy1 (hJ.put.cnt (qa3 hg)) (qa3 hg) (by rw [getL];rfl) ht2 (by simp [hpk])
                        obtain⟨g1,g2⟩:=qiu hss
                        refine⟨⟨i1.1,i1.2.1,by rw [i1.2.2];show cntD _=cntD (k'+(z.ys++y1.ys).length);congr 1;simp;omega⟩,fun s' hs'=>?_,fun K h1 h2=>?_⟩
                        · rcases List.mem_append.1 hs' with hs'|hs'
                          · obtain⟨d,hd2⟩:=g2 s' hs'
                            exact (qb8 (C:=C) (L:=C.E.l) hp hm r _ _ st s' hd2 (hJ.put.cnt (qa3 hg)) (qa3 hg)).1
                          · exact i2 s' hs'
                        · have ih1:=i3 K h1 fun s hs=>h2 s (by simp [hs])
                          rw [ov_cnt hg] at ih1
                          replace hhc:=qm5 hhc
                          unfold handC at hhc
                          split at hhc
                          · rename_i c ho
                            split at hhc
                            · rename_i f' hcal
                              split at hhc
                              · obtain⟨dst,op,ty,pos,after,guard⟩:=o
                                obtain⟨cal,⟨xs⟩,tys⟩:=c
                                dsimp only at ho hcal hhc
                                subst hcal;subst ho
                                injection hhc with hhc;injection hhc with e1 e2;subst e1
                                have hxs:xs.map (evO (ovE C.E.l ys l))=qgm C.E.l az:=by
                                  rw [←e2]
                                  unfold qgm
                                  rw [List.map_map]
                                  exact List.map_congr_left fun x _=>arg_ov x
                                have hcl:(qgm C.E.l az).all clD=true:=by
                                  unfold qgm
                                  rw [List.all_map,List.all_eq_true]
                                  intro q hq
                                  have:=List.all_eq_true.1 hc.2 q hq
                                  cases q with
                                  | none=>rfl
                                  | some d=>exact this
                                have hov:ovE C.E.l ys l 1000000=cntD k':=by unfold ovE;rw [if_neg hg];exact hk
                                have hdg:=hy _ _ _ _ _ hz C.E pre (y1.ys++post) (by rw [ht];simp) hpk
                                refine RS.callG hxs hcl hov hon hdg (fun d _ g hO=>?_) (fun d s1' g hO=>?_) (qe6 (qb2 hJ) (by rw [←qad];exact qc0 hc.1))
                                · rcases hO with ⟨rfl,_⟩|⟨hdm,_⟩
                                  · exact hsc.1
                                  · exact List.all_eq_true.1 hsc.2 d hdm
                                · rcases hO with ⟨rfl,rfl⟩|⟨hdm,rfl⟩
                                  · exact ih1
                                  · obtain⟨s,q1,q2⟩:=g1 d hdm
                                    have ih2:=(qb8 (C:=C) (L:=C.E.l) hp hm r _ _ st s q2 (hJ.put.cnt (qa3 hg)) (qa3 hg)).2 K (h2 s (by simp [q1]))
                                    rw [ov_cnt hg] at ih2
                                    exact ih2
                              · cases hhc
                            · cases hhc
                          · cases hhc
                      · cases h
                      · cases h
                    · cases h
                    · cases h
                  · cases h
                · cases h
                · cases h
              · cases h
            · cases h
          · split at h
            · rename_i l1 st1 hx
              obtain⟨q1,q2,q3⟩:=ov_step (C:=C) (L:=C.E.l) (r:=r) hp hm hJ hg hd hx
              obtain⟨i1,i2,i3⟩:=qb9 hon hp hm hy r _ _ st1 y k pre post h q1 (qa3 hg) (q2.trans hk) ht hpk
              exact⟨i1,i2,fun K h1 h2=>q3 K (i3 K h1 h2)⟩
            · cases h
            · cases h
    · cases h
end
/-! ### Drawn regions, with whoever is called back aside -/
theorem RdL.less {P:Program} {ops:Array Oper} {bs:List Nat} {k:Nat} {e' e:Nat→D} {o:Oper} {d:D} (h:qbr e' e):∀{ws:List (Nat×List Bx)} {s:List Bx},RdL P ops bs k e' o d s ws→RdL P ops bs k e o d s ws
  | [],_,hr=>qau.less h hr
  | (_,_)::_,_,hr=>⟨hr.1.imp id (qau.less h),hr.2.imp id (RdL.less h)⟩
theorem RWL1.less {P:Program} {C:Cx P} {g:D} {ops:Array Oper} {bs:List Nat} {s0:List Bx} {ws:List (Nat×List Bx)} {k:Nat} {e' e:Nat→D} {o:Oper} {d:D} (h:qbr e' e) (hg:e' 1000000=e 1000000) (hr:RWL1 C g ops bs s0 ws k e' o d):RWL1 C g ops bs s0 ws k e o d:=by
  unfold RWL1 at *
  split at hr
  · rename_i s s' hw
    rcases hr with ⟨h1,h2,h3⟩|⟨h1,h2⟩|⟨h1,h2⟩
    · exact .inl ⟨h1,hg▸h2,OpX.less h hg h3⟩
    · exact .inr (.inl ⟨h1,h2.less h⟩)
    · exact .inr (.inr ⟨qe6 h h1,OpX.less h hg h2⟩)
  · exact RdL.less h hr
theorem RWL.over {P:Program} {C:Cx P} {g:D} {ops:Array Oper} {bs:List Nat} {s0:List Bx} {ws:List (Nat×List Bx)} {A:Nat→Prop} {K:(Nat→D)→Prop}:∀{r:List Oper} {k:Nat} {e' e:Nat→D},(∀t,¬A t→e t=e' t)→(∀t,A t→e' t=.junk)→¬A 1000000→(∀o∈r,∀t,A t→o.dst≠some t)→RWL C g ops bs s0 ws r k e' (fun f'=>∀f:Nat→D,(∀t,¬A t→f t=f' t)→(∀t,A t→f t=e t)→K f)→RWL C g ops bs s0 ws r k e K
  | [],_,e',e,h1,h2,h3,_,hr=>hr e h1 fun t _=>rfl
  | o::r,k,e',e,h1,h2,h3,h4,⟨d,hd,hr⟩=>by
    have hless:qbr e' e:=fun t=>by
      by_cases h:A t
      · exact .inl (h2 t h)
      · exact .inr (h1 t h).symm
    refine⟨d,RWL1.less hless (h1 1000000 h3).symm hd,?_⟩
    have h5:∀t,A t→putE e o.dst d t=e t:=fun t ht=>by rw [qfp,if_neg (h4 o (by simp) t ht)]
    refine RWL.over (A:=A) (e':=putE e' o.dst d) (fun t ht=>?_) (fun t ht=>?_) h3 (fun o ho=>h4 o (by simp [ho])) ?_
    · rw [qfp,qfp];split
      · rfl
      · exact h1 t ht
    · rw [qfp,if_neg (h4 o (by simp) t ht)];exact h2 t ht
    · refine RWL.mono (fun f' hf f g1 g2=>hf f g1 fun t ht=>(g2 t ht).trans (h5 t ht)) hr
theorem qi4 {P:Program} {pc:FuncId→List D→XM D} {mc:FuncId→List D→List Bx→XM (D×List Bx)} {s0:List Bx} {ops:Array Oper} {bs:List Nat} {t:Nat}:∀(r:List Oper) (pre:List (Nat×List Bx)) (k:Nat) (l l':EL) (s:List Bx) (ws:List (Nat×List Bx)),xd P pc mc s0 ops bs r pre k l s=.ok (l',ws)→(∀o∈r,o.dst≠some t)→getL l' t=getL l t
  | [],pre,k,l,l',s,ws,h,hd=>by injection h with h;injection h with h1 h2;subst h1;rfl
  | o::r,pre,k,l,l',s,ws,h,hd=>by
    have h0:=hd o (by simp)
    have hr:∀o∈r,o.dst≠some t:=fun o ho=>hd o (by simp [ho])
    have go:∀{pre:List (Nat×List Bx)} {d:D} {s:List Bx} {ws:List (Nat×List Bx)},xd P pc mc s0 ops bs r pre (k+1) (putL l o.dst d) s=.ok (l',ws)→getL l' t=getL l t:=fun hx=>by
      rw [qi4 r _ _ _ _ _ _ hx hr,qar,if_neg h0]
    rw [xd] at h
    split at h
    · exact go h
    · split at h
      · rw [qb3] at h;exact go h
      · rw [qb3] at h
        split at h
        · rename_i hx
          split at h
          · injection h with h;injection h with h4 h5;subst h4;exact go hx
          · cases h
        · cases h
        · cases h
      · split at h
        · rw [qb3] at h;exact go h
        · cases h
        · split at h
          · rw [qb3,qcu] at h
            split at h
            · rename_i hx
              injection h with h;injection h with h4 h5;subst h4;exact go hx
            · cases h
            · cases h
          · split at h
            · split at h
              · rw [qb3,qcu] at h
                split at h
                · rename_i hx
                  injection h with h;injection h with h4 h5;subst h4;exact go hx
                · cases h
                · cases h
              · cases h
              · cases h
            · cases h
/-! ### Code that calls back -/
section
variable (P:Program) (pc:FuncId→List D→XM D) (mc:FuncId→List D→List Bx→XM (D×List Bx)) (yc:FuncId→List (Option D)→List Bx→Nat→XM (YR D)) (F n:Nat) (ks:List Nat) (kI:FuncId→List A→List Bx→Option (List (List D))) (n0:Nat)
abbrev XO:=Exit×YS
def qll (c:Code):List XO→XM (List XO)
  | []=>.ok []
  | (.normal,_,l,st)::r=>(match qbv P pc mc F n (1000000::ks) kI n0 false c l st with
    | .ok (ex,l',st')=>(match qll c r with
      | .ok z=>.ok ((ex,[],l',st')::z)
      | .no m=>.no m
      | .up=>.up)
    | .no m=>.no m
    | .up=>.up)
  | s::r=>(match qll c r with
      | .ok z=>.ok (s::z)
      | .no m=>.no m
      | .up=>.up)
def unX (id:Nat):XO→XO
  | (.exit id',s)=>if Nat.beq id' id=true then (.normal,s) else (.exit id',s)
  | x=>x
def yloop (c:Code) (body:YS→XM (YR XO)):Nat→YS→XM (YR XO)
  | 0,_=>.no [830]
  | k+1,s=>(match body s with
    | .ok y=>(match qll P pc mc F n ks kI n0 (.loop c) y.stops with
      | .ok ss=>(match y.main with
        | (.normal,s')=>(match yloop c body k s' with
          | .ok z=>.ok ⟨z.main,ss++z.stops,y.ys++z.ys⟩
          | .no m=>.no m
          | .up=>.up)
        | m=>.ok ⟨m,ss,y.ys⟩)
      | .no m=>.no (831::m)
      | .up=>.up)
    | .no m=>.no m
    | .up=>.up)
def keepS (s:YS):YS:=(qgj s.1 (1000000::ks),qcl s.2.1 (1000000::ks),s.2.2)
def qea:Code→YS→XM (YR XO)
  | .skip,s=>.ok ⟨(.normal,s),[],[]⟩
  | .region id ⟨ops⟩ false,s=>if (qeb ⟨ops⟩ n&&ksOk ⟨ops⟩ (1000000::ks))=true then (match yops P pc mc yc ⟨ops⟩ ops s.1 s.2.1 s.2.2 with
    | .ok y=>.ok ⟨(.normal,keepS ks y.main),y.stops.map fun s=>(.normal,keepS ks s),y.ys⟩
    | .no m=>.no (id::m)
    | .up=>.no [id]) else .no [id,787]
  | .region id ⟨ops⟩ true,s=>(match xd P pc mc s.2.2 ⟨ops⟩ (qbf ops []) ops [] 0 s.2.1 s.2.2 with
    | .ok (l',ws)=>if (chnW (qbf ops []) (ws.map (·.1))&&(ws.map (·.1)).all (fun w=>decide (w<ops.length))&&qcw ⟨ops⟩ n ops.length&&ksOk ⟨ops⟩ (1000000::ks)&&P.follows .mixedOrders&&qeb ⟨ops⟩ n&&ops.all fun o=>s.1.all fun t=>o.dst != some t)=true then .ok ⟨(.normal,keepS ks (s.1,l',qfk s.2.2 ws)),[],[]⟩ else .no [id,785]
    | .no m=>.no (id::788::m)
    | .up=>.no [id])
  | .seq a b,s=>(match qea a s with
    | .ok y=>(match qll P pc mc F n ks kI n0 b y.stops with
      | .ok ss=>(match y.main with
        | (.normal,s')=>(match qea b s' with
          | .ok z=>.ok ⟨z.main,ss++z.stops,y.ys++z.ys⟩
          | .no m=>.no m
          | .up=>.up)
        | m=>.ok ⟨m,ss,y.ys⟩)
      | .no m=>.no (831::m)
      | .up=>.up)
    | .no m=>.no m
    | .up=>.up)
  | .cond c a b,s=>if opLt n c=true then (match evO (getL s.2.1) c with
    | .a (.v (.bool true))=>qea a s
    | .a (.v (.bool false))=>qea b s
    | _=>.no [789]) else .no [790]
  | .block id c,s=>(match qea c s with
    | .ok y=>.ok ⟨unX id y.main,y.stops.map (unX id),y.ys⟩
    | .no m=>.no m
    | .up=>.up)
  | .loop c,s=>yloop P pc mc F n ks kI n0 c (fun s=>qea c s) F s
  | .exit id,s=>.ok ⟨(.exit id,s),[],[]⟩
  | .ret,s=>.ok ⟨(.ret,s),[],[]⟩
  | .rangeFunc g ⟨ps⟩ a b,s=>(match qbv P pc mc F n (1000000::ks) kI n0 false (.rangeFunc g ⟨ps⟩ a b) s.2.1 s.2.2 with
    | .ok (ex,l',st')=>.ok ⟨(ex,qgj s.1 (1000000::ks),l',st'),[],[]⟩
    | .no m=>.no m
    | .up=>.up)
  | _,_=>.no [791]
variable {P pc mc yc F n ks kI n0}
def QA (L:Nat) (Q:Exit→(Nat→D)→List Bx→Prop) (x:XO):Prop:=Q x.1 (ovE L x.2.1 x.2.2.1) x.2.2.2
theorem ov_nil {L:Nat} {l:EL}:ovE L [] l=envL l:=by
  funext t
  unfold ovE
  rw [if_neg (by simp),qad]
theorem qa6 {L:Nat} {c:Code}:∀{ss zs:List XO},qll P pc mc F n ks kI n0 c ss=.ok zs→(∀s∈ss,JY s.2.1 s.2.2.1)→(∀z∈zs,JY z.2.1 z.2.2.1)∧∀s∈ss,(s.1=.normal→∃ex l' st',(ex,[],l',st')∈zs∧qbv P pc mc F n (1000000::ks) kI n0 false c s.2.2.1 s.2.2.2=.ok (ex,l',st'))∧(s.1≠.normal→s∈zs)
  | [],_,h,_=>by injection h with h;subst h;exact⟨fun z hz=>by simp at hz,fun s hs=>by simp at hs⟩
  | (ex,ys,l,st)::r,zs,h,hJ=>by
    have hJr:∀s∈r,JY s.2.1 s.2.2.1:=fun s hs=>hJ s (by simp [hs])
    cases ex with
    | normal =>
      rw [qll] at h
      split at h
      · rename_i ex1 l1 st1 hx
        split at h
        · rename_i z hz
          injection h with h;subst h
          obtain⟨i1,i2⟩:=qa6 (L:=L) hz hJr
          refine⟨fun z' hz'=>?_,fun s hs=>?_⟩
          · rcases List.mem_cons.1 hz' with rfl|hz'
            · exact fun k hk=>by simp at hk
            · exact i1 z' hz'
          · rcases List.mem_cons.1 hs with rfl|hs
            · exact⟨fun _=>⟨ex1,l1,st1,by simp,hx⟩,fun h=>absurd rfl h⟩
            · obtain⟨j1,j2⟩:=i2 s hs
              exact⟨fun hn=>by obtain⟨a,b,c,q1,q2⟩:=j1 hn;exact⟨a,b,c,by simp [q1],q2⟩,fun hn=>by simp [j2 hn]⟩
        · cases h
        · cases h
      · cases h
      · cases h
    | _ =>
      simp only [qll] at h
      · split at h
        · rename_i z hz
          injection h with h;subst h
          obtain⟨i1,i2⟩:=qa6 (L:=L) hz hJr
          refine⟨fun z' hz'=>?_,fun s hs=>?_⟩
          · rcases List.mem_cons.1 hz' with rfl|hz'
            · exact hJ _ (by simp)
            · exact i1 z' hz'
          · rcases List.mem_cons.1 hs with rfl|hs
            · exact⟨fun h=>(by cases h),fun _=>by simp⟩
            · obtain⟨j1,j2⟩:=i2 s hs
              exact⟨fun hn=>by obtain⟨a,b,c,q1,q2⟩:=j1 hn;exact⟨a,b,c,by simp [q1],q2⟩,fun hn=>by simp [j2 hn]⟩
        · cases h
        · cases h
def Goes (k:Nat) (y:YR XO):Prop:=(JY y.main.2.1 y.main.2.2.1∧1000000∉y.main.2.1∧getL y.main.2.2.1 1000000=cntD (k+y.ys.length))∧∀s∈y.stops,JY s.2.1 s.2.2.1
def Ends (L:Nat) (y:YR XO) (Q:Exit→(Nat→D)→List Bx→Prop):Prop:=QA L Q y.main∧∀s∈y.stops,QA L Q s
theorem qln {L id:Nat} {Q:Exit→(Nat→D)→List Bx→Prop} {x:XO} (h:QA L Q (unX id x)):QA L (qgc id Q) x:=by
  obtain⟨ex,s⟩:=x
  cases ex with
  | exit id' =>
    show (if id'=id then Q .normal else Q (.exit id')) _ _
    unfold unX QA at h
    dsimp only at h
    split at h
    · rename_i he
      rw [if_pos (Nat.eq_of_beq_eq_true he)];exact h
    · rename_i he
      rw [if_neg (fun e=>he (by rw [e];exact Nat.beq_refl _))];exact h
  | _=>exact h
theorem unX_2 {id:Nat} {x:XO}:(unX id x).2=x.2:=by
  obtain⟨ex,s⟩:=x
  cases ex with
  | exit id'=>unfold unX;dsimp only;split<;>rfl
  | _=>rfl
theorem qd4 {ys ks:List Nat} {k:Nat} (h:k∉ys):k∉qgj ys ks:=fun h2=>h (qby.1 h2).1
theorem qls {C:Cx P} (hon:C.on) (hC:C.ro=none∧C.V0.st.length≤n0) (hp:∀f ds d,pc f ds=.ok d→qab P f ds d) (hm:∀f ds st d st1,mc f ds st=.ok (d,st1)→DM P f ds st d st1) (hy:YcOk P yc) (hI:∀gf caps ex tl,kI gf caps ex=some tl→DItM P gf caps ex tl):∀(c:Code) (s:YS) (y:YR XO) (k:Nat) (pre post:List (List D)),qea P pc mc yc F n ks kI n0 c s=.ok y→JY s.1 s.2.1→1000000∉s.1→getL s.2.1 1000000=cntD k→C.E.tl=pre++y.ys++post→pre.length=k→Goes k y∧∀Q,Ends C.E.l y Q→WP C n c Q (ovE C.E.l s.1 s.2.1) s.2.2:=by
  have after:∀(b:Code) (ss zs:List XO) (Q:Exit→(Nat→D)→List Bx→Prop),qll P pc mc F n ks kI n0 b ss=.ok zs→(∀s∈ss,JY s.2.1 s.2.2.1)→(∀z∈zs,QA C.E.l Q z)→∀s∈ss,QA C.E.l (qdk (WP C n b Q) Q) s:=fun b ss zs Q hc hJ hz s hs=>by
    obtain⟨_,h2⟩:=qa6 (L:=C.E.l) hc hJ
    obtain⟨h1,h2⟩:=h2 s hs
    have hJs:=hJ s hs
    obtain⟨ex,ys,l,st⟩:=s
    cases ex with
    | normal =>
      obtain⟨ex,l',st',q1,q2⟩:=h1 rfl
      have hq:=hz _ q1
      unfold QA at hq
      rw [ov_nil] at hq
      exact WP.less (qb2 hJs) (qa4 hp hm hI b false C (fun _=>hC) Q l st ex l' st' q2 hq)
    | _=>exact hz _ (h2 fun h=>by cases h)
  intro c
  induction c with
  | skip =>
    intro s y k pre post h hl hg hk ht hpk
    injection h with h;subst h
    exact⟨⟨⟨hl,hg,hk⟩,fun s hs=>by simp at hs⟩,fun Q hq=>WP.skip hq.1⟩
  | region id ops draw =>
    intro s y k pre post h hl hg hk ht hpk
    obtain⟨ops⟩:=ops
    obtain⟨ys,l,st⟩:=s
    cases draw with
    | false =>
      rw [qea] at h
      split at h
      · rename_i hc
        rw [Bool.and_eq_true] at hc
        split at h
        · rename_i y1 hx
          injection h with h;subst h
          obtain⟨i1,i2,i3⟩:=qb9 hon hp hm hy ops ys l st y1 k pre post hx hl hg hk ht hpk
          refine⟨⟨⟨i1.1.keep,qd4 i1.2.1,by show getL (qcl y1.main.2.1 (1000000::ks)) 1000000=_;rw [qc1,if_pos (by simp)];exact i1.2.2⟩,fun s hs=>?_⟩,fun Q hq=>?_⟩
          · obtain⟨s',hs',rfl⟩:=List.mem_map.1 hs
            exact (i2 s' hs').keep
          · refine WP.reg (1000000::ks) hc.1 hc.2 (i3 (fun e' st'=>Q .normal (qao e' (1000000::ks)) st') ?_ fun s hs=>?_)
            · show Q .normal (qao _ _) _
              rw [←qmf];exact hq.1
            · show Q .normal (qao _ _) _
              rw [←qmf];exact hq.2 (.normal,keepS ks s) (List.mem_map.2 ⟨s,hs,rfl⟩)
        · cases h
        · cases h
      · cases h
    | true =>
      rw [qea] at h
      split at h
      · rename_i l1 ws hx
        split at h
        · rename_i hc
          simp only [Bool.and_eq_true] at hc
          injection h with h;subst h
          obtain⟨⟨⟨⟨⟨⟨c1,c2⟩,c3⟩,c4⟩,c5⟩,c6⟩,c7⟩:=hc
          have hdst:∀o∈ops,∀t∈ys,o.dst≠some t:=fun o ho t ht=>by
            have:=List.all_eq_true.1 (List.all_eq_true.1 c7 o ho) t ht
            simpa using this
          have hJ1:JY ys l1:=fun t ht=>(qi4 ops [] 0 l l1 st ws hx fun o ho=>hdst o ho t ht).trans (hl t ht)
          have hcnt:getL l1 1000000=getL l 1000000:=qi4 ops [] 0 l l1 st ws hx (qnv c6)
          have hlt:∀w∈ws,w.1<ops.length:=fun w hw=>of_decide_eq_true (List.all_eq_true.1 c2 w.1 (List.mem_map.2 ⟨w,hw,rfl⟩))
          refine⟨⟨⟨hJ1.keep,qd4 hg,by show getL (qcl l1 (1000000::ks)) 1000000=_;rw [qc1,if_pos (by simp),hcnt];exact hk⟩,fun s hs=>by simp at hs⟩,fun Q hq=>?_⟩
          have hov:ovE C.E.l ys l 1000000=envL l 1000000:=by unfold ovE;rw [if_neg hg,qad]
          have hq1:Q .normal (ovE C.E.l (qgj ys (1000000::ks)) (qcl l1 (1000000::ks))) (qfk st ws):=hq.1
          rw [qmf] at hq1
          refine WP.dl (qbf ops []) (1000000::ks) (ws.map (·.1)) ws ?_ rfl (by simp) c1 c2 c3 c4 c5
          rw [hov]
          obtain⟨_,i2⟩:=qc9 (C:=C) (g:=envL l 1000000) (s0:=st) (K:=fun f'=>∀f:Nat→D,(∀t,¬t∈ys→f t=f' t)→(∀t,t∈ys→f t=ovE C.E.l ys l t)→Q .normal (qao f (1000000::ks)) (stAt st ws ops.length)) hp hm (fun f g1 g2=>by
            have:f=ovE C.E.l ys l1:=by
              funext t
              by_cases ht:t∈ys
              · rw [g2 t ht];unfold ovE;rw [if_pos ht,if_pos ht]
              · rw [g1 t ht];unfold ovE;rw [if_neg ht,qad]
            rw [this,qgn ws st hlt];exact hq1) ops [] 0 l st ws [] hx rfl (fun w hw=>by simp at hw) rfl (qnv c6) rfl
          exact RWL.over (A:=fun t=>t∈ys) (e':=envL l) (fun t ht=>by unfold ovE;rw [if_neg ht,qad]) (fun t ht=>by rw [←qad];exact hl t ht) hg hdst i2
        · cases h
      · cases h
      · cases h
  | seq a b iha ihb =>
    intro s y k pre post h hl hg hk ht hpk
    rw [qea] at h
    split at h
    · rename_i y1 hx
      split at h
      · rename_i ss hss
        split at h
        · rename_i s' hmain
          split at h
          · rename_i z hz
            injection h with h;subst h
            have ht1:C.E.tl=pre++y1.ys++(z.ys++post):=by rw [ht];simp
            obtain⟨⟨g1,g1s⟩,w1⟩:=iha s y1 k pre _ hx hl hg hk ht1 hpk
            rw [hmain] at g1
            have ht2:C.E.tl=(pre++y1.ys)++z.ys++post:=by rw [ht];simp
            obtain⟨⟨g2,g2s⟩,w2⟩:=ihb s' z (k+y1.ys.length) (pre++y1.ys) post hz g1.1 g1.2.1 g1.2.2 ht2 (by simp [hpk])
            refine⟨⟨⟨g2.1,g2.2.1,by rw [g2.2.2];show cntD _=cntD (k+(y1.ys++z.ys).length);congr 1;simp;omega⟩,fun s hs=>?_⟩,fun Q hq=>WP.seq (w1 _ ⟨?_,?_⟩)⟩
            · rcases List.mem_append.1 hs with hs|hs
              · exact (qa6 (L:=C.E.l) hss g1s).1 s hs
              · exact g2s s hs
            · rw [hmain];exact w2 Q ⟨hq.1,fun s hs=>hq.2 s (by simp [hs])⟩
            · exact after b _ _ Q hss g1s fun z hz=>hq.2 z (by simp [hz])
          · cases h
          · cases h
        · rename_i m hne
          injection h with h;subst h
          obtain⟨⟨g1,g1s⟩,w1⟩:=iha s y1 k pre post hx hl hg hk ht hpk
          refine⟨⟨g1,(qa6 (L:=C.E.l) hss g1s).1⟩,fun Q hq=>WP.seq (w1 _ ⟨?_,after b _ _ Q hss g1s fun z hz=>hq.2 z hz⟩)⟩
          have hq1:=hq.1
          dsimp only at hq1
          cases hm1:y1.main with
          | mk ex r =>
            rw [hm1] at hq1
            cases ex with
            | normal=>exact (hne r (by rw [hm1])).elim
            | _=>exact hq1
      · cases h
      · cases h
    · cases h
    · cases h
  | cond c a b iha ihb =>
    intro s y k pre post h hl hg hk ht hpk
    have hco:∀q,evO (getL s.2.1) c=.a (.v (.bool q))→evO (ovE C.E.l s.1 s.2.1) c=.a (.v (.bool q)):=fun q hq=>by
      rcases (qb2 (L:=C.E.l) hl).o c with h0|h0
      · rw [←qad,hq] at h0;cases h0
      · rw [←h0,←qad];exact hq
    rw [qea] at h
    split at h
    · rename_i hlt
      split at h
      · rename_i hc
        obtain⟨g1,w1⟩:=iha s y k pre post h hl hg hk ht hpk
        exact⟨g1,fun Q hq=>WP.cond_t hlt (hco true hc) (w1 Q hq)⟩
      · rename_i hc
        obtain⟨g1,w1⟩:=ihb s y k pre post h hl hg hk ht hpk
        exact⟨g1,fun Q hq=>WP.cond_f hlt (hco false hc) (w1 Q hq)⟩
      · cases h
    · cases h
  | block id c ih =>
    intro s y k pre post h hl hg hk ht hpk
    rw [qea] at h
    split at h
    · rename_i y1 hx
      injection h with h;subst h
      obtain⟨⟨g1,g1s⟩,w1⟩:=ih s y1 k pre post hx hl hg hk ht hpk
      refine⟨⟨by unfold YR.main;rw [unX_2];exact g1,fun s hs=>?_⟩,fun Q hq=>WP.block (w1 _ ⟨qln hq.1,fun s hs=>qln (hq.2 (unX id s) (List.mem_map.2 ⟨s,hs,rfl⟩))⟩)⟩
      obtain⟨s',hs',rfl⟩:=List.mem_map.1 hs
      rw [unX_2];exact g1s s' hs'
    · cases h
    · cases h
  | loop c ih =>
    intro s y k pre post h hl hg hk ht hpk
    rw [qea] at h
    have key:∀(f:Nat) (s:YS) (y:YR XO) (k:Nat) (pre post:List (List D)),yloop P pc mc F n ks kI n0 c (fun s=>qea P pc mc yc F n ks kI n0 c s) f s=.ok y→JY s.1 s.2.1→1000000∉s.1→getL s.2.1 1000000=cntD k→C.E.tl=pre++y.ys++post→pre.length=k→Goes k y∧∀Q,Ends C.E.l y Q→WPIn C n c Q (ovE C.E.l s.1 s.2.1) s.2.2:=by
      intro f
      induction f with
      | zero=>intro s y k pre post h;cases h
      | succ f ihf =>
        intro s y k pre post h hl hg hk ht hpk
        rw [yloop] at h
        split at h
        · rename_i y1 hx
          split at h
          · rename_i ss hss
            have aft:∀(Q:Exit→(Nat→D)→List Bx→Prop),(∀s∈y1.stops,JY s.2.1 s.2.2.1)→(∀z∈ss,QA C.E.l Q z)→∀s∈y1.stops,QA C.E.l (qdk (WPIn C n c Q) Q) s:=fun Q hJ hz s hs=>by
              obtain⟨_,h2⟩:=qa6 (L:=C.E.l) hss hJ
              obtain⟨h1,h2⟩:=h2 s hs
              have hJs:=hJ s hs
              obtain⟨ex,ys,l,st⟩:=s
              cases ex with
              | normal =>
                obtain⟨ex,l',st',q1,q2⟩:=h1 rfl
                have hq:=hz _ q1
                unfold QA at hq
                rw [ov_nil] at hq
                rw [qbv] at q2
                exact WPIn.less (qb2 hJs) (qmw hp hm hI hC q2 hq)
              | _=>exact hz _ (h2 fun h=>by cases h)
            split at h
            · rename_i s' hmain
              split at h
              · rename_i z hz
                injection h with h;subst h
                have ht1:C.E.tl=pre++y1.ys++(z.ys++post):=by rw [ht];simp
                obtain⟨⟨g1,g1s⟩,w1⟩:=ih s y1 k pre _ hx hl hg hk ht1 hpk
                rw [hmain] at g1
                have ht2:C.E.tl=(pre++y1.ys)++z.ys++post:=by rw [ht];simp
                obtain⟨⟨g2,g2s⟩,w2⟩:=ihf s' z (k+y1.ys.length) (pre++y1.ys) post hz g1.1 g1.2.1 g1.2.2 ht2 (by simp [hpk])
                refine⟨⟨⟨g2.1,g2.2.1,by rw [g2.2.2];show cntD _=cntD (k+(y1.ys++z.ys).length);congr 1;simp;omega⟩,fun s hs=>?_⟩,fun Q hq=>WPIn.unroll (w1 _ ⟨?_,?_⟩)⟩
                · rcases List.mem_append.1 hs with hs|hs
                  · exact (qa6 (L:=C.E.l) hss g1s).1 s hs
                  · exact g2s s hs
                · rw [hmain];exact w2 Q ⟨hq.1,fun s hs=>hq.2 s (by simp [hs])⟩
                · exact aft Q g1s fun z hz=>hq.2 z (by simp [hz])
              · cases h
              · cases h
            · rename_i m hne
              injection h with h;subst h
              obtain⟨⟨g1,g1s⟩,w1⟩:=ih s y1 k pre post hx hl hg hk ht hpk
              refine⟨⟨g1,(qa6 (L:=C.E.l) hss g1s).1⟩,fun Q hq=>WPIn.unroll (w1 _ ⟨?_,aft Q g1s fun z hz=>hq.2 z hz⟩)⟩
              have hq1:=hq.1
              dsimp only at hq1
              cases hm1:y1.main with
              | mk ex r =>
                rw [hm1] at hq1
                cases ex with
                | normal=>exact (hne r (by rw [hm1])).elim
                | _=>exact hq1
          · cases h
          · cases h
        · cases h
        · cases h
    obtain⟨g1,w1⟩:=key F s y k pre post h hl hg hk ht hpk
    exact⟨g1,fun Q hq=>WP.loop_in (w1 Q hq)⟩
  | exit id =>
    intro s y k pre post h hl hg hk ht hpk
    injection h with h;subst h
    exact⟨⟨⟨hl,hg,hk⟩,fun s hs=>by simp at hs⟩,fun Q hq=>WP.exit hq.1⟩
  | ret =>
    intro s y k pre post h hl hg hk ht hpk
    injection h with h;subst h
    exact⟨⟨⟨hl,hg,hk⟩,fun s hs=>by simp at hs⟩,fun Q hq=>WP.ret hq.1⟩
  | rangeFunc g ps assign body iha ihb =>
    intro s y k pre post h hl hg hk ht hpk
    obtain⟨ps⟩:=ps
    obtain⟨ys,l,st⟩:=s
    rw [qea] at h
    split at h
    · rename_i ex l' st' hx
      injection h with h;subst h
      obtain⟨m0,hf⟩:=qlw hx
      dsimp only at hf hx
      have hat:∀m,l'=(1000000,getL l 1000000)::fltL m l (1000000::ks)→∀t,getL l' t=if t=1000000 then getL l 1000000 else getL (fltL m l (1000000::ks)) t:=fun m hf t=>by
        rw [hf]
        show (bif Nat.beq t 1000000 then _ else _)=_
        cases h:Nat.beq t 1000000 with
        | true=>rw [if_pos (Nat.eq_of_beq_eq_true h)];rfl
        | false=>rw [if_neg (Nat.ne_of_beq_eq_false h)];rfl
      have hJ':JY (qgj ys (1000000::ks)) l':=fun t ht'=>by
        have h1:t≠1000000:=fun e=>hg (e▸(qby.1 ht').1)
        rw [hat m0 hf,if_neg h1,qmp]
        split
        · exact hl t (qby.1 ht').1
        · rfl
      refine⟨⟨⟨hJ',qd4 hg,by show getL l' 1000000=_;rw [hat m0 hf,if_pos rfl];exact hk⟩,fun s hs=>by simp at hs⟩,fun Q hq=>?_⟩
      have hq1:Q ex (ovE C.E.l (qgj ys (1000000::ks)) l') st':=hq.1
      have he:∀m,l'=(1000000,getL l 1000000)::fltL m l (1000000::ks)→ovE C.E.l (qgj ys (1000000::ks)) l'=upd (envL (fltO m C.E.l ys l (1000000::ks))) 1000000 (getL l 1000000):=fun m hf=>by
        rw [←flt_ov]
        funext t
        unfold upd ovE
        rw [hat m hf]
        by_cases h1:t=1000000
        · subst h1;rw [if_neg (qd4 hg),if_pos rfl,if_pos rfl]
        · rw [if_neg h1,if_neg h1]
      rw [qbv] at hx
      split at hx
      · cases hx
      · refine qlv hC.1 hC.2 hI hl hg (fun lst xs S ex l' S' hr=>?_) hx (fun m hm=>by rw [←he m hm];exact hq1)
        split at hr
        · rename_i l1 S1 hx
          exact⟨l1,S1,fun C1 K hk=>qa4 hp hm hI assign true C1 (fun h=>by cases h) K _ _ _ _ _ hx hk,fun C2 K hk=>qa4 hp hm hI body true C2 (fun h=>by cases h) K _ _ _ _ _ hr hk⟩
        · cases hr
        · cases hr
        · cases hr
    · cases h
    · cases h
  | _=>intro s y k pre post h hl hg hk ht hpk;cases h
end
/-! ### Functions that call back -/
def posY:Nat→List (Option D)→List Nat
  | _,[]=>[]
  | i,none::r=>i::posY (i+1) r
  | i,some _::r=>posY (i+1) r
def isTD:D→Bool
  | .a (.v (.bool true))=>true
  | _=>false
theorem isT_eq {d:D} (h:isTD d=true):d=.a (.v (.bool true)):=by
  unfold isTD at h
  split at h
  · rfl
  · cases h
section
variable (P:Program)
def outD (n:Nat) (rs:List ResultVar) (x:XO):Option D :=
  match (match x.1 with|.ret=>true|.normal=>true|_=>false) with
  | true=>(match rs with
    | []=>some (.t [])
    | [r]=>(match qec P n (getL x.2.2.1) x.2.2.2 r with
      | some d=>if scal d=true then some d else none
      | none=>none)
    | _=>none)
  | false=>none
def outs (n:Nat) (rs:List ResultVar):List XO→Option (List D)
  | []=>some []
  | x::r=>(match outD P n rs x with
    | some d=>if isTD (getL x.2.2.1 1000000)=true then (match outs n rs r with
      | some l=>some (d::l)
      | none=>none) else none
    | none=>none)
variable {P}
theorem res1_less {n:Nat} {e' e:Nat→D} (h:qbr e' e) {st:List Bx} {r:ResultVar} {d:D} (hr:qec P n e' st r=some d) (hd:scal d=true):qec P n e st r=some d:=by
  cases r with
  | tmp t =>
    simp only [qec] at hr ⊢
    split at hr
    · rename_i ht
      injection hr with hr
      rw [if_pos ht]
      rcases h t with h1|h1
      · rw [←hr,h1] at hd;cases hd
      · rw [←h1,hr]
    · cases hr
  | cell t T =>
    simp only [qec] at hr ⊢
    split at hr
    · rename_i ht
      rw [if_pos ht]
      rcases h t with h1|h1
      · rw [h1] at hr;cases hr
      · rw [←h1];exact hr
    · cases hr
theorem qim {L n:Nat} {rs:List ResultVar} {x:XO} {d:D} (hJ:JY x.2.1 x.2.2.1) (h:outD P n rs x=some d) {O:D→List Bx→D→Prop} (hO:O d x.2.2.2 (ovE L x.2.1 x.2.2.1 1000000)):QA L (retM P n rs O) x:=by
  unfold outD at h
  split at h
  · rename_i hex
    have hres:resM P n (ovE L x.2.1 x.2.2.1) x.2.2.2 rs d:=by
      split at h
      · injection h with h;subst h
        exact⟨[],rfl,rfl⟩
      · rename_i r
        split at h
        · rename_i d1 h1
          split at h
          · rename_i hs
            injection h with h;subst h
            exact res1_less (qb2 hJ) (by rw [←qad];exact h1) hs
          · cases h
        · cases h
      · cases h
    obtain⟨ex,ys,l,st⟩:=x
    cases ex with
    | normal=>exact⟨d,hres,hO⟩
    | ret=>exact⟨d,hres,hO⟩
    | _=>cases hex
  · cases h
theorem qil {n:Nat} {rs:List ResultVar}:∀{xs:List XO} {l:List D},outs P n rs xs=some l→∀x∈xs,∃d∈l,outD P n rs x=some d∧getL x.2.2.1 1000000=.a (.v (.bool true))
  | [],_,_,x,hx=>by simp at hx
  | y::r,l,h,x,hx=>by
    rw [outs] at h
    split at h
    · rename_i d hd
      split at h
      · rename_i ht
        split at h
        · rename_i l' hl
          injection h with h;subst h
          rcases List.mem_cons.1 hx with rfl|hx
          · exact⟨d,by simp,hd,isT_eq ht⟩
          · obtain⟨d2,q1,q2⟩:=qil hl x hx
            exact⟨d2,by simp [q1],q2⟩
        · cases h
      · cases h
    · cases h
/-! ### What is handed back: boxes that nobody writes again are rows like others -/
def qgb:Nat→EL→List Bx→EL×List Bx
  | 0,l,st=>(l,st)
  | i+1,l,st=>(match st[i]? with
    | some (.cell row)=>if row.all clA=true then qgb i (l.map fun p=>(p.1,frzD i row p.2)) (st.set i .gone) else qgb i l st
    | _=>qgb i l st)
def Frz (e:Nat→D) (st:List Bx) (e2:Nat→D) (st2:List Bx):Prop:=∀(P:Program) (C:Cx P) (w:World) (x:Nat→Prop) (bl:List Nat) (a:Act) (n:Nat),Sat C ⟨w,x,bl,st⟩ a n e→Sat C ⟨w,x,bl,st2⟩ a n e2
theorem qnu {i:Nat} {row:List A}:∀l:EL,envL (l.map fun p=>(p.1,frzD i row p.2))=fun t=>frzD i row (envL l t)
  | []=>rfl
  | (t',d)::r=>by
    funext t
    show upd (envL (r.map fun p=>(p.1,frzD i row p.2))) t' (frzD i row d) t=frzD i row (upd (envL r) t' d t)
    rw [qnu r]
    unfold upd
    split<;>rfl
theorem qcq:∀(i:Nat) (l:EL) (st:List Bx),Frz (envL l) st (envL (qgb i l st).1) (qgb i l st).2
  | 0,_,_=>fun _ _ _ _ _ _ _ h=>h
  | i+1,l,st=>by
    unfold qgb
    split
    · rename_i row hs
      split
      · rename_i hc
        intro P C w x bl a n h
        have h1:=h.freeze hs hc
        rw [←qnu] at h1
        exact qcq i _ _ P C w x bl a n h1
      · exact qcq i l st
    · exact qcq i l st
theorem WP.frz {P:Program} {C:Cx P} {n:Nat} {c:Code} {Q:Exit→(Nat→D)→List Bx→Prop} {e:Nat→D} {st:List Bx} (h:WP C n c (fun ex e st=>∃e2 st2,Frz e st e2 st2∧Q ex e2 st2) e st):WP C n c Q e st :=
  fun a w x bl hm=>wpIn_mono (h a w x bl hm) fun _ _ _ ⟨x',bl',_,_,h2,e2,st2,hf,h3⟩=>⟨x',bl',e2,st2,hf _ _ _ _ _ _ _ h2,h3⟩
variable (P) (tb:FuncId→Option XF) (F:Nat) (known:FuncId→List D→Option D) (kI:FuncId→List A→List Bx→Option (List (List D)))
def yfun (x:XF) (pc:FuncId→List D→XM D) (mc:FuncId→List D→List Bx→XM (D×List Bx)) (yc:FuncId→List (Option D)→List Bx→Nat→XM (YR D)) (az:List (Option D)) (ex:List Bx) (cnt:Nat):XM (YR D) :=
  match x.fn.body with
  | some c=>if (decide (az.length≤x.fn.ntmps)&&decide (x.fn.ntmps≤1000000)&&!(x.fn.name == "runtime.NumGoroutine"))=true then (match qea P (ownP x pc) mc yc F x.fn.ntmps x.ks kI ex.length c (posY 0 az,(1000000,cntD cnt)::argL 0 (az.map fun o=>o.getD .junk),ex) with
    | .ok y=>(match outD P x.fn.ntmps x.fn.results.toList y.main,outs P x.fn.ntmps x.fn.results.toList y.stops with
      | some d,some ds=>.ok ⟨d,ds,y.ys⟩
      | _,_=>.no [840])
    | .no m=>.no m
    | .up=>.no []) else .no [793]
  | none=>.no [794]
structure Lv where
  pc:FuncId→List D→XM D
  mc:FuncId→List D→List Bx→XM (D×List Bx)
  yc:FuncId→List (Option D)→List Bx→Nat→XM (YR D)
def Lv.ki (v:Lv) (gf:FuncId) (caps:List A) (ex:List Bx):Option (List (List D)) :=
  match v.yc gf (none::caps.map fun x=>some (D.a x)) ex 0 with
  | .ok z=>some z.ys
  | _=>none
def lev:Nat→Lv
  | 0=>⟨fun _ _=>.no [795],fun _ _ _=>.no [795],fun _ _ _ _=>.no [795]⟩
  | k+1 =>
    ⟨fun f ds=>(match known f ds with
      | some d=>.ok d
      | none=>(match tb f with
        | some x=>if x.mem=true then .up else (match xfun P F (lev k).ki x (lev k).pc (lev k).mc ds [] with
          | .ok (l,st)=>(match xres P x.fn.ntmps (getL l) st x.fn.results.toList with
            | some d=>fD d fun d=>.ok d
            | none=>(match xres P x.fn.ntmps (getL (qgb st.length l st).1) (qgb st.length l st).2 x.fn.results.toList with
              | some d=>fD d fun d=>.ok d
              | none=>.up))
          | .no m=>.no m
          | .up=>.no [])
        | none=>.no [796])),
     fun f ds st=>(match tb f with
      | some x=>(match xfun P F (lev k).ki x (lev k).pc (lev k).mc ds st with
        | .ok (l,st')=>(match xresM P x.fn.ntmps (getL l) st' x.fn.results.toList with
          | some d=>(match cutS d st' (st'.length+1-st.length) st.length with
            | some st1=>fL st1 fun st1=>fD d fun d=>.ok (d,st1)
            | none=>.no [797])
          | none=>.no [798])
        | .no m=>.no m
        | .up=>.no [])
      | none=>.no [796]),
     fun f az ex cnt=>(match tb f with
      | some x=>yfun P F (lev k).ki x (lev k).pc (lev k).mc (lev k).yc az ex cnt
      | none=>.no [796])⟩
variable {P tb F known kI}
theorem DG.mono {E:Env P} {f:FuncId} {ds:List D} {st0:List Bx} {g:D} {O O':D→List Bx→D→Prop} (h:DG E f ds st0 g O) (hO:∀d st g,O d st g→O' d st g):DG E f ds st0 g O':=by
  refine⟨h.1,fun V Nx vs h1 h2 h3 h4 h5 h6 h7=>(h.2 V Nx vs h1 h2 h3 h4 h5 h6 h7).mono ?_⟩
  rintro en w' ⟨v,q1,d,st',g',x',bl',q2,q3⟩
  exact⟨v,q1,d,st',g',x',bl',hO _ _ _ q2,q3⟩
theorem qfq:∀(az:List (Option D)) (i t:Nat),t∈posY i az→i≤t∧t<i+az.length
  | [],_,_,h=>by simp [posY] at h
  | none::r,i,t,h=>by
    rw [posY] at h
    rcases List.mem_cons.1 h with rfl|h
    · exact⟨Nat.le_refl _,by simp⟩
    · have:=qfq r (i+1) t h;exact⟨by omega,by simp;omega⟩
  | some _::r,i,t,h=>by
    rw [posY] at h
    have:=qfq r (i+1) t h;exact⟨by omega,by simp;omega⟩
theorem qme:∀(az:List (Option D)) (i t:Nat),i≤t→t<i+az.length→(t∈posY i az↔az.getD (t-i) (some .junk)=none)
  | [],i,t,h1,h2=>by simp at h2;omega
  | o::r,i,t,h1,h2=>by
    by_cases ht:t=i
    · subst ht
      cases o with
      | none=>simp [posY]
      | some d =>
        rw [posY,Nat.sub_self]
        constructor
        · intro h;have:=qfq r (t+1) t h;omega
        · intro h;cases h
    · have h3:t-i=(t-(i+1))+1:=by omega
      have ih:=qme r (i+1) t (by omega) (by simp at h2;omega)
      rw [h3]
      cases o with
      | none =>
        rw [posY]
        constructor
        · intro h
          rcases List.mem_cons.1 h with h|h
          · exact absurd h ht
          · exact ih.1 h
        · intro h;exact List.mem_cons_of_mem _ (ih.2 h)
      | some d=>rw [posY];exact ih
theorem qmu:∀(ds:List D) (i t:Nat),i≤t→t<i+ds.length→getL (argL i ds) t=ds.getD (t-i) .junk
  | [],i,t,h1,h2=>by simp at h2;omega
  | d::r,i,t,h1,h2=>by
    have he:argL i (d::r)=putL (argL (i+1) r) (some i) d:=rfl
    rw [he,qar]
    by_cases ht:t=i
    · subst ht;simp
    · rw [if_neg (fun e=>ht (by injection e with e;exact e.symm)),qmu r (i+1) t (by omega) (by simp at h2;omega),show t-i=(t-(i+1))+1 by omega];rfl
theorem qnz:∀(ds:List D) (i t:Nat),¬(i≤t∧t<i+ds.length)→getL (argL i ds) t=.junk
  | [],_,_,_=>rfl
  | d::r,i,t,h=>by
    have he:argL i (d::r)=putL (argL (i+1) r) (some i) d:=rfl
    rw [he,qar,if_neg (fun e=>h (by injection e with e;subst e;simp)),qnz r (i+1) t (fun h2=>h (by simp;omega))]
theorem qn1 {x:XF} {f:FuncId} {pc:FuncId→List D→XM D} {mc:FuncId→List D→List Bx→XM (D×List Bx)} {yc:FuncId→List (Option D)→List Bx→Nat→XM (YR D)} (hf:P.funcs[f]? = some x.fn) (hp:∀f ds d,pc f ds=.ok d→qab P f ds d) (hm:∀f ds st d st1,mc f ds st=.ok (d,st1)→DM P f ds st d st1) (hy:YcOk P yc) (hI:∀gf caps ex tl,kI gf caps ex=some tl→DItM P gf caps ex tl) {az:List (Option D)} {ex:List Bx} {k:Nat} {z:YR D} (h:yfun P F kI x pc mc yc az ex k=.ok z) (E:Env P) (pre post:List (List D)) (ht:E.tl=pre++z.ys++post) (hpk:pre.length=k) :
    DG E f (qgm E.l az) ex (cntD k) fun d _ g=>(d=z.main∧g=cntD (k+z.ys.length))∨(d∈z.stops∧g=.a (.v (.bool true))):=by
  unfold yfun at h
  split at h
  · rename_i c hb
    split at h
    · rename_i hc
      rw [Bool.and_eq_true] at hc
      have hn:(x.fn.name == "runtime.NumGoroutine")=false:=by simpa using hc.2
      have hc1:=hc.1
      rw [Bool.and_eq_true,decide_eq_true_iff,decide_eq_true_iff] at hc1
      have hln:(qgm E.l az).length=az.length:=List.length_map _
      have hln2:(az.map fun o=>o.getD (.junk:D)).length=az.length:=List.length_map _
      split at h
      · rename_i y hx
        split at h
        · rename_i d ds hd hds
          injection h with h;subst h
          refine DG.introV hf hb rfl (by rfl) hn (by rw [hln];exact hc.1) (fun C hro hE hon hV=>?_)
          subst hE
          have hg0:1000000∉posY 0 az:=fun h=>by have:=qfq az 0 _ h;omega
          have hJ:JY (posY 0 az) ((1000000,cntD k)::argL 0 (az.map fun o=>o.getD .junk)):=by
            refine JY.cnt (fun t htm=>?_) hg0
            obtain⟨h1,h2⟩:=qfq az 0 t htm
            rw [qmu _ 0 t h1 (by rw [hln2];exact h2)]
            have:=(qme az 0 t h1 h2).1 htm
            rw [List.getD_eq_getElem?_getD] at this ⊢
            rw [List.getElem?_map]
            have hlt:t-0<az.length:=by omega
            rw [List.getElem?_eq_getElem hlt] at this ⊢
            simp only [Option.getD_some,Option.map_some] at this ⊢
            rw [this];rfl
          obtain⟨⟨g1,g1s⟩,w1⟩:=qls (C:=C) hon ⟨hro,by rw [hV];exact Nat.le_refl _⟩ (qjl hp) hm hy hI c _ y k pre post hx hJ hg0 (by rw [getL];rfl) ht hpk
          have henv:qbr (ovE C.E.l (posY 0 az) ((1000000,cntD k)::argL 0 (az.map fun o=>o.getD .junk))) (upd (qaj 0 (qgm C.E.l az)) 1000000 (cntD k)):=fun t=>by
            have he:(1000000,cntD k)::argL 0 (az.map fun o=>o.getD (.junk:D))=putL (argL 0 (az.map fun o=>o.getD (.junk:D))) (some 1000000) (cntD k):=rfl
            unfold ovE upd
            by_cases h6:t=1000000
            · subst h6
              rw [if_neg hg0,if_pos rfl,he,qar,if_pos rfl];exact .inr rfl
            · rw [if_neg h6]
              have h7:¬some 1000000=some t:=fun e=>h6 (by injection e with e;exact e.symm)
              by_cases hlt:t<az.length
              · rw [qbx,if_pos (Nat.zero_le _),Nat.sub_zero]
                have hfi:(qgm C.E.l az).getD t .undef=(az[t]).getD (yv C.E.l):=by
                  rw [List.getD_eq_getElem?_getD];unfold qgm;rw [List.getElem?_map,List.getElem?_eq_getElem hlt];rfl
                rw [hfi]
                have hpos:=qme az 0 t (Nat.zero_le _) (by omega)
                rw [Nat.sub_zero,List.getD_eq_getElem?_getD,List.getElem?_eq_getElem hlt,Option.getD_some] at hpos
                by_cases h8:t∈posY 0 az
                · rw [if_pos h8,hpos.1 h8];exact .inr rfl
                · rw [if_neg h8,he,qar,if_neg h7,qmu _ 0 t (Nat.zero_le _) (by rw [hln2];omega),Nat.sub_zero,List.getD_eq_getElem?_getD,List.getElem?_map,List.getElem?_eq_getElem hlt]
                  cases ho:az[t] with
                  | none=>exact absurd (hpos.2 ho) h8
                  | some d=>exact .inr rfl
              · have h8:t∉posY 0 az:=fun h=>by have:=qfq az 0 t h;omega
                rw [if_neg h8,he,qar,if_neg h7,qnz _ 0 t (by rw [hln2];omega)]
                exact .inl rfl
          refine WP.less henv (w1 _ ⟨qim g1.1 hd ?_,fun s hs=>?_⟩)
          · left
            refine⟨rfl,?_⟩
            unfold ovE
            rw [if_neg g1.2.1];exact g1.2.2
          · obtain⟨d2,q1,q2,q3⟩:=qil hds s hs
            refine qim (g1s s hs) q2 (.inr ⟨q1,?_⟩)
            rcases qb2 (L:=C.E.l) (g1s s hs) 1000000 with h6|h6
            · rw [←qad,q3] at h6;cases h6
            · rw [←h6,←qad];exact q3
        · cases h
      · cases h
      · cases h
    · cases h
  · cases h
theorem qk3 (htb:∀f x,tb f=some x→P.funcs[f]? = some x.fn) (hk:∀f ds d,known f ds=some d→qab P f ds d):∀k:Nat,(∀f ds d,(lev P tb F known k).pc f ds=.ok d→qab P f ds d)∧(∀f ds st d st1,(lev P tb F known k).mc f ds st=.ok (d,st1)→DM P f ds st d st1)∧YcOk P (lev P tb F known k).yc
  | 0=>⟨fun f ds d h=>by (unfold lev at h;cases h),fun f ds st d st1 h=>by (unfold lev at h;cases h),fun f az ex k z h=>by (unfold lev at h;cases h)⟩
  | k+1=>by
    obtain⟨hp,hm,hy⟩:=qk3 htb hk k
    have hI:∀gf caps ex tl,(lev P tb F known k).ki gf caps ex=some tl→DItM P gf caps ex tl:=fun gf caps ex tl h=>by
      unfold Lv.ki at h
      split at h
      · rename_i z hz
        injection h with h;subst h
        intro E hE
        have:=hy _ _ _ _ _ hz E [] [] (by simp [hE]) rfl
        have hfl:qgm E.l (none::caps.map fun x=>some (D.a x))=yv E.l::caps.map D.a:=by
          unfold qgm;simp
        rw [hfl] at this
        refine this.mono fun d st g hO=>?_
        rcases hO with ⟨_,h2⟩|⟨_,h2⟩
        · left;rw [h2,Nat.zero_add];rfl
        · right;exact h2
      · cases h
    refine⟨fun f ds d h=>?_,fun f ds st d st1 h=>?_,fun f az ex cnt z h=>?_⟩
    · unfold lev at h
      dsimp only at h
      split at h
      · rename_i d1 h1
        injection h with h;subst h
        exact hk _ _ _ h1
      · split at h
        · rename_i x hx
          split at h
          · cases h
          split at h
          · rename_i l st hf
            split at h
            · rename_i d1 hr
              rw [qb3] at h
              injection h with h;subst h
              obtain⟨c,ex,h1,h2,h3,h4,h5⟩:=qfh hf
              refine qab.goV (htb _ _ hx) h1 rfl (by rfl) h3 h2 (fun C hC hV=>WP.weaken (qf3 ds) (qa4 (qjl hp) hm hI c false C (fun _=>⟨hC,by rw [hV];exact Nat.le_refl _⟩) _ _ _ ex l st h4 ?_))
              rw [qad] at hr
              have:=qh6 P hr
              rcases h5 with rfl|rfl<;>exact this
            · split at h
              · rename_i d1 hr
                rw [qb3] at h
                injection h with h;subst h
                obtain⟨c,ex,h1,h2,h3,h4,h5⟩:=qfh hf
                refine qab.goV (htb _ _ hx) h1 rfl (by rfl) h3 h2 (fun C hC hV=>WP.frz (WP.weaken (qf3 ds) (qa4 (qjl hp) hm hI c false C (fun _=>⟨hC,by rw [hV];exact Nat.le_refl _⟩) _ _ _ ex l st h4 ?_)))
                rw [qad] at hr
                have:=qh6 P hr
                refine⟨_,_,qcq st.length l st,?_⟩
                rcases h5 with rfl|rfl<;>exact this
              · cases h
          · cases h
          · cases h
        · cases h
    · unfold lev at h
      dsimp only at h
      split at h
      · rename_i x hx
        split at h
        · rename_i l st' hf
          split at h
          · rename_i d1 hr
            split at h
            · rename_i s1 hcut
              rw [qcu,qb3] at h
              injection h with h;injection h with h6 h7;subst h6;subst h7
              obtain⟨c,ex,h1,h2,h3,h4,h5⟩:=qfh hf
              rw [qad] at hr
              have hres:=qlu P hr
              by_cases hle:st.length≤st'.length
              · obtain⟨c1,c2,c3,c4⟩:=qfz hcut hle (by omega)
                have h2':=h2
                rw [Bool.and_eq_true,decide_eq_true_iff,decide_eq_true_iff] at h2'
                refine⟨c1,c2,c3,DG.introV (htb _ _ hx) h1 rfl (by rfl) h3 h2 (fun C hro hE hon hV=>WP.weaken (qhy ds (by omega) _) (qa4 (qjl hp) hm hI c false C (fun _=>⟨hro,by rw [hV];exact Nat.le_refl _⟩) _ _ _ ex l st' h4 ?_))⟩
                rcases h5 with rfl|rfl<;>exact⟨_,hres,rfl,c4⟩
              · exfalso
                have:st'.length+1-st.length=0:=by omega
                rw [this] at hcut;cases hcut
            · cases h
          · cases h
        · cases h
        · cases h
      · cases h
    · intro E pre post ht hpk
      unfold lev at h
      dsimp only at h
      split at h
      · rename_i x hx
        exact qn1 (htb _ _ hx) hp hm hy hI h E pre post ht hpk
      · cases h
theorem runsL {L:List (Nat×XF)} {k:Nat} {f:FuncId} {ds:List D} {d:D} (hL:∀p∈L,P.funcs[p.1]? = some p.2.fn) (hk:∀f ds d,known f ds=some d→qab P f ds d) (h:(lev P (getT L) F known k).pc f ds=.ok d):qab P f ds d:=(qk3 (getT_ok hL) hk k).1 f ds d h
end
noncomputable def aw28L:List (Nat×XF):=[(7,⟨Tryz.f7,[0,1,3,4],false,false⟩),(10,⟨Tryz.f10,[0,1,2,3,4,7,8,9,10,11,12,18],false,false⟩),(18,⟨Tryz.f18,[0,1,2,3,4,5,10,25],false,false⟩),(19,⟨Tryz.f19,[0,2,3,4,5,6,7,8,9,17,23,27,35,48],false,false⟩),(21,⟨Tryz.f21,[0,1,2,3,5,6,7,8,9,15],false,false⟩),(22,⟨Tryz.f22,[0,1,4,5],false,false⟩),(23,⟨Tryz.f23,[0,2,3,4,5,11,12,27,38,61,65,85,98,105,128,133],false,false⟩),(37,⟨Tryz.f37,[0,1,2,3,8,9],false,false⟩),(38,⟨Tryz.f38,[0,1,2,3,4,11,12,13],false,false⟩),(39,⟨Tryz.f39,[0,1,2,6,14],false,false⟩),(46,⟨Tryz.f46,[0,2,3,4,5,6,8,11,18,27,53],false,false⟩),(47,⟨Tryz.f47,[0,1,4],false,false⟩),(48,⟨Tryz.f48,[0,1,2,6],false,false⟩),(49,⟨Tryz.f49,[0,1,2,6,7,8,9,10,21,36,43,52,60,69,78,90],false,false⟩),(50,⟨Tryz.f50,[0,1,2,3,4,5,10,21],false,false⟩),(51,⟨Tryz.f51,[0,1,2,4],false,false⟩),(52,⟨Tryz.f52,[0,1,2,3,4,9,10,23,38,50,57,72,80,88,102,115],false,false⟩),(53,⟨Tryz.f53,[0,1,2,3,4,6,7,8,10,17],false,false⟩),(54,⟨Tryz.f54,[0,1,3,4,5],false,false⟩),(55,⟨Tryz.f55,[0,2,3],false,false⟩),(56,⟨Tryz.f56,[0,1,2,5],false,false⟩),(57,⟨Tryz.f57,[0,1,2,3,6,7],false,false⟩),(58,⟨Tryz.f58,[0,2,4,5,29,44,45,46,47,69],false,false⟩),(59,⟨Tryz.f59,[0,1,2],false,false⟩),(75,⟨Tryz.f75,[0,1,4,5,6,9,10,13],false,false⟩),(76,⟨Tryz.f76,[0,1,2,3,5,6,7,8,9],false,false⟩),(77,⟨Tryz.f77,[0,1,2,3,4,10,11,12,14,15,17,36,41,42,43,44,49,57,58,59,60],false,false⟩),(78,⟨Tryz.f78,[0,1,2,4,5,7,8,10,21],false,false⟩),(80,⟨Tryz.f80,[0,1,2,5],false,false⟩),(87,⟨Tryz.f87,[0,2,3,7,11,31,42],false,false⟩),(88,⟨Tryz.f88,[0,2,3,6,22,29,40,50,59],false,false⟩),(89,⟨Tryz.f89,[0,2,3,4,5,23,27,34],false,false⟩),(90,⟨Tryz.f90,[0,1,4,12,19],false,false⟩),(91,⟨Tryz.f91,[0,1,2,4],false,false⟩),(92,⟨Tryz.f92,[0,1,2,6],false,false⟩),(93,⟨Tryz.f93,[0,1,4,5,12,18,33,41],false,false⟩),(94,⟨Tryz.f94,[0,1,2,5,6,7,8,14,29,43,51,69],false,false⟩),(95,⟨Tryz.f95,[0,1,2,3,6,8,9,10,11,12,13,24,35,45,61,65,79,105,112],false,false⟩),(96,⟨Tryz.f96,[0,1,2,3,4,5,6,7,8,52],false,false⟩),(97,⟨Tryz.f97,[0,2,4,5,6,7,8,9,15],false,false⟩),(98,⟨Tryz.f98,[0,2],false,false⟩),(99,⟨Tryz.f99,[0,1,2,3,4],false,false⟩),(100,⟨Tryz.f100,[0,1,2,3,4,5,6],false,false⟩),(101,⟨Tryz.f101,[0,2,3,4,23,30],false,false⟩),(102,⟨Tryz.f102,[0,1,2,3,4],false,false⟩),(103,⟨Tryz.f103,[0,2,3,4,5,6,7,27,38,43,44,45,46,72],false,false⟩),(104,⟨Tryz.f104,[0,2,3,9,16],false,false⟩),(105,⟨Tryz.f105,[0,1,2,3],false,false⟩),(106,⟨Tryz.f106,[0,1,2,3,4,5,6],false,false⟩),(107,⟨Tryz.f107,[0,1,2],false,false⟩),(108,⟨Tryz.f108,[0,1,2,4,5,6,7,14,18],false,false⟩),(109,⟨Tryz.f109,[0,1],false,false⟩),(110,⟨Tryz.f110,[0,1,4,5],false,false⟩),(111,⟨Tryz.f111,[0,1],false,false⟩),(112,⟨Tryz.f112,[0,2,3,19,20],false,false⟩),(113,⟨Tryz.f113,[0,1],false,false⟩),(114,⟨Tryz.f114,[0,1,2,3],false,false⟩),(115,⟨Tryz.f115,[0,1,2,3,4,5,6,7,14,21],false,false⟩),(116,⟨Tryz.f116,[0,1,2],false,false⟩),(117,⟨Tryz.f117,[0,1,2,3,4,5,6,7,8,11],false,false⟩),(118,⟨Tryz.f118,[0,1,2,6,7,8,9,18],false,false⟩),(119,⟨Tryz.f119,[0,1,2,3,5,7,8,34],false,false⟩),(120,⟨Tryz.f120,[0,1,2,3,5,7,8,9,10,11,17,18,19,20,35],false,false⟩),(121,⟨Tryz.f121,[0,1,2,3,5,6,7,8,9,10,24],false,false⟩),(131,⟨Tryz.f131,[0,1,2,3,4],true,false⟩),(132,⟨Tryz.f132,[0,1,4],false,false⟩),(133,⟨Tryz.f133,[0,1,2,7,9,10,11,12,13,20,21,22,23,31],false,false⟩),(134,⟨Tryz.f134,[0,1,2,3,4,5,6,11],false,false⟩),(135,⟨Tryz.f135,[0,1,3,4],false,false⟩),(136,⟨Tryz.f136,[0,1,4,5,10],false,false⟩),(137,⟨Tryz.f137,[0,2,4],false,false⟩),(138,⟨Tryz.f138,[0,2,3],false,false⟩),(142,⟨Tryz.f142,[0,2],false,false⟩),(143,⟨Tryz.f143,[0,2],false,false⟩),(144,⟨Tryz.f144,[0,2],false,false⟩),(145,⟨Tryz.f145,[0,2,3,4,9,17],false,false⟩),(146,⟨Tryz.f146,[0,2,3,4,17,27,35],false,false⟩),(147,⟨Tryz.f147,[0,1,2,6,7,8,9,14,27,33,44,50,63,72],false,false⟩),(148,⟨Tryz.f148,[0,1,2,3,8,9,10,11,12,13,18,23,35,50,60,71,84,95,105],false,false⟩),(149,⟨Tryz.f149,[0,1,2,3,4,8,10,11,12,13,21,30,44,54,62,72],false,false⟩),(150,⟨Tryz.f150,[0,2,3,4,6,8,10,12,14,16,18,20,22,24],false,false⟩),(151,⟨Tryz.f151,[0,1,2,4,5,21,22,27,33,34,51],false,false⟩),(152,⟨Tryz.f152,[0,1,2,3,6,33,34,51,52,57,81],false,false⟩),(153,⟨Tryz.f153,[0,1,2,3,4],false,false⟩),(154,⟨Tryz.f154,[0,1,4],false,false⟩),(155,⟨Tryz.f155,[0,1,2],false,false⟩),(156,⟨Tryz.f156,[0,1,2,3],false,false⟩),(157,⟨Tryz.f157,[0,1,2,4,5,6,7,16,20,24,28,33],false,false⟩),(158,⟨Tryz.f158,[0,1,2,3,4],false,false⟩),(159,⟨Tryz.f159,[0,1,2,6,7],false,false⟩),(160,⟨Tryz.f160,[0,1,2,3,4,6,7,8,9,10,11,12,20,24],false,false⟩),(161,⟨Tryz.f161,[0,1,3,4,5,12,16,32],false,false⟩),(162,⟨Tryz.f162,[0,1,2,6,7,8,14,15,18],false,false⟩),(163,⟨Tryz.f163,[0,1],false,false⟩),(164,⟨Tryz.f164,[0,1],false,false⟩),(165,⟨Tryz.f165,[0,1],false,false⟩),(166,⟨Tryz.f166,[0,1,2,3,10],false,false⟩),(167,⟨Tryz.f167,[0,1,2,3],false,false⟩),(168,⟨Tryz.f168,[0,1,4,5,7,8,9,16],false,false⟩),(169,⟨Tryz.f169,[0,2,3,5,6,8,9,10,11,12,20,25,26,27,28],false,false⟩),(170,⟨Tryz.f170,[0,1,2,3,6,8,9,12],false,false⟩),(171,⟨Tryz.f171,[0,1,2,3,4,5,6,7,8,9,11,12,13,15,16,27,30,34,38,39,40,41,58,60,64,74],false,false⟩),(172,⟨Tryz.f172,[0,1,3,4,5,6,11],false,false⟩),(173,⟨Tryz.f173,[0,1,2,4,5,7,9,13,14,15,20,21,22,23],false,false⟩),(174,⟨Tryz.f174,[0,1,4,5,7,8,9,16],false,false⟩),(175,⟨Tryz.f175,[0,1,2],false,false⟩),(176,⟨Tryz.f176,[0,1,2,4,6,7,8,9,22,25,29,37,42,58],false,false⟩),(177,⟨Tryz.f177,[0,2],false,false⟩),(182,⟨Tryz.f182,[0,1,2,3,4,9],false,false⟩),(184,⟨Tryz.f184,[0,1,2,4,7,8,9,20,27],false,false⟩),(185,⟨Tryz.f185,[0,1,4,5,7,8,9,16],false,false⟩),(186,⟨Tryz.f186,[0,1,4,5,7,8,9,16],false,false⟩),(187,⟨Tryz.f187,[0,1,2,3],false,false⟩),(188,⟨Tryz.f188,[0],false,false⟩),(189,⟨Tryz.f189,[0,1,2,6],false,false⟩),(190,⟨Tryz.f190,[0,1,2,3,4,9,24],false,false⟩),(191,⟨Tryz.f191,[0,1,2,4,5,11],false,false⟩),(192,⟨Tryz.f192,[0,1,2,6,7,8],false,false⟩),(193,⟨Tryz.f193,[0,1,2,6,7,8,13,19,30,42,52],false,false⟩),(194,⟨Tryz.f194,[0,1,2,6,7,8,11,14,25,33],false,false⟩),(195,⟨Tryz.f195,[0,1,2,3,8,9,10,17,29,38,43,61,68,74,98,109,117,129],false,false⟩),(196,⟨Tryz.f196,[0,2,4,17,19,20,21,22,32],false,false⟩),(197,⟨Tryz.f197,[0,1,2,4,5,7,9,11,13,14,22,37,39,40,41,42,48,51,52,53,54,59,64,65,66,67,72],false,false⟩),(198,⟨Tryz.f198,[0,1,2],false,false⟩),(199,⟨Tryz.f199,[0,1,4],false,false⟩),(200,⟨Tryz.f200,[0,1,2],false,false⟩),(201,⟨Tryz.f201,[0,1,4,5,7,8,9,16],false,false⟩),(202,⟨Tryz.f202,[0,1,4,6,16],true,false⟩),(203,⟨Tryz.f203,[0,1,2,3,4,6],false,false⟩),(204,⟨Tryz.f204,[0,1,2],false,false⟩),(205,⟨Tryz.f205,[0,1,2,29,31,32,42,47],false,false⟩),(206,⟨Tryz.f206,[0,1,2],false,false⟩),(207,⟨Tryz.f207,[0,1,2,3],false,false⟩),(208,⟨Tryz.f208,[0,1,2,3],false,false⟩),(209,⟨Tryz.f209,[0,1,2,3,4,5,6],false,false⟩),(210,⟨Tryz.f210,[0,1,2,3,6],false,false⟩),(216,⟨Tryz.f216,[0,1,4,5,9,17],false,false⟩),(217,⟨Tryz.f217,[0,1,2,6,7,8,16,21,31],false,false⟩),(218,⟨Tryz.f218,[0,1,4,5,6,17,20],false,false⟩),(219,⟨Tryz.f219,[0,1,4],false,false⟩),(220,⟨Tryz.f220,[0,1,2,6],false,false⟩),(221,⟨Tryz.f221,[0,1,4],false,false⟩),(222,⟨Tryz.f222,[0,1,2,6],false,false⟩),(223,⟨Tryz.f223,[0,1,2,5,6,7,8,19,33,41,54,65,77],false,false⟩),(224,⟨Tryz.f224,[0,1,2,3,6,8,9,17,25,31,56,67],false,false⟩),(225,⟨Tryz.f225,[0,1,2,5,6,10],false,false⟩),(226,⟨Tryz.f226,[0,1,2,3,4,7,10,11,12,13,17,23,35,46,62,75,87],false,false⟩),(227,⟨Tryz.f227,[0,1,4,5,12],false,false⟩),(228,⟨Tryz.f228,[0,2,3],false,false⟩),(229,⟨Tryz.f229,[0,2],false,false⟩),(230,⟨Tryz.f230,[0,2],false,false⟩),(231,⟨Tryz.f231,[0,1,2,4,6,7,9,11,13,15],false,false⟩),(232,⟨Tryz.f232,[0,1,2,3,4],false,false⟩),(233,⟨Tryz.f233,[0,1,4,5,7,8,9,16],false,false⟩),(234,⟨Tryz.f234,[0,1,2,3],false,false⟩),(235,⟨Tryz.f235,[0,1,3,4,6,11,26,29,30,31],false,true⟩),(236,⟨Tryz.f236,[0,1,2],false,false⟩),(237,⟨Tryz.f237,[0,2,3,4,10,13],false,false⟩),(238,⟨Tryz.f238,[0,1,2,3],false,false⟩),(239,⟨Tryz.f239,[0,1,3,8,18],false,false⟩),(240,⟨Tryz.f240,[0,1,2,3,4,5,6,14],false,false⟩),(242,⟨Tryz.f242,[0,1,4,5,6,11,17,27,39,49],false,false⟩),(243,⟨Tryz.f243,[0,1,2,3,6,8,9,10,14,27,34,44,56,64,70],false,false⟩),(244,⟨Tryz.f244,[0,1,2,3,8,9,10,14,23,32],false,false⟩),(245,⟨Tryz.f245,[0,1,2,3,8,9,10,11,12,14,36,49,64,73],false,false⟩),(246,⟨Tryz.f246,[0,1,4,5,7,8,9,16],false,false⟩),(247,⟨Tryz.f247,[0,1,2],false,false⟩),(248,⟨Tryz.f248,[0,1,2,6,7,8,9,14,15,16,17,18,30],false,false⟩),(249,⟨Tryz.f249,[0,1,3,8,18],false,false⟩),(250,⟨Tryz.f250,[0,1,2,6,7,8,9,10,23,28,38,48,58,68,73,89],false,false⟩),(251,⟨Tryz.f251,[0,1,2,6,7,8,14,24],false,false⟩),(252,⟨Tryz.f252,[0,2,3,4,9,17],false,false⟩),(253,⟨Tryz.f253,[0,1,2,6],false,false⟩),(254,⟨Tryz.f254,[0,1,3],false,false⟩),(255,⟨Tryz.f255,[0,1,2,4,6,10,18],false,false⟩),(256,⟨Tryz.f256,[0,1,4,5,6,7,8,9,10,11,24,34,40,47,56,73],false,false⟩),(257,⟨Tryz.f257,[0,1,2,6,7,13,21,30],false,false⟩),(258,⟨Tryz.f258,[0,2,3],false,false⟩)]
theorem aw28L_ok:∀p∈aw28L,Tryz.prog.funcs[p.1]? = some p.2.fn:=tbC Tryz.func7 (tbC Tryz.func10 (tbC Tryz.func18 (tbC Tryz.func19 (tbC Tryz.func21 (tbC Tryz.func22 (tbC Tryz.func23 (tbC Tryz.func37 (tbC Tryz.func38 (tbC Tryz.func39 (tbC Tryz.func46 (tbC Tryz.func47 (tbC Tryz.func48 (tbC Tryz.func49 (tbC Tryz.func50 (tbC Tryz.func51 (tbC Tryz.func52 (tbC Tryz.func53 (tbC Tryz.func54 (tbC Tryz.func55 (tbC Tryz.func56 (tbC Tryz.func57 (tbC Tryz.func58 (tbC Tryz.func59 (tbC Tryz.func75 (tbC Tryz.func76 (tbC Tryz.func77 (tbC Tryz.func78 (tbC Tryz.func80 (tbC Tryz.func87 (tbC Tryz.func88 (tbC Tryz.func89 (tbC Tryz.func90 (tbC Tryz.func91 (tbC Tryz.func92 (tbC Tryz.func93 (tbC Tryz.func94 (tbC Tryz.func95 (tbC Tryz.func96 (tbC Tryz.func97 (tbC Tryz.func98 (tbC Tryz.func99 (tbC Tryz.func100 (tbC Tryz.func101 (tbC Tryz.func102 (tbC Tryz.func103 (tbC Tryz.func104 (tbC Tryz.func105 (tbC Tryz.func106 (tbC Tryz.func107 (tbC Tryz.func108 (tbC Tryz.func109 (tbC Tryz.func110 (tbC Tryz.func111 (tbC Tryz.func112 (tbC Tryz.func113 (tbC Tryz.func114 (tbC Tryz.func115 (tbC Tryz.func116 (tbC Tryz.func117 (tbC Tryz.func118 (tbC Tryz.func119 (tbC Tryz.func120 (tbC Tryz.func121 (tbC Tryz.func131 (tbC Tryz.func132 (tbC Tryz.func133 (tbC Tryz.func134 (tbC Tryz.func135 (tbC Tryz.func136 (tbC Tryz.func137 (tbC Tryz.func138 (tbC Tryz.func142 (tbC Tryz.func143 (tbC Tryz.func144 (tbC Tryz.func145 (tbC Tryz.func146 (tbC Tryz.func147 (tbC Tryz.func148 (tbC Tryz.func149 (tbC Tryz.func150 (tbC Tryz.func151 (tbC Tryz.func152 (tbC Tryz.func153 (tbC Tryz.func154 (tbC Tryz.func155 (tbC Tryz.func156 (tbC Tryz.func157 (tbC Tryz.func158 (tbC Tryz.func159 (tbC Tryz.func160 (tbC Tryz.func161 (tbC Tryz.func162 (tbC Tryz.func163 (tbC Tryz.func164 (tbC Tryz.func165 (tbC Tryz.func166 (tbC Tryz.func167 (tbC Tryz.func168 (tbC Tryz.func169 (tbC Tryz.func170 (tbC Tryz.func171 (tbC Tryz.func172 (tbC Tryz.func173 (tbC Tryz.func174 (tbC Tryz.func175 (tbC Tryz.func176 (tbC Tryz.func177 (tbC Tryz.func182 (tbC Tryz.func184 (tbC Tryz.func185 (tbC Tryz.func186 (tbC Tryz.func187 (tbC Tryz.func188 (tbC Tryz.func189 (tbC Tryz.func190 (tbC Tryz.func191 (tbC Tryz.func192 (tbC Tryz.func193 (tbC Tryz.func194 (tbC Tryz.func195 (tbC Tryz.func196 (tbC Tryz.func197 (tbC Tryz.func198 (tbC Tryz.func199 (tbC Tryz.func200 (tbC Tryz.func201 (tbC Tryz.func202 (tbC Tryz.func203 (tbC Tryz.func204 (tbC Tryz.func205 (tbC Tryz.func206 (tbC Tryz.func207 (tbC Tryz.func208 (tbC Tryz.func209 (tbC Tryz.func210 (tbC Tryz.func216 (tbC Tryz.func217 (tbC Tryz.func218 (tbC Tryz.func219 (tbC Tryz.func220 (tbC Tryz.func221 (tbC Tryz.func222 (tbC Tryz.func223 (tbC Tryz.func224 (tbC Tryz.func225 (tbC Tryz.func226 (tbC Tryz.func227 (tbC Tryz.func228 (tbC Tryz.func229 (tbC Tryz.func230 (tbC Tryz.func231 (tbC Tryz.func232 (tbC Tryz.func233 (tbC Tryz.func234 (tbC Tryz.func235 (tbC Tryz.func236 (tbC Tryz.func237 (tbC Tryz.func238 (tbC Tryz.func239 (tbC Tryz.func240 (tbC Tryz.func242 (tbC Tryz.func243 (tbC Tryz.func244 (tbC Tryz.func245 (tbC Tryz.func246 (tbC Tryz.func247 (tbC Tryz.func248 (tbC Tryz.func249 (tbC Tryz.func250 (tbC Tryz.func251 (tbC Tryz.func252 (tbC Tryz.func253 (tbC Tryz.func254 (tbC Tryz.func255 (tbC Tryz.func256 (tbC Tryz.func257 (tbC Tryz.func258 (tbN))))))))))))))))))))))))))))))))))))))))))))))))))))))))))))))))))))))))))))))))))))))))))))))))))))))))))))))))))))))))))))))))))))))))))))))))))))))))))))))))))))))))))))))))))
theorem aw28:qab Tryz.prog 7 [] (.a (.v (.bool true))):=runsL (F:=100000) (k:=60) aw28L_ok knP_ok (by kernel_rfl)
end Go.Proofs.YthkojpnjdpbcgaaGreatDoor
