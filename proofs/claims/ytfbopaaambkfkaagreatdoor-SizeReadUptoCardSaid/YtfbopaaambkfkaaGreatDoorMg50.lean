/- Regions whose order is drawn, with two writers that may come in either order. No program in sight. Conditions: none. -/
import Derived.Test.YtfbopaaambkfkaaGreatDoorMg21
import Derived.Test.YtfbopaaambkfkaaGreatDoorMg30
import Derived.Test.YtfbopaaambkfkaaGreatDoorMg35
import Derived.Test.YtfbopaaambkfkaaGreatDoorMg38
import Derived.Test.YtfbopaaambkfkaaGreatDoorMg39
import Derived.Test.YtfbopaaambkfkaaGreatDoorMg41
import Derived.Test.YtfbopaaambkfkaaGreatDoorMg44
import Derived.Test.YtfbopaaambkfkaaGreatDoorMg45
import Derived.Test.YtfbopaaambkfkaaGreatDoorMg49
set_option linter.unusedVariables false
set_option maxRecDepth 100000
set_option maxHeartbeats 8000000
set_option linter.unusedSimpArgs false
namespace Go.Proofs.YtfbopaaambkfkaaGreatDoor
open Go.RowKit
section
def ExB (ops:Array Oper) (bs:List Nat) (p q:Nat):Prop:=∀a b,qbe bs b a=true→qbe (qdj ops.toList []) b a=true∨(a=p∧b=q)
section
variable {P:Program}
def exB (bf bs:List Nat) (p q n:Nat):Bool:=(List.range n).all fun b=>(List.range n).all fun a=>!qbe bs b a||qbe bf b a||(a==p&&b==q)
def qsB (bf:List Nat) (ops:Array Oper) (qs:List Nat) (q1 q2:Nat):Bool:=(List.range ops.size).all fun i=>match ops[i]? with
  | some o=>(match o.dst with
    | some t=>qs.contains t||i==q1||i==q2||qbe bf i q1||qbe bf i q2
    | none=>true)
  | none=>true
theorem WP.dH {C:Cx P} {n:Nat} {Q:Exit→(Nat→D)→List Bx→Prop} {e:Nat→D} {st:List Bx} {id:Nat} {l:List Oper} (q1 q2:Nat) (bf bs1 bs2 ks qs:List Nat) (f:Nat→D) (s1 s2:List Bx) (r1 r2:List (Nat×List Bx)) (hbf:(qdj l []==bf)=true) (hl1:(bs1.length==l.length&&bs2.length==l.length&&bs1.all (fun b=>decide (b<2 ^ l.length))&&bs2.all (fun b=>decide (b<2 ^ l.length)))=true) (hc1:chnX bs1 (q1::r1.map (·.1))=true) (hc2:chnX bs2 (q2::r2.map (·.1))=true) (hx:(exB bf bs1 q1 q2 l.length&&exB bf bs2 q2 q1 l.length)=true) (hne:(q1 != q2&&decide (q1<l.length)&&decide (q2<l.length))=true) (hqs:qsB bf ⟨l⟩ qs q1 q2=true) (hd:qeb ⟨l⟩ n l.length=true) (hk:ksOk ⟨l⟩ ks=true) (hmix:P.follows .mixedOrders=true)
    (h1:RWL C (e 1000000) ⟨l⟩ bs1 st ((q1,s1)::r1) l 0 e fun e1=>(∀t,t∈qs→e1 t=f t)∧Q .normal (qbd e1 ks) (SWL st ((q1,s1)::r1) fun i=>decide (i<l.length)))
    (h2:RWL C (e 1000000) ⟨l⟩ bs2 st ((q2,s2)::r2) l 0 e fun e1=>(∀t,t∈qs→e1 t=f t)∧Q .normal (qbd e1 ks) (SWL st ((q2,s2)::r2) fun i=>decide (i<l.length))):WP C n (.region id ⟨l⟩ true) Q e st:=by
  have hD:=qdt hd
  have hD:qcp ⟨l⟩ n (⟨l⟩:Array Oper).size:=hD
  have hbf:qdj (⟨l⟩:Array Oper).toList []=bf:=by simpa using hbf
  subst hbf
  obtain⟨ds1,g1,g2,g3,g4⟩:=h1.data
  obtain⟨ds2,k1,k2,k3,k4⟩:=h2.data
  simp only [Bool.and_eq_true,bne_iff_ne,decide_eq_true_iff,beq_iff_eq] at hne hx hl1
  have ex:∀(bs:List Nat) (p q:Nat),bs.length=l.length→(bs.all fun b=>decide (b<2 ^ l.length))=true→exB (qdj (⟨l⟩:Array Oper).toList []) bs p q l.length=true→ExB ⟨l⟩ bs p q:=by
    intro bs p q hbl hb2 hb a b hab
    have hbn:b<l.length:=by
      rcases Nat.lt_or_ge b bs.length with h|h
      · omega
      · unfold qbe at hab;rw [List.getD_eq_getElem?_getD,List.getElem?_eq_none h] at hab;simp at hab
    have han:a<l.length:=by
      rcases Nat.lt_or_ge a l.length with h|h
      · exact h
      · have h5:bs[b]? = some bs[b]:=List.getElem?_eq_getElem (by omega)
        have h3:=of_decide_eq_true ((List.all_eq_true.1 hb2) bs[b] (List.getElem_mem _))
        have h4:(bs.getD b 0).testBit a=false:=by
          rw [List.getD_eq_getElem?_getD,h5]
          exact Nat.testBit_lt_two_pow (Nat.lt_of_lt_of_le h3 (Nat.pow_le_pow_right (by decide) h))
        unfold qbe at hab;rw [h4] at hab;cases hab
    have:=(List.all_eq_true.1 ((List.all_eq_true.1 hb) b (List.mem_range.2 hbn))) a (List.mem_range.2 han)
    rw [hab] at this
    simp only [Bool.not_true,Bool.false_or,Bool.or_eq_true,Bool.and_eq_true,beq_iff_eq] at this
    exact this
  have hx1:=ex bs1 _ _ hl1.1.1.1 hl1.1.2 hx.1
  have hx2:=ex bs2 _ _ hl1.1.1.2 hl1.2 hx.2
  have hds:∀i t,wrt ⟨l⟩ t=some i→ds1.getD i .junk=ds2.getD i .junk∨i=q1∨i=q2∨qbe (qdj (⟨l⟩:Array Oper).toList []) i q1=true∨qbe (qdj (⟨l⟩:Array Oper).toList []) i q2=true:=by
    intro i t hw
    obtain⟨o,ho,hdst⟩:=qa3 hw
    have hi:=(Array.getElem?_eq_some_iff.1 ho).1
    have:=(List.all_eq_true.1 hqs) i (List.mem_range.2 hi)
    rw [ho] at this
    dsimp only at this
    rw [hdst] at this
    simp only [Bool.or_eq_true,List.contains_iff_mem,beq_iff_eq] at this
    have val:∀ds:List D,ds.length=l.length→eat l ds e l.length t=ds.getD i .junk:=fun ds hds=>by
      rw [←qdh (ops:=⟨l⟩) hD.seq.one (l:=l) (ds:=ds) (e:=e) (done:=fun _=>true) (k:=l.length) (fun j hj=>by simp) hds (Nat.le_refl _) (fun i' hw'=>by rw [hw] at hw';injection hw' with hw';subst hw';simpa using hi)]
      unfold eD;rw [hw];rfl
    rcases this with (((h|h)|h)|h)|h
    · exact .inl (by rw [←val ds1 g1,←val ds2 k1,g3 t h,k3 t h])
    · exact .inr (.inl h)
    · exact .inr (.inr (.inl h))
    · exact .inr (.inr (.inr (.inl h)))
    · exact .inr (.inr (.inr (.inr h)))
  have hJ1:∀(k:Nat) (o:Oper),(⟨l⟩:Array Oper)[k]? = some o→RWL1 C (e 1000000) ⟨l⟩ bs1 st ((q1,s1)::r1) k (eat (⟨l⟩:Array Oper).toList ds1 e k) o (ds1.getD k .junk):=fun k o ho=>by have:=g2 k o (by rw [←ho];simp);rwa [Nat.zero_add] at this
  have hJ2:∀(k:Nat) (o:Oper),(⟨l⟩:Array Oper)[k]? = some o→RWL1 C (e 1000000) ⟨l⟩ bs2 st ((q2,s2)::r2) k (eat (⟨l⟩:Array Oper).toList ds2 e k) o (ds2.getD k .junk):=fun k o ho=>by have:=k2 k o (by rw [←ho];simp);rwa [Nat.zero_add] at this
  refine WP.enterD ks (fun done V tm=>(done q1=true∧RM ⟨l⟩ done V tm n (eD ⟨l⟩ ds1 e done)∧V.st=SWL st ((q1,s1)::r1) done)∨(done q2=true∧RM ⟨l⟩ done V tm n (eD ⟨l⟩ ds2 e done)∧V.st=SWL st ((q2,s2)::r2) done)∨(done q1=false∧done q2=false∧RM ⟨l⟩ done V tm n (eD ⟨l⟩ ds1 e done)∧V.st=st)) (fun e' st'=>Q .normal (qbd e' ks) st') hk hmix hD.acyc (fun _ _ h=>h) (fun V tm hs hm=>.inr (.inr ⟨rfl,rfl,by rw [eD_none];exact hm,hs⟩)) (fun Nx Q listed V a k X hls hcl hkr h1 hok hsep hnx hE hS fin=>?_) (fun Nx V tm hE hS=>?_)
  · have hbf:=bits_of hcl hkr
    have upk:∀q,listed.getD q false=true→upB (fun i=>listed.getD i false) k q=true:=fun q h=>by simp only [upB,Bool.or_eq_true];exact .inl h
    rcases hS with ⟨hq,hm,hs⟩|⟨hq,hm,hs⟩|⟨hn1,hn2,hm,hs⟩<;>try dsimp only at hn1 hn2
    · exact qjx hc1 rfl hD (by rw [g1];rfl) hJ1 hls hcl hkr (fun a b hb=>by
        rcases hx1 a b hb with h|⟨rfl,rfl⟩
        · exact hbf a b h
        · exact⟨fun _=>hq,fun _=>hq⟩) hm hok hsep hnx hE hs fun a' w' x' bl' hX hm' hE' hdef=>fin a' w' x' bl' _ hX hE' hdef (.inl ⟨upk _ hq,hm',rfl⟩)
    · exact qjx hc2 rfl hD (by rw [k1];rfl) hJ2 hls hcl hkr (fun a b hb=>by
        rcases hx2 a b hb with h|⟨rfl,rfl⟩
        · exact hbf a b h
        · exact⟨fun _=>hq,fun _=>hq⟩) hm hok hsep hnx hE hs fun a' w' x' bl' hX hm' hE' hdef=>fin a' w' x' bl' _ hX hE' hdef (.inr (.inl ⟨upk _ hq,hm',rfl⟩))
    · have heD:eD ⟨l⟩ ds1 e (fun i=>listed.getD i false)=eD ⟨l⟩ ds2 e (fun i=>listed.getD i false):=by
        funext t
        unfold eD
        cases hw:wrt ⟨l⟩ t with
        | none=>rfl
        | some i =>
          dsimp only
          by_cases hli:listed.getD i false=true
          · rw [if_pos hli,if_pos hli]
            rcases hds i t hw with h|rfl|rfl|h|h
            · rw [h]
            · rw [hn1] at hli;cases hli
            · rw [hn2] at hli;cases hli
            · have:=(hbf q1 i h).1 hli;rw [hn1] at this;cases this
            · have:=(hbf q2 i h).1 hli;rw [hn2] at this;cases this
          · rw [if_neg hli,if_neg hli]
      by_cases hkq:k=q2
      · exact qjx hc2 rfl hD (by rw [k1];rfl) hJ2 hls hcl hkr (fun a b hb=>by
          rcases hx2 a b hb with h|⟨rfl,rfl⟩
          · exact hbf a b h
          · exact⟨fun h=>(by rw [hn1] at h;cases h),(fun h=>absurd (h.trans hkq) hne.1.1)⟩) (heD▸hm) hok hsep hnx hE (by unfold SWL;dsimp only;rw [hn2,cond_false];exact hs) fun a' w' x' bl' hX hm' hE' hdef=>fin a' w' x' bl' _ hX hE' hdef (.inr (.inl ⟨by simp [upB,hkq],hm',rfl⟩))
      · refine qjx hc1 rfl hD (by rw [g1];rfl) hJ1 hls hcl hkr (fun a b hb=>by
          rcases hx1 a b hb with h|⟨rfl,rfl⟩
          · exact hbf a b h
          · exact⟨fun h=>(by rw [hn2] at h;cases h),(fun h=>absurd h.symm hkq)⟩) hm hok hsep hnx hE (by unfold SWL;dsimp only;rw [hn1,cond_false];exact hs) fun a' w' x' bl' hX hm' hE' hdef=>?_
        by_cases hkp:k=q1
        · exact fin a' w' x' bl' _ hX hE' hdef (.inl ⟨by simp [upB,hkp],hm',rfl⟩)
        · have f1:upB (fun i=>listed.getD i false) k q1=false:=by simp only [upB,Bool.or_eq_false_iff,beq_eq_false_iff_ne];exact⟨hn1,fun h=>hkp h.symm⟩
          have f2:upB (fun i=>listed.getD i false) k q2=false:=by simp only [upB,Bool.or_eq_false_iff,beq_eq_false_iff_ne];exact⟨hn2,fun h=>hkq h.symm⟩
          refine fin a' w' x' bl' _ hX hE' hdef (.inr (.inr ⟨f1,f2,hm',?_⟩))
          unfold SWL;rw [f1,cond_false]
  · rcases hS with ⟨_,hm,hs⟩|⟨_,hm,hs⟩|⟨h,_⟩
    · exact⟨eat (⟨l⟩:Array Oper).toList ds1 e (⟨l⟩:Array Oper).size,by rw [←eD_all hD ds1 e (by rw [g1];rfl)];exact hm,by rw [eat_gh hD];exact hE,by rw [hs];exact g4⟩
    · exact⟨eat (⟨l⟩:Array Oper).toList ds2 e (⟨l⟩:Array Oper).size,by rw [←eD_all hD ds2 e (by rw [k1];rfl)];exact hm,by rw [eat_gh hD];exact hE,by rw [hs];exact k4⟩
    · exact absurd (h.symm.trans (decide_eq_true (show q1<(⟨l⟩:Array Oper).size from hne.1.2))) (by decide)
end
end
section
def useV (V:Vw) (σ:List Nat) (st0:List Bx):Vw:=⟨V.w,V.x,lb V σ,st0⟩
section
variable {V:Vw} {σ:List Nat} {st0:List Bx}
theorem qlf (hok:Ok V) (h:LOk V.st σ st0) {b:Nat} (hb:(useV V σ st0).mine b):V.mine b:=by
  obtain⟨j,y,h1,_,_⟩:=hb
  exact qcv hok h (lm4 h1)
theorem qj9 (hok:Ok V) (h:LOk V.st σ st0) (b:Nat) (hb:(useV V σ st0).mut b):V.mut b:=by
  rcases hb with hb|hb
  · exact .inl hb
  · exact .inr (qlf hok h hb)
theorem use_rep (hok:Ok V) (h:LOk V.st σ st0):∀x u,RepA V x u→∀a,x=rnA σ a→nrA σ.length a=true→RepA (useV V σ st0) a u :=
  fun _ _ hx=>RepA.lendM (V:=V) (U:=useV V σ st0) rfl (qj9 hok h) h.len (fun j i hj=>h.at_ j i hj) (fun _ _ hj=>qku hok h hj) hx
theorem qi7 (hok:Ok V) (h:LOk V.st σ st0) {b:Nat} (hb:b∈lb V σ):b∈V.bl:=Vw.mine_mem (qcv hok h hb)
theorem use_ok (hok:Ok V) (h:LOk V.st σ st0):Ok (useV V σ st0):=by
  have hA:=use_rep hok h
  have hC:∀x u,RepC V.w V.mut x u→RepC (useV V σ st0).w (useV V σ st0).mut x u:=fun x u hx=>hx.mono (Nat.le_refl _) fun b _ hb=>⟨fun _=>rfl,fun h2=>hb (qj9 hok h b h2)⟩
  refine⟨by show (lb V σ).length=st0.length;rw [lb,List.length_map,h.len],fun j b hb=>?_,hok.xlt,fun w' hs hw=>hok.gd w' hs fun c hlt h1 h2 hic=>hw c hlt (fun hc=>h1 (qi7 hok h hc)) h2 hic,fun j b hb=>?_,fun i j b y z h1 h2 h3 h4 h5 h6=>?_,fun i row b h1 h2=>?_,fun i ver n rows b h1 h2=>?_,fun i k wd es b h1 h2=>?_⟩
  · obtain⟨i,_,h2⟩:=qcl hok h hb;exact hok.lt i b h2
  · obtain⟨i,_,h2⟩:=qcl hok h hb;exact hok.isc i b h2
  · obtain⟨p,p1,p2⟩:=qcl hok h h1
    obtain⟨q,q1,q2⟩:=qcl hok h h2
    obtain⟨y',_,p4,p5⟩:=h.get p1
    obtain⟨z',_,q4,q5⟩:=h.get q1
    have hpq:=hok.inj p q b _ _ p2 q2 p4 q4 (by rw [qce];exact p5) (by rw [qce];exact q5)
    subst hpq
    exact (List.getElem?_inj (List.getElem?_eq_some_iff.1 p1).1 h.nd).1 (p1.trans q1.symm)
  · obtain⟨p,p1,p2⟩:=qcl hok h h2
    have hp:V.st[p]? = some (.cell (row.map (rnA σ))):=by rw [h.at_ i p p1];have h1:st0[i]? = some (.cell row):=h1;rw [h1];rfl
    obtain⟨cs,T,k1,k2,k3⟩:=hok.cell p _ b hp p2
    have hn:=qfi h.nr h1
    rw [List.all_eq_true] at hn
    exact⟨cs,T,k1,by rw [k2,List.length_map],fun j x hj=>hA _ _ (k3 j (rnA σ x) (by rw [List.getElem?_map,hj];rfl)) x rfl (hn x (lm4 hj))⟩
  · obtain⟨p,p1,p2⟩:=qcl hok h h2
    have hp:V.st[p]? = some (.arr ver n rows):=by rw [h.at_ i p p1];have h1:st0[i]? = some (.arr ver n rows):=h1;rw [h1];rfl
    obtain⟨cs,T,c,k1,k2,k3,k4,k5,k6⟩:=hok.arr p ver n rows b hp p2
    exact⟨cs,T,c,k1,k2,k3,k4,k5,fun k row j x hk hj=>hC _ _ (k6 k row j x hk hj)⟩
  · obtain⟨p,p1,p2⟩:=qcl hok h h2
    have hp:V.st[p]? = some (.map k wd (es.map fun e=>(e.1,e.2.map (rnA σ)))):=by rw [h.at_ i p p1];have h1:st0[i]? = some (.map k wd es):=h1;rw [h1];rfl
    obtain⟨ms,k1,k2,k3⟩:=hok.map p k wd _ b hp p2
    rw [List.length_map] at k1 k2
    have hn:=qgu h.nr h1
    rw [List.all_eq_true] at hn
    refine⟨ms,k1,k2,fun j y row hj=>?_⟩
    obtain⟨q1,v,q2,q3⟩:=k3 j y (row.map (rnA σ)) (by rw [List.getElem?_map,hj];rfl)
    exact⟨q1,v,q2,q3.lendM hA (hn _ (lm4 hj))⟩
end
def rnE (σ:List Nat) (l:EL):EL:=l.map fun p=>(p.1,rnD σ p.2)
theorem qkf (σ:List Nat):∀(l:EL) (t:Nat),envL (rnE σ l) t=rnD σ (envL l t)
  | [],_=>rfl
  | (t',d)::r,t=>by
    show upd (envL (rnE σ r)) t' (rnD σ d) t=rnD σ (upd (envL r) t' d t)
    unfold upd
    split
    · rfl
    · exact qkf σ r t
structure qf7 (st:List Bx) (σ:List Nat) (l:EL) (st0:List Bx):Prop where
  nd:σ.Nodup
  at_:σ.map (fun i=>st[i]?)=st0.map fun b=>some (rnB σ b)
  live:st0.all Bx.live=true
  nr:nrS σ.length st0=true
  nl:(l.all fun p=>nrM σ.length p.2)=true
theorem qf7.lok {st:List Bx} {σ:List Nat} {l:EL} {st0:List Bx} (h:qf7 st σ l st0):LOk st σ st0:=by
  refine⟨h.nd,by have:=congrArg List.length h.at_;simpa using this,fun j i hj=>?_,fun j y hy=>List.all_eq_true.1 h.live y (lm4 hy),h.nr⟩
  have:=congrArg (fun l=>l[j]?) h.at_
  simp only [List.getElem?_map,hj,Option.map_some] at this
  cases hs:st0[j]? with
  | none=>rw [hs] at this;cases this
  | some y=>rw [hs] at this;simpa using this
theorem qf7.env {st:List Bx} {σ:List Nat} {st0:List Bx}:∀{l:EL},(l.all fun p=>nrM σ.length p.2)=true→∀t,nrM σ.length (envL l t)=true
  | [],_,_=>rfl
  | (t',d)::r,h,t=>by
    simp only [List.all_cons,Bool.and_eq_true] at h
    show nrM σ.length (upd (envL r) t' d t)=true
    unfold upd
    split
    · exact h.1
    · exact qf7.env (st:=st) (st0:=st0) h.2 t
section
variable {P:Program} {C:Cx P} {n:Nat} {ks:List Nat} {c:Code}
theorem EnvE.rn {E:Env P} {on:Prop} {Nx:Nat→Prop} {σ:List Nat} {d:D} {V U:Vw} (h:EnvE E on Nx (rnD σ d) V) (hw:U.w=V.w) (hm:∀b,U.mine b→V.mine b) (hx:∀b,V.x b→U.x b):EnvE E on Nx d U:=by
  have key:EnvE E on Nx d V:=by
    cases d with
    | a x=>cases x<;>first|exact h|trivial
    | _=>trivial
  refine key.frm ⟨by rw [hw],by rw [hw],by rw [hw],by rw [hw];exact Nat.le_refl _,fun _ _ _=>by rw [hw]⟩ (fun b hb=>.inl (hm b hb)) hx
theorem Sat.use {w:World} {x:Nat→Prop} {bl:List Nat} {st:List Bx} {σ:List Nat} {st0:List Bx} {a:Act} {l:EL} (h:Sat C ⟨w,x,bl,st⟩ a n (envL (rnE σ l))) (hu:qf7 st σ l st0) (hV0:C.V0.st=[]):Sat C ⟨w,x,lb ⟨w,x,bl,st⟩ σ,st0⟩ a n (envL l):=by
  obtain⟨ms,⟨h1,h2,h3⟩,hm,henv⟩:=h
  have hL:LOk (⟨w,x,bl,st⟩:Vw).st σ st0:=hu.lok
  have hA:=use_rep hm.ok hL
  have hV:C.V0.st.length=0:=by rw [hV0];rfl
  refine⟨ms,⟨h1,h2,fun D hD=>?_⟩,⟨hm.size,fun t ht=>?_,use_ok hm.ok hL,⟨by rw [hV];exact Nat.zero_le _,hm.le.size,fun b hb hn=>⟨(hm.le.blk b hb hn).1,fun hn'=>(hm.le.blk b hb hn).2 (qj9 hm.ok hL b hn')⟩,fun i r hi _=>by omega,fun i v m r hi _=>by omega,fun i k wd es hi _=>by omega⟩,hm.fr,fun b hb=>hm.low b (qi7 hm.ok hL hb),fun b hb=>hm.sep b (qi7 hm.ok hL hb),hm.x0,hm.xk,hm.xg,fun b hb=>⟨(hm.nx b hb).1,(hm.nx b hb).2.imp id fun ⟨q2,q3,q4⟩=>⟨q2,fun hh=>q3 (qi7 hm.ok hL hh),q4⟩⟩,hm.nx0⟩,?_⟩
  · obtain⟨q1,q2,q3,q4⟩:=h3 D hD
    exact⟨q1,q2,fun h=>q3 (qi7 hm.ok hL h),q4⟩
  · have:=hm.slot t ht
    rw [qkf] at this
    exact RepD.lendM hA this _ rfl (qf7.env (st:=st) (st0:=st0) hu.nl t)
  · rw [qkf] at henv
    exact henv.rn rfl (fun b hb=>qlf hm.ok hL hb) fun _ h=>h
theorem WP.loopR {α:Type} {Q:Exit→(Nat→D)→List Bx→Prop} (env:α→EL) (sto:α→List Bx) (μ:α→Nat) (y:α) (hV0:C.V0.st=[])
    (round:∀y,WP C n c (qej (fun e' st'=>∃z σ,μ z<μ y∧qal e' (rnE σ (env z))∧qf7 st' σ (env z) (sto z)) Q) (envL (env y)) (sto y)):WP C n (.loop c) Q (envL (env y)) (sto y):=by
  refine WP.loopS (fun y e st=>e=envL (env y)∧st=sto y) μ y ⟨rfl,rfl⟩ ?_
  rintro y2 _ _ ⟨rfl,rfl⟩
  refine (round y2).mono ?_
  intro ex e' st' hq
  cases ex with
  | normal =>
    obtain⟨z,σ,hlt,hag,hu⟩:=hq
    intro a w x bl hm
    exact⟨z,x,_,_,_,hlt,⟨rfl,rfl⟩,(hm.weaken hag).use hu hV0⟩
  | _=>exact hq
def VRr {α:Type} (env:α→EL) (sto:α→List Bx) (μ:α→Nat) (N:Nat) (l:EL) (st:List Bx):Prop :=
  ∃z σ,μ z<N∧qal (envL l) (rnE σ (env z))∧qf7 st σ (env z) (sto z)
theorem WP.use {l:EL} {st st0:List Bx} {e:Nat→D} {Q:Exit→(Nat→D)→List Bx→Prop} (σ:List Nat) (h:WP C n c Q (envL l) st0) (hag:qal e (rnE σ l)) (hu:qf7 st σ l st0) (hV0:C.V0.st=[]):WP C n c Q e st:=fun a w x bl hm=>h a w x _ ((hm.weaken hag).use hu hV0)
theorem VL.gR {α:Type} {l:EL} {st:List Bx} {K:Exit→EL→List Bx→Prop} (env:α→EL) (sto:α→List Bx) (μ:α→Nat) (y:α) (σ:List Nat) (h0:qal (envL l) (rnE σ (env y))) (hs:qf7 st σ (env y) (sto y)) (hV0:C.V0.st=[]) (round:∀y,vx P C n ks c (env y) (sto y) fun ex l' st'=>match ex with
    | .normal=>VRr env sto μ (μ y) l' st'
    | ex=>K ex l' st'):VL C n ks c l st K:=by
  refine .wp (WP.use σ (WP.loopR env sto μ y hV0 fun y=>qc3 c _ _ _ _ (fun ex l st hk=>?_) (round y)) h0 hs hV0)
  cases ex with
  | normal=>exact hk
  | _=>exact⟨_,rfl,hk⟩
def ql6:Code→List Fm→Option (Code×List Fm)
  | .seq a b,S=>(match ql6 a (.seq b::S) with
    | some q=>some q
    | none=>ql6 b S)
  | .block id c,S=>ql6 c (.blk id::S)
  | .loop c,S=>some (c,S)
  | _,_=>none
end
end
section
def lendR (st:List Bx):D→D
  | .r row=>.r (row.map (lend0 st))
  | d=>qfu st d
def qjs (st:List Bx):D→Bool
  | .r row=>row.all (qfw st)
  | d=>qfv st d
theorem RepD.lendR {V:Vw} (hok:Ok V) {d:D} {u:Value} (h:RepD V d u) (hc:qjs V.st d=true):RepD (out V.w (qg1 V)) (lendR V.st d) u:=by
  cases d with
  | r row =>
    cases h with
    | r _ vs hl h =>
      refine .r _ vs (by simpa using hl) fun j x hj=>?_
      rw [List.getElem?_map,Option.map_eq_some_iff] at hj
      obtain⟨y,hy,rfl⟩:=hj
      exact ((h j y hy).lend0 hok (List.all_eq_true.1 hc y (lm4 hy))).toOut
  | _=>exact h.lend hok hc
section
variable {P:Program} {st:List Bx} {e:Nat→D} {o:Oper}
theorem OpJ.callR {f:FuncId} {xs:Array Operand} {tys:Array TypeId} {ds:List D} {z:Value} (ho:o.op=.call ⟨.value (.func f),xs,tys⟩) (hx:(xs.toList.map (evO e)).map (lendR st)=ds) (hc:(xs.toList.map (evO e)).all (qjs st)=true) (hp:qaa P f ds (.a (.v z))):OpJ P st e o (.a (.v z)):=by
  intro ρ V hV hok hu
  subst hV
  subst hx
  rw [ho] at hu
  have hf:ρ (.func f)=.func (.func f) #[] #[]:=qme (hu (.func f) (by simp [qaq,Op.operands,Call.operands]))
  have hrun:(execOp ρ o).run P V.w=.ok (.enter f (xs.map ρ)) V.w:=by
    simp only [execOp,ho,resolve,hf,Deferred.ofValue,Sem.run_bind,Sem.run_pure,Result.andThen_ok,invoke,Array.empty_append,Array.append_empty,hp.1]
  rw [hrun]
  refine⟨rfl,?_⟩
  have:=(hp.2 V.w (qg1 V) (xs.map ρ).toList (fun b hb=>hok.xlt b hb.1) (fun w' hs hb=>hok.gd w' hs fun b hlt _ hx=>hb b hlt fun h=>hx h.1) (by simp) fun i d' hi=>?_)
  · rw [Array.toArray_toList] at this
    refine this.mono ?_
    rintro en w' ⟨v,h1,h2,h3⟩
    obtain⟨rfl,hp⟩:=h3.v_inv
    exact⟨v,h1,h2,.a _ _ (.c _ _ (.v v hp))⟩
  · rw [List.getElem?_map,List.getElem?_map,Option.map_eq_some_iff] at hi
    obtain⟨d0,hd0,rfl⟩:=hi
    rw [Option.map_eq_some_iff] at hd0
    obtain⟨y,hy,rfl⟩:=hd0
    have:=hu y (by have:=lm4 hy;simp [qaq,Op.operands,Call.operands];right;simpa using this)
    have hget:(xs.map ρ).toList.getD i Go.undef=ρ y:=by
      rw [List.getD_eq_getElem?_getD,Array.toList_map,List.getElem?_map,hy];rfl
    rw [hget]
    exact this.lendR hok (List.all_eq_true.1 hc _ (List.mem_map.2 ⟨y,lm4 hy,rfl⟩))
end
section
variable {P:Program} {C:Cx P} {n:Nat}
theorem RWL.cons {g:D} {ops:Array Oper} {bs:List Nat} {s0:List Bx} {ws:List (Nat×List Bx)} {r:List Oper} {k:Nat} {e:Nat→D} {o:Oper} {K:(Nat→D)→Prop} (d:D) (h1:RWL1 C g ops bs s0 ws k e o d) (h:RWL C g ops bs s0 ws r (k+1) (putE e o.dst d) K):RWL C g ops bs s0 ws (o::r) k e K:=⟨d,h1,h⟩
theorem rd_A {g:D} {ops:Array Oper} {bs:List Nat} {s0 s1:List Bx} {q:Nat} {r:List (Nat×List Bx)} {k:Nat} {e:Nat→D} {o:Oper} {d:D} (hn:wrSt s0 ((q,s1)::r) k=none) (h:OpJ P s0 e o d) (hb:qbe bs q k=true):RWL1 C g ops bs s0 ((q,s1)::r) k e o d:=by
  unfold RWL1;rw [hn];exact⟨.inr (.of h),.inl hb⟩
theorem rd_B {g:D} {ops:Array Oper} {bs:List Nat} {s0 s1 s2:List Bx} {q q2:Nat} {r:List (Nat×List Bx)} {k:Nat} {e:Nat→D} {o:Oper} {d:D} (hn:wrSt s0 ((q2,s1)::(q,s2)::r) k=none) (h:OpJ P s0 e o d) (h2:OpJ P s1 e o d) (hb:qbe bs q k=true):RWL1 C g ops bs s0 ((q2,s1)::(q,s2)::r) k e o d:=by
  unfold RWL1;rw [hn];exact⟨.inr (.of h),.inr ⟨.inr (.of h2),.inl hb⟩⟩
theorem wr_S {g:D} {ops:Array Oper} {bs:List Nat} {s0 s s':List Bx} {ws:List (Nat×List Bx)} {k:Nat} {e:Nat→D} {o:Oper} {d:D} (hn:wrSt s0 ws k=some (s,s')) (h:WS C g s e o d s'):RWL1 C g ops bs s0 ws k e o d:=by
  unfold RWL1;rw [hn];exact .inl h
theorem wr_G {g:D} {ops:Array Oper} {bs:List Nat} {s0 s s':List Bx} {ws:List (Nat×List Bx)} {k:Nat} {e:Nat→D} {o:Oper} {d:D} (hn:wrSt s0 ws k=some (s,s')) (hg:o.guard=none) (h:OpG P s e o d s'):RWL1 C g ops bs s0 ws k e o d:=by
  unfold RWL1;rw [hn];exact .inr (.inl ⟨hg,h⟩)
theorem st_end {s:List Bx} {y z:Bx}:(s++[y]).set s.length z=s++[z]:=by simp
theorem qek {ks:List Nat} {l:EL} {st:List Bx} {K:EL→List Bx→Prop} {T T3 T4 T5:TypeId} {f1 f2:FuncId} {ty0 ty1 ty2 ty3 ty4 ty5 ty6 ty7 ty8 ty9:TypeId} {p0 p1 p2 p3 p4 p5 p6 p7 p8 p9:String} {a0 a1 a2 a3 a4 a5 a6 a7 a8 a9:Array Edge} {y1 y2:Array TypeId} {ops:List Oper} {x0:A} {a sm z sz:Int} {i:Nat} {row drow zr:List A} {σ:List Nat} {bs stA stB:List Bx} {ds:List D} {st0 st1:List Bx}
    (hS:qaa P f1 [lendR st (.r row)] (.a (.v (.int .i64 z))))
 (hp:DM P f2 ds st0 (.r drow) st1)

    (k1:K (qmw ((10,.a (.ptr stA.length 0))::(86,.r (drow.map (rnA (rnX σ st.length (st1.length-σ.length)))))::(85,.a (.v (.int .i64 sz)))::(84,.a (.v (.int .i64 z)))::(83,.r row)::(82,.a (.v (.int .i64 sm)))::(81,.r row)::(80,.a (.v (.int .i64 a)))::(79,.a x0)::l) ks) (stA++[.cell (drow.map (rnA (rnX σ st.length (st1.length-σ.length))))]))
    (k2:K (qmw ((10,.a (.ptr st.length 0))::(86,.r (drow.map (rnA (rnX σ (st.length+1) (st1.length-σ.length)))))::(85,.a (.v (.int .i64 sz)))::(84,.a (.v (.int .i64 z)))::(83,.r row)::(82,.a (.v (.int .i64 sm)))::(81,.r row)::(80,.a (.v (.int .i64 a)))::(79,.a x0)::l) ks) (stB.set st.length (.cell (drow.map (rnA (rnX σ (st.length+1) (st1.length-σ.length))))))) (hops:ops=[⟨some 79,.move (.tmp 0),ty0,p0,a0,none⟩,⟨some 80,.move (.tmp 1),ty1,p1,a1,none⟩,⟨some 81,.load T (.tmp 7),ty2,p2,a2,none⟩,⟨some 82,.move (.tmp 2),ty3,p3,a3,none⟩,⟨some 83,.load T (.tmp 7),ty4,p4,a4,none⟩,⟨some 84,.call ⟨.value (.func f1),⟨[.tmp 83]⟩,y1⟩,ty5,p5,a5,none⟩,⟨some 85,.binOp .add T3 (.tmp 82) (.tmp 84) T4,ty6,p6,a6,none⟩,⟨some 86,.call ⟨.value (.func f2),⟨[.tmp 79,.tmp 80,.tmp 81,.tmp 85]⟩,y2⟩,ty7,p7,a7,none⟩,⟨some 10,.alloc T5,ty8,p8,a8,none⟩,⟨none,.store T5 (.tmp 10) (.tmp 86),ty9,p9,a9,none⟩]:=by rfl) (hbf:(qdj ops []==[0,0,0,0,0,16,56,127,0,511])=true:=by kernel_rfl) (hqs:qsB [0,0,0,0,0,16,56,127,0,511] ⟨ops⟩ [79,80,81,82,83,84,85] 7 8=true:=by kernel_rfl) (hd:qeb ⟨ops⟩ n ops.length=true:=by kernel_rfl) (hk:ksOk ⟨ops⟩ ks=true:=by kernel_rfl) (hmix:P.follows .mixedOrders=true:=by exact qll) (g0:envL l 0=.a x0:=by rfl) (g1:envL l 1=.a (.v (.int .i64 a)):=by rfl) (g2:envL l 2=.a (.v (.int .i64 sm)):=by rfl) (g7:envL l 7=.a (.ptr i 0):=by rfl) (hrow:st[i]? = some (.cell row):=by rfl) (hlk:ldk P T=some (some row.length):=by kernel_rfl) (hS2:lendR (st++[.cell zr]) (.r row)=lendR st (.r row):=by rfl) (h6:bin2 (qcn P T3) (eqOk P T3) .add (.a (.v (.int .i64 sm))) (.a (.v (.int .i64 z)))=some (.a (.v (.int .i64 sz))):=by assumption) (hs:σ.map (fun i=>st.getD i .gone)=bs:=by rfl) (hs2:σ.map (fun i=>(st++[Bx.cell zr]).getD i .gone)=bs:=by rfl) (hin:qd8 σ bs [.a x0,.a (.v (.int .i64 a)),.r row,.a (.v (.int .i64 sz))]=true:=by rfl) (hu:[.a x0,.a (.v (.int .i64 a)),.r row,.a (.v (.int .i64 sz))].map (unD σ)=ds:=by rfl) (hv:bs.map (unB σ)=st0:=by rfl) (hne:0<st1.length:=by exact Nat.le_of_ble_eq_true rfl) (hA:mrg σ st (st1.map (rnB (rnX σ st.length (st1.length-σ.length))))=stA:=by rfl) (hB:mrg σ (st++[.cell zr]) (st1.map (rnB (rnX σ (st.length+1) (st1.length-σ.length))))=stB:=by rfl) (hz:qh6 P T5=some zr:=by kernel_rfl) (hzo:szo P T5=some drow.length:=by kernel_rfl) (hzl:zr.length=drow.length:=by rfl) (hB2:stB[st.length]? = some (.cell zr):=by rfl) (hS1:qjs st (.r row)=true:=by first|rfl|(simp only [qjs,List.all_cons,List.all_nil,qfw,List.cons_append,List.nil_append,List.getElem?_cons_succ,List.getElem?_cons_zero,clA,beq_self_eq_true,Bool.and_true,Bool.and_self,cR])) (hS3:qjs (st++[.cell zr]) (.r row)=true:=by first|rfl|(simp only [qjs,List.all_cons,List.all_nil,qfw,List.cons_append,List.nil_append,List.getElem?_cons_succ,List.getElem?_cons_zero,clA,beq_self_eq_true,Bool.and_true,Bool.and_self,cR])):VD C n ks ops l st K:=by
  subst hops
  refine .wp fun id=>?_
  have rdl:∀(s:List Bx) (e:Nat→D) (dst:Option Nat) (ty:TypeId) (p:String) (af:Array Edge),s[i]? = some (Bx.cell row)→e 7=.a (.ptr i 0)→OpJ P s e ⟨dst,.load T (.tmp 7),ty,p,af,none⟩ (.r row):=fun s e dst ty p af h1 h2=>qel rfl (by
    show ldD s (ldk P T) (e 7)=_
    rw [h2,hlk]
    simp [ldD,h1,qap])
  have hlt:i<st.length:=(List.getElem?_eq_some_iff.1 hrow).1
  have hrow2:(st++[Bx.cell zr])[i]? = some (.cell row):=by rw [List.getElem?_append_left hlt];exact hrow
  have mv:∀(s:List Bx) (e:Nat→D) (dst:Option Nat) (x:Operand) (ty:TypeId) (p:String) (af:Array Edge) (d:D),evO e x=d→OpJ P s e ⟨dst,.move x,ty,p,af,none⟩ d:=fun s e dst x ty p af d h=>qel rfl (by show some (evO e x)=_;rw [h])
  have cS:∀(s:List Bx) (e:Nat→D) (ty:TypeId) (p:String) (af:Array Edge),e 83=.r row→lendR s (.r row)=lendR st (.r row)→qjs s (.r row)=true→OpJ P s e ⟨some 84,.call ⟨.value (.func f1),⟨[.tmp 83]⟩,y1⟩,ty,p,af,none⟩ (.a (.v (.int .i64 z))):=fun s e ty p af h1 h2 h3=>by
    refine OpJ.callR (o:=⟨some 84,.call ⟨.value (.func f1),⟨[.tmp 83]⟩,y1⟩,ty,p,af,none⟩) rfl (ds:=[lendR st (.r row)]) ?_ ?_ hS
    · show [lendR s (e 83)]=_;rw [h1,h2]
    · show ([e 83].all (qjs s))=true;rw [h1,List.all_cons,h3];rfl
  have ad:∀(s:List Bx) (e:Nat→D) (ty:TypeId) (p:String) (af:Array Edge),e 82=.a (.v (.int .i64 sm))→e 84=.a (.v (.int .i64 z))→OpJ P s e ⟨some 85,.binOp .add T3 (.tmp 82) (.tmp 84) T4,ty,p,af,none⟩ (.a (.v (.int .i64 sz))):=fun s e ty p af h1 h2=>qel rfl (by
    show bin2 (qcn P T3) (eqOk P T3) .add (e 82) (e 84)=_
    rw [h1,h2];exact h6)
  have al:∀(s:List Bx) (e:Nat→D) (ty:TypeId) (p:String) (af:Array Edge),OpG P s e ⟨some 10,.alloc T5,ty,p,af,none⟩ (.a (.ptr s.length 0)) (s++[.cell zr]):=fun s e ty p af=>qcy (by
    show boxD s (qh6 P T5)=_
    rw [hz];rfl)
  have so:∀(s:List Bx) (e:Nat→D) (ty:TypeId) (p:String) (af:Array Edge) (j:Nat) (r:List A),e 10=.a (.ptr j 0)→e 86=.r r→r.length=drow.length→s[j]? = some (.cell zr)→OpG P s e ⟨none,.store T5 (.tmp 10) (.tmp 86),ty,p,af,none⟩ .undef (s.set j (.cell r)):=fun s e ty p af j r h1 h2 h3 h4=>qcy (by
    show stoD s (szo P T5) (e 10) (qbn (e 86))=_
    rw [h1,h2,hzo]
    show (match s[j]? with|some (.cell row)=>if some drow.length=some r.length∧0+r.length≤row.length then some (D.undef,s.set j (.cell (qak row 0 r))) else none|_=>none)=_
    rw [h4]
    show (if _ then _ else _)=_
    rw [if_pos ⟨by rw [h3],by omega⟩,qbf (by omega)])
  have cM:∀(s:List Bx) (e:Nat→D) (ty:TypeId) (p:String) (af:Array Edge),e 79=.a x0→e 80=.a (.v (.int .i64 a))→e 81=.r row→e 85=.a (.v (.int .i64 sz))→e 1000000=envL l 1000000→σ.map (fun i=>s.getD i .gone)=bs→WS C (envL l 1000000) s e ⟨some 86,.call ⟨.value (.func f2),⟨[.tmp 79,.tmp 80,.tmp 81,.tmp 85]⟩,y2⟩,ty,p,af,none⟩ (.r (drow.map (rnA (rnX σ s.length (st1.length-σ.length))))) (mrg σ s (st1.map (rnB (rnX σ s.length (st1.length-σ.length))))):=fun s e ty p af h1 h2 h3 h4 h5 h6=>WS.callM (xs:=[.tmp 79,.tmp 80,.tmp 81,.tmp 85]) (vs:=[.a x0,.a (.v (.int .i64 a)),.r row,.a (.v (.int .i64 sz))]) (by show [e 79,e 80,e 81,e 85]=_;rw [h1,h2,h3,h4]) h6 hin hu hv h5 hp hne rfl rfl
  refine (WP.dH 7 8 [0,0,0,0,0,16,56,127,0,511] [0,0,0,0,0,16,56,127,128,511] [0,0,0,0,0,16,56,383,0,511] ks [79,80,81,82,83,84,85] (envL [(79,.a x0),(80,.a (.v (.int .i64 a))),(81,.r row),(82,.a (.v (.int .i64 sm))),(83,.r row),(84,.a (.v (.int .i64 z))),(85,.a (.v (.int .i64 sz)))]) stA (st++[.cell zr]) [(8,stA++[.cell zr]),(9,stA++[.cell (drow.map (rnA (rnX σ st.length (st1.length-σ.length))))])] [(7,stB),(9,stB.set st.length (.cell (drow.map (rnA (rnX σ (st.length+1) (st1.length-σ.length))))))] hbf (by kernel_rfl) (by kernel_rfl) (by kernel_rfl) (by kernel_rfl) (by kernel_rfl) hqs hd hk hmix ?_ ?_)
  · refine RWL.cons (.a x0) (rd_A rfl (mv _ _ _ _ _ _ _ _ g0) rfl) ?_
    refine RWL.cons (.a (.v (.int .i64 a))) (rd_A rfl (mv _ _ _ _ _ _ _ _ g1) rfl) ?_
    refine RWL.cons (.r row) (rd_A rfl (rdl _ _ _ _ _ _ hrow g7) rfl) ?_
    refine RWL.cons (.a (.v (.int .i64 sm))) (rd_A rfl (mv _ _ _ _ _ _ _ _ g2) rfl) ?_
    refine RWL.cons (.r row) (rd_A rfl (rdl _ _ _ _ _ _ hrow g7) rfl) ?_
    refine RWL.cons (.a (.v (.int .i64 z))) (rd_A rfl (cS _ _ _ _ _ rfl rfl hS1) rfl) ?_
    refine RWL.cons (.a (.v (.int .i64 sz))) (rd_A rfl (ad _ _ _ _ _ rfl rfl) rfl) ?_
    refine RWL.cons (.r (drow.map (rnA (rnX σ st.length (st1.length-σ.length))))) (wr_S rfl (hA▸cM _ _ _ _ _ rfl rfl rfl rfl rfl hs)) ?_
    refine RWL.cons (.a (.ptr stA.length 0)) (wr_G rfl rfl (al _ _ _ _ _)) ?_
    refine RWL.cons .undef (wr_G rfl rfl ?_) ?_
    · have:=so (stA++[.cell zr]) (putE (putE (putE (putE (putE (putE (putE (putE (putE (envL l) (some 79) (.a x0)) (some 80) (.a (.v (.int .i64 a)))) (some 81) (.r row)) (some 82) (.a (.v (.int .i64 sm)))) (some 83) (.r row)) (some 84) (.a (.v (.int .i64 z)))) (some 85) (.a (.v (.int .i64 sz)))) (some 86) (.r (drow.map (rnA (rnX σ st.length (st1.length-σ.length)))))) (some 10) (.a (.ptr stA.length 0))) ty9 p9 a9 stA.length (drow.map (rnA (rnX σ st.length (st1.length-σ.length)))) rfl rfl (List.length_map ..) (by simp)
      rwa [st_end] at this
    refine⟨fun t ht=>?_,rfl,_,?_,k1⟩
    · simp only [List.mem_cons,List.not_mem_nil,or_false] at ht
      rcases ht with rfl|rfl|rfl|rfl|rfl|rfl|rfl<;>rfl
    · rw [qd9];rfl
  · refine RWL.cons (.a x0) (rd_B rfl (mv _ _ _ _ _ _ _ _ g0) (mv _ _ _ _ _ _ _ _ g0) rfl) ?_
    refine RWL.cons (.a (.v (.int .i64 a))) (rd_B rfl (mv _ _ _ _ _ _ _ _ g1) (mv _ _ _ _ _ _ _ _ g1) rfl) ?_
    refine RWL.cons (.r row) (rd_B rfl (rdl _ _ _ _ _ _ hrow g7) (rdl _ _ _ _ _ _ hrow2 g7) rfl) ?_
    refine RWL.cons (.a (.v (.int .i64 sm))) (rd_B rfl (mv _ _ _ _ _ _ _ _ g2) (mv _ _ _ _ _ _ _ _ g2) rfl) ?_
    refine RWL.cons (.r row) (rd_B rfl (rdl _ _ _ _ _ _ hrow g7) (rdl _ _ _ _ _ _ hrow2 g7) rfl) ?_
    refine RWL.cons (.a (.v (.int .i64 z))) (rd_B rfl (cS _ _ _ _ _ rfl rfl hS1) (cS _ _ _ _ _ rfl hS2 hS3) rfl) ?_
    refine RWL.cons (.a (.v (.int .i64 sz))) (rd_B rfl (ad _ _ _ _ _ rfl rfl) (ad _ _ _ _ _ rfl rfl) rfl) ?_
    refine RWL.cons (.r (drow.map (rnA (rnX σ (st.length+1) (st1.length-σ.length))))) (wr_S rfl ?_) ?_
    · have:=cM (st++[.cell zr]) (putE (putE (putE (putE (putE (putE (putE (envL l) (some 79) (.a x0)) (some 80) (.a (.v (.int .i64 a)))) (some 81) (.r row)) (some 82) (.a (.v (.int .i64 sm)))) (some 83) (.r row)) (some 84) (.a (.v (.int .i64 z)))) (some 85) (.a (.v (.int .i64 sz)))) ty7 p7 a7 rfl rfl rfl rfl rfl hs2
      rw [List.length_append,List.length_singleton,hB] at this
      exact this
    refine RWL.cons (.a (.ptr st.length 0)) (wr_G rfl rfl (al _ _ _ _ _)) ?_
    refine RWL.cons .undef (wr_G rfl rfl (so stB _ _ _ _ st.length (drow.map (rnA (rnX σ (st.length+1) (st1.length-σ.length)))) rfl rfl (List.length_map ..) hB2)) ?_
    refine⟨fun t ht=>?_,rfl,_,?_,k2⟩
    · simp only [List.mem_cons,List.not_mem_nil,or_false] at ht
      rcases ht with rfl|rfl|rfl|rfl|rfl|rfl|rfl<;>rfl
    · rw [qd9];rfl
end
/-! ### Nil slices that need not be told as such -/
def nlx:A→A
  | .nl=>.sl []
  | x=>x
def nlxD:D→D
  | .a x=>.a (nlx x)
  | .r row=>.r (row.map nlx)
  | d=>d
theorem RepA.nlx {V:Vw} {x:A} {u:Value} (h:RepA V x u):RepA V (nlx x) u:=by
  cases x with
  | nl=>exact h.nlsl
  | _=>exact h
theorem RepD.nlx {V:Vw} {d:D} {u:Value} (h:RepD V d u):RepD V (nlxD d) u:=by
  cases h with
  | a x u h=>exact .a _ _ h.nlx
  | r row vs hl h =>
    refine .r _ vs (by simpa using hl) fun j x hj=>?_
    rw [List.getElem?_map,Option.map_eq_some_iff] at hj
    obtain⟨y,hy,rfl⟩:=hj
    exact (h j y hy).nlx
  | junk=>exact .junk _
  | undef=>exact .undef
  | t ds vs hl h=>exact .t ds vs hl h
theorem qaa.nlD {P:Program} {f:FuncId} {ds:List D} {d:D} (h:qaa P f (ds.map nlxD) d):qaa P f ds d:=by
  refine⟨h.1,fun w x vs hx hg hl hr=>h.2 w x vs hx hg (by simpa using hl) fun i d' hi=>?_⟩
  rw [List.getElem?_map,Option.map_eq_some_iff] at hi
  obtain⟨y,hy,rfl⟩:=hi
  exact (hr i y hy).nlx
def LessD (d d':D):Prop:=∀(V:Vw) (u:Value),RepD V d u→RepD V d' u
theorem LessD.refl (d:D):LessD d d:=fun _ _ h=>h
theorem LessD.row {row row':List A} (hl:row.length=row'.length) (h:∀(j:Nat) (x':A),row'[j]? = some x'→row[j]? = some x'∨(row[j]? = some .nl∧x'=.sl [])):LessD (.r row) (.r row'):=by
  intro V u hr
  cases hr with
  | r _ vs hvl hv =>
    refine .r _ vs (hvl.trans hl) fun j x hj=>?_
    rcases h j x hj with h1|⟨h1,rfl⟩
    · exact hv j x h1
    · exact (hv j _ h1).nlsl
theorem DM.less {P:Program} {f:FuncId} {ds ds':List D} {st0 st1:List Bx} {d:D} (hl:ds.length=ds'.length) (hr:∀(i:Nat) (d':D),ds'[i]? = some d'→∃d0,ds[i]? = some d0∧LessD d0 d') (h:DM P f ds' st0 d st1):DM P f ds st0 d st1:=by
  refine⟨h.nr,h.nd,h.le,h.go.1,fun V Nx vs q1 q2 q3 q4 q5 q6 q7=>h.go.2 V Nx vs q1 q2 q3 q4 q5 (by rw [q6,hl]) fun k d2 hk=>?_⟩
  obtain⟨d0,h1,h2⟩:=hr k d2 hk
  exact h2 _ _ (q7 k d0 h1)
end
section
set_option maxRecDepth 100000
inductive Ls
  | nn (x ow:A)
  | f (v:Nat)
  | m (v:Nat)
  | fm (vf vm:Nat)
def lsR (c:Cs):Ls→List A
  | .nn x ow=>cR c x ow .nl .nl
  | .f v=>cR c (.sl (c.params.map qaj)) (.sl (c.above.map owAt)) (.own 2 v) .nl
  | .m v=>cR c (.sl (c.params.map qaj)) (.sl (c.above.map owAt)) .nl (.own 2 v)
  | .fm vf vm=>cR c (.sl (c.params.map qaj)) (.sl (c.above.map owAt)) (.own 2 vf) (.own 3 vm)
def lsB (c:Cs) (s:Ls):List Bx:=.cell ((G9.at ⟨Cs.zero,Me.zero,[],[],0,0,0⟩).map nl1)::.cell (lsR c s)::(match s with
  | .nn _ _=>[]
  | .f v=>[.arr v 13 (c.fields.map Vr.at)]
  | .m v=>[.arr v 17 (c.methods.map Me.at)]
  | .fm vf vm=>[.arr vf 13 (c.fields.map Vr.at),.arr vm 17 (c.methods.map Me.at)])
def lsOk (c:Cs):Ls→Prop
  | .nn x ow=>c.fields=[]∧c.methods=[]∧(x=.sl (c.params.map qaj)∨x=.nl∧c.params=[])∧(ow=.sl (c.above.map owAt)∨ow=.nl∧c.above=[])
  | .f _=>c.methods=[]
  | .m _=>c.fields=[]
  | .fm _ _=>True
noncomputable def clsC:Code×List Fm:=((Tryz.f14.body).bind (ql6 · [])).getD (.skip,[])
attribute [local irreducible] nowT isT bad9 mem9 clsF
theorem member_nx (l:List Tok) (hl:Toks l) (a:Int) (c:Cs) (x ow:A) (hx:x=.sl (c.params.map qaj)∨x=.nl∧c.params=[]) (ho:ow=.sl (c.above.map owAt)∨ow=.nl∧c.above=[]) (hn:c.params.length≤1048576) (sum:Int) (h0:0≤a) (h1:a≤l.length) (s0:0≤sum) (s1:sum≤400):DM Tryz.prog 35 [.a (.sl (l.map Tok.at)),.a (.v (.int .i64 a)),.r (cR c x ow .nl .nl),.a (.v (.int .i64 sum))] [] (.r (moR0 c (.sl (c.params.map qaj)) (.sl (c.above.map owAt)) (mem9 l c.params a sum (isT (nowT l a) qbw) 0 0 (bif isT (nowT l a) qbw then a+1 else a)))) (moS0 (mem9 l c.params a sum (isT (nowT l a) qbw) 0 0 (bif isT (nowT l a) qbw then a+1 else a))):=by
  refine DM.less (ds':=[.a (.sl (l.map Tok.at)),.a (.v (.int .i64 a)),.r (cR c (.sl (c.params.map qaj)) (.sl (c.above.map owAt)) .nl .nl),.a (.v (.int .i64 sum))]) rfl (fun i d' hi=>?_) ?_
  · match i,hi with
    | 0,hi=>exact⟨_,rfl,by injection hi with hi;subst hi;exact .refl _⟩
    | 1,hi=>exact⟨_,rfl,by injection hi with hi;subst hi;exact .refl _⟩
    | 3,hi=>exact⟨_,rfl,by injection hi with hi;subst hi;exact .refl _⟩
    | 2,hi =>
      refine⟨_,rfl,?_⟩
      injection hi with hi;subst hi
      refine .row rfl fun j x' hj=>?_
      match j,hj with
      | 0,hj=>exact .inl hj
      | 1,hj =>
        injection hj with hj;subst hj
        rcases hx with rfl|⟨rfl,e⟩
        · exact .inl rfl
        · exact .inr ⟨rfl,by rw [e];rfl⟩
      | 2,hj=>exact .inl hj
      | 3,hj =>
        injection hj with hj;subst hj
        rcases ho with rfl|⟨rfl,e⟩
        · exact .inl rfl
        · exact .inr ⟨rfl,by rw [e];rfl⟩
      | 4,hj=>exact .inl hj
      | 5,hj=>exact .inl hj
      | 6,hj=>exact .inl hj
  · cases hp:isT (nowT l a) qbw with
    | false=>exact member_nn l hl c.params hn a c c.above sum h0 h1 s0 s1 hp
    | true=>exact qms l hl c.params hn a c c.above sum h0 h1 s0 s1 hp
theorem clsLoop (l:List Tok) (hl:Toks l) (sum:Int) (s0:0≤sum) (b:Int) (hb0:0≤b) (g:G9) (C:Cx Tryz.prog) (hst:C.V0.st=[]) (fu k:Nat) (a:Int) (c:Cs) (s:Ls) (hba:b≤a) (h1:a≤l.length) (hk:(l.length:Int)-a<k) (hr:c.rightB=true) (hz:(c.sz:Int)≤21*(a-b)) (hc:sum+(c.stmts:Int)≤400) (hs:lsOk c s) (hg:clsF l k a sum c=g) (l0:EL) (st0:List Bx) (σ:List Nat) (hA:qal (envL l0) (rnE σ [(0,.a (.sl (l.map Tok.at))),(1,.a (.v (.int .i64 a))),(2,.a (.v (.int .i64 sum))),(6,.a (.ptr 0 0)),(7,.a (.ptr 1 0))])) (hU:qf7 st0 σ [(0,.a (.sl (l.map Tok.at))),(1,.a (.v (.int .i64 a))),(2,.a (.v (.int .i64 sum))),(6,.a (.ptr 0 0)),(7,.a (.ptr 1 0))] (lsB c s)):VL C 100 [0,1,2,6,7,8,9,10,21,36,43,52,60,69,78,90] clsC.1 l0 st0 fun ex l' st'=>vm Tryz.prog C 100 [0,1,2,6,7,8,9,10,21,36,43,52,60,69,78,90] (fu+60) (.pop ex) clsC.2 l' st' (vret Tryz.prog 100 [.cell 6 61] (.r (G9.at g))):=by
  have hlen:=hl.len
  have hL:l.length≤1048576:=by omega
  refine VL.gR (α:={ y:(Int×Cs×Ls)×Nat // b≤y.1.1∧y.1.1≤l.length∧(l.length:Int)-y.1.1<y.2∧y.1.2.1.rightB=true∧(y.1.2.1.sz:Int)≤21*(y.1.1-b)∧sum+(y.1.2.1.stmts:Int)≤400∧lsOk y.1.2.1 y.1.2.2∧clsF l y.2 y.1.1 sum y.1.2.1=g }) (fun y=>[(0,.a (.sl (l.map Tok.at))),(1,.a (.v (.int .i64 y.1.1.1))),(2,.a (.v (.int .i64 sum))),(6,.a (.ptr 0 0)),(7,.a (.ptr 1 0))]) (fun y=>lsB y.1.1.2.1 y.1.1.2.2) (fun y=>y.1.2) ⟨((a,c,s),k),hba,h1,hk,hr,hz,hc,hs,hg⟩ σ hA hU hst ?_
  clear hA hU hg hs hc hz hr hk h1 hba
  rintro⟨⟨⟨a,c,s⟩,k⟩,hba,h1,hk,hr,hz,hc,hs,hg⟩
  dsimp only at hba h1 hk hr hz hc hs hg ⊢
  obtain⟨k,rfl⟩:∃k',k=k'+1:=⟨k-1,by omega⟩
  rw [clsF_s] at hg
  have hi:=fun s=>qbx l a s hL
  have hS:qaa Tryz.prog 15 [.r (Cs.at c)] (.a (.v (.int .i64 c.stmts))):=pStmts c (by omega)
  have wS:IntKind.i64.wrap (sum+(c.stmts:Int))=sum+(c.stmts:Int):=qah (by omega) (by omega)
  have wa:IntKind.i64.wrap (a+1)=a+1:=qah (by omega) (by omega)
  have h6:some (D.a (.v (.int .i64 (IntKind.i64.wrap (sum+(c.stmts:Int))))))=some (D.a (.v (.int .i64 (sum+(c.stmts:Int))))):=by rw [wS]
  obtain⟨hfl,hml,hpl⟩:=Cs.lens hr
  have hpn:c.params.length≤1048576:=by omega
  have a0:0≤a:=by omega
  have q0:0≤sum+(c.stmts:Int):=by omega
  have hpa:a≤(bif isT (nowT l a) qbw then a+1 else a):=by cases isT (nowT l a) qbw<;>simp<;>omega
  obtain⟨o,ho⟩:∃o,mem9 l c.params a (sum+(c.stmts:Int)) (isT (nowT l a) qbw) c.fields.length c.methods.length (bif isT (nowT l a) qbw then a+1 else a)=o:=⟨_,rfl⟩
  obtain⟨hb1,hb2⟩:=ql4 (l:=l) c.params (bif isT (nowT l a) qbw then a+1 else a) a (sum+(c.stmts:Int)) (isT (nowT l a) qbw) c.fields.length c.methods.length
  have hm1:=fun m n=>ql2 hl (ps:=c.params) (bif isT (nowT l a) qbw then a+1 else a) a (sum+(c.stmts:Int)) (isT (nowT l a) qbw) c.fields.length c.methods.length m n a0 hpa hc
  have hm2:=fun v n=>ql3 hl (ps:=c.params) (bif isT (nowT l a) qbw then a+1 else a) a (sum+(c.stmts:Int)) (isT (nowT l a) qbw) c.fields.length c.methods.length v n hpa
  rw [ho] at hb1 hb2 hm1 hm2
  cases s with
  | nn x ow =>
    obtain⟨e1,e2,e3,e4⟩:=hs
    have hM:DM Tryz.prog 35 [.a (.sl (l.map Tok.at)),.a (.v (.int .i64 a)),.r (cR c x ow .nl .nl),.a (.v (.int .i64 (sum+(c.stmts:Int))))] [] (.r (moR0 c (.sl (c.params.map qaj)) (.sl (c.above.map owAt)) o)) (moS0 o):=by rw [←ho,e1,e2];exact member_nx l hl a c x ow e3 e4 hpn _ a0 h1 q0 hc
    have hSn:qaa Tryz.prog 15 [.r (cR c x ow .nl .nl)] (.a (.v (.int .i64 c.stmts))):=qaa.nlD (by rcases e3 with rfl|⟨rfl,e3⟩<;>rcases e4 with rfl|⟨rfl,e4⟩<;>simp only [Cs.at,e1,e2,List.map_nil, *] at hS<;>exact hS)
    rcases e3 with rfl|⟨rfl,e3⟩<;>rcases e4 with rfl|⟨rfl,e4⟩
    all_goals
      simp only [lsB,lsR]
      repeat' ((conv=>whnf);first|(show VK ..;refine xK ?_)|(show VB ..;first|refine VB.tt (by decide) ?_|refine VB.ff (by decide) ?_|refine VB.mk (fun hc=>?_) fun hc=>?_)|(show VC ..;first|refine xC (fun hg=>by exact hi _) ?_|refine xL (fun hg=>by exact hi _) ?_)|(show VI ..;refine xJ ?_)|(show VG ..;refine xG ?_)|(show VA ..;refine xA ?_)|(show VZ ..;refine .n ?_)|(show VE ..;refine .mk ?_))
      rotate_left
      · rw [show isT (nowT l a) [125]=true by simpa using hc,cond_true] at hg
        subst hg
        rw [wa]
        simp only [G9.at,Cs.at,e1,e2,List.map_nil, *];rfl
      have hq:isT (nowT l a) [125]=false:=by simpa using hc
      rw [hq,cond_false,ho] at hg
      (conv=>whnf)
      cases o with
      | bad q =>
        refine qek (σ:=[]) (row:=_) (zr:=(G9.at ⟨Cs.zero,Me.zero,[],[],0,0,0⟩)) (z:=(c.stmts:Nat)) (sz:=sum+(c.stmts:Int)) hSn hM ?_ ?_
        all_goals
          repeat' ((conv=>whnf);first|(show VD ..;refine .q ?_)|(show VK ..;refine xK ?_)|(show VB ..;first|refine VB.tt (by exact hb1 q rfl) ?_|refine VB.ff (by exact hb1 q rfl) ?_|refine VB.mk (fun hc=>?_) fun hc=>?_)|(show VI ..;refine xJ ?_)|(show VG ..;refine xG ?_)|(show VA ..;refine xA ?_)|(show VZ ..;refine .n ?_)|(show VE ..;refine .mk ?_))
          rw [←hg];rfl
      | flt e f =>
        refine qek (σ:=[]) (row:=_) (zr:=(G9.at ⟨Cs.zero,Me.zero,[],[],0,0,0⟩)) (z:=(c.stmts:Nat)) (sz:=sum+(c.stmts:Int)) hSn hM ?_ ?_
        all_goals
          repeat' ((conv=>whnf);first|(show VD ..;refine .q ?_)|(show VK ..;refine xK ?_)|(show VB ..;first|refine VB.tt (by exact hb2 e f rfl) ?_|refine VB.ff (by exact hb2 e f rfl) ?_|refine VB.mk (fun hc=>?_) fun hc=>?_)|(show VI ..;refine xJ ?_)|(show VG ..;refine xG ?_)|(show VA ..;refine xA ?_)|(show VZ ..;refine .n ?_)|(show VE ..;refine .mk ?_))
          rw [←hg];rfl
      | met m n =>
        obtain⟨q,qn⟩:=hm1 m n rfl
        obtain⟨w1,w2,w3⟩:=Cs.addM hr q.r qn
        have q1:=q.lt;have q2:=q.le;have q3:=q.sz;have q4:=q.ct
        refine qek (σ:=[]) (row:=_) (zr:=(G9.at ⟨Cs.zero,Me.zero,[],[],0,0,0⟩)) (z:=(c.stmts:Nat)) (sz:=sum+(c.stmts:Int)) hSn hM ?_ ?_
        · repeat' ((conv=>whnf);first|(show VD ..;refine .q ?_)|(show VK ..;refine xK ?_)|(show VB ..;first|refine VB.tt (by exact rfl) ?_|refine VB.ff (by exact rfl) ?_|refine VB.mk (fun hc=>?_) fun hc=>?_)|(show VI ..;refine xJ ?_)|(show VG ..;refine xG ?_)|(show VA ..;refine xA ?_)|(show VZ ..;refine .n ?_)|(show VE ..;refine .mk ?_))
          exact⟨⟨((n,{ c with methods:=c.methods++[m] },.m 0),k),by dsimp only;omega,q2,by dsimp only;omega,w1,by dsimp only;rw [w2];omega,by dsimp only;rw [w3];omega,e1,hg⟩,[0,1,8],Nat.lt_succ_self _,⟨rfl,rfl,rfl,rfl,rfl,trivial⟩,⟨by decide,congrArg (fun q=>[_,_,some (Bx.arr 0 17 q)]) (show [Me.at m]=List.map Me.at (c.methods++[m]) by rw [e2];rfl),rfl,rfl,rfl⟩⟩
        · repeat' ((conv=>whnf);first|(show VD ..;refine .q ?_)|(show VK ..;refine xK ?_)|(show VB ..;first|refine VB.tt (by exact rfl) ?_|refine VB.ff (by exact rfl) ?_|refine VB.mk (fun hc=>?_) fun hc=>?_)|(show VI ..;refine xJ ?_)|(show VG ..;refine xG ?_)|(show VA ..;refine xA ?_)|(show VZ ..;refine .n ?_)|(show VE ..;refine .mk ?_))
          exact⟨⟨((n,{ c with methods:=c.methods++[m] },.m 0),k),by dsimp only;omega,q2,by dsimp only;omega,w1,by dsimp only;rw [w2];omega,by dsimp only;rw [w3];omega,e1,hg⟩,[0,1,9],Nat.lt_succ_self _,⟨rfl,rfl,rfl,rfl,rfl,trivial⟩,⟨by decide,congrArg (fun q=>[_,_,some (Bx.arr 0 17 q)]) (show [Me.at m]=List.map Me.at (c.methods++[m]) by rw [e2];rfl),rfl,rfl,rfl⟩⟩
      | fld v n =>
        obtain⟨q,qn⟩:=hm2 v n rfl
        obtain⟨w1,w2,w3⟩:=Cs.addF hr q.r qn
        have q1:=q.lt;have q2:=q.le;have q3:=q.sz
        refine qek (σ:=[]) (row:=_) (zr:=(G9.at ⟨Cs.zero,Me.zero,[],[],0,0,0⟩)) (z:=(c.stmts:Nat)) (sz:=sum+(c.stmts:Int)) hSn hM ?_ ?_
        · repeat' ((conv=>whnf);first|(show VD ..;refine .q ?_)|(show VK ..;refine xK ?_)|(show VB ..;first|refine VB.tt (by exact rfl) ?_|refine VB.ff (by exact rfl) ?_|refine VB.mk (fun hc=>?_) fun hc=>?_)|(show VI ..;refine xJ ?_)|(show VG ..;refine xG ?_)|(show VA ..;refine xA ?_)|(show VZ ..;refine .n ?_)|(show VE ..;refine .mk ?_))
          exact⟨⟨((n,{ c with fields:=c.fields++[v] },.f 0),k),by dsimp only;omega,q2,by dsimp only;omega,w1,by dsimp only;rw [w2];omega,by dsimp only;rw [w3];omega,e2,hg⟩,[0,1,7],Nat.lt_succ_self _,⟨rfl,rfl,rfl,rfl,rfl,trivial⟩,⟨by decide,congrArg (fun q=>[_,_,some (Bx.arr 0 13 q)]) (show [Vr.at v]=List.map Vr.at (c.fields++[v]) by rw [e1];rfl),rfl,rfl,rfl⟩⟩
        · repeat' ((conv=>whnf);first|(show VD ..;refine .q ?_)|(show VK ..;refine xK ?_)|(show VB ..;first|refine VB.tt (by exact rfl) ?_|refine VB.ff (by exact rfl) ?_|refine VB.mk (fun hc=>?_) fun hc=>?_)|(show VI ..;refine xJ ?_)|(show VG ..;refine xG ?_)|(show VA ..;refine xA ?_)|(show VZ ..;refine .n ?_)|(show VE ..;refine .mk ?_))
          exact⟨⟨((n,{ c with fields:=c.fields++[v] },.f 0),k),by dsimp only;omega,q2,by dsimp only;omega,w1,by dsimp only;rw [w2];omega,by dsimp only;rw [w3];omega,e2,hg⟩,[0,1,8],Nat.lt_succ_self _,⟨rfl,rfl,rfl,rfl,rfl,trivial⟩,⟨by decide,congrArg (fun q=>[_,_,some (Bx.arr 0 13 q)]) (show [Vr.at v]=List.map Vr.at (c.fields++[v]) by rw [e1];rfl),rfl,rfl,rfl⟩⟩
  | f vf =>
    have e2:c.methods=[]:=hs
    have hM:DM Tryz.prog 35 [.a (.sl (l.map Tok.at)),.a (.v (.int .i64 a)),.r (cR c (.sl (c.params.map qaj)) (.sl (c.above.map owAt)) (.own 0 vf) .nl),.a (.v (.int .i64 (sum+(c.stmts:Int))))] [.arr vf 13 (c.fields.map Vr.at)] (.r (moR c (.sl (c.params.map qaj)) (.sl (c.above.map owAt)) (.own 0 vf) .nl (.own 0 (vf+1)) (.own 7 0) o)) (moS [.gone] (fun m=>[.arr vf 13 (c.fields.map Vr.at),.gone,.gone,.gone,.gone,.gone,.gone,.arr 0 17 [Me.at m]]) (fun v=>[.arr (vf+1) 13 (c.fields.map Vr.at++[Vr.at v])]) o):=by
      rw [←ho,e2]
      cases hp:isT (nowT l a) qbw with
      | false =>
        have:=member_f l hl c.params hpn a c c.above (sum+(c.stmts:Int)) vf c.fields hfl a0 h1 q0 hc hp
        simp only [List.length_map] at this;exact this
      | true =>
        have:=member_fp l hl c.params hpn a c c.above (sum+(c.stmts:Int)) vf c.fields hfl a0 h1 q0 hc hp
        simp only [List.length_map] at this;exact this
    have hSn:qaa Tryz.prog 15 [.r (cR c (.sl (c.params.map qaj)) (.sl (c.above.map owAt)) (.sl (c.fields.map Vr.at)) .nl)] (.a (.v (.int .i64 c.stmts))):=qaa.nlD (by simp only [Cs.at,e2,List.map_nil] at hS;exact hS)
    all_goals
      simp only [lsB,lsR]
      repeat' ((conv=>whnf);first|(show VK ..;refine xK ?_)|(show VB ..;first|refine VB.tt (by decide) ?_|refine VB.ff (by decide) ?_|refine VB.mk (fun hc=>?_) fun hc=>?_)|(show VC ..;first|refine xC (fun hg=>by exact hi _) ?_|refine xL (fun hg=>by exact hi _) ?_)|(show VI ..;refine xJ ?_)|(show VG ..;refine xG ?_)|(show VA ..;refine xA ?_)|(show VZ ..;refine .n ?_)|(show VE ..;refine .mk ?_))
      rotate_left
      · rw [show isT (nowT l a) [125]=true by simpa using hc,cond_true] at hg
        subst hg
        rw [wa]
        simp only [G9.at,Cs.at,e2,List.map_nil];rfl
      have hq:isT (nowT l a) [125]=false:=by simpa using hc
      rw [hq,cond_false,ho] at hg
      (conv=>whnf)
      cases o with
      | bad q =>
        refine qek (σ:=[2]) (row:=cR c (.sl (c.params.map qaj)) (.sl (c.above.map owAt)) (.own 2 vf) .nl) (zr:=(G9.at ⟨Cs.zero,Me.zero,[],[],0,0,0⟩)) (z:=(c.stmts:Nat)) (sz:=sum+(c.stmts:Int)) (by show qaa _ _ [D.r (List.map (lend0 _) (cR c (.sl (c.params.map qaj)) (.sl (c.above.map owAt)) (.own 2 vf) .nl))] _;simp only [cR,List.map_cons,List.map_nil,lend0,List.getElem?_cons_succ,List.getElem?_cons_zero,eq_self_iff_true,if_true];exact hSn) hM ?_ ?_
        all_goals
          repeat' ((conv=>whnf);first|(show VD ..;refine .q ?_)|(show VK ..;refine xK ?_)|(show VB ..;first|refine VB.tt (by exact hb1 q rfl) ?_|refine VB.ff (by exact hb1 q rfl) ?_|refine VB.mk (fun hc=>?_) fun hc=>?_)|(show VI ..;refine xJ ?_)|(show VG ..;refine xG ?_)|(show VA ..;refine xA ?_)|(show VZ ..;refine .n ?_)|(show VE ..;refine .mk ?_))
          rw [←hg];rfl
      | flt e f =>
        refine qek (σ:=[2]) (row:=cR c (.sl (c.params.map qaj)) (.sl (c.above.map owAt)) (.own 2 vf) .nl) (zr:=(G9.at ⟨Cs.zero,Me.zero,[],[],0,0,0⟩)) (z:=(c.stmts:Nat)) (sz:=sum+(c.stmts:Int)) (by show qaa _ _ [D.r (List.map (lend0 _) (cR c (.sl (c.params.map qaj)) (.sl (c.above.map owAt)) (.own 2 vf) .nl))] _;simp only [cR,List.map_cons,List.map_nil,lend0,List.getElem?_cons_succ,List.getElem?_cons_zero,eq_self_iff_true,if_true];exact hSn) hM ?_ ?_
        all_goals
          repeat' ((conv=>whnf);first|(show VD ..;refine .q ?_)|(show VK ..;refine xK ?_)|(show VB ..;first|refine VB.tt (by exact hb2 e f rfl) ?_|refine VB.ff (by exact hb2 e f rfl) ?_|refine VB.mk (fun hc=>?_) fun hc=>?_)|(show VI ..;refine xJ ?_)|(show VG ..;refine xG ?_)|(show VA ..;refine xA ?_)|(show VZ ..;refine .n ?_)|(show VE ..;refine .mk ?_))
          rw [←hg];rfl
      | met m n =>
        obtain⟨q,qn⟩:=hm1 m n rfl
        obtain⟨w1,w2,w3⟩:=Cs.addM hr q.r qn
        have q1:=q.lt;have q2:=q.le;have q3:=q.sz;have q4:=q.ct
        refine qek (σ:=[2]) (row:=cR c (.sl (c.params.map qaj)) (.sl (c.above.map owAt)) (.own 2 vf) .nl) (zr:=(G9.at ⟨Cs.zero,Me.zero,[],[],0,0,0⟩)) (z:=(c.stmts:Nat)) (sz:=sum+(c.stmts:Int)) (by show qaa _ _ [D.r (List.map (lend0 _) (cR c (.sl (c.params.map qaj)) (.sl (c.above.map owAt)) (.own 2 vf) .nl))] _;simp only [cR,List.map_cons,List.map_nil,lend0,List.getElem?_cons_succ,List.getElem?_cons_zero,eq_self_iff_true,if_true];exact hSn) hM ?_ ?_
        · repeat' ((conv=>whnf);first|(show VD ..;refine .q ?_)|(show VK ..;refine xK ?_)|(show VB ..;first|refine VB.tt (by exact rfl) ?_|refine VB.ff (by exact rfl) ?_|refine VB.mk (fun hc=>?_) fun hc=>?_)|(show VI ..;refine xJ ?_)|(show VG ..;refine xG ?_)|(show VA ..;refine xA ?_)|(show VZ ..;refine .n ?_)|(show VE ..;refine .mk ?_))
          exact⟨⟨((n,{ c with methods:=c.methods++[m] },.fm vf 0),k),by dsimp only;omega,q2,by dsimp only;omega,w1,by dsimp only;rw [w2];omega,by dsimp only;rw [w3];omega,trivial,hg⟩,[0,1,2,9],Nat.lt_succ_self _,⟨rfl,rfl,rfl,rfl,rfl,trivial⟩,⟨by decide,congrArg (fun q=>[_,_,_,some (Bx.arr 0 17 q)]) (show [Me.at m]=List.map Me.at (c.methods++[m]) by rw [e2];rfl),rfl,rfl,rfl⟩⟩
        · repeat' ((conv=>whnf);first|(show VD ..;refine .q ?_)|(show VK ..;refine xK ?_)|(show VB ..;first|refine VB.tt (by exact rfl) ?_|refine VB.ff (by exact rfl) ?_|refine VB.mk (fun hc=>?_) fun hc=>?_)|(show VI ..;refine xJ ?_)|(show VG ..;refine xG ?_)|(show VA ..;refine xA ?_)|(show VZ ..;refine .n ?_)|(show VE ..;refine .mk ?_))
          exact⟨⟨((n,{ c with methods:=c.methods++[m] },.fm vf 0),k),by dsimp only;omega,q2,by dsimp only;omega,w1,by dsimp only;rw [w2];omega,by dsimp only;rw [w3];omega,trivial,hg⟩,[0,1,2,10],Nat.lt_succ_self _,⟨rfl,rfl,rfl,rfl,rfl,trivial⟩,⟨by decide,congrArg (fun q=>[_,_,_,some (Bx.arr 0 17 q)]) (show [Me.at m]=List.map Me.at (c.methods++[m]) by rw [e2];rfl),rfl,rfl,rfl⟩⟩
      | fld v n =>
        obtain⟨q,qn⟩:=hm2 v n rfl
        obtain⟨w1,w2,w3⟩:=Cs.addF hr q.r qn
        have q1:=q.lt;have q2:=q.le;have q3:=q.sz
        refine qek (σ:=[2]) (row:=cR c (.sl (c.params.map qaj)) (.sl (c.above.map owAt)) (.own 2 vf) .nl) (zr:=(G9.at ⟨Cs.zero,Me.zero,[],[],0,0,0⟩)) (z:=(c.stmts:Nat)) (sz:=sum+(c.stmts:Int)) (by show qaa _ _ [D.r (List.map (lend0 _) (cR c (.sl (c.params.map qaj)) (.sl (c.above.map owAt)) (.own 2 vf) .nl))] _;simp only [cR,List.map_cons,List.map_nil,lend0,List.getElem?_cons_succ,List.getElem?_cons_zero,eq_self_iff_true,if_true];exact hSn) hM ?_ ?_
        · repeat' ((conv=>whnf);first|(show VD ..;refine .q ?_)|(show VK ..;refine xK ?_)|(show VB ..;first|refine VB.tt (by exact rfl) ?_|refine VB.ff (by exact rfl) ?_|refine VB.mk (fun hc=>?_) fun hc=>?_)|(show VI ..;refine xJ ?_)|(show VG ..;refine xG ?_)|(show VA ..;refine xA ?_)|(show VZ ..;refine .n ?_)|(show VE ..;refine .mk ?_))
          exact⟨⟨((n,{ c with fields:=c.fields++[v] },.f (vf+1)),k),by dsimp only;omega,q2,by dsimp only;omega,w1,by dsimp only;rw [w2];omega,by dsimp only;rw [w3];omega,e2,hg⟩,[0,1,2],Nat.lt_succ_self _,⟨rfl,rfl,rfl,rfl,rfl,trivial⟩,⟨by decide,congrArg (fun q=>[_,_,some (Bx.arr (vf+1) 13 q)]) (show List.map Vr.at c.fields++[Vr.at v]=List.map Vr.at (c.fields++[v]) by rw [List.map_append];rfl),rfl,rfl,rfl⟩⟩
        · repeat' ((conv=>whnf);first|(show VD ..;refine .q ?_)|(show VK ..;refine xK ?_)|(show VB ..;first|refine VB.tt (by exact rfl) ?_|refine VB.ff (by exact rfl) ?_|refine VB.mk (fun hc=>?_) fun hc=>?_)|(show VI ..;refine xJ ?_)|(show VG ..;refine xG ?_)|(show VA ..;refine xA ?_)|(show VZ ..;refine .n ?_)|(show VE ..;refine .mk ?_))
          exact⟨⟨((n,{ c with fields:=c.fields++[v] },.f (vf+1)),k),by dsimp only;omega,q2,by dsimp only;omega,w1,by dsimp only;rw [w2];omega,by dsimp only;rw [w3];omega,e2,hg⟩,[0,1,2],Nat.lt_succ_self _,⟨rfl,rfl,rfl,rfl,rfl,trivial⟩,⟨by decide,congrArg (fun q=>[_,_,some (Bx.arr (vf+1) 13 q)]) (show List.map Vr.at c.fields++[Vr.at v]=List.map Vr.at (c.fields++[v]) by rw [List.map_append];rfl),rfl,rfl,rfl⟩⟩
  | m vm =>
    have e1:c.fields=[]:=hs
    have hM:DM Tryz.prog 35 [.a (.sl (l.map Tok.at)),.a (.v (.int .i64 a)),.r (cR c (.sl (c.params.map qaj)) (.sl (c.above.map owAt)) .nl (.own 0 vm)),.a (.v (.int .i64 (sum+(c.stmts:Int))))] [.arr vm 17 (c.methods.map Me.at)] (.r (moR c (.sl (c.params.map qaj)) (.sl (c.above.map owAt)) .nl (.own 0 vm) (.own 6 0) (.own 0 (vm+1)) o)) (moS [.gone] (fun m=>[.arr (vm+1) 17 (c.methods.map Me.at++[Me.at m])]) (fun v=>[.arr vm 17 (c.methods.map Me.at),.gone,.gone,.gone,.gone,.gone,.arr 0 13 [Vr.at v]]) o):=by
      rw [←ho,e1]
      cases hp:isT (nowT l a) qbw with
      | false =>
        have:=member_m l hl c.params hpn a c c.above (sum+(c.stmts:Int)) vm c.methods hml a0 h1 q0 hc hp
        simp only [List.length_map] at this;exact this
      | true =>
        have:=member_mp l hl c.params hpn a c c.above (sum+(c.stmts:Int)) vm c.methods hml a0 h1 q0 hc hp
        simp only [List.length_map] at this;exact this
    have hSn:qaa Tryz.prog 15 [.r (cR c (.sl (c.params.map qaj)) (.sl (c.above.map owAt)) .nl (.sl (c.methods.map Me.at)))] (.a (.v (.int .i64 c.stmts))):=qaa.nlD (by simp only [Cs.at,e1,List.map_nil] at hS;exact hS)
    all_goals
      simp only [lsB,lsR]
      repeat' ((conv=>whnf);first|(show VK ..;refine xK ?_)|(show VB ..;first|refine VB.tt (by decide) ?_|refine VB.ff (by decide) ?_|refine VB.mk (fun hc=>?_) fun hc=>?_)|(show VC ..;first|refine xC (fun hg=>by exact hi _) ?_|refine xL (fun hg=>by exact hi _) ?_)|(show VI ..;refine xJ ?_)|(show VG ..;refine xG ?_)|(show VA ..;refine xA ?_)|(show VZ ..;refine .n ?_)|(show VE ..;refine .mk ?_))
      rotate_left
      · rw [show isT (nowT l a) [125]=true by simpa using hc,cond_true] at hg
        subst hg
        rw [wa]
        simp only [G9.at,Cs.at,e1,List.map_nil];rfl
      have hq:isT (nowT l a) [125]=false:=by simpa using hc
      rw [hq,cond_false,ho] at hg
      (conv=>whnf)
      cases o with
      | bad q =>
        refine qek (σ:=[2]) (row:=cR c (.sl (c.params.map qaj)) (.sl (c.above.map owAt)) .nl (.own 2 vm)) (zr:=(G9.at ⟨Cs.zero,Me.zero,[],[],0,0,0⟩)) (z:=(c.stmts:Nat)) (sz:=sum+(c.stmts:Int)) (by show qaa _ _ [D.r (List.map (lend0 _) (cR c (.sl (c.params.map qaj)) (.sl (c.above.map owAt)) .nl (.own 2 vm)))] _;simp only [cR,List.map_cons,List.map_nil,lend0,List.getElem?_cons_succ,List.getElem?_cons_zero,eq_self_iff_true,if_true];exact hSn) hM ?_ ?_
        all_goals
          repeat' ((conv=>whnf);first|(show VD ..;refine .q ?_)|(show VK ..;refine xK ?_)|(show VB ..;first|refine VB.tt (by exact hb1 q rfl) ?_|refine VB.ff (by exact hb1 q rfl) ?_|refine VB.mk (fun hc=>?_) fun hc=>?_)|(show VI ..;refine xJ ?_)|(show VG ..;refine xG ?_)|(show VA ..;refine xA ?_)|(show VZ ..;refine .n ?_)|(show VE ..;refine .mk ?_))
          rw [←hg];rfl
      | flt e f =>
        refine qek (σ:=[2]) (row:=cR c (.sl (c.params.map qaj)) (.sl (c.above.map owAt)) .nl (.own 2 vm)) (zr:=(G9.at ⟨Cs.zero,Me.zero,[],[],0,0,0⟩)) (z:=(c.stmts:Nat)) (sz:=sum+(c.stmts:Int)) (by show qaa _ _ [D.r (List.map (lend0 _) (cR c (.sl (c.params.map qaj)) (.sl (c.above.map owAt)) .nl (.own 2 vm)))] _;simp only [cR,List.map_cons,List.map_nil,lend0,List.getElem?_cons_succ,List.getElem?_cons_zero,eq_self_iff_true,if_true];exact hSn) hM ?_ ?_
        all_goals
          repeat' ((conv=>whnf);first|(show VD ..;refine .q ?_)|(show VK ..;refine xK ?_)|(show VB ..;first|refine VB.tt (by exact hb2 e f rfl) ?_|refine VB.ff (by exact hb2 e f rfl) ?_|refine VB.mk (fun hc=>?_) fun hc=>?_)|(show VI ..;refine xJ ?_)|(show VG ..;refine xG ?_)|(show VA ..;refine xA ?_)|(show VZ ..;refine .n ?_)|(show VE ..;refine .mk ?_))
          rw [←hg];rfl
      | met m n =>
        obtain⟨q,qn⟩:=hm1 m n rfl
        obtain⟨w1,w2,w3⟩:=Cs.addM hr q.r qn
        have q1:=q.lt;have q2:=q.le;have q3:=q.sz;have q4:=q.ct
        refine qek (σ:=[2]) (row:=cR c (.sl (c.params.map qaj)) (.sl (c.above.map owAt)) .nl (.own 2 vm)) (zr:=(G9.at ⟨Cs.zero,Me.zero,[],[],0,0,0⟩)) (z:=(c.stmts:Nat)) (sz:=sum+(c.stmts:Int)) (by show qaa _ _ [D.r (List.map (lend0 _) (cR c (.sl (c.params.map qaj)) (.sl (c.above.map owAt)) .nl (.own 2 vm)))] _;simp only [cR,List.map_cons,List.map_nil,lend0,List.getElem?_cons_succ,List.getElem?_cons_zero,eq_self_iff_true,if_true];exact hSn) hM ?_ ?_
        · repeat' ((conv=>whnf);first|(show VD ..;refine .q ?_)|(show VK ..;refine xK ?_)|(show VB ..;first|refine VB.tt (by exact rfl) ?_|refine VB.ff (by exact rfl) ?_|refine VB.mk (fun hc=>?_) fun hc=>?_)|(show VI ..;refine xJ ?_)|(show VG ..;refine xG ?_)|(show VA ..;refine xA ?_)|(show VZ ..;refine .n ?_)|(show VE ..;refine .mk ?_))
          exact⟨⟨((n,{ c with methods:=c.methods++[m] },.m (vm+1)),k),by dsimp only;omega,q2,by dsimp only;omega,w1,by dsimp only;rw [w2];omega,by dsimp only;rw [w3];omega,e1,hg⟩,[0,1,2],Nat.lt_succ_self _,⟨rfl,rfl,rfl,rfl,rfl,trivial⟩,⟨by decide,congrArg (fun q=>[_,_,some (Bx.arr (vm+1) 17 q)]) (show List.map Me.at c.methods++[Me.at m]=List.map Me.at (c.methods++[m]) by rw [List.map_append];rfl),rfl,rfl,rfl⟩⟩
        · repeat' ((conv=>whnf);first|(show VD ..;refine .q ?_)|(show VK ..;refine xK ?_)|(show VB ..;first|refine VB.tt (by exact rfl) ?_|refine VB.ff (by exact rfl) ?_|refine VB.mk (fun hc=>?_) fun hc=>?_)|(show VI ..;refine xJ ?_)|(show VG ..;refine xG ?_)|(show VA ..;refine xA ?_)|(show VZ ..;refine .n ?_)|(show VE ..;refine .mk ?_))
          exact⟨⟨((n,{ c with methods:=c.methods++[m] },.m (vm+1)),k),by dsimp only;omega,q2,by dsimp only;omega,w1,by dsimp only;rw [w2];omega,by dsimp only;rw [w3];omega,e1,hg⟩,[0,1,2],Nat.lt_succ_self _,⟨rfl,rfl,rfl,rfl,rfl,trivial⟩,⟨by decide,congrArg (fun q=>[_,_,some (Bx.arr (vm+1) 17 q)]) (show List.map Me.at c.methods++[Me.at m]=List.map Me.at (c.methods++[m]) by rw [List.map_append];rfl),rfl,rfl,rfl⟩⟩
      | fld v n =>
        obtain⟨q,qn⟩:=hm2 v n rfl
        obtain⟨w1,w2,w3⟩:=Cs.addF hr q.r qn
        have q1:=q.lt;have q2:=q.le;have q3:=q.sz
        refine qek (σ:=[2]) (row:=cR c (.sl (c.params.map qaj)) (.sl (c.above.map owAt)) .nl (.own 2 vm)) (zr:=(G9.at ⟨Cs.zero,Me.zero,[],[],0,0,0⟩)) (z:=(c.stmts:Nat)) (sz:=sum+(c.stmts:Int)) (by show qaa _ _ [D.r (List.map (lend0 _) (cR c (.sl (c.params.map qaj)) (.sl (c.above.map owAt)) .nl (.own 2 vm)))] _;simp only [cR,List.map_cons,List.map_nil,lend0,List.getElem?_cons_succ,List.getElem?_cons_zero,eq_self_iff_true,if_true];exact hSn) hM ?_ ?_
        · repeat' ((conv=>whnf);first|(show VD ..;refine .q ?_)|(show VK ..;refine xK ?_)|(show VB ..;first|refine VB.tt (by exact rfl) ?_|refine VB.ff (by exact rfl) ?_|refine VB.mk (fun hc=>?_) fun hc=>?_)|(show VI ..;refine xJ ?_)|(show VG ..;refine xG ?_)|(show VA ..;refine xA ?_)|(show VZ ..;refine .n ?_)|(show VE ..;refine .mk ?_))
          exact⟨⟨((n,{ c with fields:=c.fields++[v] },.fm 0 vm),k),by dsimp only;omega,q2,by dsimp only;omega,w1,by dsimp only;rw [w2];omega,by dsimp only;rw [w3];omega,trivial,hg⟩,[0,1,8,2],Nat.lt_succ_self _,⟨rfl,rfl,rfl,rfl,rfl,trivial⟩,⟨by decide,congrArg (fun q=>[_,_,some (Bx.arr 0 13 q),_]) (show [Vr.at v]=List.map Vr.at (c.fields++[v]) by rw [e1];rfl),rfl,rfl,rfl⟩⟩
        · repeat' ((conv=>whnf);first|(show VD ..;refine .q ?_)|(show VK ..;refine xK ?_)|(show VB ..;first|refine VB.tt (by exact rfl) ?_|refine VB.ff (by exact rfl) ?_|refine VB.mk (fun hc=>?_) fun hc=>?_)|(show VI ..;refine xJ ?_)|(show VG ..;refine xG ?_)|(show VA ..;refine xA ?_)|(show VZ ..;refine .n ?_)|(show VE ..;refine .mk ?_))
          exact⟨⟨((n,{ c with fields:=c.fields++[v] },.fm 0 vm),k),by dsimp only;omega,q2,by dsimp only;omega,w1,by dsimp only;rw [w2];omega,by dsimp only;rw [w3];omega,trivial,hg⟩,[0,1,9,2],Nat.lt_succ_self _,⟨rfl,rfl,rfl,rfl,rfl,trivial⟩,⟨by decide,congrArg (fun q=>[_,_,some (Bx.arr 0 13 q),_]) (show [Vr.at v]=List.map Vr.at (c.fields++[v]) by rw [e1];rfl),rfl,rfl,rfl⟩⟩
  | fm vf vm =>
    have hM:DM Tryz.prog 35 [.a (.sl (l.map Tok.at)),.a (.v (.int .i64 a)),.r (cR c (.sl (c.params.map qaj)) (.sl (c.above.map owAt)) (.own 0 vf) (.own 1 vm)),.a (.v (.int .i64 (sum+(c.stmts:Int))))] [.arr vf 13 (c.fields.map Vr.at),.arr vm 17 (c.methods.map Me.at)] (.r (moR c (.sl (c.params.map qaj)) (.sl (c.above.map owAt)) (.own 0 vf) (.own 1 vm) (.own 0 (vf+1)) (.own 1 (vm+1)) o)) (moS [.gone,.gone] (fun m=>[.arr vf 13 (c.fields.map Vr.at),.arr (vm+1) 17 (c.methods.map Me.at++[Me.at m])]) (fun v=>[.arr (vf+1) 13 (c.fields.map Vr.at++[Vr.at v]),.arr vm 17 (c.methods.map Me.at)]) o):=by
      rw [←ho]
      cases hp:isT (nowT l a) qbw with
      | false =>
        have:=member_fm l hl c.params hpn a c c.above (sum+(c.stmts:Int)) vf c.fields hfl vm c.methods hml a0 h1 q0 hc hp
        simp only [List.length_map] at this;exact this
      | true =>
        have:=qmt l hl c.params hpn a c c.above (sum+(c.stmts:Int)) vf c.fields hfl vm c.methods hml a0 h1 q0 hc hp
        simp only [List.length_map] at this;exact this
    have hSn:qaa Tryz.prog 15 [.r (cR c (.sl (c.params.map qaj)) (.sl (c.above.map owAt)) (.sl (c.fields.map Vr.at)) (.sl (c.methods.map Me.at)))] (.a (.v (.int .i64 c.stmts))):=qaa.nlD (by simp only [Cs.at] at hS;exact hS)
    all_goals
      simp only [lsB,lsR]
      repeat' ((conv=>whnf);first|(show VK ..;refine xK ?_)|(show VB ..;first|refine VB.tt (by decide) ?_|refine VB.ff (by decide) ?_|refine VB.mk (fun hc=>?_) fun hc=>?_)|(show VC ..;first|refine xC (fun hg=>by exact hi _) ?_|refine xL (fun hg=>by exact hi _) ?_)|(show VI ..;refine xJ ?_)|(show VG ..;refine xG ?_)|(show VA ..;refine xA ?_)|(show VZ ..;refine .n ?_)|(show VE ..;refine .mk ?_))
      rotate_left
      · rw [show isT (nowT l a) [125]=true by simpa using hc,cond_true] at hg
        subst hg
        rw [wa]
        simp only [G9.at,Cs.at];rfl
      have hq:isT (nowT l a) [125]=false:=by simpa using hc
      rw [hq,cond_false,ho] at hg
      (conv=>whnf)
      cases o with
      | bad q =>
        refine qek (σ:=[2,3]) (row:=cR c (.sl (c.params.map qaj)) (.sl (c.above.map owAt)) (.own 2 vf) (.own 3 vm)) (zr:=(G9.at ⟨Cs.zero,Me.zero,[],[],0,0,0⟩)) (z:=(c.stmts:Nat)) (sz:=sum+(c.stmts:Int)) (by show qaa _ _ [D.r (List.map (lend0 _) (cR c (.sl (c.params.map qaj)) (.sl (c.above.map owAt)) (.own 2 vf) (.own 3 vm)))] _;simp only [cR,List.map_cons,List.map_nil,lend0,List.getElem?_cons_succ,List.getElem?_cons_zero,eq_self_iff_true,if_true];exact hSn) hM ?_ ?_
        all_goals
          repeat' ((conv=>whnf);first|(show VD ..;refine .q ?_)|(show VK ..;refine xK ?_)|(show VB ..;first|refine VB.tt (by exact hb1 q rfl) ?_|refine VB.ff (by exact hb1 q rfl) ?_|refine VB.mk (fun hc=>?_) fun hc=>?_)|(show VI ..;refine xJ ?_)|(show VG ..;refine xG ?_)|(show VA ..;refine xA ?_)|(show VZ ..;refine .n ?_)|(show VE ..;refine .mk ?_))
          rw [←hg];rfl
      | flt e f =>
        refine qek (σ:=[2,3]) (row:=cR c (.sl (c.params.map qaj)) (.sl (c.above.map owAt)) (.own 2 vf) (.own 3 vm)) (zr:=(G9.at ⟨Cs.zero,Me.zero,[],[],0,0,0⟩)) (z:=(c.stmts:Nat)) (sz:=sum+(c.stmts:Int)) (by show qaa _ _ [D.r (List.map (lend0 _) (cR c (.sl (c.params.map qaj)) (.sl (c.above.map owAt)) (.own 2 vf) (.own 3 vm)))] _;simp only [cR,List.map_cons,List.map_nil,lend0,List.getElem?_cons_succ,List.getElem?_cons_zero,eq_self_iff_true,if_true];exact hSn) hM ?_ ?_
        all_goals
          repeat' ((conv=>whnf);first|(show VD ..;refine .q ?_)|(show VK ..;refine xK ?_)|(show VB ..;first|refine VB.tt (by exact hb2 e f rfl) ?_|refine VB.ff (by exact hb2 e f rfl) ?_|refine VB.mk (fun hc=>?_) fun hc=>?_)|(show VI ..;refine xJ ?_)|(show VG ..;refine xG ?_)|(show VA ..;refine xA ?_)|(show VZ ..;refine .n ?_)|(show VE ..;refine .mk ?_))
          rw [←hg];rfl
      | met m n =>
        obtain⟨q,qn⟩:=hm1 m n rfl
        obtain⟨w1,w2,w3⟩:=Cs.addM hr q.r qn
        have q1:=q.lt;have q2:=q.le;have q3:=q.sz;have q4:=q.ct
        refine qek (σ:=[2,3]) (row:=cR c (.sl (c.params.map qaj)) (.sl (c.above.map owAt)) (.own 2 vf) (.own 3 vm)) (zr:=(G9.at ⟨Cs.zero,Me.zero,[],[],0,0,0⟩)) (z:=(c.stmts:Nat)) (sz:=sum+(c.stmts:Int)) (by show qaa _ _ [D.r (List.map (lend0 _) (cR c (.sl (c.params.map qaj)) (.sl (c.above.map owAt)) (.own 2 vf) (.own 3 vm)))] _;simp only [cR,List.map_cons,List.map_nil,lend0,List.getElem?_cons_succ,List.getElem?_cons_zero,eq_self_iff_true,if_true];exact hSn) hM ?_ ?_
        · repeat' ((conv=>whnf);first|(show VD ..;refine .q ?_)|(show VK ..;refine xK ?_)|(show VB ..;first|refine VB.tt (by exact rfl) ?_|refine VB.ff (by exact rfl) ?_|refine VB.mk (fun hc=>?_) fun hc=>?_)|(show VI ..;refine xJ ?_)|(show VG ..;refine xG ?_)|(show VA ..;refine xA ?_)|(show VZ ..;refine .n ?_)|(show VE ..;refine .mk ?_))
          exact⟨⟨((n,{ c with methods:=c.methods++[m] },.fm vf (vm+1)),k),by dsimp only;omega,q2,by dsimp only;omega,w1,by dsimp only;rw [w2];omega,by dsimp only;rw [w3];omega,trivial,hg⟩,[0,1,2,3],Nat.lt_succ_self _,⟨rfl,rfl,rfl,rfl,rfl,trivial⟩,⟨by decide,congrArg (fun q=>[_,_,_,some (Bx.arr (vm+1) 17 q)]) (show List.map Me.at c.methods++[Me.at m]=List.map Me.at (c.methods++[m]) by rw [List.map_append];rfl),rfl,rfl,rfl⟩⟩
        · repeat' ((conv=>whnf);first|(show VD ..;refine .q ?_)|(show VK ..;refine xK ?_)|(show VB ..;first|refine VB.tt (by exact rfl) ?_|refine VB.ff (by exact rfl) ?_|refine VB.mk (fun hc=>?_) fun hc=>?_)|(show VI ..;refine xJ ?_)|(show VG ..;refine xG ?_)|(show VA ..;refine xA ?_)|(show VZ ..;refine .n ?_)|(show VE ..;refine .mk ?_))
          exact⟨⟨((n,{ c with methods:=c.methods++[m] },.fm vf (vm+1)),k),by dsimp only;omega,q2,by dsimp only;omega,w1,by dsimp only;rw [w2];omega,by dsimp only;rw [w3];omega,trivial,hg⟩,[0,1,2,3],Nat.lt_succ_self _,⟨rfl,rfl,rfl,rfl,rfl,trivial⟩,⟨by decide,congrArg (fun q=>[_,_,_,some (Bx.arr (vm+1) 17 q)]) (show List.map Me.at c.methods++[Me.at m]=List.map Me.at (c.methods++[m]) by rw [List.map_append];rfl),rfl,rfl,rfl⟩⟩
      | fld v n =>
        obtain⟨q,qn⟩:=hm2 v n rfl
        obtain⟨w1,w2,w3⟩:=Cs.addF hr q.r qn
        have q1:=q.lt;have q2:=q.le;have q3:=q.sz
        refine qek (σ:=[2,3]) (row:=cR c (.sl (c.params.map qaj)) (.sl (c.above.map owAt)) (.own 2 vf) (.own 3 vm)) (zr:=(G9.at ⟨Cs.zero,Me.zero,[],[],0,0,0⟩)) (z:=(c.stmts:Nat)) (sz:=sum+(c.stmts:Int)) (by show qaa _ _ [D.r (List.map (lend0 _) (cR c (.sl (c.params.map qaj)) (.sl (c.above.map owAt)) (.own 2 vf) (.own 3 vm)))] _;simp only [cR,List.map_cons,List.map_nil,lend0,List.getElem?_cons_succ,List.getElem?_cons_zero,eq_self_iff_true,if_true];exact hSn) hM ?_ ?_
        · repeat' ((conv=>whnf);first|(show VD ..;refine .q ?_)|(show VK ..;refine xK ?_)|(show VB ..;first|refine VB.tt (by exact rfl) ?_|refine VB.ff (by exact rfl) ?_|refine VB.mk (fun hc=>?_) fun hc=>?_)|(show VI ..;refine xJ ?_)|(show VG ..;refine xG ?_)|(show VA ..;refine xA ?_)|(show VZ ..;refine .n ?_)|(show VE ..;refine .mk ?_))
          exact⟨⟨((n,{ c with fields:=c.fields++[v] },.fm (vf+1) vm),k),by dsimp only;omega,q2,by dsimp only;omega,w1,by dsimp only;rw [w2];omega,by dsimp only;rw [w3];omega,trivial,hg⟩,[0,1,2,3],Nat.lt_succ_self _,⟨rfl,rfl,rfl,rfl,rfl,trivial⟩,⟨by decide,congrArg (fun q=>[_,_,some (Bx.arr (vf+1) 13 q),_]) (show List.map Vr.at c.fields++[Vr.at v]=List.map Vr.at (c.fields++[v]) by rw [List.map_append];rfl),rfl,rfl,rfl⟩⟩
        · repeat' ((conv=>whnf);first|(show VD ..;refine .q ?_)|(show VK ..;refine xK ?_)|(show VB ..;first|refine VB.tt (by exact rfl) ?_|refine VB.ff (by exact rfl) ?_|refine VB.mk (fun hc=>?_) fun hc=>?_)|(show VI ..;refine xJ ?_)|(show VG ..;refine xG ?_)|(show VA ..;refine xA ?_)|(show VZ ..;refine .n ?_)|(show VE ..;refine .mk ?_))
          exact⟨⟨((n,{ c with fields:=c.fields++[v] },.fm (vf+1) vm),k),by dsimp only;omega,q2,by dsimp only;omega,w1,by dsimp only;rw [w2];omega,by dsimp only;rw [w3];omega,trivial,hg⟩,[0,1,2,3],Nat.lt_succ_self _,⟨rfl,rfl,rfl,rfl,rfl,trivial⟩,⟨by decide,congrArg (fun q=>[_,_,some (Bx.arr (vf+1) 13 q),_]) (show List.map Vr.at c.fields++[Vr.at v]=List.map Vr.at (c.fields++[v]) by rw [List.map_append];rfl),rfl,rfl,rfl⟩⟩
end
section
set_option maxRecDepth 100000
theorem qiu (nm sp:List UInt8) (ps:List (List UInt8)) (ab:List (Int×Int)) (p:Int) (hn:qan nm=true) (hps:∀s∈ps,qan s=true) (hpl:ps.length≤3) (hsp:(sp=[]∧ab=[])∨(qan sp=true∧ab.length≤3∧ab.all (abB ps.length)=true)):(⟨nm,ps,sp,ab,[],[],p⟩:Cs).rightB=true∧((⟨nm,ps,sp,ab,[],[],p⟩:Cs).sz:Int)≤41+qai (fun s:List UInt8=>s.length+1) ps+ab.length∧(⟨nm,ps,sp,ab,[],[],p⟩:Cs).stmts=0:=by
  have nl:∀s:List UInt8,qan s=true→s.length≤20:=fun s hn=>by
    unfold qan at hn
    simp only [Bool.and_eq_true,decide_eq_true_iff] at hn
    exact hn.1.1.1.2
  have h1:=nl nm hn
  refine⟨?_,?_,rfl⟩
  · unfold Cs.rightB vrsB
    simp only [Bool.and_eq_true,decide_eq_true_iff,List.all_nil,List.length_nil]
    refine⟨List.all_eq_true.2 hps,?_,trivial,⟨⟨⟨hn,by omega⟩,?_⟩,by omega,trivial⟩,by omega⟩
    · rcases hsp with ⟨_,rfl⟩|⟨_,_,h⟩
      · rfl
      · exact h
    · rcases hsp with ⟨rfl,rfl⟩|⟨h,h2,_⟩
      · rfl
      · rw [h,decide_eq_true (show (ab.length:Int)≤3 by omega)];simp
  · show ((1+nm.length+sp.length+qai (fun s:List UInt8=>s.length+1) ps+ab.length+0+0:Nat):Int)≤_
    have:sp.length≤20:=by
      rcases hsp with ⟨rfl,_⟩|⟨h,_⟩
      · simp
      · exact nl sp h
    omega
attribute [local irreducible] nowT isT bad9 mem9 clsF own7
section
variable {l:List Tok} (hl:Toks l)
include hl
theorem qk3 (a b sum:Int) (c:Cs) (hb0:0≤b) (hb:b≤a) (hr:c.rightB=true) (hz:(c.sz:Int)≤21*(a-b)) (hc:sum+(c.stmts:Int)≤400) (h:(clsB l a sum c).err=0):OkC l.length b sum (clsB l a sum c):=by
  unfold clsB at h ⊢
  cases c1:isT (nowT l a) [123] with
  | false =>
    rw [c1,Bool.not_false,cond_true] at h
    exact absurd h (by unfold bad9;show (3:Int)≠0;decide)
  | true =>
    have hlt:=qam (qad l) c1
    rw [c1,Bool.not_true,cond_false] at h
    rw [Bool.not_true,cond_false]
    exact clsF_ok hl (l.length+1) (a+1) b sum c (by omega) (by omega) (by omega) hr (by omega) hc h
theorem clsA_ok (a b sum:Int) (nm:List UInt8) (ps:List (List UInt8)) (p:Int) (hb0:0≤b) (hb:b+2≤a) (hn:qan nm=true) (hps:∀s∈ps,qan s=true) (hpl:ps.length≤3) (hz:42+(qai (fun s:List UInt8=>s.length+1) ps:Int)≤21*(a-b)) (hc:sum≤400) (h:(clsA l a sum ⟨nm,ps,[],[],[],[],p⟩).err=0):OkC l.length b sum (clsA l a sum ⟨nm,ps,[],[],[],[],p⟩):=by
  have hab:=qk8 hl ps a
  unfold clsA at h ⊢
  dsimp only at h ⊢
  cases c1:isT (nowT l a) [101,120,116,101,110,100,115] with
  | false =>
    rw [c1,cond_false] at h
    rw [cond_false]
    obtain⟨w1,w2,w3⟩:=qiu nm [] ps [] p hn hps hpl (.inl ⟨rfl,rfl⟩)
    rw [List.length_nil] at w2
    exact qk3 hl a b sum _ hb0 (by omega) w1 (by omega) (by rw [w3];omega) h
  | true =>
    rw [c1,cond_true] at h
    rw [cond_true]
    generalize abv9 l ps a=o at *
    cases o with
    | bad g=>exact absurd h (by simpa using show (g.err != 0)=true from hab)
    | flt e f=>exact absurd h (by simpa [flt9] using show (e != 0)=true from hab)
    | no s n =>
      obtain⟨q1,q2,q3⟩:=hab
      obtain⟨w1,w2,w3⟩:=qiu nm s ps [] p hn hps hpl (.inr ⟨q1,by simp,by simp⟩)
      rw [List.length_nil] at w2
      exact qk3 hl n b sum _ hb0 (by omega) w1 (by omega) (by rw [w3];omega) h
    | ow s w n =>
      obtain⟨q1,q2,q3,q4,q5⟩:=hab
      obtain⟨w1,w2,w3⟩:=qiu nm s ps w p hn hps hpl (.inr ⟨q1,q2,q3⟩)
      exact qk3 hl n b sum _ hb0 (by omega) w1 (by omega) (by rw [w3];omega) h
theorem cls9_ok (a sum:Int) (h0:0≤a) (hc:sum≤400) (h:(cls9 l a sum).err=0):OkC l.length a sum (cls9 l a sum):=by
  have hnm:=namF_ok hl 3 (a+2) (a+2) [] rfl (by simp) (by simp [qai])
  unfold cls9 at h ⊢
  generalize namF l 3 (a+2) []=q at *
  cases c1:(nowT l (a+1)).kind != 1 with
  | true =>
    rw [c1,cond_true] at h
    exact absurd h (by unfold bad9;show (3:Int)≠0;decide)
  | false =>
  have hn:=hl.name _ (by simpa using c1)
  rw [c1,cond_false] at h
  rw [cond_false]
  cases c2:isT (nowT l (a+2)) [60] with
  | false =>
    rw [c2,cond_false] at h
    rw [cond_false]
    exact clsA_ok hl (a+2) a sum _ [] _ h0 (by omega) hn (by simp) (by simp) (by simp [qai];omega) hc h
  | true =>
    rw [c2,cond_true] at h
    rw [cond_true]
    cases c3:q.err != 0 with
    | true =>
      rw [c3,cond_true] at h
      exact absurd h (by simpa using c3)
    | false =>
      rw [c3,cond_false] at h
      rw [cond_false]
      obtain⟨e1,e2,e3,e4,e5,_⟩:=hnm (by simpa using c3)
      exact clsA_ok hl q.next a sum _ q.n _ h0 (by omega) hn e1 e2 (by omega) hc h
theorem qbz (sum:Int) (s0:0≤sum) (s1:sum≤400) (b:Int) (hb0:0≤b) (g:G9) (C:Cx Tryz.prog) (hst:C.V0.st=[]) (fu:Nat) (a:Int) (nm sp:List UInt8) (ps:List (List UInt8)) (ab:List (Int×Int)) (p:Int) (x ow:A) (hb:b+2≤a) (hn:qan nm=true) (hps:∀s∈ps,qan s=true) (hpl:ps.length≤3) (hsp:(sp=[]∧ab=[])∨(qan sp=true∧ab.length≤3∧ab.all (abB ps.length)=true)) (hz:21+(qai (fun s:List UInt8=>s.length+1) ps:Int)+ab.length≤21*(a-b)) (hbr:(!isT (nowT l a) [123])=false) (hx:x=.sl (ps.map qaj)∨x=.nl∧ps=[]) (how:ow=.sl (ab.map owAt)∨ow=.nl∧ab=[]) (hg:clsB l a sum ⟨nm,ps,sp,ab,[],[],p⟩=g) (l0:EL) (st0:List Bx) (σ:List Nat) (hA:qal (envL l0) (rnE σ [(0,.a (.sl (l.map Tok.at))),(1,.a (.v (.int .i64 (a+1)))),(2,.a (.v (.int .i64 sum))),(6,.a (.ptr 0 0)),(7,.a (.ptr 1 0))])) (hU:qf7 st0 σ [(0,.a (.sl (l.map Tok.at))),(1,.a (.v (.int .i64 (a+1)))),(2,.a (.v (.int .i64 sum))),(6,.a (.ptr 0 0)),(7,.a (.ptr 1 0))] (lsB ⟨nm,ps,sp,ab,[],[],p⟩ (.nn x ow))):VL C 100 [0,1,2,6,7,8,9,10,21,36,43,52,60,69,78,90] clsC.1 l0 st0 fun ex l' st'=>vm Tryz.prog C 100 [0,1,2,6,7,8,9,10,21,36,43,52,60,69,78,90] (fu+60) (.pop ex) clsC.2 l' st' (vret Tryz.prog 100 [.cell 6 61] (.r (G9.at g))):=by
  have hlt:=qam (qad l) (a:=a) (t:=[123]) (by simpa using hbr)
  obtain⟨w1,w2,w3⟩:=qiu nm sp ps ab p hn hps hpl hsp
  unfold clsB at hg
  rw [hbr,cond_false] at hg
  exact clsLoop l hl sum s0 b hb0 g C hst fu (l.length+1) (a+1) ⟨nm,ps,sp,ab,[],[],p⟩ (.nn x ow) (by omega) (by omega) (by omega) w1 (by omega) (by rw [w3];omega) ⟨rfl,rfl,hx,how⟩ hg l0 st0 σ hA hU
end
end
section
set_option maxRecDepth 100000
attribute [local irreducible] nowT isT bad9 abv9 clsB namF
theorem pd9class (l:List Tok) (hl:Toks l) (a sum:Int) (h0:0≤a) (h1:a<l.length) (s0:0≤sum) (s1:sum≤400):qaa Tryz.prog 14 [.a (.sl (l.map Tok.at)),.a (.v (.int .i64 a)),.a (.v (.int .i64 sum))] (.r (G9.at (cls9 l a sum))):=by
  have hlen:=hl.len
  have hL:l.length≤1048576:=by omega
  have w1:IntKind.i64.wrap (a+1)=a+1:=qah (by omega) (by omega)
  have w2:IntKind.i64.wrap (a+2)=a+2:=qah (by omega) (by omega)
  have w3:IntKind.i64.wrap (IntKind.i64.wrap (a+2)+1)=a+2+1:=by rw [w2];exact qah (by omega) (by omega)
  have ht0:=qbh l a hL
  have ht:qaa Tryz.prog 12 [.a (.sl (l.map Tok.at)),.a (.v (.int .i64 (IntKind.i64.wrap (a+1))))] (.r (Tok.at (nowT l (a+1)))):=by rw [w1];exact qbh l _ hL
  have e1:qaa Tryz.prog 32 [.a (.v (.int .i64 3)),.a (.sl (l.map Tok.at)),.a (.v (.int .i64 (IntKind.i64.wrap (a+1))))] (.r (G9.at (bad9 l 3 (a+1)))):=by rw [w1];exact qas l 3 _ hL
  have hi2:∀s,qaa Tryz.prog 13 [.a (.sl (l.map Tok.at)),.a (.v (.int .i64 (IntKind.i64.wrap (a+2)))),.a (.v (.string (bs s)))] (.a (.v (.bool (isT (nowT l (a+2)) s)))):=fun s=>by rw [w2];exact qbx l _ s hL
  have e2:qaa Tryz.prog 32 [.a (.v (.int .i64 3)),.a (.sl (l.map Tok.at)),.a (.v (.int .i64 (IntKind.i64.wrap (a+2))))] (.r (G9.at (bad9 l 3 (a+2)))):=by rw [w2];exact qas l 3 _ hL
  obtain⟨g,hg⟩:∃g,cls9 l a sum=g:=⟨_,rfl⟩
  rw [hg]
  cases hk:(nowT l (a+1)).kind != 1 with
  | true =>
    unfold cls9 at hg
    rw [hk,cond_true] at hg
    refine qaa.vx [0,1,2,6,7,8,9,10,21,36,43,52,60,69,78,90] Tryz.func14 rfl Tryz.ntmps14 rfl rfl rfl (fun C hro hst=>?_)
    repeat' ((conv=>whnf);first|(show VD ..;refine .q ?_)|(show VK ..;refine xK ?_)|(show VB ..;first|refine VB.tt (by exact hk) ?_|refine VB.ff (by exact hk) ?_|refine VB.mk (fun hc=>?_) fun hc=>?_)|(show VC ..;first|refine xC (fun hg=>by first|exact ht0|exact ht|exact e1) ?_|refine xL (fun hg=>by first|exact ht0|exact ht|exact e1) ?_)|(show VI ..;refine xJ ?_)|(show VG ..;refine xG ?_)|(show VA ..;refine xA ?_)|(show VZ ..;refine .n ?_)|(show VE ..;refine .mk ?_))
    rw [←hg];rfl
  | false =>
  have hn:=hl.name _ (show (nowT l (a+1)).kind=1 by simpa using hk)
  have ha1:a+1<l.length:=by
    rcases (show a+1<(l.length:Int)∨(l.length:Int)≤a+1 by omega) with h|h
    · exact h
    · have:=qad l (a+1) h
      rw [this] at hk;cases hk
  cases hc2:isT (nowT l (a+2)) [60] with
  | false =>
    have hlt:qaa Tryz.prog 13 [.a (.sl (l.map Tok.at)),.a (.v (.int .i64 (IntKind.i64.wrap (a+2)))),.a (.v (.string (bs [60])))] (.a (.v (.bool false))):=by rw [←hc2];exact hi2 _
    have hab:=pd9above0 l hl (a+2) ⟨(nowT l (a+1)).text,[],[],[],[],[],(nowT l a).pos⟩ (by omega) (by omega)
    rw [abvR_eq] at hab
    have hok:=qk8 hl [] (a+2)
    unfold cls9 clsA at hg
    rw [hk,cond_false,hc2,cond_false] at hg
    dsimp only at hg
    generalize abv9 l [] (a+2)=o at *
    rw [←w2] at hab
    cases o with
    | bad r =>
      refine qaa.vx [0,1,2,6,7,8,9,10,21,36,43,52,60,69,78,90] Tryz.func14 rfl Tryz.ntmps14 rfl rfl rfl (fun C hro hst=>?_)
      repeat' ((conv=>whnf);first|(show VD ..;refine .q ?_)|(show VK ..;refine xK ?_)|(show VB ..;first|refine VB.tt (by first|exact hk|exact hok|exact rfl) ?_|refine VB.ff (by first|exact hk|exact hok|exact rfl) ?_|refine VB.mk (fun hc=>?_) fun hc=>?_)|(show VC ..;first|refine xC (fun hg=>by first|exact ht0|exact ht|exact hlt|exact hi2 _|exact e2|exact hab) ?_|refine xL (fun hg=>by first|exact ht0|exact ht|exact hlt|exact hi2 _|exact e2|exact hab) ?_)|(show VI ..;refine xJ ?_)|(show VG ..;refine xG ?_)|(show VA ..;refine xA ?_)|(show VZ ..;refine .n ?_)|(show VE ..;refine .mk ?_))
      · rw [hc,cond_true] at hg
        rw [←hg];rfl
      · rename_i y1
        rw [y1,cond_false] at hg
        unfold clsB at hg
        rw [hc,cond_true] at hg
        rw [←hg];rfl
      · rename_i y1
        rw [y1,cond_false] at hg
        exact qbz hl sum s0 s1 a h0 g C hst _ (a+2) (nowT l (a+1)).text [] [] [] (nowT l a).pos .nl .nl (by omega) hn (by simp) (by simp) (.inl ⟨rfl,rfl⟩) (by (try simp only [qai,List.length_nil] at *);omega) hc (.inr ⟨rfl,rfl⟩) (.inr ⟨rfl,rfl⟩) hg _ _ [0,1] ⟨rfl,congrArg (fun z=>D.a (.v (.int .i64 z))) w3,rfl,rfl,rfl,trivial⟩ ⟨by decide,rfl,rfl,rfl,rfl⟩
    | flt e f =>
      refine qaa.vx [0,1,2,6,7,8,9,10,21,36,43,52,60,69,78,90] Tryz.func14 rfl Tryz.ntmps14 rfl rfl rfl (fun C hro hst=>?_)
      repeat' ((conv=>whnf);first|(show VD ..;refine .q ?_)|(show VK ..;refine xK ?_)|(show VB ..;first|refine VB.tt (by first|exact hk|exact hok|exact rfl) ?_|refine VB.ff (by first|exact hk|exact hok|exact rfl) ?_|refine VB.mk (fun hc=>?_) fun hc=>?_)|(show VC ..;first|refine xC (fun hg=>by first|exact ht0|exact ht|exact hlt|exact hi2 _|exact e2|exact hab) ?_|refine xL (fun hg=>by first|exact ht0|exact ht|exact hlt|exact hi2 _|exact e2|exact hab) ?_)|(show VI ..;refine xJ ?_)|(show VG ..;refine xG ?_)|(show VA ..;refine xA ?_)|(show VZ ..;refine .n ?_)|(show VE ..;refine .mk ?_))
      · rw [hc,cond_true] at hg
        rw [←hg];rfl
      · rename_i y1
        rw [y1,cond_false] at hg
        unfold clsB at hg
        rw [hc,cond_true] at hg
        rw [←hg];rfl
      · rename_i y1
        rw [y1,cond_false] at hg
        exact qbz hl sum s0 s1 a h0 g C hst _ (a+2) (nowT l (a+1)).text [] [] [] (nowT l a).pos .nl .nl (by omega) hn (by simp) (by simp) (.inl ⟨rfl,rfl⟩) (by (try simp only [qai,List.length_nil] at *);omega) hc (.inr ⟨rfl,rfl⟩) (.inr ⟨rfl,rfl⟩) hg _ _ [0,1] ⟨rfl,congrArg (fun z=>D.a (.v (.int .i64 z))) w3,rfl,rfl,rfl,trivial⟩ ⟨by decide,rfl,rfl,rfl,rfl⟩
    | no s n =>
      obtain⟨k1,k2,k3⟩:=hok
      have wn:IntKind.i64.wrap (n+1)=n+1:=qah (by omega) (by omega)
      have hin:=fun s=>qbx l n s hL
      have en:=qas l 3 n hL
      refine qaa.vx [0,1,2,6,7,8,9,10,21,36,43,52,60,69,78,90] Tryz.func14 rfl Tryz.ntmps14 rfl rfl rfl (fun C hro hst=>?_)
      repeat' ((conv=>whnf);first|(show VD ..;refine .q ?_)|(show VK ..;refine xK ?_)|(show VB ..;first|refine VB.tt (by first|exact hk|exact rfl) ?_|refine VB.ff (by first|exact hk|exact rfl) ?_|refine VB.mk (fun hc=>?_) fun hc=>?_)|(show VC ..;first|refine xC (fun hg=>by first|exact ht0|exact ht|exact hlt|exact hi2 _|exact e2|exact hab|exact hin _|exact en) ?_|refine xL (fun hg=>by first|exact ht0|exact ht|exact hlt|exact hi2 _|exact e2|exact hab|exact hin _|exact en) ?_)|(show VI ..;refine xJ ?_)|(show VG ..;refine xG ?_)|(show VA ..;refine xA ?_)|(show VZ ..;refine .n ?_)|(show VE ..;refine .mk ?_))
      · rename_i y1
        rw [y1,cond_true] at hg
        dsimp only at hg
        unfold clsB at hg
        rw [hc,cond_true] at hg
        rw [←hg];rfl
      · rename_i y1
        rw [y1,cond_true] at hg
        dsimp only at hg
        exact qbz hl sum s0 s1 a h0 g C hst _ n (nowT l (a+1)).text s [] [] (nowT l a).pos .nl .nl (by omega) hn (by simp) (by simp) (.inr ⟨k1,by simp,by simp⟩) (by (try simp only [qai,List.length_nil] at *);omega) hc (.inr ⟨rfl,rfl⟩) (.inr ⟨rfl,rfl⟩) hg _ _ [0,1] ⟨rfl,congrArg (fun z=>D.a (.v (.int .i64 z))) wn,rfl,rfl,rfl,trivial⟩ ⟨by decide,rfl,rfl,rfl,rfl⟩
      · rename_i y1
        rw [y1,cond_false] at hg
        unfold clsB at hg
        rw [hc,cond_true] at hg
        rw [←hg];rfl
      · rename_i y1
        rw [y1,cond_false] at hg
        exact qbz hl sum s0 s1 a h0 g C hst _ (a+2) (nowT l (a+1)).text [] [] [] (nowT l a).pos .nl .nl (by omega) hn (by simp) (by simp) (.inl ⟨rfl,rfl⟩) (by (try simp only [qai,List.length_nil] at *);omega) hc (.inr ⟨rfl,rfl⟩) (.inr ⟨rfl,rfl⟩) hg _ _ [0,1] ⟨rfl,congrArg (fun z=>D.a (.v (.int .i64 z))) w3,rfl,rfl,rfl,trivial⟩ ⟨by decide,rfl,rfl,rfl,rfl⟩
    | ow s w n =>
      obtain⟨k1,k2,k3,k4,k5⟩:=hok
      have wn:IntKind.i64.wrap (n+1)=n+1:=qah (by omega) (by omega)
      have hin:=fun s=>qbx l n s hL
      have en:=qas l 3 n hL
      refine qaa.vx [0,1,2,6,7,8,9,10,21,36,43,52,60,69,78,90] Tryz.func14 rfl Tryz.ntmps14 rfl rfl rfl (fun C hro hst=>?_)
      repeat' ((conv=>whnf);first|(show VD ..;refine .q ?_)|(show VK ..;refine xK ?_)|(show VB ..;first|refine VB.tt (by first|exact hk|exact rfl) ?_|refine VB.ff (by first|exact hk|exact rfl) ?_|refine VB.mk (fun hc=>?_) fun hc=>?_)|(show VC ..;first|refine xC (fun hg=>by first|exact ht0|exact ht|exact hlt|exact hi2 _|exact e2|exact hab|exact hin _|exact en) ?_|refine xL (fun hg=>by first|exact ht0|exact ht|exact hlt|exact hi2 _|exact e2|exact hab|exact hin _|exact en) ?_)|(show VI ..;refine xJ ?_)|(show VG ..;refine xG ?_)|(show VA ..;refine xA ?_)|(show VZ ..;refine .n ?_)|(show VE ..;refine .mk ?_))
      · rename_i y1
        rw [y1,cond_true] at hg
        dsimp only at hg
        unfold clsB at hg
        rw [hc,cond_true] at hg
        rw [←hg];rfl
      · rename_i y1
        rw [y1,cond_true] at hg
        dsimp only at hg
        exact qbz hl sum s0 s1 a h0 g C hst _ n (nowT l (a+1)).text s [] w (nowT l a).pos .nl (.sl (w.map owAt)) (by omega) hn (by simp) (by simp) (.inr ⟨k1,k2,k3⟩) (by (try simp only [qai,List.length_nil] at *);omega) hc (.inr ⟨rfl,rfl⟩) (.inl rfl) hg _ _ [0,1] ⟨rfl,congrArg (fun z=>D.a (.v (.int .i64 z))) wn,rfl,rfl,rfl,trivial⟩ ⟨by decide,rfl,rfl,rfl,rfl⟩
      · rename_i y1
        rw [y1,cond_false] at hg
        unfold clsB at hg
        rw [hc,cond_true] at hg
        rw [←hg];rfl
      · rename_i y1
        rw [y1,cond_false] at hg
        exact qbz hl sum s0 s1 a h0 g C hst _ (a+2) (nowT l (a+1)).text [] [] [] (nowT l a).pos .nl .nl (by omega) hn (by simp) (by simp) (.inl ⟨rfl,rfl⟩) (by (try simp only [qai,List.length_nil] at *);omega) hc (.inr ⟨rfl,rfl⟩) (.inr ⟨rfl,rfl⟩) hg _ _ [0,1] ⟨rfl,congrArg (fun z=>D.a (.v (.int .i64 z))) w3,rfl,rfl,rfl,trivial⟩ ⟨by decide,rfl,rfl,rfl,rfl⟩
  | true =>
    have hlt:qaa Tryz.prog 13 [.a (.sl (l.map Tok.at)),.a (.v (.int .i64 (IntKind.i64.wrap (a+2)))),.a (.v (.string (bs [60])))] (.a (.v (.bool true))):=by rw [←hc2];exact hi2 _
    have hnm:qaa Tryz.prog 33 [.a (.sl (l.map Tok.at)),.a (.v (.int .i64 (IntKind.i64.wrap (a+2))))] (.r (G9.at (namF l 3 (a+2) []))):=by rw [w2];exact pd9names l (a+2) hL (by omega) (by omega)
    have hno:=namF_ok hl 3 (a+2) (a+2) [] rfl (by simp) (by simp [qai])
    unfold cls9 clsA at hg
    rw [hk,cond_false,hc2,cond_true] at hg
    dsimp only at hg
    generalize namF l 3 (a+2) []=q at *
    cases hqe:q.err != 0 with
    | true =>
      rw [hqe,cond_true] at hg
      refine qaa.vx [0,1,2,6,7,8,9,10,21,36,43,52,60,69,78,90] Tryz.func14 rfl Tryz.ntmps14 rfl rfl rfl (fun C hro hst=>?_)
      repeat' ((conv=>whnf);first|(show VD ..;refine .q ?_)|(show VK ..;refine xK ?_)|(show VB ..;first|refine VB.tt (by first|exact hk|exact hqe|exact rfl) ?_|refine VB.ff (by first|exact hk|exact hqe|exact rfl) ?_|refine VB.mk (fun hc=>?_) fun hc=>?_)|(show VC ..;first|refine xC (fun hg=>by first|exact ht0|exact ht|exact hlt|exact hnm) ?_|refine xL (fun hg=>by first|exact ht0|exact ht|exact hlt|exact hnm) ?_)|(show VI ..;refine xJ ?_)|(show VG ..;refine xG ?_)|(show VA ..;refine xA ?_)|(show VZ ..;refine .n ?_)|(show VE ..;refine .mk ?_))
      rw [←hg];rfl
    | false =>
    rw [hqe,cond_false] at hg
    obtain⟨z1,z2,z3,z4,z5,_⟩:=hno (by simpa using hqe)
    have hq:=fun s=>qbx l q.next s hL
    have eq:=qas l 3 q.next hL
    have wq:IntKind.i64.wrap (q.next+1)=q.next+1:=qah (by omega) (by omega)
    have hab:=pd9above l hl q.n (by omega) q.next ⟨(nowT l (a+1)).text,q.n,[],[],[],[],(nowT l a).pos⟩ (by omega) z5
    rw [abvR_eq] at hab
    have hok:=qk8 hl q.n q.next
    generalize abv9 l q.n q.next=o at *
    cases o with
    | bad r =>
      refine qaa.vx [0,1,2,6,7,8,9,10,21,36,43,52,60,69,78,90] Tryz.func14 rfl Tryz.ntmps14 rfl rfl rfl (fun C hro hst=>?_)
      repeat' ((conv=>whnf);first|(show VD ..;refine .q ?_)|(show VK ..;refine xK ?_)|(show VB ..;first|refine VB.tt (by first|exact hk|exact hqe|exact hok|exact rfl) ?_|refine VB.ff (by first|exact hk|exact hqe|exact hok|exact rfl) ?_|refine VB.mk (fun hc=>?_) fun hc=>?_)|(show VC ..;first|refine xC (fun hg=>by first|exact ht0|exact ht|exact hlt|exact hnm|exact hq _|exact eq|exact hab) ?_|refine xL (fun hg=>by first|exact ht0|exact ht|exact hlt|exact hnm|exact hq _|exact eq|exact hab) ?_)|(show VI ..;refine xJ ?_)|(show VG ..;refine xG ?_)|(show VA ..;refine xA ?_)|(show VZ ..;refine .n ?_)|(show VE ..;refine .mk ?_))
      · rw [hc,cond_true] at hg
        rw [←hg];rfl
      · rename_i y1
        rw [y1,cond_false] at hg
        unfold clsB at hg
        rw [hc,cond_true] at hg
        rw [←hg];rfl
      · rename_i y1
        rw [y1,cond_false] at hg
        exact qbz hl sum s0 s1 a h0 g C hst _ q.next (nowT l (a+1)).text [] q.n [] (nowT l a).pos (.sl (q.n.map qaj)) .nl (by omega) hn z1 z2 (.inl ⟨rfl,rfl⟩) (by (try simp only [qai,List.length_nil] at *);omega) hc (.inl rfl) (.inr ⟨rfl,rfl⟩) hg _ _ [0,1] ⟨rfl,congrArg (fun z=>D.a (.v (.int .i64 z))) wq,rfl,rfl,rfl,trivial⟩ ⟨by decide,rfl,rfl,rfl,rfl⟩
    | flt e f =>
      refine qaa.vx [0,1,2,6,7,8,9,10,21,36,43,52,60,69,78,90] Tryz.func14 rfl Tryz.ntmps14 rfl rfl rfl (fun C hro hst=>?_)
      repeat' ((conv=>whnf);first|(show VD ..;refine .q ?_)|(show VK ..;refine xK ?_)|(show VB ..;first|refine VB.tt (by first|exact hk|exact hqe|exact hok|exact rfl) ?_|refine VB.ff (by first|exact hk|exact hqe|exact hok|exact rfl) ?_|refine VB.mk (fun hc=>?_) fun hc=>?_)|(show VC ..;first|refine xC (fun hg=>by first|exact ht0|exact ht|exact hlt|exact hnm|exact hq _|exact eq|exact hab) ?_|refine xL (fun hg=>by first|exact ht0|exact ht|exact hlt|exact hnm|exact hq _|exact eq|exact hab) ?_)|(show VI ..;refine xJ ?_)|(show VG ..;refine xG ?_)|(show VA ..;refine xA ?_)|(show VZ ..;refine .n ?_)|(show VE ..;refine .mk ?_))
      · rw [hc,cond_true] at hg
        rw [←hg];rfl
      · rename_i y1
        rw [y1,cond_false] at hg
        unfold clsB at hg
        rw [hc,cond_true] at hg
        rw [←hg];rfl
      · rename_i y1
        rw [y1,cond_false] at hg
        exact qbz hl sum s0 s1 a h0 g C hst _ q.next (nowT l (a+1)).text [] q.n [] (nowT l a).pos (.sl (q.n.map qaj)) .nl (by omega) hn z1 z2 (.inl ⟨rfl,rfl⟩) (by (try simp only [qai,List.length_nil] at *);omega) hc (.inl rfl) (.inr ⟨rfl,rfl⟩) hg _ _ [0,1] ⟨rfl,congrArg (fun z=>D.a (.v (.int .i64 z))) wq,rfl,rfl,rfl,trivial⟩ ⟨by decide,rfl,rfl,rfl,rfl⟩
    | no s n =>
      obtain⟨k1,k2,k3⟩:=hok
      have wn:IntKind.i64.wrap (n+1)=n+1:=qah (by omega) (by omega)
      have hin:=fun s=>qbx l n s hL
      have en:=qas l 3 n hL
      refine qaa.vx [0,1,2,6,7,8,9,10,21,36,43,52,60,69,78,90] Tryz.func14 rfl Tryz.ntmps14 rfl rfl rfl (fun C hro hst=>?_)
      repeat' ((conv=>whnf);first|(show VD ..;refine .q ?_)|(show VK ..;refine xK ?_)|(show VB ..;first|refine VB.tt (by first|exact hk|exact hqe|exact rfl) ?_|refine VB.ff (by first|exact hk|exact hqe|exact rfl) ?_|refine VB.mk (fun hc=>?_) fun hc=>?_)|(show VC ..;first|refine xC (fun hg=>by first|exact ht0|exact ht|exact hlt|exact hnm|exact hq _|exact eq|exact hab|exact hin _|exact en) ?_|refine xL (fun hg=>by first|exact ht0|exact ht|exact hlt|exact hnm|exact hq _|exact eq|exact hab|exact hin _|exact en) ?_)|(show VI ..;refine xJ ?_)|(show VG ..;refine xG ?_)|(show VA ..;refine xA ?_)|(show VZ ..;refine .n ?_)|(show VE ..;refine .mk ?_))
      · rename_i y1
        rw [y1,cond_true] at hg
        dsimp only at hg
        unfold clsB at hg
        rw [hc,cond_true] at hg
        rw [←hg];rfl
      · rename_i y1
        rw [y1,cond_true] at hg
        dsimp only at hg
        exact qbz hl sum s0 s1 a h0 g C hst _ n (nowT l (a+1)).text s q.n [] (nowT l a).pos (.sl (q.n.map qaj)) .nl (by omega) hn z1 z2 (.inr ⟨k1,by simp,by simp⟩) (by (try simp only [qai,List.length_nil] at *);omega) hc (.inl rfl) (.inr ⟨rfl,rfl⟩) hg _ _ [0,1] ⟨rfl,congrArg (fun z=>D.a (.v (.int .i64 z))) wn,rfl,rfl,rfl,trivial⟩ ⟨by decide,rfl,rfl,rfl,rfl⟩
      · rename_i y1
        rw [y1,cond_false] at hg
        unfold clsB at hg
        rw [hc,cond_true] at hg
        rw [←hg];rfl
      · rename_i y1
        rw [y1,cond_false] at hg
        exact qbz hl sum s0 s1 a h0 g C hst _ q.next (nowT l (a+1)).text [] q.n [] (nowT l a).pos (.sl (q.n.map qaj)) .nl (by omega) hn z1 z2 (.inl ⟨rfl,rfl⟩) (by (try simp only [qai,List.length_nil] at *);omega) hc (.inl rfl) (.inr ⟨rfl,rfl⟩) hg _ _ [0,1] ⟨rfl,congrArg (fun z=>D.a (.v (.int .i64 z))) wq,rfl,rfl,rfl,trivial⟩ ⟨by decide,rfl,rfl,rfl,rfl⟩
    | ow s w n =>
      obtain⟨k1,k2,k3,k4,k5⟩:=hok
      have wn:IntKind.i64.wrap (n+1)=n+1:=qah (by omega) (by omega)
      have hin:=fun s=>qbx l n s hL
      have en:=qas l 3 n hL
      refine qaa.vx [0,1,2,6,7,8,9,10,21,36,43,52,60,69,78,90] Tryz.func14 rfl Tryz.ntmps14 rfl rfl rfl (fun C hro hst=>?_)
      repeat' ((conv=>whnf);first|(show VD ..;refine .q ?_)|(show VK ..;refine xK ?_)|(show VB ..;first|refine VB.tt (by first|exact hk|exact hqe|exact rfl) ?_|refine VB.ff (by first|exact hk|exact hqe|exact rfl) ?_|refine VB.mk (fun hc=>?_) fun hc=>?_)|(show VC ..;first|refine xC (fun hg=>by first|exact ht0|exact ht|exact hlt|exact hnm|exact hq _|exact eq|exact hab|exact hin _|exact en) ?_|refine xL (fun hg=>by first|exact ht0|exact ht|exact hlt|exact hnm|exact hq _|exact eq|exact hab|exact hin _|exact en) ?_)|(show VI ..;refine xJ ?_)|(show VG ..;refine xG ?_)|(show VA ..;refine xA ?_)|(show VZ ..;refine .n ?_)|(show VE ..;refine .mk ?_))
      · rename_i y1
        rw [y1,cond_true] at hg
        dsimp only at hg
        unfold clsB at hg
        rw [hc,cond_true] at hg
        rw [←hg];rfl
      · rename_i y1
        rw [y1,cond_true] at hg
        dsimp only at hg
        exact qbz hl sum s0 s1 a h0 g C hst _ n (nowT l (a+1)).text s q.n w (nowT l a).pos (.sl (q.n.map qaj)) (.sl (w.map owAt)) (by omega) hn z1 z2 (.inr ⟨k1,k2,k3⟩) (by (try simp only [qai,List.length_nil] at *);omega) hc (.inl rfl) (.inl rfl) hg _ _ [0,1] ⟨rfl,congrArg (fun z=>D.a (.v (.int .i64 z))) wn,rfl,rfl,rfl,trivial⟩ ⟨by decide,rfl,rfl,rfl,rfl⟩
      · rename_i y1
        rw [y1,cond_false] at hg
        unfold clsB at hg
        rw [hc,cond_true] at hg
        rw [←hg];rfl
      · rename_i y1
        rw [y1,cond_false] at hg
        exact qbz hl sum s0 s1 a h0 g C hst _ q.next (nowT l (a+1)).text [] q.n [] (nowT l a).pos (.sl (q.n.map qaj)) .nl (by omega) hn z1 z2 (.inl ⟨rfl,rfl⟩) (by (try simp only [qai,List.length_nil] at *);omega) hc (.inl rfl) (.inr ⟨rfl,rfl⟩) hg _ _ [0,1] ⟨rfl,congrArg (fun z=>D.a (.v (.int .i64 z))) wq,rfl,rfl,rfl,trivial⟩ ⟨by decide,rfl,rfl,rfl,rfl⟩
end
section
theorem Tok.cell_at9 {t:Tok} {j:Nat} {x:A} (h:(Tok.at t)[j]? = some x):∃v:Value,x=.v v∧qdw v=true∧(Tok.cells t)[j]? = some v∧j<3:=by
  match j,h with
  | 0,h=>injection h with h;exact⟨_,h.symm,rfl,rfl,by omega⟩
  | 1,h=>injection h with h;exact⟨_,h.symm,rfl,rfl,by omega⟩
  | 2,h=>injection h with h;exact⟨_,h.symm,rfl,rfl,by omega⟩
  | k+3,h=>cases h
theorem qg9:∀(l:List Tok) (i j:Nat) (t:Tok),l[i]? = some t→j<3→(l.flatMap Tok.cells)[i*3+j]? = (Tok.cells t)[j]?
  | [],i,j,t,h,_=>by simp at h
  | a::l,0,j,t,h,hj=>by
    simp at h;subst h
    rw [List.flatMap_cons,List.getElem?_append_left (by simpa [Tok.cells] using hj)];simp
  | a::l,i+1,j,t,h,hj=>by
    rw [List.flatMap_cons,List.getElem?_append_right (by simp [Tok.cells];omega)]
    have:(i+1)*3+j-(Tok.cells a).length=i*3+j:=by simp [Tok.cells];omega
    rw [this]
    exact qg9 l i j t (by simpa using h) hj
theorem p03Of (s:List UInt8) (hs:s.length≤1099511627776):qaa Tryz.prog 11 [.a (.v (.string (bs s)))] (.t [.a (.sl ((qbl s).1.map Tok.at)),.r [.v (.int .i64 (qbl s).2.1),.v (.int .i64 (qbl s).2.2)]]):=by
  refine⟨qbp Tryz.func11 rfl rfl,fun w x vs hx hg hvl hr=>?_⟩
  match vs,hvl with
  | [u],_ =>
    have h1:RepD (out w x) (.a (.v (.string (bs s)))) u:=hr 0 _ rfl
    obtain⟨rfl,_⟩:=h1.v_inv
    refine (r03Of_any (bs s) w (by rw [qk4];omega)).mono ?_
    rintro e w' ⟨A,c,rfl,hq,hown⟩
    rw [qk5] at hown ⊢
    generalize qbl s=r at *
    obtain⟨l,er,fa⟩:=r
    dsimp only at hown ⊢
    refine⟨_,rfl,hq,.t _ [_,_] rfl fun j d hd=>?_⟩
    match j,hd with
    | 0,hd =>
      injection hd with hd
      subst hd
      refine .a _ _ (.c _ _ ?_)
      rcases hown with ⟨hlen,⟨hv,h0⟩|⟨g,cap,cur,hv,hb,hh,hn,_,hsz,htk⟩⟩
      · obtain rfl:=List.eq_nil_of_length_eq_zero h0
        exact .sl0 _ _
      · injection hv with hA _ hc
        subst hA;subst hc
        have hcur:∀(i j:Nat) (t:Tok),l[i]? = some t→j<3→cur[i*3+j]? = (Tok.cells t)[j]?:=fun i j t ht hj=>by
          have hi:i<l.length:=(List.getElem?_eq_some_iff.1 ht).1
          rw [←qg9 l i j t ht hj,←htk,List.getElem?_take_of_lt (by omega)]
          simp
        have hrow:∀(i:Nat) (row:List A),(l.map Tok.at)[i]? = some row→∃t,l[i]? = some t∧row=Tok.at t:=fun i row h=>by
          rw [List.getElem?_map] at h
          cases ht:l[i]? with
          | none=>rw [ht] at h;cases h
          | some t=>rw [ht] at h;injection h with h;exact⟨t,rfl,h.symm⟩
        have:=RepC.sl (w:=w') (mu:=(out w' x).mut) (l.map Tok.at) 3 g 0 c (fun i j=>cur.getD (i*3+j) Go.undef) ⟨_,hh,rfl⟩ (fun hm=>by
          rcases hm with hm|hm
          · have:=hx _ hm;omega
          · obtain⟨i,y,hm,_⟩:=hm;simp [out] at hm) (by rw [List.length_map];exact hn) (fun i row h=>by obtain⟨t,_,rfl⟩:=hrow i row h;rfl) (fun i row j y h hj=>by
          obtain⟨t,ht,rfl⟩:=hrow i row h
          obtain⟨v,rfl,hv,hc,hj3⟩:=Tok.cell_at9 hj
          have:=hcur i j t ht hj3
          rw [hc] at this
          simp only [World.cell?,hh,Nat.zero_add]
          rw [Array.getD_eq_getD_getElem?,this]
          simp) (fun i row j y h hj=>by
          obtain⟨t,ht,rfl⟩:=hrow i row h
          obtain⟨v,rfl,hv,hc,hj3⟩:=Tok.cell_at9 hj
          have:=hcur i j t ht hj3
          rw [hc] at this
          rw [Array.getD_eq_getD_getElem?,this]
          exact .v _ hv)
        rw [List.length_map] at this
        exact this
    | 1,hd =>
      injection hd with hd
      subst hd
      refine .r _ [_,_] rfl fun j d hd=>?_
      match j,hd with
      | 0,hd=>injection hd with hd;subst hd;exact .c _ _ (.v _ rfl)
      | 1,hd=>injection hd with hd;subst hd;exact .c _ _ (.v _ rfl)
theorem tok_L9 (s:List UInt8) (h:(qbl s).2.1=0):∃(X:List Tok) (p:Int),qbl s=(X++[⟨0,[],p⟩],0,0)∧X.length≤16384∧(∀a,(nowT (X++[⟨0,[],p⟩]) a).text.length≤1048576)∧(∀a,(nowT (X++[⟨0,[],p⟩]) a).kind=1→qan (nowT (X++[⟨0,[],p⟩]) a).text=true):=by
  rcases tok_any s with h1|⟨X,p,h1,h2,h3⟩
  · exact absurd h h1
  · refine⟨X,p,h1,h2,fun a=>?_,fun a hk=>?_⟩
    · rcases now_mem (X:=X) (p:=p) a with hm|⟨_,ht⟩
      · have:=(h3 _ hm).2;omega
      · rw [ht];simp
    · rcases now_mem (X:=X) (p:=p) a with hm|⟨h0,_⟩
      · exact (h3 _ hm).1 hk
      · rw [h0] at hk;cases hk
theorem toks_of (s:List UInt8) (h:(qbl s).2.1=0):Toks (qbl s).1∧(qbl s).2.2=0:=by
  obtain⟨X,p,h1,h2,h3,h4⟩:=tok_L9 s h
  refine⟨?_,by rw [h1]⟩
  rw [h1]
  exact⟨by rw [List.length_append,List.length_singleton];omega,h3,h4⟩
end
section
set_option maxRecDepth 100000
attribute [local irreducible] nowT isT bad9 cls9
section
variable (l:List Tok)
noncomputable def ofF:Nat→Int→Int→List Cs→List Cs×Int×Int
  | k,a,sum,out =>
    bif !((nowT l a).kind != 0) then (out,0,0)
    else bif !isT (nowT l a) [99,108,97,115,115] then ([],3,(nowT l a).pos)
    else bif (out.length:Int)==20 then ([],6,(nowT l a).pos)
    else bif (cls9 l a sum).err != 0 then ([],(cls9 l a sum).err,(cls9 l a sum).fat)
    else match k with
      | 0=>([],3,0)
      | k+1=>ofF k (cls9 l a sum).next (sum+((cls9 l a sum).c.stmts:Int)) (out++[(cls9 l a sum).c])
theorem ofF_eq (k:Nat) (a sum:Int) (out:List Cs):ofF l k a sum out =
    bif !((nowT l a).kind != 0) then (out,0,0)
    else bif !isT (nowT l a) [99,108,97,115,115] then ([],3,(nowT l a).pos)
    else bif (out.length:Int)==20 then ([],6,(nowT l a).pos)
    else bif (cls9 l a sum).err != 0 then ([],(cls9 l a sum).err,(cls9 l a sum).fat)
    else match k with
      | 0=>([],3,0)
      | k+1=>ofF l k (cls9 l a sum).next (sum+((cls9 l a sum).c.stmts:Int)) (out++[(cls9 l a sum).c]):=by cases k<;>rfl
end
noncomputable def of9 (s:List UInt8):List Cs×Int×Int:=bif ((qbl s).2.1:Int) != 0 then ([],((qbl s).2.1:Int),((qbl s).2.2:Int)) else ofF (qbl s).1 20 0 0 []
def of9D (r:List Cs×Int×Int):D:=.t [.a (.sl (r.1.map Cs.at)),.r [.v (.int .i64 r.2.1),.v (.int .i64 r.2.2)]]
def stoO (er fa:Int) (q:G9):List Cs→List Bx
  | []=>[.cell [.v (.int .i64 0),.v (.int .i64 0)],.cell [.v (.int .i64 er),.v (.int .i64 fa)]]
  | x::r=>[.cell [.v (.int .i64 0),.v (.int .i64 0)],.cell [.v (.int .i64 er),.v (.int .i64 fa)],.cell (G9.at q),.arr r.length 7 ((x::r).map Cs.at)]
attribute [local irreducible] qbl
theorem pd9Of (s:List UInt8) (hs:s.length≤1099511627776):qaa Tryz.prog 5 [.a (.v (.string (bs s)))] (of9D (of9 s)):=by
  have h3:=p03Of s hs
  have htk:=toks_of s
  obtain⟨g,hg⟩:∃g,of9 s=g:=⟨_,rfl⟩
  rw [hg]
  unfold of9 at hg
  generalize qbl s=t at *
  obtain⟨l,er,fa⟩:=t
  dsimp only at h3 htk hg
  refine qaa.vx [0,2,3,4,5,6,7,8,9,17,23,27,35,48] Tryz.func5 rfl Tryz.ntmps5 rfl rfl rfl (fun C hro hst=>?_)
  repeat' ((conv=>whnf);first|(show VD ..;refine .q ?_)|(show VK ..;refine xK ?_)|(show VB ..;refine VB.mk (fun hc=>?_) fun hc=>?_)|(show VC ..;first|refine xC (fun hg=>by exact h3) ?_|refine xL (fun hg=>by exact h3) ?_)|(show VI ..;refine xJ ?_)|(show VG ..;refine xG ?_)|(show VA ..;refine xA ?_)|(show VZ ..;refine .n ?_)|(show VE ..;refine .mk ?_))
  · rw [hc,cond_true] at hg
    rw [←hg];rfl
  rw [hc,cond_false] at hg
  obtain⟨hl,_⟩:=htk (by simpa using hc)
  have hlen:=hl.len
  have hL:l.length≤1048576:=by omega
  refine VL.g (α:={ y:(Int×List Cs)×(Int×G9) // y.1.2.length≤20∧0≤y.1.1∧y.1.1≤l.length∧0≤y.2.1∧y.2.1≤400∧ofF l (20-y.1.2.length) y.1.1 y.2.1 y.1.2=g }) (fun y=>[(3,.a (.ptr 0 0)),(4,.a (.sl (l.map Tok.at))),(6,oE 3 y.1.1.2),(7,.a (.v (.int .i64 y.1.1.1))),(8,.a (.v (.int .i64 y.1.2.1)))]) (fun y=>stoO er fa y.1.2.2 y.1.1.2) (fun y=>20-y.1.1.2.length) ⟨((0,[]),(0,⟨Cs.zero,Me.zero,[],[],0,0,0⟩)),Nat.zero_le _,Int.le_refl _,Int.natCast_nonneg _,Int.le_refl _,by decide,hg⟩ ⟨rfl,rfl,rfl,rfl,rfl,trivial⟩ rfl ?_
  clear hg h3 htk hc
  rintro⟨⟨⟨b,out⟩,⟨sm,q0⟩⟩,hol,hb0,hb1,hs0,hs1,hg⟩
  dsimp only at hol hb0 hb1 hs0 hs1 hg ⊢
  have hi:=fun s=>qbx l b s hL
  have ht:=qbh l b hL
  have hcl:isT (nowT l b) [99,108,97,115,115]=true→qaa Tryz.prog 14 [.a (.sl (l.map Tok.at)),.a (.v (.int .i64 b)),.a (.v (.int .i64 sm))] (.r (G9.at (cls9 l b sm))):=fun h=>pd9class l hl b sm hb0 (qam (qad l) h) hs0 hs1
  have hok:=cls9_ok hl b sm hb0 hs1
  rw [ofF_eq] at hg
  generalize cls9 l b sm=q at *
  have hS:(q.err != 0)=false→qaa Tryz.prog 15 [.r (Cs.at q.c)] (.a (.v (.int .i64 q.c.stmts))):=fun h=>by
    have:=hok (by simpa using h)
    have k1:=this.sz;have k2:=this.le
    exact pStmts q.c (by omega)
  have wS:(q.err != 0)=false→IntKind.i64.wrap (sm+(q.c.stmts:Int))=sm+(q.c.stmts:Int):=fun h=>by
    have:=hok (by simpa using h)
    have k1:=this.ct
    exact qah (by omega) (by omega)
  cases out with
  | nil =>
    simp only [stoO,oE]
    repeat' ((conv=>whnf);first|(show VD ..;refine .q ?_)|(show VK ..;refine xK ?_)|(show VB ..;first|refine VB.tt (by exact rfl) ?_|refine VB.ff (by exact rfl) ?_|refine VB.mk (fun hc=>?_) fun hc=>?_)|(show VC ..;first|refine xC (fun hg=>by first|exact ht|exact hi _|exact hcl (by simpa using hc)|exact hS (by assumption)) ?_|refine xL (fun hg=>by first|exact ht|exact hi _|exact hcl (by simpa using hc)|exact hS (by assumption)) ?_)|(show VI ..;refine xJ ?_)|(show VG ..;refine xG ?_)|(show VA ..;refine xA ?_)|(show VZ ..;refine .n ?_)|(show VE ..;refine .mk ?_))
    all_goals clear ht hi hcl hS
    all_goals (try (conv=>whnf))
    · rename_i z
      rw [z,Bool.not_true,cond_false,hc,cond_true] at hg
      rw [←hg];rfl
    · rename_i z1 z2
      rw [z1,Bool.not_true,cond_false,z2,cond_false,show ((([]:List Cs).length:Int)==20)=false from rfl,cond_false,hc,cond_true] at hg
      rw [←hg];rfl
    · rename_i z1 z2
      have w:=wS hc
      have k:=hok (by simpa using hc)
      have k1:=k.lt;have k2:=k.le;have k3:=k.ct
      rw [z1,Bool.not_true,cond_false,z2,cond_false,show ((([]:List Cs).length:Int)==20)=false from rfl,cond_false,hc,cond_false] at hg
      have hg:ofF l 19 q.next (sm+(q.c.stmts:Int)) [q.c]=g:=hg
      exact⟨⟨((q.next,[q.c]),(sm+(q.c.stmts:Int),q)),Nat.le_of_ble_eq_true rfl,by dsimp only;omega,k2,by dsimp only;omega,by dsimp only;omega,hg⟩,[],Nat.le_of_ble_eq_true rfl,Nat.le_of_ble_eq_true rfl,⟨rfl,rfl,rfl,rfl,congrArg (fun z=>D.a (.v (.int .i64 z))) w,trivial⟩,rfl,rfl,rfl⟩
    · rw [hc,Bool.not_false,cond_true] at hg
      rw [←hg];rfl
  | cons x r =>
    have hrl:r.length≤19:=by rw [List.length_cons] at hol;omega
    simp only [stoO,oE]
    rcases (show r.length=19∨r.length≤18 by omega) with h3|h3
    · have h4:(((List.map Cs.at (x::r)).length:Int)==20)=true:=by rw [List.length_map,List.length_cons,h3];rfl
      have h5:(((x::r).length:Int)==20)=true:=by rw [List.length_cons,h3];rfl
      repeat' ((conv=>whnf);first|(show VD ..;refine .q ?_)|(show VK ..;refine xK ?_)|(show VB ..;first|refine VB.tt (by exact h4) ?_|refine VB.ff (by exact h4) ?_|refine VB.mk (fun hc=>?_) fun hc=>?_)|(show VC ..;first|refine xC (fun hg=>by first|exact ht|exact hi _|exact hcl (by simpa using hc)|exact hS (by assumption)) ?_|refine xL (fun hg=>by first|exact ht|exact hi _|exact hcl (by simpa using hc)|exact hS (by assumption)) ?_)|(show VI ..;refine xJ ?_)|(show VG ..;refine xG ?_)|(show VA ..;refine xA ?_)|(show VZ ..;refine .n ?_)|(show VE ..;refine .mk ?_))
      all_goals clear ht hi hcl hS
      all_goals (try (conv=>whnf))
      · rename_i z
        rw [z,Bool.not_true,cond_false,hc,cond_true] at hg
        rw [←hg];rfl
      · rename_i z
        rw [z,Bool.not_true,cond_false,hc,cond_false,h5,cond_true] at hg
        rw [←hg];rfl
      · rw [hc,Bool.not_false,cond_true] at hg
        rw [←hg];rfl
    · have h4:(((List.map Cs.at (x::r)).length:Int)==20)=false:=by simp only [List.length_map,List.length_cons,beq_eq_false_iff_ne];omega
      have h5:(((x::r).length:Int)==20)=false:=by simp only [List.length_cons,beq_eq_false_iff_ne];omega
      obtain⟨k,hk,hk2⟩:∃k,20-(x::r).length=k+1∧20-(r.length+2)=k:=⟨18-r.length,by rw [List.length_cons];omega,by omega⟩
      rw [hk,h5] at hg
      repeat' ((conv=>whnf);first|(show VD ..;refine .q ?_)|(show VK ..;refine xK ?_)|(show VB ..;first|refine VB.tt (by exact h4) ?_|refine VB.ff (by exact h4) ?_|refine VB.mk (fun hc=>?_) fun hc=>?_)|(show VC ..;first|refine xC (fun hg=>by first|exact ht|exact hi _|exact hcl (by simpa using hc)|exact hS (by assumption)) ?_|refine xL (fun hg=>by first|exact ht|exact hi _|exact hcl (by simpa using hc)|exact hS (by assumption)) ?_)|(show VI ..;refine xJ ?_)|(show VG ..;refine xG ?_)|(show VA ..;refine xA ?_)|(show VZ ..;refine .n ?_)|(show VE ..;refine .mk ?_))
      all_goals clear ht hi hcl hS
      all_goals (try (conv=>whnf))
      · rename_i z
        rw [z,Bool.not_true,cond_false,hc,cond_true] at hg
        rw [←hg];rfl
      · rename_i z1 z2
        rw [z1,Bool.not_true,cond_false,z2,cond_false,cond_false,hc,cond_true] at hg
        rw [←hg];rfl
      · rename_i z1 z2
        have w:=wS hc
        have k9:=hok (by simpa using hc)
        have k1:=k9.lt;have k2:=k9.le;have k3:=k9.ct
        rw [z1,Bool.not_true,cond_false,z2,cond_false,cond_false,hc,cond_false] at hg
        have hg:ofF l k q.next (sm+(q.c.stmts:Int)) (x::r++[q.c])=g:=hg
        exact⟨⟨((q.next,x::r++[q.c]),(sm+(q.c.stmts:Int),q0)),by simp only [List.length_append,List.length_cons,List.length_nil] at *;omega,by dsimp only;omega,k2,by dsimp only;omega,by dsimp only;omega,by simp only [List.length_append,List.length_cons,List.length_nil];rw [hk2];exact hg⟩,[.cell (G9.at q)],by simp only [List.length_append,List.length_cons,List.length_nil] at *;omega,Nat.le_of_ble_eq_true rfl,⟨rfl,rfl,by simp only [oE,List.cons_append,List.length_append,List.length_cons,List.length_nil];rfl,rfl,congrArg (fun z=>D.a (.v (.int .i64 z))) w,trivial⟩,by simp only [stoO,List.cons_append,List.nil_append,List.length_append,List.length_cons,List.length_nil,List.map_cons,List.map_append,List.map_nil];rfl,rfl,rfl⟩
      · rw [hc,Bool.not_false,cond_true] at hg
        rw [←hg];rfl
structure OkP (p:List Cs):Prop where
  r:rightB p=true
  sz:qai Cs.sz p≤1048576
theorem ofF_ok {l:List Tok} (hl:Toks l):∀(k:Nat) (a sum:Int) (out:List Cs),out.length+k=20→0≤a→a≤l.length→(∀c∈out,c.rightB=true)→(qai Cs.sz out:Int)≤21*a→(qai Cs.stmts out:Int)=sum→sum≤400→(ofF l k a sum out).2.1=0→OkP (ofF l k a sum out).1:=by
  have hlen:=hl.len
  intro k
  induction k with
  | zero =>
    intro a sum out hk h0 h1 hr hz hs hs2 h
    rw [ofF_eq] at h ⊢
    cases c1 : !((nowT l a).kind != 0) with
    | true =>
      rw [cond_true]
      refine⟨?_,by dsimp only;omega⟩
      unfold rightB
      rw [Bool.and_eq_true,decide_eq_true_iff,List.all_eq_true]
      refine⟨fun c hc=>?_,by dsimp only;omega⟩
      rw [decide_eq_false (by dsimp only;omega),hr c hc];rfl
    | false =>
    rw [c1,cond_false] at h
    cases c2 : !isT (nowT l a) [99,108,97,115,115] with
    | true=>rw [c2,cond_true] at h;exact absurd h (by show (3:Int)≠0;decide)
    | false =>
    rw [c2,cond_false,show ((out.length:Int)==20)=true by simp;omega,cond_true] at h
    exact absurd h (by show (6:Int)≠0;decide)
  | succ k ih =>
    intro a sum out hk h0 h1 hr hz hs hs2 h
    have hok:=cls9_ok hl a sum h0 hs2
    rw [ofF_eq] at h ⊢
    generalize cls9 l a sum=q at *
    cases c1 : !((nowT l a).kind != 0) with
    | true =>
      rw [cond_true]
      refine⟨?_,by dsimp only;omega⟩
      unfold rightB
      rw [Bool.and_eq_true,decide_eq_true_iff,List.all_eq_true]
      refine⟨fun c hc=>?_,by dsimp only;omega⟩
      rw [decide_eq_false (by dsimp only;omega),hr c hc];rfl
    | false =>
    rw [c1,cond_false] at h
    rw [cond_false]
    cases c2 : !isT (nowT l a) [99,108,97,115,115] with
    | true=>rw [c2,cond_true] at h;exact absurd h (by show (3:Int)≠0;decide)
    | false =>
    rw [c2,cond_false,show ((out.length:Int)==20)=false by simp;omega,cond_false] at h
    rw [cond_false,show ((out.length:Int)==20)=false by simp;omega,cond_false]
    cases c3:q.err != 0 with
    | true=>rw [c3,cond_true] at h;exact absurd h (by simpa using c3)
    | false =>
    rw [c3,cond_false] at h
    rw [cond_false]
    have w:=hok (by simpa using c3)
    have k1:=w.lt;have k2:=w.le;have k3:=w.ct;have k4:=w.sz
    exact ih q.next (sum+(q.c.stmts:Int)) (out++[q.c]) (by rw [List.length_append,List.length_singleton];omega) (by omega) k2 (fun c hc=>by
      rcases List.mem_append.1 hc with h|h
      · exact hr c h
      · rw [List.mem_singleton] at h;subst h;exact w.r) (by rw [qav,qaw];omega) (by rw [qav,qaw];omega) k3 h
theorem of9_ok (s:List UInt8) (h:(of9 s).2.1=0):OkP (of9 s).1:=by
  have htk:=toks_of s
  unfold of9 at h ⊢
  generalize qbl s=t at *
  obtain⟨l,er,fa⟩:=t
  dsimp only at htk h ⊢
  cases c:(er:Int) != 0 with
  | true=>rw [c,cond_true] at h;exact absurd h (by simpa using c)
  | false =>
    rw [c,cond_false] at h
    rw [cond_false]
    obtain⟨hl,_⟩:=htk (by simpa using c)
    exact ofF_ok hl 20 0 0 [] rfl (Int.le_refl _) (Int.natCast_nonneg _) (by simp) (by simp [qai]) (by simp [qai]) (by decide) h
end
section
set_option maxRecDepth 100000
attribute [local irreducible] rightB likeB ofP
theorem pLawRead (s t:List UInt8) (hs:s.length≤1099511627776) (ht:t.length≤1099511627776):qaa Tryz.prog 3 [.a (.v (.string (bs s))),.a (.v (.string (bs t)))] (.a (.v (.bool true))):=by
  have h1:=pd9Of s hs
  have h2:=pd9Of t ht
  have k1:=of9_ok s
  have k2:=of9_ok t
  unfold of9D at h1 h2
  generalize of9 s=u at *
  generalize of9 t=v at *
  obtain⟨p,e,f⟩:=u
  obtain⟨q,e',f'⟩:=v
  dsimp only at h1 h2 k1 k2
  cases hE:(bif e != 0 then true else e' != 0) with
  | true =>
    refine qaa.vx [0,1,4,5,6,7,8,9,17,36] Tryz.func3 rfl Tryz.ntmps3 rfl rfl rfl (fun C hro hst=>?_)
    repeat' ((conv=>whnf);first|(show VD ..;refine .q ?_)|(show VK ..;refine xK ?_)|(show VB ..;first|refine VB.tt (by exact hE) ?_|refine VB.ff (by exact hE) ?_|refine VB.mk (fun hc=>?_) fun hc=>?_)|(show VC ..;first|refine xC (fun hg=>by first|exact qlx|exact h1|exact h2) ?_|refine xL (fun hg=>by first|exact qlx|exact h1|exact h2) ?_)|(show VI ..;refine xJ ?_)|(show VG ..;refine xG ?_)|(show VA ..;refine xA ?_)|(show VZ ..;refine .s ?_)|(show VE ..;refine .mk ?_))
    all_goals rfl
  | false =>
  have he:(e != 0)=false:=by
    cases h:e != 0 with
    | true=>rw [h] at hE;cases hE
    | false=>rfl
  have he':(e' != 0)=false:=by rw [he] at hE;exact hE
  have k1:=k1 (by simpa using he)
  have k2:=k2 (by simpa using he')
  have r1:qaa Tryz.prog 7 [.a (.sl (p.map Cs.at))] (.a (.v (.bool true))):=by rw [←k1.r];exact qkh p k1.sz
  have r2:qaa Tryz.prog 7 [.a (.sl (q.map Cs.at))] (.a (.v (.bool true))):=by rw [←k2.r];exact qkh q k2.sz
  have r3:qaa Tryz.prog 8 [.a (.sl ((p.map Cs.bare).map Cs.at)),.a (.sl ((q.map Cs.bare).map Cs.at)),.a (.v (.bool true))] (.a (.v (.bool (likeB false p q)))):=by rw [←like_bare2];exact pLikes _ _ true (by rw [bare_sz];exact k1.sz)
  have r5:=pBare p k1.sz
  have r6:=pBare q k2.sz
  have r7:=pzSame p q k1.sz
  have kn:=of_small k1.r
  have r4:=pzOf p k1.sz
  generalize ofP p=n at *
  obtain⟨n1,n2,n3,n4,n5,n6,n7⟩:=n
  have d1:=decide_eq_true kn.1
  have d2:=decide_eq_true kn.2.1
  have d3:=decide_eq_true kn.2.2
  dsimp only at d1 d2 d3
  generalize likeB false p q=x at *
  refine qaa.vx [0,1,4,5,6,7,8,9,17,36] Tryz.func3 rfl Tryz.ntmps3 rfl rfl rfl (fun C hro hst=>?_)
  repeat' ((conv=>whnf);first|(show VD ..;refine .q ?_)|(show VK ..;refine xK ?_)|(show VB ..;first|refine VB.tt (by exact hE) ?_|refine VB.ff (by exact hE) ?_|refine VB.mk (fun hc=>?_) fun hc=>?_)|(show VC ..;first|refine xC (fun hg=>by first|exact qlx|exact h1|exact h2|exact r1|exact r2|exact r3|exact r4|exact r5|exact r6|exact r7) ?_|refine xL (fun hg=>by first|exact qlx|exact h1|exact h2|exact r1|exact r2|exact r3|exact r4|exact r5|exact r6|exact r7) ?_)|(show VI ..;refine xJ ?_)|(show VG ..;refine xG ?_)|(show VA ..;refine xA ?_)|(show VZ ..;refine .s ?_)|(show VE ..;refine .mk ?_))
  · rfl
  · rw [d1,d2,d3];cases x<;>rfl
end
end Go.Proofs.YtfbopaaambkfkaaGreatDoor
