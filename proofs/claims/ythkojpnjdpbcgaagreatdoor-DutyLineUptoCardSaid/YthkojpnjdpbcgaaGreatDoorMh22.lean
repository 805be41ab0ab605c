/- Appends and slice literals within a region of drawn order. No program in sight. Conditions: none. -/
import Derived.Test.YthkojpnjdpbcgaaGreatDoorMh21
set_option linter.unusedVariables false
set_option maxRecDepth 100000
set_option maxHeartbeats 8000000
set_option linter.unusedSimpArgs false
namespace Go.Proofs.YthkojpnjdpbcgaaGreatDoor
open Go.RowKit
section
variable {P:Program} {C:Cx P} {g:D} {ops:Array Oper} {bs:List Nat} {s0:List Bx} {ws:List (Nat×List Bx)} {k:Nat} {r:List Oper} {e:Nat→D} {dst:Option Nat} {ty T:TypeId} {pos:String} {after:Array Edge} {guard:Option (Nat×Bool)} {K:(Nat→D)→Prop} {st st':List Bx} {n i ver bt:Nat} {rows rows2 rows':List (List A)} {zr:List A} {s x:Operand} {d:D}
theorem RWL.aO (h:RWL C g ops bs s0 ws r (k+1) (putE e dst (.a (.own i (ver+1)))) K) (hw:wrSt s0 ws k=some (st,st'):=by rfl) (hs:evO e s=.a (.own i ver):=by (simp only [go_sem,simprocAttr,fx])<;>rfl) (ha:st[i]? = some (.arr ver n rows):=by (simp only [go_sem,simprocAttr,fx])<;>rfl) (hx:qce st (evO e x)=some rows2:=by (simp only [go_sem,simprocAttr,fx])<;>rfl) (hn:es P T=some n:=by (simp only [go_sem])<;>rfl) (hz:zrT P T=some zr:=by (simp only [go_sem])<;>rfl) (hzl:zr.length=n:=by (simp only [go_sem])<;>rfl) (hby:byt P T=some bt:=by (simp only [go_sem])<;>rfl) (hl2:qa1 n rows2=true:=by (simp only [go_sem,simprocAttr,fx])<;>rfl)
  (hb1:(rows.length+rows2.length)*bt≤140737488355328:=by (try simp only [go_sem]);omega) (hb2:rows.length+rows2.length≤4611686018427387904:=by (try simp only [go_sem]);omega) (hr:rows++rows2=rows':=by (try simp only [go_sem,simprocAttr,fx])<;>rfl) (hst:st.set i (.arr (ver+1) n rows')=st':=by (simp only [go_sem,simprocAttr,fx])<;>rfl):RWL C g ops bs s0 ws (⟨dst,.call ⟨.builtin .append,⟨[s,x]⟩,⟨[T,T]⟩⟩,ty,pos,after,none⟩::r) k e K:=by
 subst hr;subst hst
 exact RWL.wg hw rfl (.app_own rfl hs ha hx hn hz hzl hby hl2 hb1 hb2) h
theorem RWL.aN (h:RWL C g ops bs s0 ws r (k+1) (putE e dst d) K) (hw:wrSt s0 ws k=some (st,st'):=by rfl) (hs:evO e s=.a .nl:=by (simp only [go_sem,simprocAttr,fx])<;>rfl) (hd:D.a (.own st.length 0)=d:=by (simp only [go_sem,simprocAttr])<;>rfl) (hx:qce st (evO e x)=some rows2:=by (simp only [go_sem,simprocAttr,fx])<;>rfl) (hn:es P T=some n:=by (simp only [go_sem])<;>rfl) (hn0:0<n:=by decide) (hz:zrT P T=some zr:=by (simp only [go_sem])<;>rfl) (hzl:zr.length=n:=by (simp only [go_sem])<;>rfl) (hby:byt P T=some bt:=by (simp only [go_sem])<;>rfl) (hl2:qa1 n rows2=true:=by (simp only [go_sem,simprocAttr,fx])<;>rfl) (hne:0<rows2.length:=by (try simp only [go_sem]);omega)
  (hb1:rows2.length*bt≤140737488355328:=by (try simp only [go_sem]);omega) (hb2:rows2.length≤4611686018427387904:=by (try simp only [go_sem]);omega) (hst:st++[.arr 0 n rows2]=st':=by (simp only [List.cons_append,List.nil_append])<;>rfl):RWL C g ops bs s0 ws (⟨dst,.call ⟨.builtin .append,⟨[s,x]⟩,⟨[T,T]⟩⟩,ty,pos,after,none⟩::r) k e K:=by
 subst hd;subst hst
 exact RWL.wg hw rfl (.app_nl rfl hs hx hn hn0 hz hzl hby hl2 hne hb1 hb2) h
theorem RWL.l0 {len:Nat} (h:RWL C g ops bs s0 ws r (k+1) (putE e dst d) K) (hw:wrSt s0 ws k=some (st,st'):=by rfl) (hl:len=0:=by rfl) (hd:D.a (.own st.length 0)=d:=by (simp only [go_sem,simprocAttr])<;>rfl) (hn:es P T=some n:=by (simp only [go_sem])<;>rfl) (hn0:0<n:=by decide) (hz:zrT P T=some zr:=by (simp only [go_sem])<;>rfl) (hzl:zr.length=n:=by (simp only [go_sem])<;>rfl) (hby:byt P T=some bt:=by (simp only [go_sem])<;>rfl) (hst:st++[.arr 0 n []]=st':=by (simp only [List.cons_append,List.nil_append])<;>rfl):RWL C g ops bs s0 ws (⟨dst,.buildSlice T len ⟨[]⟩,ty,pos,after,none⟩::r) k e K:=by
 subst hl;subst hd;subst hst
 exact RWL.wg hw rfl (.lit0 rfl hn hn0 hz hzl hby) h
theorem RWL.lS {len:Nat} {parts:List (Nat×Operand)} (h:RWL C g ops bs s0 ws r (k+1) (putE e dst (.a (.sl rows))) K) (hw:wrSt s0 ws k=none:=by rfl) (hn:es P T=some n:=by (simp only [go_sem])<;>rfl) (hn0:0<n:=by decide) (hlen:0<len:=by decide) (hz:zrT P T=some zr:=by (simp only [go_sem])<;>rfl) (hzl:zr.length=n:=by (simp only [go_sem])<;>rfl) (hcl:zr.all clA=true:=by (simp only [go_sem])<;>rfl) (hby:byt P T=some bt:=by (simp only [go_sem])<;>rfl) (hsm:len*n≤16777216:=by decide)
  (hp:qcl n (List.replicate len zr) (parts.map fun p=>(p.1,evO e p.2))=some rows:=by (simp only [go_sem,simprocAttr,List.replicate_succ,List.replicate_zero,fx])<;>rfl):RWL C g ops bs s0 ws (⟨dst,.buildSlice T len ⟨parts⟩,ty,pos,after,guard⟩::r) k e K :=
 RWL.rdA hw (fun _=>.of (OpJ.lit rfl hn hn0 hlen hz hzl hcl hby hsm hp)) h
end
section
variable {P:Program} {C:Cx P} {n:Nat} {Q:Exit→(Nat→D)→List Bx→Prop} {e:Nat→D} {st:List Bx}
theorem WP.loopG {α:Type} (env:α→List (Nat×D)) (sto:α→List Bx) (μ:α→Nat) (y:α) {c:Code} (h0:qag e (env y)) (hs:st=sto y)
  (round:∀y,WP C n c (qdz (fun e' st'=>∃z ex,μ z<μ y∧(sto y).length≤(sto z).length∧qag e' (env z)∧st'=sto z++ex∧nrE (sto z).length (env z)=true∧nrS (sto z).length (sto z)=true) Q) (envL (env y)) (sto y)):WP C n (.loop c) Q e st:=by
 subst hs
 have main:C.V0.st.length≤(sto y).length→WP C n (.loop c) Q (envL (env y)) (sto y):=by
  intro hV
  refine WP.loopS (fun y e st=>C.V0.st.length≤(sto y).length∧e=envL (env y)∧st=sto y) μ y ⟨hV,rfl,rfl⟩ ?_
  rintro y2 _ _ ⟨hV2,rfl,rfl⟩
  refine (round y2).mono ?_
  intro ex e' st' hq
  cases ex with
  | normal =>
   obtain⟨z,exx,hlt,hle,hag,rfl,hn1,hn2⟩:=hq
   intro a w x bl hm
   exact⟨z,x,_,_,_,hlt,⟨Nat.le_trans hV2 hle,rfl,rfl⟩,(hm.weaken hag).drop (qkj hn1) hn2 (Nat.le_trans hV2 hle)⟩
  | _=>exact hq
 intro a w x bl hm
 exact main hm.m.le.len a w x bl (hm.weaken h0)
end
section
variable {P:Program} {C:Cx P} {ops:Array Oper} {r:List Oper} {e:Nat→D} {st st' st0 st1 bs':List Bx} {K:(Nat→D)→List Bx→Prop} {dst:Option Nat} {ty:TypeId} {pos:String} {after:Array Edge} {j:Nat} {b:Bool} {f:FuncId} {xs:List Operand} {tys:Array TypeId} {vs ds:List D} {d d' g:D} {op:Op}
theorem RS.gM (σ:List Nat) (hgd:gOk ops e 8 (some (j,b)):=by exact⟨rfl,trivial⟩) (hx:xs.map (evO e)=vs:=by (simp only [go_sem,simprocAttr,fx])<;>rfl) (hs:σ.map (fun i=>st.getD i .gone)=bs':=by (simp only [go_sem,simprocAttr,fx])<;>rfl) (hin:qb9 σ bs' vs=true:=by (simp only [go_sem,simprocAttr,fx])<;>rfl) (hu:vs.map (unD σ)=ds:=by (simp only [go_sem,simprocAttr,fx])<;>rfl) (hv:bs'.map (unB σ)=st0:=by (simp only [go_sem,simprocAttr,fx])<;>rfl) (hg:e 1000000=g:=by (simp only [go_sem,simprocAttr])<;>rfl) (hp:DM P f ds st0 d st1) (hne:0<st1.length:=by exact Nat.zero_lt_succ _) (hd:rnD (rnX σ st.length (st1.length-σ.length)) d=d':=by (simp only [go_sem,simprocAttr,fx])<;>rfl)
  (hst:mrg σ st (st1.map (rnB (rnX σ st.length (st1.length-σ.length))))=st':=by (simp only [go_sem,simprocAttr,fx])<;>rfl) (h:RS C ops r (upd (putE e dst d') 1000000 g) st' K):RS C ops (⟨dst,.call ⟨.value (.func f),⟨xs⟩,tys⟩,ty,pos,after,some (j,b)⟩::r) e st K :=
 have q:WS C g st e ⟨dst,.call ⟨.value (.func f),⟨xs⟩,tys⟩,ty,pos,after,none⟩ d' st':=WS.callM hx hs hin hu hv hg hp hne hd hst
 .inr ⟨hgd,_,q.2.2,fun d1 st1 g1 ⟨h1,h2,h3⟩=>by subst h1;subst h2;subst h3;exact h⟩
end
def ExB (ops:Array Oper) (bs:List Nat) (p q:Nat):Prop:=∀a b,qaz bs b a=true→qaz (qb3 ops.toList []) b a=true∨(a=p∧b=q)
section
variable {P:Program}
def exB (bf bs:List Nat) (p q n:Nat):Bool:=(List.range n).all fun b=>(List.range n).all fun a=>!qaz bs b a||qaz bf b a||(a==p&&b==q)
def qsB (bf:List Nat) (ops:Array Oper) (qs:List Nat) (q1 q2:Nat):Bool:=(List.range ops.size).all fun i=>match ops[i]? with
 | some o=>(match o.dst with
  | some t=>qs.contains t||i==q1||i==q2||qaz bf i q1||qaz bf i q2
  | none=>true)
 | none=>true
theorem WP.dH {C:Cx P} {n:Nat} {Q:Exit→(Nat→D)→List Bx→Prop} {e:Nat→D} {st:List Bx} {id:Nat} {l:List Oper} (q1 q2:Nat) (bf bs1 bs2 ks qs:List Nat) (f:Nat→D) (s1 s2:List Bx) (r1 r2:List (Nat×List Bx)) (hbf:(qb3 l []==bf)=true) (hl1:(bs1.length==l.length&&bs2.length==l.length&&bs1.all (fun b=>decide (b<2 ^ l.length))&&bs2.all (fun b=>decide (b<2 ^ l.length)))=true) (hc1:chnX bs1 (q1::r1.map (·.1))=true) (hc2:chnX bs2 (q2::r2.map (·.1))=true) (hx:(exB bf bs1 q1 q2 l.length&&exB bf bs2 q2 q1 l.length)=true) (hne:(q1 != q2&&decide (q1<l.length)&&decide (q2<l.length))=true) (hqs:qsB bf ⟨l⟩ qs q1 q2=true) (hd:qdc ⟨l⟩ n l.length=true) (hk:ksOk ⟨l⟩ ks=true) (hmix:P.follows .mixedOrders=true)
  (h1:RWL C (e 1000000) ⟨l⟩ bs1 st ((q1,s1)::r1) l 0 e fun e1=>(∀t,t∈qs→e1 t=f t)∧Q .normal (qba e1 ks) (SWL st ((q1,s1)::r1) fun i=>decide (i<l.length)))
  (h2:RWL C (e 1000000) ⟨l⟩ bs2 st ((q2,s2)::r2) l 0 e fun e1=>(∀t,t∈qs→e1 t=f t)∧Q .normal (qba e1 ks) (SWL st ((q2,s2)::r2) fun i=>decide (i<l.length))):WP C n (.region id ⟨l⟩ true) Q e st:=by
 have hD:=qdu hd
 have hD:qcn ⟨l⟩ n (⟨l⟩:Array Oper).size:=hD
 have hbf:qb3 (⟨l⟩:Array Oper).toList []=bf:=by simpa using hbf
 subst hbf
 obtain⟨ds1,g1,g2,g3,g4⟩:=h1.data
 obtain⟨ds2,k1,k2,k3,k4⟩:=h2.data
 simp only [Bool.and_eq_true,bne_iff_ne,decide_eq_true_iff,beq_iff_eq] at hne hx hl1
 have ex:∀(bs:List Nat) (p q:Nat),bs.length=l.length→(bs.all fun b=>decide (b<2 ^ l.length))=true→exB (qb3 (⟨l⟩:Array Oper).toList []) bs p q l.length=true→ExB ⟨l⟩ bs p q:=by
  intro bs p q hbl hb2 hb a b hab
  have hbn:b<l.length:=by
   rcases Nat.lt_or_ge b bs.length with h|h
   ·omega
   ·unfold qaz at hab;rw [List.getD_eq_getElem?_getD,List.getElem?_eq_none h] at hab;simp at hab
  have han:a<l.length:=by
   rcases Nat.lt_or_ge a l.length with h|h
   ·exact h
   ·have h5:bs[b]? = some bs[b]:=List.getElem?_eq_getElem (by omega)
    have h3:=of_decide_eq_true ((List.all_eq_true.1 hb2) bs[b] (List.getElem_mem _))
    have h4:(bs.getD b 0).testBit a=false:=by
     rw [List.getD_eq_getElem?_getD,h5]
     exact Nat.testBit_lt_two_pow (Nat.lt_of_lt_of_le h3 (Nat.pow_le_pow_right (by decide) h))
    unfold qaz at hab;rw [h4] at hab;cases hab
  have:=(List.all_eq_true.1 ((List.all_eq_true.1 hb) b (List.mem_range.2 hbn))) a (List.mem_range.2 han)
  rw [hab] at this
  simp only [Bool.not_true,Bool.false_or,Bool.or_eq_true,Bool.and_eq_true,beq_iff_eq] at this
  exact this
 have hx1:=ex bs1 _ _ hl1.1.1.1 hl1.1.2 hx.1
 have hx2:=ex bs2 _ _ hl1.1.1.2 hl1.2 hx.2
 have hds:∀i t,wrt ⟨l⟩ t=some i→ds1.getD i .junk=ds2.getD i .junk∨i=q1∨i=q2∨qaz (qb3 (⟨l⟩:Array Oper).toList []) i q1=true∨qaz (qb3 (⟨l⟩:Array Oper).toList []) i q2=true:=by
  intro i t hw
  obtain⟨o,ho,hdst⟩:=qa7 hw
  have hi:=(Array.getElem?_eq_some_iff.1 ho).1
  have:=(List.all_eq_true.1 hqs) i (List.mem_range.2 hi)
  rw [ho] at this
  dsimp only at this
  rw [hdst] at this
  simp only [Bool.or_eq_true,List.contains_iff_mem,beq_iff_eq] at this
  have val:∀ds:List D,ds.length=l.length→eat l ds e l.length t=ds.getD i .junk:=fun ds hds=>by
   rw [←qdj (ops:=⟨l⟩) hD.seq.one (l:=l) (ds:=ds) (e:=e) (done:=fun _=>true) (k:=l.length) (fun j hj=>by simp) hds (Nat.le_refl _) (fun i' hw'=>by rw [hw] at hw';injection hw' with hw';subst hw';simpa using hi)]
   unfold eD;rw [hw];rfl
  rcases this with (((h|h)|h)|h)|h
  ·exact .inl (by rw [←val ds1 g1,←val ds2 k1,g3 t h,k3 t h])
  ·exact .inr (.inl h)
  ·exact .inr (.inr (.inl h))
  ·exact .inr (.inr (.inr (.inl h)))
  ·exact .inr (.inr (.inr (.inr h)))
 have hJ1:∀(k:Nat) (o:Oper),(⟨l⟩:Array Oper)[k]? = some o→RWL1 C (e 1000000) ⟨l⟩ bs1 st ((q1,s1)::r1) k (eat (⟨l⟩:Array Oper).toList ds1 e k) o (ds1.getD k .junk):=fun k o ho=>by have:=g2 k o (by rw [←ho];simp);rwa [Nat.zero_add] at this
 have hJ2:∀(k:Nat) (o:Oper),(⟨l⟩:Array Oper)[k]? = some o→RWL1 C (e 1000000) ⟨l⟩ bs2 st ((q2,s2)::r2) k (eat (⟨l⟩:Array Oper).toList ds2 e k) o (ds2.getD k .junk):=fun k o ho=>by have:=k2 k o (by rw [←ho];simp);rwa [Nat.zero_add] at this
 refine WP.enterD ks (fun done V tm=>(done q1=true∧RM ⟨l⟩ done V tm n (eD ⟨l⟩ ds1 e done)∧V.st=SWL st ((q1,s1)::r1) done)∨(done q2=true∧RM ⟨l⟩ done V tm n (eD ⟨l⟩ ds2 e done)∧V.st=SWL st ((q2,s2)::r2) done)∨(done q1=false∧done q2=false∧RM ⟨l⟩ done V tm n (eD ⟨l⟩ ds1 e done)∧V.st=st)) (fun e' st'=>Q .normal (qba e' ks) st') hk hmix hD.acyc (fun _ _ h=>h) (fun V tm hs hm=>.inr (.inr ⟨rfl,rfl,by rw [eD_none];exact hm,hs⟩)) (fun Nx Q listed V a k X hls hcl hkr h1 hok hsep hnx hE hS fin=>?_) (fun Nx V tm hE hS=>?_)
 ·have hbf:=bits_of hcl hkr
  have upk:∀q,listed.getD q false=true→upB (fun i=>listed.getD i false) k q=true:=fun q h=>by simp only [upB,Bool.or_eq_true];exact .inl h
  rcases hS with ⟨hq,hm,hs⟩|⟨hq,hm,hs⟩|⟨hn1,hn2,hm,hs⟩<;>try dsimp only at hn1 hn2
  ·exact qmg hc1 rfl hD (by rw [g1];rfl) hJ1 hls hcl hkr (fun a b hb=>by
    rcases hx1 a b hb with h|⟨rfl,rfl⟩
    ·exact hbf a b h
    ·exact⟨fun _=>hq,fun _=>hq⟩) hm hok hsep hnx hE hs fun a' w' x' bl' hX hm' hE' hdef=>fin a' w' x' bl' _ hX hE' hdef (.inl ⟨upk _ hq,hm',rfl⟩)
  ·exact qmg hc2 rfl hD (by rw [k1];rfl) hJ2 hls hcl hkr (fun a b hb=>by
    rcases hx2 a b hb with h|⟨rfl,rfl⟩
    ·exact hbf a b h
    ·exact⟨fun _=>hq,fun _=>hq⟩) hm hok hsep hnx hE hs fun a' w' x' bl' hX hm' hE' hdef=>fin a' w' x' bl' _ hX hE' hdef (.inr (.inl ⟨upk _ hq,hm',rfl⟩))
  ·have heD:eD ⟨l⟩ ds1 e (fun i=>listed.getD i false)=eD ⟨l⟩ ds2 e (fun i=>listed.getD i false):=by
    funext t
    unfold eD
    cases hw:wrt ⟨l⟩ t with
    | none=>rfl
    | some i =>
     dsimp only
     by_cases hli:listed.getD i false=true
     ·rw [if_pos hli,if_pos hli]
      rcases hds i t hw with h|rfl|rfl|h|h
      ·rw [h]
      ·rw [hn1] at hli;cases hli
      ·rw [hn2] at hli;cases hli
      ·have:=(hbf q1 i h).1 hli;rw [hn1] at this;cases this
      ·have:=(hbf q2 i h).1 hli;rw [hn2] at this;cases this
     ·rw [if_neg hli,if_neg hli]
   by_cases hkq:k=q2
   ·exact qmg hc2 rfl hD (by rw [k1];rfl) hJ2 hls hcl hkr (fun a b hb=>by
     rcases hx2 a b hb with h|⟨rfl,rfl⟩
     ·exact hbf a b h
     ·exact⟨fun h=>(by rw [hn1] at h;cases h),(fun h=>absurd (h.trans hkq) hne.1.1)⟩) (heD▸hm) hok hsep hnx hE (by unfold SWL;dsimp only;rw [hn2,cond_false];exact hs) fun a' w' x' bl' hX hm' hE' hdef=>fin a' w' x' bl' _ hX hE' hdef (.inr (.inl ⟨by simp [upB,hkq],hm',rfl⟩))
   ·refine qmg hc1 rfl hD (by rw [g1];rfl) hJ1 hls hcl hkr (fun a b hb=>by
     rcases hx1 a b hb with h|⟨rfl,rfl⟩
     ·exact hbf a b h
     ·exact⟨fun h=>(by rw [hn2] at h;cases h),(fun h=>absurd h.symm hkq)⟩) hm hok hsep hnx hE (by unfold SWL;dsimp only;rw [hn1,cond_false];exact hs) fun a' w' x' bl' hX hm' hE' hdef=>?_
    by_cases hkp:k=q1
    ·exact fin a' w' x' bl' _ hX hE' hdef (.inl ⟨by simp [upB,hkp],hm',rfl⟩)
    ·have f1:upB (fun i=>listed.getD i false) k q1=false:=by simp only [upB,Bool.or_eq_false_iff,beq_eq_false_iff_ne];exact⟨hn1,fun h=>hkp h.symm⟩
     have f2:upB (fun i=>listed.getD i false) k q2=false:=by simp only [upB,Bool.or_eq_false_iff,beq_eq_false_iff_ne];exact⟨hn2,fun h=>hkq h.symm⟩
     refine fin a' w' x' bl' _ hX hE' hdef (.inr (.inr ⟨f1,f2,hm',?_⟩))
     unfold SWL;rw [f1,cond_false]
 ·rcases hS with ⟨_,hm,hs⟩|⟨_,hm,hs⟩|⟨h,_⟩
  ·exact⟨eat (⟨l⟩:Array Oper).toList ds1 e (⟨l⟩:Array Oper).size,by rw [←eD_all hD ds1 e (by rw [g1];rfl)];exact hm,by rw [eat_gh hD];exact hE,by rw [hs];exact g4⟩
  ·exact⟨eat (⟨l⟩:Array Oper).toList ds2 e (⟨l⟩:Array Oper).size,by rw [←eD_all hD ds2 e (by rw [k1];rfl)];exact hm,by rw [eat_gh hD];exact hE,by rw [hs];exact k4⟩
  ·exact absurd (h.symm.trans (decide_eq_true (show q1<(⟨l⟩:Array Oper).size from hne.1.2))) (by decide)
end
end Go.Proofs.YthkojpnjdpbcgaaGreatDoor
