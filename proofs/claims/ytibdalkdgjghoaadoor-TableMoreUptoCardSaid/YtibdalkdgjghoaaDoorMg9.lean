/- Regions whose order is drawn, with up to two writers in their order among readers. No program in sight. Conditions: none. -/
import Derived.Test.YtibdalkdgjghoaaDoorMg8
set_option linter.unusedVariables false
set_option maxRecDepth 100000
set_option maxHeartbeats 8000000
set_option linter.unusedSimpArgs false
namespace Go.Proofs.YtibdalkdgjghoaaDoor
open Go.RowKit
theorem OpX.congr {P:Program} {C:Cx P} {st:List Bx} {e e':Nat→D} {o:Oper} {O:D→List Bx→D→Prop} (h:OpX C st e o O) (he:∀t,.tmp t∈o.op.operands→e t=e' t) (hg:e 1000000=e' 1000000):OpX C st e' o O:=by
 intro ρ V Nx hst hok hsep hnx henv hu
 refine h ρ V Nx hst hok hsep hnx (by rw [hg];exact henv) fun x hx=>?_
 have hmem:x∈o.op.operands:=by
  cases hop:o.op with
  | pick c p q =>
   rw [hop] at hx
   simp only [usedO] at hx
   split at hx<;>simp only [List.mem_cons,List.not_mem_nil,or_false] at hx<;>simp only [Op.operands,List.mem_toArray,List.mem_cons,List.not_mem_nil,or_false]
   ·rcases hx with h|h<;>simp [h]
   ·rcases hx with h|h<;>simp [h]
   ·simp [hx]
  | _=>rw [hop] at hx;simp only [usedO] at hx;simpa using hx
 have:=hu x hx
 cases x with
 | tmp t=>show RepD V (e t) _;rw [he t hmem];exact this
 | _=>exact this
def SW (s0 s1 s2:List Bx) (w1 w2:Nat) (done:Nat→Bool):List Bx:=bif done w2 then s2 else bif done w1 then s1 else s0
def RW1 {P:Program} (C:Cx P) (g:D) (s0 s1 s2:List Bx) (w1 w2 k:Nat) (e:Nat→D) (o:Oper) (d:D):Prop :=
 (k≠w1∧k≠w2∧OpJ P s0 e o d∧OpJ P s1 e o d∧OpJ P s2 e o d)∨(k=w1∧WS C g s0 e o d s1)∨(k=w2∧WS C g s1 e o d s2)
def RW {P:Program} (C:Cx P) (g:D) (s0 s1 s2:List Bx) (w1 w2:Nat):List Oper→Nat→(Nat→D)→((Nat→D)→Prop)→Prop
 | [],_,e,K=>K e
 | o::r,k,e,K=>∃d,RW1 C g s0 s1 s2 w1 w2 k e o d∧RW C g s0 s1 s2 w1 w2 r (k+1) (putE e o.dst d) K
theorem RW.data {P:Program} {C:Cx P} {g:D} {s0 s1 s2:List Bx} {w1 w2:Nat} {K:(Nat→D)→Prop}:∀{l:List Oper} {k0:Nat} {e:Nat→D},RW C g s0 s1 s2 w1 w2 l k0 e K →
  ∃ds:List D,ds.length=l.length∧(∀(k:Nat) (o:Oper),l[k]? = some o→RW1 C g s0 s1 s2 w1 w2 (k0+k) (eat l ds e k) o (ds.getD k .junk))∧K (eat l ds e l.length)
 | [],k0,e,h=>⟨[],rfl,fun k o h=>by simp at h,h⟩
 | o::l,k0,e,h=>by
  obtain⟨d,h1,h2⟩:=h
  obtain⟨ds,h3,h4,h5⟩:=RW.data h2
  refine⟨d::ds,by simp [h3],fun k o' ho=>?_,h5⟩
  cases k with
  | zero =>
   simp only [List.getElem?_cons_zero,Option.some.injEq] at ho
   subst ho;exact h1
  | succ k =>
   have:=h4 k o' (by simpa using ho)
   rw [show k0+1+k=k0+(k+1) by omega] at this
   exact this
section
variable {P:Program} {ops:Array Oper} {n m:Nat} {Q:Exit→Act→World→Prop}
theorem drawAS {C:Cx P} {Nx:Nat→Prop} {s0 s1 s2 st:List Bx} {ds:List D} {e0:Nat→D} {w1 w2:Nat} {g:D} (hdw:dep ops w2 w1=true∨m≤w2) (hne:w1≠w2) (hg:g=e0 1000000) (hD:DrawOkT ops n m) (hms:m≤ops.size) {K:(Nat→D)→List Bx→Prop} (hds:ds.length=m)
  (hst2:st=SW s0 s1 s2 w1 w2 fun i=>decide (i<m)) (hJ:∀(k:Nat) (o:Oper),k<m→ops[k]? = some o→RW1 C g s0 s1 s2 w1 w2 k (eat (ops.toList.take m) ds e0 k) o (ds.getD k .junk)) (hEnd:∀(fuel:Nat) (listed:Array Bool) (V:Vw) (a:Act),listed.size=ops.size→(∀i,i<ops.size→listed.getD i false=decide (i<m))→ops.size-m≤fuel→RM ops (fun i=>listed.getD i false) V a.tmps n (eat (ops.toList.take m) ds e0 m)→Ok V→(∀b,b∈V.bl→¬V.x b)→NxOk Nx V→EnvE C.E C.on Nx (eat (ops.toList.take m) ds e0 m 1000000) V→V.st=st →
   (∀a' w' x' bl' st' e',StepX C.on Nx V ⟨w',x',bl',st'⟩→RM ops (fun i=>decide (i<ops.size)) ⟨w',x',bl',st'⟩ a'.tmps n e'→EnvE C.E C.on Nx (e' 1000000) ⟨w',x',bl',st'⟩→a'.defers=a.defers→K e' st'→Q .normal a' w')→wpAnyIn (FR C.ro) 0 P .any ops Q fuel listed a V.w) :
  ∀(fuel:Nat) (listed:Array Bool) (V:Vw) (a:Act) (un:List Nat),un.length≤fuel→(∀i,i<ops.size→listed.getD i false=false→i∈un)→listed.size=ops.size→Cl ops (fun i=>listed.getD i false)→(∀i,m≤i→listed.getD i false=false) →
  RM ops (fun i=>listed.getD i false) V a.tmps n (eD ops ds e0 fun i=>listed.getD i false)→Ok V→(∀b,b∈V.bl→¬V.x b)→NxOk Nx V→EnvE C.E C.on Nx (e0 1000000) V→V.st=SW s0 s1 s2 w1 w2 (fun i=>listed.getD i false) →
  (∀a' w' x' bl' st' e',StepX C.on Nx V ⟨w',x',bl',st'⟩→RM ops (fun i=>decide (i<ops.size)) ⟨w',x',bl',st'⟩ a'.tmps n e'→EnvE C.E C.on Nx (e' 1000000) ⟨w',x',bl',st'⟩→a'.defers=a.defers→K e' st'→Q .normal a' w')→wpAnyIn (FR C.ro) 0 P .any ops Q fuel listed a V.w:=by
 have hlen:(ops.toList.take m).length=m:=by simp;omega
 have hget:∀j,j<(ops.toList.take m).length→(ops.toList.take m)[j]? = ops[j]?:=fun j hj=>by rw [List.getElem?_take_of_lt (by omega),Array.getElem?_toList]
 have hge:eat (ops.toList.take m) ds e0 m 1000000=e0 1000000:=eat_keep _ _ _ _ _ fun i o hi ho=>hD.seq.ng i o (by rw [←hget i (by omega)];exact ho)
 intro fuel
 induction fuel with
 | zero =>
  intro listed V a un hun hin hls hcl htl hm hok hsep hnx hE hst hK
  have hun0:un=[]:=List.eq_nil_of_length_eq_zero (by omega)
  subst hun0
  have hall:∀i,i<ops.size→listed.getD i false=true:=fun i hi=>by
   cases h:listed.getD i false with
   | true=>rfl
   | false=>have:=hin i hi h;simp at this
  have hm0:m=ops.size:=by
   rcases Nat.lt_or_ge m ops.size with h|h
   ·have:=hall m h;rw [htl m (Nat.le_refl _)] at this;cases this
   ·omega
  have hst3:V.st=st:=by
   rw [hst,hst2]
   congr 1
   funext i
   by_cases hi:i<m
   ·rw [hall i (by omega)];simp [hi]
   ·rw [htl i (by omega)];simp [hi]
  have hE':EnvE C.E C.on Nx (eat (ops.toList.take m) ds e0 m 1000000) V:=by rw [hge];exact hE
  refine hEnd 0 listed V a hls (fun i hi=>by rw [hall i hi];simp;omega) (by omega) ?_ hok hsep hnx hE' hst3 hK
  refine⟨hm.size,fun t ht=>?_⟩
  have hs:=hm.slot t ht
  rw [eat_eD hD.seq.one hget (by omega) (k:=m) (by omega) (fun i hw=>by
   obtain⟨o,ho,_⟩:=wrt_some hw
   have:=(Array.getElem?_eq_some_iff.1 ho).1
   simp only [hall i this,true_iff];omega)] at hs
  exact hs
 | succ fuel ih =>
  intro listed V a un hun hin hls hcl htl hm hok hsep hnx hE hst hK
  by_cases hall:∀i,i<m→listed.getD i false=true
  ·have hE':EnvE C.E C.on Nx (eat (ops.toList.take m) ds e0 m 1000000) V:=by rw [hge];exact hE
   have hdone:∀i,listed.getD i false=decide (i<m):=fun i=>by
    by_cases hi:i<m
    ·rw [hall i hi];simp [hi]
    ·rw [htl i (by omega)];simp [hi]
   have hst3:V.st=st:=by
    rw [hst,hst2]
    congr 1
    funext i
    exact hdone i
   refine hEnd (fuel+1) listed V a hls (fun i _=>hdone i) ?_ ?_ hok hsep hnx hE' hst3 hK
   ·have:(List.range' m (ops.size-m)).length≤un.length:=List.Nodup.length_le_of_subset (List.nodup_range' ..) fun i hi=>by
     rw [List.mem_range'] at hi
     obtain⟨j,hj,rfl⟩:=hi
     exact hin _ (by omega) (htl _ (by omega))
    simp at this ⊢;omega
   ·refine⟨hm.size,fun t ht=>?_⟩
    have hs:=hm.slot t ht
    have hfun:(fun i=>listed.getD i false)=fun i=>decide (i<m):=funext hdone
    rw [eat_eD hD.seq.one hget (by omega) (k:=m) (by omega) (fun i _=>by simp only [hdone i];simp)] at hs
    exact hs
  ·have hex:∃k,k<m∧listed.getD k false=false∧∀i,i<k→listed.getD i false=true:=by
    have:∃k,k<m∧listed.getD k false=false:=by
     refine Classical.byContradiction fun h=>hall fun i hi=>?_
     cases hh:listed.getD i false with
     | true=>rfl
     | false=>exact absurd ⟨i,hi,hh⟩ h
    obtain⟨k,hk⟩:=this
    induction k using Nat.strongRecOn with
    | _ k ihk =>
     by_cases hlow:∀i,i<k→listed.getD i false=true
     ·exact⟨k,hk.1,hk.2,hlow⟩
     ·have:∃i,i<k∧listed.getD i false=false:=by
       refine Classical.byContradiction fun h=>hlow fun i hi=>?_
       cases hh:listed.getD i false with
       | true=>rfl
       | false=>exact absurd ⟨i,hi,hh⟩ h
      obtain⟨i,h1,h2⟩:=this
      exact ihk i h1 ⟨by omega,h2⟩
   obtain⟨k0,hk1,hk2,hk3⟩:=hex
   have hk0r:k0∈Region.ready .any ops listed:=ready_of (by rw [getD_both (by omega)];exact hk2) (by omega) fun i hd=>hk3 i (hD.acyc k0 i hd)
   refine⟨fun h0=>(by rw [h0] at hk0r;cases hk0r),fun k hk=>?_⟩
   obtain⟨h1,h2,h3⟩:=ready_dep hk
   have h1:listed.getD k false=false:=by rw [getD_both (by omega)] at h1;exact h1
   have hkm:k<m:=by
    rcases Nat.lt_or_ge k m with h|h
    ·exact h
    ·have:=hD.tail _ k hcl h h2 h3 k0 (by omega)
     rw [hk2] at this;cases this
   have ho:ops[k]? = some ops[k]:=Array.getElem?_eq_getElem h2
   have hagree:∀t,.tmp t∈ops[k].op.operands→∀i,wrt ops t=some i→(listed.getD i false=true↔i<k):=fun t ht i hw=>by
    obtain⟨g1,g2⟩:=hD.opd k _ t i hkm ho ht hw
    refine⟨fun hdi=>?_,fun hlt=>h3 i (g1 hlt)⟩
    rcases Nat.lt_trichotomy i k with h|h|h
    ·exact h
    ·subst h;rw [h1] at hdi;cases hdi
    ·have h9:listed.getD k false=true:=hcl i k hdi (g2 h)
     rw [h1] at h9;cases h9
   have hgagree:∀j b t,ops[k].guard=some (j,b)→gslot ops j=some t→∀i,wrt ops t=some i→(listed.getD i false=true↔i<k):=fun j b t hg hs i hw=>by
    have hjk:=hD.seq.glt k _ j b ho hg
    have hij:i=j:=by
     unfold gslot at hs
     cases hoj:ops[j]? with
     | none=>simp [hoj] at hs
     | some oj =>
      simp only [hoj,Option.bind_some] at hs
      have:=wrt_of hD.seq.one hoj hs
      rw [hw] at this;injection this
    subst hij
    have:=h3 i (hD.grd k _ i b hkm ho hg)
    simp only [this,true_iff];exact hjk
   have hcg:∀(i j:Nat) (b:Bool),listed.getD i false=true→gd ops i=some (j,b)→listed.getD j false=true:=fun i j b hi hg=>by
    obtain⟨oi,g1,g2⟩:=gd_of hg
    rcases Nat.lt_or_ge i m with h|h
    ·exact hcl i j hi (hD.grd i oi j b h g1 g2)
    ·rw [htl i h] at hi;cases hi
   have hset:=set_done (listed:=listed) (k:=k) (by omega)
   have henv:putE (eD ops ds e0 fun i=>listed.getD i false) ops[k].dst (ds.getD k .junk)=eD ops ds e0 (upB (fun i=>listed.getD i false) k):=by
    funext t
    cases hd:ops[k].dst with
    | none =>
     simp only [putE]
     unfold eD
     cases hw:wrt ops t with
     | none=>rfl
     | some i =>
      have hik:i≠k:=fun h=>by subst h;obtain⟨o',g1,g2⟩:=wrt_some hw;rw [ho] at g1;injection g1 with g1;rw [←g1,hd] at g2;cases g2
      simp only [upB_ne hik]
    | some t' =>
     simp only [putE,upd]
     by_cases htt:t=t'
     ·subst htt
      rw [if_pos rfl]
      unfold eD
      rw [wrt_of hD.seq.one ho hd]
      simp [upB]
     ·rw [if_neg htt]
      unfold eD
      cases hw:wrt ops t with
      | none=>rfl
      | some i =>
       have hik:i≠k:=fun h=>by subst h;obtain⟨o',g1,g2⟩:=wrt_some hw;rw [ho] at g1;injection g1 with g1;rw [←g1,hd] at g2;injection g2 with g2;exact htt g2.symm
       simp only [upB_ne hik]
   have fin:∀(a':Act) (w':World) (x':Nat→Prop) (bl':List Nat) (st':List Bx),StepX C.on Nx V ⟨w',x',bl',st'⟩→st'=SW s0 s1 s2 w1 w2 (upB (fun i=>listed.getD i false) k)→RM ops (upB (fun i=>listed.getD i false) k) ⟨w',x',bl',st'⟩ a'.tmps n (putE (eD ops ds e0 fun i=>listed.getD i false) ops[k].dst (ds.getD k .junk))→EnvE C.E C.on Nx (e0 1000000) ⟨w',x',bl',st'⟩→a'.defers=a.defers →
     wpAnyIn (FR C.ro) 0 P .any ops Q fuel (listed.setIfInBounds k true) a' w':=by
    intro a' w' x' bl' st' hX hs' hm' hE' hdef
    rw [henv,←hset] at hm'
    refine ih _ ⟨w',x',bl',st'⟩ a' (un.erase k) ?_ (fun i hi hu=>?_) (by simpa using hls) ?_ (fun i hi=>?_) hm' hX.ok (hX.sep hsep) (hnx.step hX) hE' (by rw [hset];exact hs') ?_
    ·have hmem:=hin k h2 h1
     rw [List.length_erase_of_mem hmem];omega
    ·have h9:(listed.setIfInBounds k true).getD i false=upB (fun i=>listed.getD i false) k i:=congrFun hset i
     rw [h9] at hu
     simp only [upB,Bool.or_eq_false_iff,beq_eq_false_iff_ne] at hu
     exact (List.mem_erase_of_ne hu.2).2 (hin i hi hu.1)
    ·rw [hset]
     intro i j hi hd
     simp only [upB,Bool.or_eq_true,beq_iff_eq] at hi ⊢
     rcases hi with hi|rfl
     ·exact .inl (hcl i j hi hd)
     ·exact .inl (h3 j hd)
    ·have h9:(listed.setIfInBounds k true).getD i false=upB (fun i=>listed.getD i false) k i:=congrFun hset i
     rw [h9]
     simp only [upB,htl i hi,Bool.false_or,beq_eq_false_iff_ne];omega
    ·intro a'' w'' x'' bl'' st'' e'' hs2 hm2 hE2 hd2 hk2
     exact hK a'' w'' x'' bl'' st'' e'' (hX.trans hs2) hm2 hE2 (hd2.trans hdef) hk2
   have heq:∀t,.tmp t∈ops[k].op.operands→eat (ops.toList.take m) ds e0 k t=eD ops ds e0 (fun i=>listed.getD i false) t:=fun t ht=>(eat_eD hD.seq.one hget (by omega) (by omega) (hagree t ht)).symm
   have hgk:eat (ops.toList.take m) ds e0 k 1000000=e0 1000000:=eat_keep _ _ _ _ _ fun i o hi ho=>hD.seq.ng i o (by rw [←hget i (by omega)];exact ho)
   have hgD:eD ops ds e0 (fun i=>listed.getD i false) 1000000=e0 1000000:=by
    unfold eD
    cases hw:wrt ops 1000000 with
    | none=>rfl
    | some i =>
     obtain⟨o,q1,q2⟩:=wrt_some hw
     exact absurd q2 (hD.seq.ng i o q1)
   have hw12:listed.getD w2 false=true→listed.getD w1 false=true:=fun h=>by
    rcases hdw with hd|hd
    ·exact hcl w2 w1 h hd
    ·rw [htl w2 hd] at h;cases h
   rcases hJ k _ hkm ho with ⟨n1,n2,r0,r1,r2⟩|⟨rfl,hgu,_,hW⟩|⟨rfl,hgu,_,hW⟩
   ·have hr:OpJ P V.st (eat (ops.toList.take m) ds e0 k) ops[k] (ds.getD k .junk):=by
     rw [hst];unfold SW;dsimp only
     cases listed.getD w2 false<;>cases listed.getD w1 false<;>assumption
    have hstep:DStep P ops V.st (eD ops ds e0 fun i=>listed.getD i false) ops[k] (ds.getD k .junk) V.st:=.inr ⟨rfl,.of (hr.congr heq)⟩
    refine step_op hD.seq.one ho hm hok h1 hcg (fun j b hg=>h3 j (hD.grd k _ j b hkm ho hg)) (hD.seq.use k _ ho) (fun t i ht hw=>hagree t ht i hw) (fun t ht=>hD.seq.tmp k _ t ho ht) (fun j b t hg ht=>hD.seq.gs k _ j b t ho hg ht) (hD.seq.nd k _ ho) hstep ?_
    intro a' w' bl' hstep' hm' hdef
    refine fin a' w' V.x bl' V.st (hstep'.toX hok) ?_ hm' (hE.step hstep' hok hsep fun _ h=>h) hdef
    rw [hst];unfold SW;simp only [upB_ne (Ne.symm n1),upB_ne (Ne.symm n2)]
   ·have hu2:listed.getD w2 false=false:=by
     cases h:listed.getD w2 false with
     | false=>rfl
     | true=>rw [hw12 h] at h1;cases h1
    have hs0:V.st=s0:=by rw [hst];unfold SW;simp only [hu2,h1,cond_false]
    have hW2:OpX C V.st (eD ops ds e0 fun i=>listed.getD i false) ops[k] _:=(hs0▸hW).congr heq (hgk.trans hgD.symm)
    refine step_opX hD.seq.one ho hm hok hsep hnx (by rw [hgD];exact hE) h1 hcg (by rw [hgu];trivial) (fun j b hg=>by rw [hgu] at hg;cases hg) (fun i oi j b t hi hg ht=>hD.seq.gs i oi j b t hi hg ht) (hD.seq.use k _ ho) (fun t i ht hw=>hagree t ht i hw) (fun t ht=>hD.seq.tmp k _ t ho ht) (hD.seq.nd k _ ho) hW2 ?_
    rintro a' w' d' st' g' x' bl' ⟨rfl,rfl,rfl⟩ hX hm' hE' hdef
    refine fin a' w' x' bl' _ hX ?_ hm' (hg▸hE') hdef
    unfold SW;simp only [upB,hu2,beq_eq_false_iff_ne.2 (Ne.symm hne),Bool.or_self,cond_false,beq_self_eq_true,Bool.or_true,cond_true]
   ·have hd1:listed.getD w1 false=true:=by
     rcases hdw with hd|hd
     ·exact h3 w1 hd
     ·omega
    have hs1:V.st=s1:=by rw [hst];unfold SW;simp only [h1,hd1,cond_false,cond_true]
    have hW2:OpX C V.st (eD ops ds e0 fun i=>listed.getD i false) ops[k] _:=(hs1▸hW).congr heq (hgk.trans hgD.symm)
    refine step_opX hD.seq.one ho hm hok hsep hnx (by rw [hgD];exact hE) h1 hcg (by rw [hgu];trivial) (fun j b hg=>by rw [hgu] at hg;cases hg) (fun i oi j b t hi hg ht=>hD.seq.gs i oi j b t hi hg ht) (hD.seq.use k _ ho) (fun t i ht hw=>hagree t ht i hw) (fun t ht=>hD.seq.tmp k _ t ho ht) (hD.seq.nd k _ ho) hW2 ?_
    rintro a' w' d' st' g' x' bl' ⟨rfl,rfl,rfl⟩ hX hm' hE' hdef
    refine fin a' w' x' bl' _ hX ?_ hm' (hg▸hE') hdef
    unfold SW;simp only [upB,beq_self_eq_true,Bool.or_true,cond_true]
end
theorem WP.drawS {P:Program} {C:Cx P} {n:Nat} {Q:Exit→(Nat→D)→List Bx→Prop} {e:Nat→D} {st:List Bx} {id:Nat} {ops:Array Oper} (m w1 w2:Nat) (s1 s2 sE:List Bx) (ks:List Nat) (hdw:dep ops w2 w1=true∨m≤w2) (hne:w1≠w2) (hsE:SW st s1 s2 w1 w2 (fun i=>decide (i<m))=sE) (hd:drawOkT ops n m=true) (hms:m≤ops.size) (hk:ksOk ops ks=true) (hmix:P.follows .mixedOrders=true)
  (h:RW C (e 1000000) st s1 s2 w1 w2 (ops.toList.take m) 0 e fun e'=>RT C ops (fun e'' st''=>Q .normal (keepE e'' ks) st'') (ops.size-m) (List.range' m (ops.size-m)) e' sE):WP C n (.region id ops true) Q e st:=by
 rintro a w x bl ⟨ms,hmk,hm,henv⟩
 have hD:=drawOkT_sound hd
 obtain⟨ds,h1,h2,h3⟩:=h.data
 have hlen:(ops.toList.take m).length=m:=by simp;omega
 rw [hlen] at h1 h3
 have hg:Grw w { w with drawn:=w.drawn+1 }:=(Grw.refl w).drew
 have hok':=hm.ok.grw (w:={ w with drawn:=w.drawn+1 }) hg
 have hle:=Vw.le_grw hm.ok (w:={ w with drawn:=w.drawn+1 }) hg
 have hX:StepX C.on (C.nxm ms) ⟨w,x,bl,st⟩ ⟨{ w with drawn:=w.drawn+1 },x,bl,st⟩:=Step.toX (V:=⟨w,x,bl,st⟩) (.grw hm.ok hg) hm.ok
 refine wpIn_region_any hmix ?_
 have hfalse:(fun i=>(Array.replicate ops.size false).getD i false)=fun _=>false:=by
  funext i
  rw [Array.getD_eq_getD_getElem?,Array.getElem?_replicate];split<;>rfl
 refine drawAS (C:=C) (Nx:=C.nxm ms) (K:=fun e'' st''=>Q .normal (keepE e'' ks) st'') hdw hne rfl hD hms h1 hsE.symm (fun k o hk ho=>by have:=h2 k o (by rw [List.getElem?_take_of_lt hk,Array.getElem?_toList];exact ho);rwa [Nat.zero_add] at this) ?_ ops.size (Array.replicate ops.size false) ⟨{ w with drawn:=w.drawn+1 },x,bl,st⟩ a (List.range ops.size) (by simp) (fun i hi _=>by simpa using hi) (by simp) (fun i j hi _=>by have:=congrFun hfalse i;simp only at this hi;rw [this] at hi;cases hi) (fun i _=>congrFun hfalse i) ?_ hok' hm.sep ((hmk.nx hm.nx).step hX) (henv.frm ⟨rfl,rfl,rfl,Nat.le_refl _,fun _ _ _=>rfl⟩ (fun b hb=>.inl hb) fun _ hb=>hb) (by rw [hfalse];rfl) ?_
 ·intro fuel listed V a hls hdone hfu hRM hok hsep hnx hE hst hK
  subst hst
  refine drawTree hD (ops.size-m) (List.range' m (ops.size-m)) fuel listed V a _ (List.nodup_range' ..) (fun i hi=>?_) hls (fun i j hi hd=>?_) (fun i hi=>?_) (by simpa using hfu) (by simp) hRM hok hsep hnx hE h3 hK
  ·rw [List.mem_range'] at hi
   obtain⟨j,hj,rfl⟩:=hi
   omega
  ·have hji:=hD.acyc i j hd
   have hi:listed.getD i false=true:=hi
   have hil:i<ops.size:=by
    rcases Nat.lt_or_ge i listed.size with h|h
    ·omega
    ·simp [h] at hi
   rw [hdone i hil] at hi
   show listed.getD j false=true
   rw [hdone j (by omega)]
   simp at hi ⊢;omega
  ·rw [hdone i hi,List.mem_range']
   simp only [decide_eq_false_iff_not,Nat.not_lt]
   exact⟨fun h=>⟨i-m,by omega,by omega⟩,fun ⟨j,hj,h⟩=>by omega⟩
 ·refine⟨hm.size,fun t ht=>?_⟩
  have hgd:gdD ops (fun i=>(Array.replicate ops.size false).getD i false) t=none:=by
   rw [hfalse];unfold gdD;split<;>simp
  have he:eD ops ds e (fun i=>(Array.replicate ops.size false).getD i false) t=e t:=by
   rw [hfalse];unfold eD;split<;>simp
  rw [hgd,he]
  exact (hm.slot t ht).mono hle
 ·intro a' w' x' bl' st' e' hstep hm' hE hdf hK
  have hst:=hX.trans hstep
  exact⟨x',bl',_,st',⟨ms,hdf▸hmk.step hst,hm.step (fun b hb=>.inl hb) hst hm'.size fun t ht=>hm'.keep hk t ht,hE.keep ks⟩,hK⟩
theorem WP.drwS {P:Program} {C:Cx P} {n:Nat} {Q:Exit→(Nat→D)→List Bx→Prop} {e:Nat→D} {st:List Bx} {id:Nat} {l:List Oper} (m w1 w2:Nat) (s1 s2 sE:List Bx) (rem:List Nat) (ks:List Nat) (hdw:(dep ⟨l⟩ w2 w1||decide (m≤w2))=true) (hne:(w1 != w2)=true) (hsE:SW st s1 s2 w1 w2 (fun i=>decide (i<m))=sE) (hd:drawOkT ⟨l⟩ n m=true) (hms:decide (m≤l.length)=true) (hrem:(List.range' m (l.length-m)==rem)=true) (hk:ksOk ⟨l⟩ ks=true) (hmix:P.follows .mixedOrders=true)
  (h:RW C (e 1000000) st s1 s2 w1 w2 (l.take m) 0 e fun e'=>RT C ⟨l⟩ (fun e'' st''=>Q .normal (keepE e'' ks) st'') rem.length rem e' sE):WP C n (.region id ⟨l⟩ true) Q e st:=by
 have hr:List.range' m (l.length-m)=rem:=by simpa using hrem
 have hl:rem.length=l.length-m:=by rw [←hr];simp
 rw [hl,←hr] at h
 exact WP.drawS m w1 w2 s1 s2 sE ks (by rw [Bool.or_eq_true,decide_eq_true_iff] at hdw;exact hdw) (by simpa using hne) hsE hd (of_decide_eq_true hms) hk hmix h
section
variable {P:Program} {C:Cx P} {g:D} {s0 s1 s2:List Bx} {w1 w2 k:Nat} {r:List Oper} {e:Nat→D} {o:Oper} {d:D} {K:(Nat→D)→Prop}
theorem RW.rd (h0:evQ P s0 e o=some d) (h1:evQ P s1 e o=some d) (h2:evQ P s2 e o=some d) (hk:(k != w1&&k != w2)=true) (h:RW C g s0 s1 s2 w1 w2 r (k+1) (putE e o.dst d) K):RW C g s0 s1 s2 w1 w2 (o::r) k e K:=by
 rw [Bool.and_eq_true,bne_iff_ne,bne_iff_ne] at hk
 exact⟨d,.inl ⟨hk.1,hk.2,evQ_sound h0,evQ_sound h1,evQ_sound h2⟩,h⟩
theorem RW.wr1 (hk:k=w1) (hw:WS C g s0 e o d s1) (h:RW C g s0 s1 s2 w1 w2 r (k+1) (putE e o.dst d) K):RW C g s0 s1 s2 w1 w2 (o::r) k e K:=⟨d,.inr (.inl ⟨hk,hw⟩),h⟩
theorem RW.wr2 (hk:k=w2) (hw:WS C g s1 e o d s2) (h:RW C g s0 s1 s2 w1 w2 r (k+1) (putE e o.dst d) K):RW C g s0 s1 s2 w1 w2 (o::r) k e K:=⟨d,.inr (.inr ⟨hk,hw⟩),h⟩
theorem RW.nil (h:K e):RW C g s0 s1 s2 w1 w2 [] k e K:=h
end
end Go.Proofs.YtibdalkdgjghoaaDoor
