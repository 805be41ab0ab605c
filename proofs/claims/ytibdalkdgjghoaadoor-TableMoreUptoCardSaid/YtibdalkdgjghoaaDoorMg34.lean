/- A region whose order is drawn, with cuts: operations that come behind all ahead of them and ahead of all behind them (they may call back); between them operations that only read. No program in sight. Conditions: none. -/
import Derived.Test.YtibdalkdgjghoaaDoorMg17
set_option linter.unusedVariables false
set_option maxRecDepth 100000
set_option maxHeartbeats 8000000
set_option linter.unusedSimpArgs false
namespace Go.Proofs.YtibdalkdgjghoaaDoor
open Go.RowKit
def RG {P:Program} (C:Cx P) (ops:Array Oper):List Nat→List Oper→(Nat→D)→List Bx→((Nat→D)→List Bx→Prop)→Prop
 | [],l,e,st,K=>RS C ops l e st K
 | m::segs,l,e,st,K=>RQ P ops st (l.take m) e fun e'=>RS C ops ((l.drop m).take 1) e' st fun e'' st''=>RG C ops segs (l.drop (m+1)) e'' st'' K
def cutB (bs:List Nat) (sz:Nat):Nat→List Nat→Bool
 | _,[]=>true
 | k,m::segs=>decide (k+m<sz)&&((List.range (k+m)).all fun i=>(bs.getD (k+m) 0).testBit i)&&((List.range sz).all fun j=>!decide (k+m<j)||(bs.getD j 0).testBit (k+m))&&cutB bs sz (k+m+1) segs
def endG:Nat→List Nat→Nat
 | k,[]=>k
 | k,m::segs=>endG (k+m+1) segs
theorem endG_le:∀(segs:List Nat) (k:Nat),k≤endG k segs
 | [],_=>Nat.le_refl _
 | m::segs,k=>by have:=endG_le segs (k+m+1);rw [endG];omega
def eD2 (ops:Array Oper) (k0:Nat) (ds:List D) (e:Nat→D) (done:Nat→Bool) (t:Nat):D :=
 match wrt ops t with
 | some i=>if decide (k0≤i)&&done i then ds.getD (i-k0) .junk else e t
 | none=>e t
section
variable {P:Program} {ops:Array Oper} {n kf:Nat} {Q:Exit→Act→World→Prop}
theorem eat_eD2 {l:List Oper} {ds:List D} {e:Nat→D} {k0:Nat} (h1:OneW ops) (hl:∀(j:Nat),j<l.length→l[j]? = ops[k0+j]?) (hds:ds.length=l.length) {done:Nat→Bool} {k:Nat} (hk:k≤l.length) {t:Nat} (ht:∀i,wrt ops t=some i→k0≤i→(done i=true↔i<k0+k)):eD2 ops k0 ds e done t=eat l ds e k t:=by
 have none_of:(∀i,i<k→wrt ops t≠some (k0+i))→eat l ds e k t=e t:=fun h=>eat_keep l ds e k t fun i o hi ho hd=>h i hi (wrt_of h1 (by rw [←hl i (by omega)];exact ho) hd)
 unfold eD2
 cases hw:wrt ops t with
 | none=>exact (none_of fun i _ h=>by rw [hw] at h;cases h).symm
 | some i =>
  simp only
  by_cases hki:k0≤i
  ·by_cases hik:i<k0+k
   ·rw [if_pos (by rw [decide_eq_true hki,(ht i hw hki).2 hik];rfl)]
    obtain⟨o,ho,hd⟩:=wrt_some hw
    obtain⟨j,rfl⟩:∃j,i=k0+j:=⟨i-k0,by omega⟩
    rw [show k0+j-k0=j by omega]
    exact (eat_at l ds e k t j o hds (by omega) (by rw [hl j (by omega)];exact ho) hd fun j' o' hj hd'=>by
     have hjl:=(List.getElem?_eq_some_iff.1 hj).1
     have:=h1 (k0+j') (k0+j) o' o t (by rw [←hl j' hjl];exact hj) ho hd' hd
     omega).symm
   ·rw [if_neg fun h=>hik ((ht i hw hki).1 (by rw [Bool.and_eq_true] at h;exact h.2))]
    exact (none_of fun j hj h=>by rw [hw] at h;injection h with h;omega).symm
  ·rw [if_neg fun h=>hki (by rw [Bool.and_eq_true,decide_eq_true_iff] at h;exact h.1)]
   exact (none_of fun j hj h=>by rw [hw] at h;injection h with h;omega).symm
theorem drawQ {C:Cx P} {Nx:Nat→Prop} {k0 m:Nat} (hD:DrawOk ops n kf) (hkf:k0+m≤kf) (hms:k0+m≤ops.size) {K:(Nat→D)→List Bx→Prop} {ds:List D} {e0:Nat→D} {st:List Bx} (hds:ds.length=m)
  (hJ:∀(k:Nat) (o:Oper),k<m→ops[k0+k]? = some o→DCond ops (eat ((ops.toList.drop k0).take m) ds e0 k) o (OpJ P st (eat ((ops.toList.drop k0).take m) ds e0 k) o (ds.getD k .junk)))
  (htail:∀(done:Nat→Bool) (k:Nat),Cl ops done→k0+m≤k→k<ops.size→(∀i,dep ops k i=true→done i=true)→∀i,i<k0+m→done i=true)
  (next:∀(fuel:Nat) (listed:Array Bool) (V:Vw) (a:Act),ops.size-(k0+m)≤fuel→listed.size=ops.size→(∀i,listed.getD i false=decide (i<k0+m))→RM ops (fun i=>decide (i<k0+m)) V a.tmps n (eat ((ops.toList.drop k0).take m) ds e0 m)→Ok V→(∀b,b∈V.bl→¬V.x b)→NxOk Nx V→EnvE C.E C.on Nx (eat ((ops.toList.drop k0).take m) ds e0 m 1000000) V→V.st=st →
   (∀a' w' x' bl' st' e',StepX C.on Nx V ⟨w',x',bl',st'⟩→RM ops (fun i=>decide (i<ops.size)) ⟨w',x',bl',st'⟩ a'.tmps n e'→EnvE C.E C.on Nx (e' 1000000) ⟨w',x',bl',st'⟩→a'.defers=a.defers→K e' st'→Q .normal a' w')→wpAnyIn (FR C.ro) 0 P .any ops Q fuel listed a V.w) :
  ∀(fuel:Nat) (listed:Array Bool) (V:Vw) (a:Act) (un:List Nat),un.length≤fuel→(∀i,i<ops.size→listed.getD i false=false→i∈un)→listed.size=ops.size→Cl ops (fun i=>listed.getD i false)→(∀i,i<k0→listed.getD i false=true)→(∀i,k0+m≤i→listed.getD i false=false) →
  RM ops (fun i=>listed.getD i false) V a.tmps n (eD2 ops k0 ds e0 fun i=>listed.getD i false)→Ok V→(∀b,b∈V.bl→¬V.x b)→NxOk Nx V→EnvE C.E C.on Nx (e0 1000000) V→V.st=st →
  (∀a' w' x' bl' st' e',StepX C.on Nx V ⟨w',x',bl',st'⟩→RM ops (fun i=>decide (i<ops.size)) ⟨w',x',bl',st'⟩ a'.tmps n e'→EnvE C.E C.on Nx (e' 1000000) ⟨w',x',bl',st'⟩→a'.defers=a.defers→K e' st'→Q .normal a' w')→wpAnyIn (FR C.ro) 0 P .any ops Q fuel listed a V.w:=by
 obtain⟨L,hL⟩:∃L,L=(ops.toList.drop k0).take m:=⟨_,rfl⟩
 rw [←hL] at hJ next
 have hlen:L.length=m:=by rw [hL];simp;omega
 have hget:∀j,j<L.length→L[j]? = ops[k0+j]?:=fun j hj=>by rw [hL,List.getElem?_take_of_lt (by omega),List.getElem?_drop,Array.getElem?_toList]
 have hge:eat L ds e0 m 1000000=e0 1000000:=eat_keep _ _ _ _ _ fun i o hi ho=>hD.seq.ng (k0+i) o (by rw [←hget i (by omega)];exact ho)
 have fin:∀(fuel:Nat) (listed:Array Bool) (V:Vw) (a:Act) (un:List Nat),un.length≤fuel→(∀i,i<ops.size→listed.getD i false=false→i∈un)→listed.size=ops.size→(∀i,i<k0+m→listed.getD i false=true)→(∀i,k0+m≤i→listed.getD i false=false)→RM ops (fun i=>listed.getD i false) V a.tmps n (eD2 ops k0 ds e0 fun i=>listed.getD i false)→Ok V→(∀b,b∈V.bl→¬V.x b)→NxOk Nx V→EnvE C.E C.on Nx (e0 1000000) V→V.st=st →
  (∀a' w' x' bl' st' e',StepX C.on Nx V ⟨w',x',bl',st'⟩→RM ops (fun i=>decide (i<ops.size)) ⟨w',x',bl',st'⟩ a'.tmps n e'→EnvE C.E C.on Nx (e' 1000000) ⟨w',x',bl',st'⟩→a'.defers=a.defers→K e' st'→Q .normal a' w')→wpAnyIn (FR C.ro) 0 P .any ops Q fuel listed a V.w:=by
  intro fuel listed V a un hun hin hls hall htl hm hok hsep hnx hE hst hK
  have hdone:∀i,listed.getD i false=decide (i<k0+m):=fun i=>by
   by_cases hi:i<k0+m
   ·rw [hall i hi];simp [hi]
   ·rw [htl i (by omega)];simp [hi]
  have hfun:(fun i=>listed.getD i false)=fun i=>decide (i<k0+m):=funext hdone
  refine next fuel listed V a ?_ hls hdone ?_ hok hsep hnx (by rw [hge];exact hE) hst hK
  ·have:(List.range' (k0+m) (ops.size-(k0+m))).length≤un.length:=List.Nodup.length_le_of_subset (List.nodup_range' ..) fun i hi=>by
    rw [List.mem_range'] at hi
    obtain⟨j,hj,rfl⟩:=hi
    exact hin _ (by omega) (htl _ (by omega))
   simp at this;omega
  ·refine⟨hm.size,fun t ht=>?_⟩
   have hs:=hm.slot t ht
   rw [hfun] at hs
   rwa [eat_eD2 hD.seq.one hget (by omega) (k:=m) (by omega) (fun i _ _=>by simp)] at hs
 intro fuel
 induction fuel with
 | zero =>
  intro listed V a un hun hin hls hcl hlo htl hm hok hsep hnx hE hst hK
  have hun0:un=[]:=List.eq_nil_of_length_eq_zero (by omega)
  have hall:∀i,i<ops.size→listed.getD i false=true:=fun i hi=>by
   cases h:listed.getD i false with
   | true=>rfl
   | false=>have:=hin i hi h;rw [hun0] at this;simp at this
  exact fin 0 listed V a un hun hin hls (fun i hi=>hall i (by omega)) htl hm hok hsep hnx hE hst hK
 | succ fuel ih =>
  intro listed V a un hun hin hls hcl hlo htl hm hok hsep hnx hE hst hK
  by_cases hall:∀i,i<k0+m→listed.getD i false=true
  ·exact fin (fuel+1) listed V a un hun hin hls hall htl hm hok hsep hnx hE hst hK
  ·have hex:∃k,k<k0+m∧listed.getD k false=false∧∀i,i<k→listed.getD i false=true:=by
    have:∃k,k<k0+m∧listed.getD k false=false:=by
     refine Classical.byContradiction fun h=>hall fun i hi=>?_
     cases hh:listed.getD i false with
     | true=>rfl
     | false=>exact absurd ⟨i,hi,hh⟩ h
    obtain⟨k,hk⟩:=this
    induction k using Nat.strongRecOn with
    | _ k ihk =>
     by_cases hlow:∀i,i<k→listed.getD i false=true
     ·exact⟨k,hk.1,hk.2,hlow⟩
     ·have:∃i,i<k∧listed.getD i false=false:=by
       refine Classical.byContradiction fun h=>hlow fun i hi=>?_
       cases hh:listed.getD i false with
       | true=>rfl
       | false=>exact absurd ⟨i,hi,hh⟩ h
      obtain⟨i,h1,h2⟩:=this
      exact ihk i h1 ⟨by omega,h2⟩
   obtain⟨q0,hk1,hk2,hk3⟩:=hex
   have hk0r:q0∈Region.ready .any ops listed:=ready_of (by rw [getD_both (by omega)];exact hk2) (by omega) fun i hd=>hk3 i (hD.acyc q0 i hd)
   refine⟨fun h0=>(by rw [h0] at hk0r;cases hk0r),fun k hk=>?_⟩
   obtain⟨h1,h2,h3⟩:=ready_dep hk
   have h1:listed.getD k false=false:=by rw [getD_both (by omega)] at h1;exact h1
   have hkm:k<k0+m:=by
    rcases Nat.lt_or_ge k (k0+m) with h|h
    ·exact h
    ·have:=htail _ k hcl h h2 h3 q0 (by omega)
     rw [hk2] at this;cases this
   have hkk:k0≤k:=Nat.le_of_not_lt fun h=>by rw [hlo k h] at h1;cases h1
   have hkf2:k<kf:=by omega
   have ho:ops[k]? = some ops[k]:=Array.getElem?_eq_getElem h2
   have hagree:∀t,.tmp t∈ops[k].op.operands→∀i,wrt ops t=some i→(listed.getD i false=true↔i<k):=fun t ht i hw=>by
    obtain⟨g1,g2⟩:=hD.opd k _ t i hkf2 ho ht hw
    refine⟨fun hdi=>?_,fun hlt=>h3 i (g1 hlt)⟩
    rcases Nat.lt_trichotomy i k with h|h|h
    ·exact h
    ·subst h;rw [h1] at hdi;cases hdi
    ·have h9:listed.getD k false=true:=hcl i k hdi (g2 h)
     rw [h1] at h9;cases h9
   have hgagree:∀j b t,ops[k].guard=some (j,b)→gslot ops j=some t→∀i,wrt ops t=some i→(listed.getD i false=true↔i<k):=fun j b t hg hs i hw=>by
    have hjk:=hD.seq.glt k _ j b ho hg
    have hij:i=j:=by
     unfold gslot at hs
     cases hoj:ops[j]? with
     | none=>simp [hoj] at hs
     | some oj =>
      simp only [hoj,Option.bind_some] at hs
      have:=wrt_of hD.seq.one hoj hs
      rw [hw] at this;injection this
    subst hij
    have:=h3 i (hD.grd k _ i b hkf2 ho hg)
    simp only [this,true_iff];exact hjk
   have hkq:k0+(k-k0)=k:=by omega
   have hJk:=hJ (k-k0) ops[k] (by omega) (by rw [hkq];exact ho)
   have heq:∀t,(∀i,wrt ops t=some i→(listed.getD i false=true↔i<k))→eat L ds e0 (k-k0) t=eD2 ops k0 ds e0 (fun i=>listed.getD i false) t:=fun t ht =>
    (eat_eD2 hD.seq.one hget (by omega) (k:=k-k0) (by omega) (fun i hw _=>by rw [hkq];exact ht i hw)).symm
   subst hst
   have hstep:DStep P ops V.st (eD2 ops k0 ds e0 fun i=>listed.getD i false) ops[k] (ds.getD (k-k0) .junk) V.st :=
    .inr ⟨rfl,hJk.congr (fun hp=>hp.congr fun t ht=>heq t (hagree t ht)) fun j b t hg hs=>heq t (hgagree j b t hg hs)⟩
   refine step_op hD.seq.one ho hm hok h1 (fun i j b hi hg=>?_) (fun j b hg=>h3 j (hD.grd k _ j b hkf2 ho hg)) (hD.seq.use k _ ho) (fun t i ht hw=>hagree t ht i hw) (fun t ht=>hD.seq.tmp k _ t ho ht) (fun j b t hg ht=>hD.seq.gs k _ j b t ho hg ht) (hD.seq.nd k _ ho) hstep ?_
   ·obtain⟨oi,g1,g2⟩:=gd_of hg
    rcases Nat.lt_or_ge i (k0+m) with h|h
    ·exact hcl i j hi (hD.grd i oi j b (by omega) g1 g2)
    ·have h9:listed.getD i false=true:=hi
     rw [htl i h] at h9;cases h9
   ·intro a' w' bl' hstep' hm' hdef
    have hset:=set_done (listed:=listed) (k:=k) (by omega)
    have hX:=hstep'.toX (on:=C.on) (Nx:=Nx) hok
    have henv:putE (eD2 ops k0 ds e0 fun i=>listed.getD i false) ops[k].dst (ds.getD (k-k0) .junk)=eD2 ops k0 ds e0 (upB (fun i=>listed.getD i false) k):=by
     funext t
     cases hd:ops[k].dst with
     | none =>
      simp only [putE]
      unfold eD2
      cases hw:wrt ops t with
      | none=>rfl
      | some i =>
       have hik:i≠k:=fun h=>by subst h;obtain⟨o',g1,g2⟩:=wrt_some hw;rw [ho] at g1;injection g1 with g1;rw [←g1,hd] at g2;cases g2
       simp only [upB_ne hik]
     | some t' =>
      simp only [putE,upd]
      by_cases htt:t=t'
      ·subst htt
       rw [if_pos rfl]
       unfold eD2
       rw [wrt_of hD.seq.one ho hd]
       simp [upB,hkk]
      ·rw [if_neg htt]
       unfold eD2
       cases hw:wrt ops t with
       | none=>rfl
       | some i =>
        have hik:i≠k:=fun h=>by subst h;obtain⟨o',g1,g2⟩:=wrt_some hw;rw [ho] at g1;injection g1 with g1;rw [←g1,hd] at g2;injection g2 with g2;exact htt g2.symm
        simp only [upB_ne hik]
    rw [henv,←hset] at hm'
    have hgi:∀i,(listed.setIfInBounds k true).getD i false=upB (fun i=>listed.getD i false) k i:=fun i=>congrFun hset i
    refine ih _ ⟨w',V.x,bl',V.st⟩ a' (un.erase k) ?_ (fun i hi hu=>?_) (by simpa using hls) ?_ (fun i hi=>?_) (fun i hi=>?_) hm' hstep'.ok (hX.sep hsep) (hnx.step hX) (hE.step hstep' hok hsep fun _ h=>h) rfl ?_
    ·have hmem:=hin k h2 h1
     rw [List.length_erase_of_mem hmem];omega
    ·rw [hgi] at hu
     simp only [upB,Bool.or_eq_false_iff,beq_eq_false_iff_ne] at hu
     exact (List.mem_erase_of_ne hu.2).2 (hin i hi hu.1)
    ·rw [hset]
     intro i j hi hd
     simp only [upB,Bool.or_eq_true,beq_iff_eq] at hi ⊢
     rcases hi with hi|rfl
     ·exact .inl (hcl i j hi hd)
     ·exact .inl (h3 j hd)
    ·rw [hgi]
     simp only [upB,hlo i hi,Bool.true_or]
    ·rw [hgi]
     simp only [upB,htl i hi,Bool.false_or,beq_eq_false_iff_ne];omega
    ·intro a'' w'' x'' bl'' st'' e'' hs2 hm2 hE2 hd2 hk2
     exact hK a'' w'' x'' bl'' st'' e'' (hX.trans hs2) hm2 hE2 (hd2.trans hdef) hk2
theorem cutB_cons {bs:List Nat} {sz k m:Nat} {segs:List Nat} (h:cutB bs sz k (m::segs)=true):k+m<sz∧(∀i,i<k+m→(bs.getD (k+m) 0).testBit i=true)∧(∀j,k+m<j→j<sz→(bs.getD j 0).testBit (k+m)=true)∧cutB bs sz (k+m+1) segs=true:=by
 unfold cutB at h
 simp only [Bool.and_eq_true,decide_eq_true_iff] at h
 refine⟨h.1.1.1,fun i hi=>List.all_eq_true.1 h.1.1.2 i (by simpa using hi),fun j h1 h2=>?_,h.2⟩
 have:=List.all_eq_true.1 h.1.2 j (by simpa using h2)
 simpa [h1] using this
theorem drawG {C:Cx P} {Nx:Nat→Prop} (hD:DrawOk ops n kf) {K:(Nat→D)→List Bx→Prop}:∀(segs:List Nat) (k0:Nat) (e0:Nat→D) (st:List Bx),endG k0 segs=kf→k0≤ops.size→cutB (befGo ops.toList []) ops.size k0 segs=true→RG C ops segs (ops.toList.drop k0) e0 st K →
  ∀(fuel:Nat) (listed:Array Bool) (V:Vw) (a:Act),ops.size-k0≤fuel→listed.size=ops.size→(∀i,listed.getD i false=decide (i<k0))→RM ops (fun i=>decide (i<k0)) V a.tmps n e0→Ok V→(∀b,b∈V.bl→¬V.x b)→NxOk Nx V→EnvE C.E C.on Nx (e0 1000000) V→V.st=st →
  (∀a' w' x' bl' st' e',StepX C.on Nx V ⟨w',x',bl',st'⟩→RM ops (fun i=>decide (i<ops.size)) ⟨w',x',bl',st'⟩ a'.tmps n e'→EnvE C.E C.on Nx (e' 1000000) ⟨w',x',bl',st'⟩→a'.defers=a.defers→K e' st'→Q .normal a' w')→wpAnyIn (FR C.ro) 0 P .any ops Q fuel listed a V.w
 | [],k0,e0,st,hkf,hk0,_,h,fuel,listed,V,a,hf,hls,hdone,hm,hok,hsep,hnx,hE,hst,hK=>by
  have hkf:k0=kf:=hkf
  subst hst;subst hkf
  exact drawB hD (ops.toList.drop k0) k0 fuel listed V a e0 (fun j=>by rw [List.getElem?_drop,Array.getElem?_toList]) (by simp;omega) hls (fun i _=>hdone i) (Nat.le_refl _) (by simpa using hf) hm hok hsep hnx hE h hK
 | m::segs,k0,e0,st,hkf,hk0,hcut,h,fuel,listed,V,a,hf,hls,hdone,hm,hok,hsep,hnx,hE,hst,hK=>by
  obtain⟨hlt,hb1,hb2,hcut2⟩:=cutB_cons hcut
  have hkf1:k0+m+1≤kf:=by have:=endG_le segs (k0+m+1);rw [←hkf,endG];exact this
  obtain⟨ds,hd1,hd2,hd3⟩:=RQ.data h
  have hlen:((ops.toList.drop k0).take m).length=m:=by simp;omega
  rw [hlen] at hd1 hd3
  have hwait:∀(done:Nat→Bool) (k:Nat),Cl ops done→k0+m≤k→k<ops.size→(∀i,dep ops k i=true→done i=true)→(k0+m<k→done (k0+m)=true)∧∀i,i<k0+m→done i=true:=fun done k hc hk hks hd=>by
   have base:∀k,(∀i,dep ops k i=true→done i=true)→∀i,((befGo ops.toList []).getD k 0).testBit i=true→done i=true:=fun k hd=>befGo_sound hc ops.toList [] (fun j=>by simp) (fun k h=>by simp at h) k hd
   have hw:k0+m<k→done (k0+m)=true:=fun hlt2=>base k hd _ (hb2 k hlt2 hks)
   refine⟨hw,fun i hi=>?_⟩
   rcases Nat.eq_or_lt_of_le hk with rfl|hlt2
   ·exact base _ hd i (hb1 i hi)
   ·exact base (k0+m) (fun j hj=>hc _ j (hw hlt2) hj) i (hb1 i hi)
  have hlisted:(fun i=>listed.getD i false)=fun i=>decide (i<k0):=funext hdone
  refine drawQ (K:=K) hD (k0:=k0) (m:=m) (by omega) (by omega) hd1 (fun k o hk ho=>hd2 k o (by rw [List.getElem?_take_of_lt hk,List.getElem?_drop,Array.getElem?_toList];exact ho)) (fun done k hc hk hks hd=>(hwait done k hc hk hks hd).2) ?_ fuel listed V a ((List.range' k0 (ops.size-k0))) (by simpa using hf) (fun i hi hl=>?_) hls ?_ (fun i hi=>by rw [hdone i];simpa using hi) (fun i hi=>by rw [hdone i];simp;omega) ?_ hok hsep hnx hE hst hK
  ·-- the cut
   intro fuel listed V a hf hls hdone hm hok hsep hnx hE hst hK
   obtain⟨o,ho⟩:∃o,ops[k0+m]? = some o:=⟨_,Array.getElem?_eq_getElem hlt⟩
   have hdr:(ops.toList.drop k0).drop m=o::(ops.toList.drop k0).drop (m+1):=by
    rw [List.drop_drop,List.drop_drop,List.drop_eq_getElem_cons (by simpa using hlt)]
    congr 1
    have:=Array.getElem?_toList (xs:=ops) (i:=k0+m)
    rw [ho] at this
    exact (List.getElem?_eq_some_iff.1 this).2
   rw [hdr,List.take_succ_cons,List.take_zero] at hd3
   obtain⟨e1,he1⟩:∃e1,e1=eat ((ops.toList.drop k0).take m) ds e0 m:=⟨_,rfl⟩
   rw [←he1] at hd3 hm hE
   cases fuel with
   | zero=>omega
   | succ fuel =>
    have hkr:k0+m∈Region.ready .any ops listed:=ready_of (by rw [getD_both (by omega),hdone];simp) hlt fun i hd=>by have:=hD.acyc _ i hd;rw [hdone i];simpa using this
    refine⟨fun h0=>(by rw [h0] at hkr;cases hkr),fun i hi=>?_⟩
    obtain⟨h1,h2,h3⟩:=ready_dep hi
    rw [getD_both (by omega),hdone i] at h1
    have hcl0:Cl ops (fun i=>listed.getD i false):=fun a b ha hab=>by
     have:=hD.acyc a b hab
     have ha:listed.getD a false=true:=ha
     rw [hdone a] at ha
     show listed.getD b false=true
     rw [hdone b]
     simp at ha ⊢;omega
    have hik:i=k0+m:=by
     simp at h1
     rcases Nat.eq_or_lt_of_le h1 with h|h
     ·exact h.symm
     ·have:=(hwait _ i hcl0 (by omega) h2 h3).1 h
      rw [hdone] at this;simp at this
    subst hik
    have hcl:∀(a j:Nat) (b:Bool),decide (a<k0+m)=true→gd ops a=some (j,b)→decide (j<k0+m)=true:=fun a j b ha hg=>by
     obtain⟨oi,g1,g2⟩:=gd_of hg
     have:=hD.seq.glt a oi j b g1 g2
     simp only [decide_eq_true_iff] at ha ⊢
     omega
    have hnext:∀j,(listed.setIfInBounds (k0+m) true).getD j false=decide (j<k0+m+1):=fun j=>by
     have h9:(listed.setIfInBounds (k0+m) true).getD j false=upB (fun i=>listed.getD i false) (k0+m) j:=congrFun (set_done (listed:=listed) (k:=k0+m) (by omega)) j
     rw [h9]
     show (listed.getD j false||j==k0+m)=decide (j<k0+m+1)
     rw [hdone j,Bool.eq_iff_iff,Bool.or_eq_true,decide_eq_true_iff,decide_eq_true_iff,beq_iff_eq]
     omega
    subst hst
    have hrest:(ops.toList.drop k0).drop (m+1)=ops.toList.drop (k0+m+1):=by rw [List.drop_drop];first|rfl|congr 1
    rcases hd3 with ⟨d,st',hs,hr⟩|⟨hgu,O,hs,hr⟩
    ·refine step_op hD.seq.one ho hm hok (by simp) hcl (fun j b hg=>by have:=hD.seq.glt _ o j b ho hg;simpa using this) (hD.seq.use _ o ho) (fun t i _ _=>by simp) (fun t ht=>hD.seq.tmp _ o t ho ht) (fun j b t hg ht=>hD.seq.gs _ o j b t ho hg ht) (hD.seq.nd _ o ho) hs ?_
     intro a' w' bl' hstep hm' hdef
     rw [upB_lt] at hm'
     have hX:=hstep.toX (on:=C.on) (Nx:=Nx) hok
     have hr:RG C ops segs (ops.toList.drop (k0+m+1)) (putE e1 o.dst d) st' K:=by rw [←hrest];exact hr
     refine drawG hD segs (k0+m+1) _ st' hkf (by omega) hcut2 hr fuel _ ⟨w',V.x,bl',st'⟩ a' (by omega) (by simpa using hls) hnext hm' hstep.ok (hX.sep hsep) (hnx.step hX) (by rw [putE_ghost (hD.seq.ng _ o ho)];exact hE.step hstep hok hsep fun _ h=>h) rfl ?_
     intro a'' w'' x'' bl'' st'' e'' hs2 hm2 hE2 hd2 hk2
     exact hK a'' w'' x'' bl'' st'' e'' (hX.trans hs2) hm2 hE2 (hd2.trans hdef) hk2
    ·refine step_opX hD.seq.one ho hm hok hsep hnx hE (by simp) hcl hgu (fun j b hg=>by have:=hD.seq.glt _ o j b ho hg;simpa using this) (fun i oi j b t hi hg ht=>hD.seq.gs i oi j b t hi hg ht) (hD.seq.use _ o ho) (fun t i _ _=>by simp) (fun t ht=>hD.seq.tmp _ o t ho ht) (hD.seq.nd _ o ho) hs ?_
     intro a' w' d st' g x' bl' hO hX hm' hEg hdef
     rw [upB_lt] at hm'
     have hr:RG C ops segs (ops.toList.drop (k0+m+1)) (upd (putE e1 o.dst d) 1000000 g) st' K:=by rw [←hrest];exact hr d st' g hO
     refine drawG hD segs (k0+m+1) _ st' hkf (by omega) hcut2 hr fuel _ ⟨w',x',bl',st'⟩ a' (by omega) (by simpa using hls) hnext (hm'.ghost hD.seq.nle g) hX.ok (hX.sep hsep) (hnx.step hX) (by simpa [upd] using hEg) rfl ?_
     intro a'' w'' x'' bl'' st'' e'' hs2 hm2 hE2 hd2 hk2
     exact hK a'' w'' x'' bl'' st'' e'' (hX.trans hs2) hm2 hE2 (hd2.trans hdef) hk2
  ·rw [hdone i] at hl
   simp at hl
   rw [List.mem_range'_1];omega
  ·rw [hlisted]
   intro a b ha hab
   have:=hD.acyc a b hab
   simp at ha ⊢;omega
  ·have he:eD2 ops k0 ds e0 (fun i=>listed.getD i false)=e0:=by
    funext t
    unfold eD2
    cases wrt ops t with
    | none=>rfl
    | some i =>
     simp only
     rw [if_neg]
     rw [hdone i];simp
   rw [he,hlisted];exact hm
end
theorem WP.dg {P:Program} {C:Cx P} {n:Nat} {Q:Exit→(Nat→D)→List Bx→Prop} {e:Nat→D} {st:List Bx} {id:Nat} {l:List Oper} (segs ks:List Nat) (h:RG C ⟨l⟩ segs l e st fun e'' st''=>Q .normal (keepE e'' ks) st'') (hd:drawOk ⟨l⟩ n (endG 0 segs)=true:=by kernel_rfl) (hc:cutB (befGo l []) l.length 0 segs=true:=by kernel_rfl) (hk:ksOk ⟨l⟩ ks=true:=by kernel_rfl) (hmix:P.follows .mixedOrders=true:=by exact tb_mix):WP C n (.region id ⟨l⟩ true) Q e st:=by
 rintro a w x bl ⟨ms,hmk,hm,henv⟩
 have hD:=drawOk_sound hd
 obtain⟨ops,hops⟩:∃ops:Array Oper,ops=⟨l⟩:=⟨_,rfl⟩
 have hlo:l=ops.toList:=by rw [hops]
 rw [←hops] at hD h hk ⊢
 have hg:Grw w { w with drawn:=w.drawn+1 }:=(Grw.refl w).drew
 have hok':=hm.ok.grw (w:={ w with drawn:=w.drawn+1 }) hg
 have hle:=Vw.le_grw hm.ok (w:={ w with drawn:=w.drawn+1 }) hg
 have hX:StepX C.on (C.nxm ms) ⟨w,x,bl,st⟩ ⟨{ w with drawn:=w.drawn+1 },x,bl,st⟩:=Step.toX (V:=⟨w,x,bl,st⟩) (.grw hm.ok hg) hm.ok
 refine wpIn_region_any hmix ?_
 have hfalse:∀i,(Array.replicate ops.size false).getD i false=decide (i<0):=fun i=>by
  rw [Array.getD_eq_getD_getElem?,Array.getElem?_replicate];split<;>rfl
 have hsz:l.length=ops.size:=by rw [hops];rfl
 refine drawG (C:=C) (Nx:=C.nxm ms) hD segs 0 e st rfl (Nat.zero_le _) (by rw [←hlo,←hsz];exact hc) (by rw [List.drop_zero,←hlo];exact h) ops.size (Array.replicate ops.size false) ⟨{ w with drawn:=w.drawn+1 },x,bl,st⟩ a (by omega) (by simp) hfalse ?_ hok' hm.sep ((hmk.nx hm.nx).step hX) (henv.frm ⟨rfl,rfl,rfl,Nat.le_refl _,fun _ _ _=>rfl⟩ (fun b hb=>.inl hb) fun _ hb=>hb) rfl ?_
 ·refine⟨hm.size,fun t ht=>?_⟩
  have hgd:gdD ops (fun i=>decide (i<0)) t=none:=by
   unfold gdD;split<;>simp
  rw [hgd]
  exact (hm.slot t ht).mono hle
 ·intro a' w' x' bl' st' e' hstep hm' hE hdf hK
  have hst:=hX.trans hstep
  exact⟨x',bl',_,st',⟨ms,hdf▸hmk.step hst,hm.step (fun b hb=>.inl hb) hst hm'.size fun t ht=>hm'.keep hk t ht,hE.keep ks⟩,hK⟩
structure RGw {P:Program} (C:Cx P) (ops:Array Oper) (segs:List Nat) (L:List Oper) (e:Nat→D) (st:List Bx) (K:(Nat→D)→List Bx→Prop):Prop where
 out:RG C ops segs L e st K
theorem RS.mono {P:Program} {C:Cx P} {ops:Array Oper} {K K':(Nat→D)→List Bx→Prop} (hK:∀e st,K e st→K' e st):∀{l:List Oper} {e:Nat→D} {st:List Bx},RS C ops l e st K→RS C ops l e st K'
 | [],e,st,h=>hK e st h
 | _::_,_,_,.inl ⟨d,s,h1,h2⟩=>.inl ⟨d,s,h1,RS.mono hK h2⟩
 | _::_,_,_,.inr ⟨h0,O,h1,h2⟩=>.inr ⟨h0,O,h1,fun d s g hO=>RS.mono hK (h2 d s g hO)⟩
theorem RQ.mono {P:Program} {ops:Array Oper} {st:List Bx} {K K':(Nat→D)→Prop} (hK:∀e,K e→K' e):∀{l:List Oper} {e:Nat→D},RQ P ops st l e K→RQ P ops st l e K'
 | [],e,h=>hK e h
 | _::_,_,⟨d,h1,h2⟩=>⟨d,h1,RQ.mono hK h2⟩
section
variable {P:Program} {C:Cx P} {n m:Nat} {Q:Exit→(Nat→D)→List Bx→Prop} {e:Nat→D} {st:List Bx} {id:Nat} {l L:List Oper} {segs:List Nat} {ops:Array Oper} {K:(Nat→D)→List Bx→Prop} {q2:(Nat→D)×List Oper}
theorem RG.cons (h:RQ P ops st (L.take m) e fun e'=>RS C ops ((L.drop m).take 1) e' st fun e'' st''=>RGw C ops segs (L.drop (m+1)) e'' st'' K):RG C ops (m::segs) L e st K :=
 RQ.mono (fun _ h=>RS.mono (fun _ _ h=>h.out) h) h
theorem WP.dgr (m:Nat) (segs ks:List Nat) (h:RQr P ⟨l⟩ st q2 fun e'=>RS C ⟨l⟩ ((l.drop m).take 1) e' st fun e'' st''=>RGw C ⟨l⟩ segs (l.drop (m+1)) e'' st'' fun e'' st''=>Q .normal (keepE e'' ks) st'') (hd:drawOk ⟨l⟩ n (endG 0 (m::segs))=true:=by kernel_rfl) (hc:cutB (befGo l []) l.length 0 (m::segs)=true:=by kernel_rfl) (hk:ksOk ⟨l⟩ ks=true:=by kernel_rfl) (hmix:P.follows .mixedOrders=true:=by exact tb_mix) (hr:runQ P st (l.take m) e=q2:=by (simp only [go_sem,simprocAttr,List.take_succ_cons,List.take_zero,fx])<;>rfl):WP C n (.region id ⟨l⟩ true) Q e st:=WP.dg (m::segs) ks (RG.cons (RQ.run2 hr h)) hd hc hk hmix
theorem RG.q (h:RQr P ops st q2 fun e'=>RS C ops ((L.drop m).take 1) e' st fun e'' st''=>RGw C ops segs (L.drop (m+1)) e'' st'' K) (hr:runQ P st (L.take m) e=q2:=by (simp only [go_sem,simprocAttr,List.take_succ_cons,List.take_zero,fx])<;>rfl):RGw C ops (m::segs) L e st K:=⟨RG.cons (RQ.run2 hr h)⟩
theorem RG.z {r:(Nat→D)×List Bx×List Oper} (h:RSr C ops r K) (hr:runS P L e st=r:=by (simp only [go_sem,simprocAttr,fx])<;>rfl):RGw C ops [] L e st K:=⟨RS.run2 hr h⟩
end
section
variable {P:Program} {ops:Array Oper} {r:List Oper} {o:Oper} {e:Nat→D} {st:List Bx} {K:(Nat→D)→Prop} {dst:Option Nat}
theorem RQ.pk {c x y:Operand} {b:Bool} {d:D} {ty:TypeId} {pos:String} {after:Array Edge} {guard:Option (Nat×Bool)} (h:RQ P ops st r (putE e dst d) K) (hc:evO e c=.a (.v (.bool b)):=by (simp only [go_sem,simprocAttr,fx])<;>rfl) (hd:(bif b then evO e x else evO e y)=d:=by (simp only [go_sem,simprocAttr,fx])<;>rfl):RQ P ops st (⟨dst,.pick c x y,ty,pos,after,guard⟩::r) e K:=by
 subst hd
 exact⟨_,.of (.pickB rfl hc),h⟩
theorem RQ.gF {j:Nat} {b x:Bool} (h:RQ P ops st r (putE e o.dst .junk) K) (hg:o.guard=some (j,b):=by rfl) (hx:(gslot ops j).map e=some (.a (.v (.bool x))):=by (simp only [go_sem,simprocAttr,gslot,fx])<;>rfl) (hb:(x != b)=true:=by rfl):RQ P ops st (o::r) e K:=by
 refine⟨.junk,?_,h⟩
 unfold DCond
 rw [hg]
 simp only [hx]
 intro h2
 subst h2
 simp at hb
end
end Go.Proofs.YtibdalkdgjghoaaDoor
