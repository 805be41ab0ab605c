/- Regions whose order is drawn, with two writers that may come in either order. No program in sight. Conditions: none. -/
import Derived.Test.YthkojpnjdpbcgaaGreatDoorMg15
import Derived.Test.YthkojpnjdpbcgaaGreatDoorMg19
import Derived.Test.YthkojpnjdpbcgaaGreatDoorMg37
import Derived.Test.YthkojpnjdpbcgaaGreatDoorMg38
import Derived.Test.YthkojpnjdpbcgaaGreatDoorMg39
import Derived.Test.YthkojpnjdpbcgaaGreatDoorMg40
set_option linter.unusedVariables false
set_option maxRecDepth 100000
set_option maxHeartbeats 8000000
set_option linter.unusedSimpArgs false
namespace Go.Proofs.YthkojpnjdpbcgaaGreatDoor
open Go.RowKit
section
section
variable {P:Program}
end
end
section
def useV (V:Vw) (σ:List Nat) (st0:List Bx):Vw:=⟨V.w,V.x,lb V σ,st0⟩
section
variable {V:Vw} {σ:List Nat} {st0:List Bx}
theorem qm1 (hok:Ok V) (h:LOk V.st σ st0) {b:Nat} (hb:(useV V σ st0).mine b):V.mine b:=by
 obtain⟨j,y,h1,_,_⟩:=hb
 exact qbn hok h (lm4 h1)
theorem ql3 (hok:Ok V) (h:LOk V.st σ st0) (b:Nat) (hb:(useV V σ st0).mut b):V.mut b:=by
 rcases hb with hb|hb
 ·exact .inl hb
 ·exact .inr (qm1 hok h hb)
theorem use_rep (hok:Ok V) (h:LOk V.st σ st0):∀x u,RepA V x u→∀a,x=rnA σ a→nrA σ.length a=true→RepA (useV V σ st0) a u :=
 fun _ _ hx=>RepA.lendM (V:=V) (U:=useV V σ st0) rfl (ql3 hok h) h.len (fun j i hj=>h.at_ j i hj) (fun _ _ hj=>qk7 hok h hj) hx
theorem qkm (hok:Ok V) (h:LOk V.st σ st0) {b:Nat} (hb:b∈lb V σ):b∈V.bl:=Vw.mine_mem (qbn hok h hb)
theorem use_ok (hok:Ok V) (h:LOk V.st σ st0):Ok (useV V σ st0):=by
 have hA:=use_rep hok h
 have hC:∀x u,RepC V.w V.mut x u→RepC (useV V σ st0).w (useV V σ st0).mut x u:=fun x u hx=>hx.mono (Nat.le_refl _) fun b _ hb=>⟨fun _=>rfl,fun h2=>hb (ql3 hok h b h2)⟩
 refine⟨by show (lb V σ).length=st0.length;rw [lb,List.length_map,h.len],fun j b hb=>?_,hok.xlt,fun w' hs hw=>hok.gd w' hs fun c hlt h1 h2 hic=>hw c hlt (fun hc=>h1 (qkm hok h hc)) h2 hic,fun j b hb=>?_,fun i j b y z h1 h2 h3 h4 h5 h6=>?_,fun i row b h1 h2=>?_,fun i ver n rows b h1 h2=>?_,fun i k wd es b h1 h2=>?_⟩
 ·obtain⟨i,_,h2⟩:=qbt hok h hb;exact hok.lt i b h2
 ·obtain⟨i,_,h2⟩:=qbt hok h hb;exact hok.isc i b h2
 ·obtain⟨p,p1,p2⟩:=qbt hok h h1
  obtain⟨q,q1,q2⟩:=qbt hok h h2
  obtain⟨y',_,p4,p5⟩:=h.get p1
  obtain⟨z',_,q4,q5⟩:=h.get q1
  have hpq:=hok.inj p q b _ _ p2 q2 p4 q4 (by rw [qbj];exact p5) (by rw [qbj];exact q5)
  subst hpq
  exact (List.getElem?_inj (List.getElem?_eq_some_iff.1 p1).1 h.nd).1 (p1.trans q1.symm)
 ·obtain⟨p,p1,p2⟩:=qbt hok h h2
  have hp:V.st[p]? = some (.cell (row.map (rnA σ))):=by rw [h.at_ i p p1];have h1:st0[i]? = some (.cell row):=h1;rw [h1];rfl
  obtain⟨cs,T,k1,k2,k3⟩:=hok.cell p _ b hp p2
  have hn:=qd3 h.nr h1
  rw [List.all_eq_true] at hn
  exact⟨cs,T,k1,by rw [k2,List.length_map],fun j x hj=>hA _ _ (k3 j (rnA σ x) (by rw [List.getElem?_map,hj];rfl)) x rfl (hn x (lm4 hj))⟩
 ·obtain⟨p,p1,p2⟩:=qbt hok h h2
  have hp:V.st[p]? = some (.arr ver n rows):=by rw [h.at_ i p p1];have h1:st0[i]? = some (.arr ver n rows):=h1;rw [h1];rfl
  obtain⟨cs,T,c,k1,k2,k3,k4,k5,k6⟩:=hok.arr p ver n rows b hp p2
  exact⟨cs,T,c,k1,k2,k3,k4,k5,fun k row j x hk hj=>hC _ _ (k6 k row j x hk hj)⟩
 ·obtain⟨p,p1,p2⟩:=qbt hok h h2
  have hp:V.st[p]? = some (.map k wd (es.map fun e=>(e.1,e.2.map (rnA σ)))):=by rw [h.at_ i p p1];have h1:st0[i]? = some (.map k wd es):=h1;rw [h1];rfl
  obtain⟨ms,k1,k2,k3⟩:=hok.map p k wd _ b hp p2
  rw [List.length_map] at k1 k2
  have hn:=qfr h.nr h1
  rw [List.all_eq_true] at hn
  refine⟨ms,k1,k2,fun j y row hj=>?_⟩
  obtain⟨q1,v,q2,q3⟩:=k3 j y (row.map (rnA σ)) (by rw [List.getElem?_map,hj];rfl)
  exact⟨q1,v,q2,q3.lendM hA (hn _ (lm4 hj))⟩
end
def rnE (σ:List Nat) (l:EL):EL:=l.map fun p=>(p.1,rnD σ p.2)
theorem qmc (σ:List Nat):∀(l:EL) (t:Nat),envL (rnE σ l) t=rnD σ (envL l t)
 | [],_=>rfl
 | (t',d)::r,t=>by
  show upd (envL (rnE σ r)) t' (rnD σ d) t=rnD σ (upd (envL r) t' d t)
  unfold upd
  split
  ·rfl
  ·exact qmc σ r t
structure qmv (st:List Bx) (σ:List Nat) (l:EL) (st0:List Bx):Prop where
 nd:σ.Nodup
 at_:σ.map (fun i=>st[i]?)=st0.map fun b=>some (rnB σ b)
 live:st0.all Bx.live=true
 nr:nrS σ.length st0=true
 nl:(l.all fun p=>nrM σ.length p.2)=true
theorem qmv.lok {st:List Bx} {σ:List Nat} {l:EL} {st0:List Bx} (h:qmv st σ l st0):LOk st σ st0:=by
 refine⟨h.nd,by have:=congrArg List.length h.at_;simpa using this,fun j i hj=>?_,fun j y hy=>List.all_eq_true.1 h.live y (lm4 hy),h.nr⟩
 have:=congrArg (fun l=>l[j]?) h.at_
 simp only [List.getElem?_map,hj,Option.map_some] at this
 cases hs:st0[j]? with
 | none=>rw [hs] at this;cases this
 | some y=>rw [hs] at this;simpa using this
theorem qmv.env {st:List Bx} {σ:List Nat} {st0:List Bx}:∀{l:EL},(l.all fun p=>nrM σ.length p.2)=true→∀t,nrM σ.length (envL l t)=true
 | [],_,_=>rfl
 | (t',d)::r,h,t=>by
  simp only [List.all_cons,Bool.and_eq_true] at h
  show nrM σ.length (upd (envL r) t' d t)=true
  unfold upd
  split
  ·exact h.1
  ·exact qmv.env (st:=st) (st0:=st0) h.2 t
section
variable {P:Program} {C:Cx P} {n:Nat} {ks:List Nat} {c:Code}
theorem EnvE.rn {E:Env P} {on:Prop} {Nx:Nat→Prop} {σ:List Nat} {d:D} {V U:Vw} (h:EnvE E on Nx (rnD σ d) V) (hw:U.w=V.w) (hm:∀b,U.mine b→V.mine b) (hx:∀b,V.x b→U.x b):EnvE E on Nx d U:=by
 have key:EnvE E on Nx d V:=by
  cases d with
  | a x=>cases x<;>first|exact h|trivial
  | _=>trivial
 refine key.frm ⟨by rw [hw],by rw [hw],by rw [hw],by rw [hw];exact Nat.le_refl _,fun _ _ _=>by rw [hw]⟩ (fun b hb=>.inl (hm b hb)) hx
theorem Sat.use {w:World} {x:Nat→Prop} {bl:List Nat} {st:List Bx} {σ:List Nat} {st0:List Bx} {a:Act} {l:EL} (h:Sat C ⟨w,x,bl,st⟩ a n (envL (rnE σ l))) (hu:qmv st σ l st0) (hV0:C.V0.st=[]):Sat C ⟨w,x,lb ⟨w,x,bl,st⟩ σ,st0⟩ a n (envL l):=by
 obtain⟨ms,⟨h1,h2,h3⟩,hm,henv⟩:=h
 have hL:LOk (⟨w,x,bl,st⟩:Vw).st σ st0:=hu.lok
 have hA:=use_rep hm.ok hL
 have hV:C.V0.st.length=0:=by rw [hV0];rfl
 refine⟨ms,⟨h1,h2,fun D hD=>?_⟩,⟨hm.size,fun t ht=>?_,use_ok hm.ok hL,⟨by rw [hV];exact Nat.zero_le _,hm.le.size,fun b hb hn=>⟨(hm.le.blk b hb hn).1,fun hn'=>(hm.le.blk b hb hn).2 (ql3 hm.ok hL b hn')⟩,fun i r hi _=>by omega,fun i v m r hi _=>by omega,fun i k wd es hi _=>by omega⟩,hm.fr,fun b hb=>hm.low b (qkm hm.ok hL hb),fun b hb=>hm.sep b (qkm hm.ok hL hb),hm.x0,hm.xk,hm.xg,fun b hb=>⟨(hm.nx b hb).1,(hm.nx b hb).2.imp id fun ⟨q2,q3,q4⟩=>⟨q2,fun hh=>q3 (qkm hm.ok hL hh),q4⟩⟩,hm.nx0⟩,?_⟩
 ·obtain⟨q1,q2,q3,q4⟩:=h3 D hD
  exact⟨q1,q2,fun h=>q3 (qkm hm.ok hL h),q4⟩
 ·have:=hm.slot t ht
  rw [qmc] at this
  exact RepD.lendM hA this _ rfl (qmv.env (st:=st) (st0:=st0) hu.nl t)
 ·rw [qmc] at henv
  exact henv.rn rfl (fun b hb=>qm1 hm.ok hL hb) fun _ h=>h
theorem Wk.use {e:Nat→D} {l:EL} {st st0:List Bx} (σ:List Nat) (hag:qai e (rnE σ l)) (hu:qmv st σ l st0) (hV0:C.V0.st=[]):Wk C n e st (envL l) st0:=fun _ _ _ _ hs=>⟨_,(hs.weaken hag).use hu hV0⟩
theorem VL.gW {α:Type} {l:EL} {st:List Bx} {K:Exit→EL→List Bx→Prop} (env:α→EL) (sto:α→List Bx) (μ:α→Nat) (y:α) (h0:Wk C n (envL l) st (envL (env y)) (sto y)) (round:∀y,vx P C n ks c (env y) (sto y) fun ex l' st'=>match ex with
  | .normal=>∃z,μ z<μ y∧Wk C n (envL l') st' (envL (env z)) (sto z)
  | ex=>K ex l' st'):VL C n ks c l st K:=by
 refine .wp (h0.wp (WP.loopW env sto μ y fun y=>qdx c _ _ _ _ (fun ex l st hk=>?_) (round y)))
 cases ex with
 | normal=>exact hk
 | _=>exact⟨_,rfl,hk⟩
end
end
section
set_option maxRecDepth 100000
theorem below_any {p:List Cs} {fr tn:List UInt8} (h:qgd p fr tn=true):(qat p fr).any (fun i=>qdj p i==tn)=true:=by
 rw [←qep,Bool.and_eq_true,List.any_eq_true] at h
 obtain⟨x,hx,hy⟩:=h.2
 exact List.any_eq_true.2 ⟨x,hx,by rw [qix hx];exact hy⟩
theorem qfb (l m:List (Int×Int)):(allO l m).length=l.length:=by simp [allO]
structure WayD (p:List Cs) (tn:List UInt8) (ch:List Int) (g:List (Int×Int)) where
 k:Nat
 out:List (Int×Int)
 hk:k≤ch.length
 hne:out≠[]
 hl:out.length≤1048576
 hg:goD p tn (ch.drop k) out=g
 ha:(ch.drop k).any (fun i=>qdj p i==tn)=true
attribute [local irreducible] qgd qat qja allO qdj qaq
theorem pr15Raise (p:List Cs) (fr:List UInt8) (l:List (Int×Int)) (tn:List UInt8) (hp:p.length≤1048576) (hl:l.length≤1048576) (hne:l≠[]) (hz:∀c∈p,c.above.length<1048576) (hw:IntKind.i64.wrap (qaq p fr+1)=qaq p fr+1) :
  qab Tryz.prog 42 [.a (.sl (p.map Cs.at)),.a (.v (.string (bs fr))),.a (.sl (l.map owAt)),.a (.v (.string (bs tn)))] (.t [.a (.sl ((qb5 p fr l tn (qaq p fr)).1.map owAt)),.a (.v (.bool (qb5 p fr l tn (qaq p fr)).2))]):=by
 have hb:=fun h=>below_any (p:=p) (fr:=fr) (tn:=tn) h
 have hcl:=(qbz p fr).len
 have hok:=(qbz p fr).ok
 have h1:=pr14Below p fr tn hp
 have h2:=pr13Arity p fr hp
 have h3:=qg9 p fr hp
 unfold qb5
 generalize qat p fr=ch at *
 generalize qgd p fr tn=bl at *
 generalize qaq p fr=ar at *
 refine qab.vx [0,1,2,3,8,9,10,11,12,26,42] Tryz.func42 rfl Tryz.ntmps42 rfl rfl rfl (fun C hro hst=>?_)
 repeat' ((conv=>whnf);first|(show VH ..;refine .go ?_)|(show VD ..;refine .q ?_)|(show VK ..;refine xK ?_)|(show VB ..;refine VB.mk (fun hc=>?_) fun hc=>?_)|(show VC ..;first|refine xC (fun hg=>by first|exact h1|exact h2|exact h3) ?_|refine xL (fun hg=>by first|exact h1|exact h2|exact h3) ?_)|(show VI ..;refine xJ ?_)|(show VG ..;refine xG ?_)|(show VA ..;refine xA ?_)|(show VZ ..;refine .s ?_)|(show VY ..;refine .s ?_)|(show VW ..;first|refine xW1 ?_|refine xW2 ?_)|(show VE ..;refine .mk ?_))
 ·have hc2:(bif !bl then true else (l.length:Int) != ar+1)=true:=by rw [hw,List.length_map] at hc;exact hc
  rw [hc2];rfl
 ·have hc2:(bif !bl then true else (l.length:Int) != ar+1)=false:=by rw [hw,List.length_map] at hc;exact hc
  have hbl:bl=true:=by cases bl with|true=>rfl|false=>cases hc2
  rw [hc2]
  conv=>whnf
  obtain⟨g,hg0⟩:∃g,goD p tn ch l=g:=⟨_,rfl⟩
  refine VL.gW (fun y:WayD p tn ch g=>[(0,.a (.sl (p.map Cs.at))),(3,.a (.v (.string (bs tn)))),(10,.a (.sl (ch.map inAt))),(11,.a (.sl (y.out.map owAt))),(12,.a (.v (.int .i64 (y.k:Nat))))]) (fun _=>[]) (fun y=>ch.length-y.k) ⟨0,l,Nat.zero_le _,hne,hl,hg0,hb hbl⟩ ((Wk.freeze (i:=0) rfl).trans (Wk.use [] ⟨rfl,rfl,rfl,rfl,rfl,trivial⟩ ⟨by simp,rfl,rfl,rfl,rfl⟩ hst)) ?_
  rintro⟨k,out,hk,hne,hl,hg,ha⟩
  dsimp only
  have hlt:k<ch.length:=by
   apply Nat.lt_of_le_of_ne hk
   rintro rfl
   rw [List.drop_length] at ha;cases ha
  obtain⟨i,hi⟩:∃i,ch[k]? = some i:=⟨_,List.getElem?_eq_getElem hlt⟩
  have hd:ch.drop k=i::ch.drop (k+1):=by rw [List.drop_eq_getElem_cons hlt];congr 1;exact (List.getElem?_eq_some_iff.1 hi).2
  rw [hd,goD] at hg
  rw [hd,List.any_cons] at ha
  obtain⟨j,c,rfl,hj⟩:=hok i (lm4 hi)
  have hix1:(ch.map inAt)[k]? = some (inAt (j:Int)):=by rw [List.getElem?_map,hi];rfl
  have hix2:(p.map Cs.at)[j]? = some (Cs.at c):=by rw [List.getElem?_map,hj];rfl
  have hnm:qdj p (j:Int)=c.name:=by unfold qdj;rw [Int.toNat_natCast,hj];rfl
  rw [hnm] at hg ha
  have hst2:qja p (j:Int) out=out.headD (8,0)::allO c.above out:=by unfold qja;rw [Int.toNat_natCast,hj];rfl
  obtain⟨o0,orr,rfl⟩:∃a r,out=a::r:=by cases out with|nil=>exact absurd rfl hne|cons a r=>exact⟨a,r,rfl⟩
  have hab:=hz c (lm4 hj)
  have h4:=pr04All c.above (o0::orr) (by omega) hl
  have hal:=qfb c.above (o0::orr)
  have hw1:IntKind.i64.wrap ((k:Nat)+1)=((k+1:Nat):Int):=qaz (by omega)
  have hha:goD p tn (ch.drop (k+1)) (o0::allO c.above (o0::orr))=g→(c.name==tn)=false→((ch.drop (k+1)).any fun i=>qdj p i==tn)=true:=fun _ h=>by rw [h,Bool.false_or] at ha;exact ha
  have fin:(c.name==tn)=false→∃y:WayD p tn ch g,ch.length-y.k<ch.length-k∧y.k=k+1∧y.out=o0::allO c.above (o0::orr):=fun h=>by
   rw [h,cond_false,hst2] at hg
   exact⟨⟨k+1,_,by omega,by simp,by rw [List.length_cons,hal];omega,hg,hha hg h⟩,by dsimp only;omega,rfl,rfl⟩
  repeat' ((conv=>whnf);first|(show VH ..;refine .go ?_)|(show VD ..;refine .q ?_)|(show VK ..;refine xK ?_)|(show VB ..;refine VB.mk (fun hc=>?_) fun hc=>?_)|(show VC ..;first|refine xC (fun hg=>by exact h4) ?_|refine xL (fun hg=>by exact h4) ?_)|(show VI ..;first|refine xI (fun _=>by first|exact hix1|exact hix2) ?_|refine xJ ?_)|(show VG ..;refine xG ?_)|(show VA ..;refine xA ?_)|(show VZ ..;refine .s ?_)|(show VY ..;refine .k ?_)|(show VW ..;first|refine xW1 ?_|refine xW2 ?_)|(show VE ..;refine .mk ?_))
  ·rw [qe8,qe8,Bool.not_eq_true'] at hc
   obtain⟨y,hy1,hy2,hy3⟩:=fin hc
   conv=>whnf
   by_cases hab0:c.above=[]
   ·refine VW.e ⟨Nat.le_of_ble_eq_true rfl,rfl,by rw [hab0];simp [allO]⟩ ?_
    repeat' ((conv=>whnf);first|(show VH ..;refine .go ?_)|(show VD ..;refine .q ?_)|(show VK ..;refine xK ?_)|(show VB ..;refine VB.mk (fun hc=>?_) fun hc=>?_)|(show VI ..;refine xJ ?_)|(show VG ..;refine xG ?_)|(show VA ..;refine xA ?_)|(show VZ ..;refine .s ?_)|(show VY ..;refine .k ?_)|(show VW ..;first|refine xW1 ?_|refine xW2 ?_)|(show VE ..;refine .mk ?_))
    conv=>whnf
    refine⟨y,hy1,Wk.sk.trans (Wk.agree ?_)⟩
    rw [hy2,hy3,hab0,show allO [] (o0::orr)=[] by simp [allO],←hw1]
    exact⟨rfl,rfl,rfl,rfl,rfl,trivial⟩
   ·have h0:0<c.above.length:=List.length_pos_iff.2 hab0
    refine VW.o ⟨rfl,rfl,rfl,Nat.le_of_ble_eq_true rfl,Nat.le_of_ble_eq_true rfl,by rw [List.length_map,hal];exact h0,rfl,(by refine qd9 ?_ _;intro _;rfl),by rw [List.length_map,hal];simp only [List.length_cons,List.length_nil];omega,by rw [List.length_map,hal];simp only [List.length_cons,List.length_nil];omega⟩ ?_
    repeat' ((conv=>whnf);first|(show VH ..;refine .go ?_)|(show VD ..;refine .q ?_)|(show VK ..;refine xK ?_)|(show VB ..;refine VB.mk (fun hc=>?_) fun hc=>?_)|(show VI ..;refine xJ ?_)|(show VG ..;refine xG ?_)|(show VA ..;refine xA ?_)|(show VZ ..;refine .s ?_)|(show VY ..;refine .k ?_)|(show VW ..;first|refine xW1 ?_|refine xW2 ?_)|(show VE ..;refine .mk ?_))
    conv=>whnf
    refine⟨y,hy1,(Wk.freeze (i:=0) rfl).trans (Wk.use [] ?_ ⟨by simp,rfl,rfl,rfl,rfl⟩ hst)⟩
    rw [hy2,hy3,←hw1]
    exact⟨rfl,rfl,rfl,rfl,rfl,trivial⟩
  ·rw [qe8,qe8,Bool.not_eq_false'] at hc
   rw [hc,cond_true] at hg
   rw [cond_false,hg0,hg]
end
section
set_option maxRecDepth 100000
structure WayP (p:List Cs) (e:Int) (ch:List Int) (g:Option (List (Int×Int))) where
 k:Nat
 out:List (Int×Int)
 hk:k≤ch.length
 hne:out≠[]
 hl:out.length≤1048576
 hg:goP p e (ch.drop k) out=g
def nxE (o0:Int×Int):Nat→D
 | 0=>.a (.sk [owAt o0])
 | k+1=>.a (.own 0 k)
def nxB (o0:Int×Int) (ab out:List (Int×Int)):Nat→List Bx
 | 0=>[]
 | k+1=>[.arr k 2 ((o0::allO (ab.take (k+1)) out).map owAt)]
theorem allO_take {ab out:List (Int×Int)} {k:Nat} {z:Int×Int} (h:ab[k]? = some z):allO (ab.take (k+1)) out=allO (ab.take k) out++[putO z out]:=by simp [allO,List.take_add_one,h]
theorem fz_own {i v:Nat} {rows:List (List A)}:fzD i v rows (.a (.own i v))=.a (.sl rows):=by simp [fzD,fzA]
attribute [local irreducible] qat qja allO qaq putO qay
theorem pRaiseR (p:List Cs) (fr:List UInt8) (l:List (Int×Int)) (tn:List UInt8) (hp:p.length≤1048576) (hl:l.length≤1048576) (hz:∀c∈p,c.above.length<1048576) (hw:IntKind.i64.wrap (qaq p fr+1)=qaq p fr+1) :
  qab Tryz.prog 77 [.a (.sl (p.map Cs.at)),.a (.v (.string (bs fr))),.a (.sl (l.map owAt)),.a (.v (.string (bs tn))),.a (.fn 78 [])] (.t [.a (.sl ((qkx p fr l tn (qaq p fr)).1.map owAt)),.a (.v (.bool (qkx p fr l tn (qaq p fr)).2))]):=by
 have hcl:=(qbz p fr).len
 have hok:=(qbz p fr).ok
 have h1:=qg8 p tn hp
 have h2:=ptArity p fr hp
 have h3:=pChain p fr hp
 have h4:=pclOw l hl
 unfold qkx
 generalize qat p fr=ch at *
 generalize qay p tn=en at *
 generalize qaq p fr=ar at *
 refine qab.vx [0,1,2,3,4,10,11,12,14,15,17,36,41,42,43,44,49,57,58,59,60] Tryz.func77 rfl Tryz.ntmps77 rfl rfl rfl (fun C hro hst=>?_)
 repeat' ((conv=>whnf);first|(show VH ..;refine .go ?_)|(show VD ..;refine .q ?_)|(show VK ..;refine xK ?_)|(show VB ..;refine VB.mk (fun hc=>?_) fun hc=>?_)|(show VC ..;first|refine xC (fun hg=>by first|exact h1|exact h2|exact h3|exact h4) ?_|refine xL (fun hg=>by first|exact h1|exact h2|exact h3|exact h4) ?_)|(show VI ..;refine xJ ?_)|(show VG ..;refine xG ?_)|(show VA ..;refine xA ?_)|(show VZ ..;refine .s ?_)|(show VY ..;refine .s ?_)|(show VW ..;first|refine xW1 ?_|refine xW2 ?_)|(show VE ..;refine .mk ?_))
 ·rw [hw,List.length_map] at hc
  rw [hc];rfl
 ·rw [hw,List.length_map] at hc
  have hne:l≠[]:=by
   rintro rfl
   simp at hc
  rw [hc,cond_false]
  obtain⟨g,hg0⟩:∃g,goP p en ch l=g:=⟨_,rfl⟩
  rw [hg0]
  conv=>whnf
  refine VL.gW (fun y:WayP p en ch g=>[(0,.a (.sl (p.map Cs.at))),(2,.a (.sl (y.out.map owAt))),(4,.a (.fn 78 [])),(12,.a (.v (.int .i64 en))),(41,.a (.sl (ch.map inAt))),(42,.a (.v (.int .i64 ((ch.map inAt).length:Nat)))),(43,.a (.v (.int .i64 (y.k:Nat))))]) (fun _=>[]) (fun y=>ch.length-y.k) ⟨0,l,Nat.zero_le _,hne,hl,hg0⟩ (Wk.agree ⟨rfl,rfl,rfl,rfl,rfl,rfl,rfl,trivial⟩) ?_
  rintro⟨k,out,hk,hne,hl,hg⟩
  dsimp only
  by_cases hlt:k<ch.length
  ·obtain⟨i,hi⟩:∃i,ch[k]? = some i:=⟨_,List.getElem?_eq_getElem hlt⟩
   have hd:ch.drop k=i::ch.drop (k+1):=by rw [List.drop_eq_getElem_cons hlt];congr 1;exact (List.getElem?_eq_some_iff.1 hi).2
   rw [hd,goP] at hg
   obtain⟨j,c,rfl,hj⟩:=hok i (lm4 hi)
   have hix1:(ch.map inAt)[k]? = some (inAt (j:Int)):=by rw [List.getElem?_map,hi];rfl
   have hix2:(p.map Cs.at)[j]? = some (Cs.at c):=by rw [List.getElem?_map,hj];rfl
   have hst2:qja p (j:Int) out=out.headD (8,0)::allO c.above out:=by unfold qja;rw [Int.toNat_natCast,hj];rfl
   obtain⟨o0,orr,rfl⟩:∃a r,out=a::r:=by cases out with|nil=>exact absurd rfl hne|cons a r=>exact⟨a,r,rfl⟩
   have hab:=hz c (lm4 hj)
   have hw1:IntKind.i64.wrap ((k:Nat)+1)=((k+1:Nat):Int):=qaz (by omega)
   have hlt2:decide (((k:Nat):Int)<((ch.map inAt).length:Nat))=true:=decide_eq_true (by rw [List.length_map];omega)
   repeat' ((conv=>whnf);first|(show VH ..;refine .go ?_)|(show VD ..;refine .q ?_)|(show VK ..;refine xK ?_)|(show VB ..;first|refine VB.tt (by first|exact hlt2) ?_|refine VB.ff (by first|exact hlt2) ?_|refine VB.mk (fun hc=>?_) fun hc=>?_)|(show VI ..;first|refine xI (fun _=>by first|exact hix1|exact hix2) ?_|refine xJ ?_)|(show VG ..;refine xG ?_)|(show VA ..;refine xA ?_)|(show VZ ..;refine .s ?_)|(show VY ..;refine .s ?_)|(show VW ..;first|refine xW1 ?_|refine xW2 ?_)|(show VE ..;refine .mk ?_))
   ·rw [hc,cond_true] at hg
    rw [←hg]
   ·rw [hc,cond_false,hst2] at hg
    conv=>whnf
    have hal:=qfb c.above (o0::orr)
    refine VL.gW (fun y:{ m:Nat // m≤c.above.length }=>[(0,.a (.sl (p.map Cs.at))),(2,.a (.sl ((o0::orr).map owAt))),(4,.a (.fn 78 [])),(12,.a (.v (.int .i64 en))),(15,nxE o0 y.1),(41,.a (.sl (ch.map inAt))),(42,.a (.v (.int .i64 ((ch.map inAt).length:Nat)))),(43,.a (.v (.int .i64 (k:Nat)))),(57,.a (.sl (c.above.map owAt))),(58,.a (.v (.int .i64 ((c.above.map owAt).length:Nat)))),(59,.a (.v (.int .i64 (y.1:Nat))))]) (fun y=>nxB o0 c.above (o0::orr) y.1) (fun y=>c.above.length-y.1) ⟨0,Nat.zero_le _⟩ (Wk.agree ⟨rfl,rfl,rfl,rfl,rfl,rfl,rfl,rfl,rfl,rfl,rfl,trivial⟩) ?_
    rintro⟨m,hm⟩
    dsimp only
    by_cases hml:m<c.above.length
    ·obtain⟨z,hzz⟩:∃z,c.above[m]? = some z:=⟨_,List.getElem?_eq_getElem hml⟩
     have hix3:(c.above.map owAt)[m]? = some (owAt z):=by rw [List.getElem?_map,hzz];rfl
     have hlt3:decide (((m:Nat):Int)<((c.above.map owAt).length:Nat))=true:=decide_eq_true (by rw [List.length_map];omega)
     have hw2:IntKind.i64.wrap ((m:Nat)+1)=((m+1:Nat):Int):=qaz (by omega)
     have hput:=poPut z (o0::orr) hl
     have htk:=allO_take (out:=o0::orr) hzz
     cases m with
     | zero =>
      repeat' ((conv=>whnf);first|(show VH ..;refine .go ?_)|(show VD ..;refine .q ?_)|(show VK ..;refine xK ?_)|(show VB ..;first|refine VB.tt (by exact hlt3) ?_|refine VB.ff (by exact hlt3) ?_|refine VB.mk (fun hc=>?_) fun hc=>?_)|(show VC ..;first|refine xC (fun hg=>by exact hput) ?_|refine xL (fun hg=>by exact hput) ?_)|(show VI ..;first|refine xI (fun _=>by exact hix3) ?_|refine xJ ?_)|(show VG ..;refine xG ?_)|(show VA ..;refine xA ?_)|(show VZ ..;refine .s ?_)|(show VY ..;refine .s ?_)|(show VW ..;first|refine xW1 ?_|refine xW2 ?_)|(show VE ..;refine .mk ?_))
      conv=>whnf
      have hb0:nxB o0 c.above (o0::orr) 1=[.arr 0 2 [owAt o0,owAt (putO z (o0::orr))]]:=by rw [nxB,htk];simp [allO]
      refine⟨⟨1,hml⟩,by dsimp only;omega,Wk.use [1] ⟨rfl,rfl,rfl,rfl,rfl,rfl,rfl,rfl,rfl,rfl,rfl,trivial⟩ ?_ hst⟩
      rw [hb0]
      exact⟨by simp,rfl,rfl,rfl,rfl⟩
     | succ m =>
      have hlen:(allO (c.above.take (m+1)) (o0::orr)).length=m+1:=by rw [qfb,List.length_take];omega
      repeat' ((conv=>whnf);first|(show VH ..;refine .go ?_)|(show VD ..;refine .q ?_)|(show VK ..;refine xK ?_)|(show VB ..;first|refine VB.tt (by exact hlt3) ?_|refine VB.ff (by exact hlt3) ?_|refine VB.mk (fun hc=>?_) fun hc=>?_)|(show VC ..;first|refine xC (fun hg=>by exact hput) ?_|refine xL (fun hg=>by exact hput) ?_)|(show VI ..;first|refine xI (fun _=>by exact hix3) ?_|refine xJ ?_)|(show VG ..;refine xG ?_)|(show VA ..;refine xA ?_)|(show VZ ..;refine .s ?_)|(show VY ..;refine .s ?_)|(show VW ..;first|refine xW1 ?_|refine xW2 ?_)|(show VE ..;refine .mk ?_))
      conv=>whnf
      have hb0:nxB o0 c.above (o0::orr) (m+1+1)=[.arr (m+1) 2 ((o0::allO (c.above.take (m+1)) (o0::orr)).map owAt++[owAt (putO z (o0::orr))])]:=by rw [nxB,htk];simp
      refine⟨⟨m+1+1,hml⟩,by dsimp only;omega,Wk.use [0] ⟨rfl,rfl,rfl,rfl,rfl,rfl,rfl,rfl,rfl,rfl,congrArg (fun z=>D.a (.v (.int .i64 z))) hw2,trivial⟩ ?_ hst⟩
      rw [hb0]
      exact⟨by simp,rfl,rfl,rfl,rfl⟩
    ·obtain rfl:m=c.above.length:=by omega
     have hlt3:decide (((c.above.length:Nat):Int)<((c.above.map owAt).length:Nat))=false:=decide_eq_false (by rw [List.length_map];omega)
     obtain⟨y,hy1,hy2,hy3⟩:∃y:WayP p en ch g,ch.length-y.k<ch.length-k∧y.k=k+1∧y.out=o0::allO c.above (o0::orr):=⟨⟨k+1,_,by omega,by simp,by rw [List.length_cons,hal];omega,hg⟩,by dsimp only;omega,rfl,rfl⟩
     have hfull:c.above.take c.above.length=c.above:=List.take_length
     generalize hq:c.above.length=q at *
     cases q with
     | zero =>
      repeat' ((conv=>whnf);first|(show VH ..;refine .go ?_)|(show VD ..;refine .q ?_)|(show VK ..;refine xK ?_)|(show VB ..;first|refine VB.tt (by exact hlt3) ?_|refine VB.ff (by exact hlt3) ?_|refine VB.mk (fun hc=>?_) fun hc=>?_)|(show VI ..;refine xJ ?_)|(show VG ..;refine xG ?_)|(show VA ..;refine xA ?_)|(show VZ ..;refine .s ?_)|(show VY ..;refine .s ?_)|(show VW ..;first|refine xW1 ?_|refine xW2 ?_)|(show VE ..;refine .mk ?_))
      conv=>whnf
      refine⟨y,hy1,Wk.sk.trans (Wk.agree ?_)⟩
      rw [hy2,hy3,List.eq_nil_of_length_eq_zero hq,show allO [] (o0::orr)=[] by simp [allO],←hw1]
      exact⟨rfl,rfl,rfl,rfl,rfl,rfl,rfl,trivial⟩
     | succ q =>
      repeat' ((conv=>whnf);first|(show VH ..;refine .go ?_)|(show VD ..;refine .q ?_)|(show VK ..;refine xK ?_)|(show VB ..;first|refine VB.tt (by exact hlt3) ?_|refine VB.ff (by exact hlt3) ?_|refine VB.mk (fun hc=>?_) fun hc=>?_)|(show VI ..;refine xJ ?_)|(show VG ..;refine xG ?_)|(show VA ..;refine xA ?_)|(show VZ ..;refine .s ?_)|(show VY ..;refine .s ?_)|(show VW ..;first|refine xW1 ?_|refine xW2 ?_)|(show VE ..;refine .mk ?_))
      conv=>whnf
      refine⟨y,hy1,(Wk.freeze (i:=0) rfl).trans (Wk.use [] ?_ ⟨by simp,rfl,rfl,rfl,rfl⟩ hst)⟩
      rw [hy2,hy3,←hw1,hfull]
      exact⟨rfl,fz_own,rfl,rfl,rfl,rfl,rfl,trivial⟩
  ·obtain rfl:k=ch.length:=by omega
   have hlt2:decide (((ch.length:Nat):Int)<((ch.map inAt).length:Nat))=false:=decide_eq_false (by rw [List.length_map];omega)
   rw [List.drop_length,goP] at hg
   repeat' ((conv=>whnf);first|(show VH ..;refine .go ?_)|(show VD ..;refine .q ?_)|(show VK ..;refine xK ?_)|(show VB ..;first|refine VB.tt (by exact hlt2) ?_|refine VB.ff (by exact hlt2) ?_|refine VB.mk (fun hc=>?_) fun hc=>?_)|(show VI ..;refine xJ ?_)|(show VG ..;refine xG ?_)|(show VA ..;refine xA ?_)|(show VZ ..;refine .s ?_)|(show VY ..;refine .s ?_)|(show VW ..;first|refine xW1 ?_|refine xW2 ?_)|(show VE ..;refine .mk ?_))
   rw [←hg];rfl
theorem pRaise (p:List Cs) (fr:List UInt8) (l:List (Int×Int)) (tn:List UInt8) (hp:p.length≤1048576) (hl:l.length≤1048576) (hne:l≠[]) (hz:∀c∈p,c.above.length<1048576) (hw:IntKind.i64.wrap (qaq p fr+1)=qaq p fr+1) :
  qab Tryz.prog 37 [.a (.sl (p.map Cs.at)),.a (.v (.string (bs fr))),.a (.sl (l.map owAt)),.a (.v (.string (bs tn)))] (.t [.a (.sl ((qb5 p fr l tn (qaq p fr)).1.map owAt)),.a (.v (.bool (qb5 p fr l tn (qaq p fr)).2))]):=by
 have h:=pRaiseR p fr l tn hp hl hz hw
 rw [qn6 _ _ _ _ _ hne] at h
 generalize qb5 p fr l tn (qaq p fr)=r at *
 refine qab.vx [0,1,2,3,8,9] Tryz.func37 rfl Tryz.ntmps37 rfl rfl rfl (fun C hro hst=>?_)
 repeat' ((conv=>whnf);first|(show VH ..;refine .go ?_)|(show VD ..;refine .q ?_)|(show VK ..;refine xK ?_)|(show VB ..;refine VB.mk (fun hc=>?_) fun hc=>?_)|(show VC ..;first|refine xC (fun hg=>by exact h) ?_|refine xL (fun hg=>by exact h) ?_)|(show VI ..;refine xJ ?_)|(show VG ..;refine xG ?_)|(show VA ..;refine xA ?_)|(show VZ ..;refine .s ?_)|(show VY ..;refine .s ?_)|(show VW ..;first|refine xW1 ?_|refine xW2 ?_)|(show VE ..;refine .mk ?_))
 rfl
end
section
set_option maxRecDepth 100000
structure Du where
 kind:Int
 a:Ty
 b:Ty
def Du.at (d:Du):List A:=.v (.int .i64 d.kind)::(Ty.at d.a++Ty.at d.b)
theorem owe2n (k:Int) (a b:Ty):DM Tryz.prog 39 [.a (.ptr 0 0),.a (.v (.int .i64 k)),.a (.sl [Ty.at a,Ty.at b])] [.cell [.nl]] (.t []) [.cell [.own 2 0],.gone,.arr 0 23 [Du.at ⟨k,a,b⟩]]:=by
 refine vx_gone [0,1,2,6,14] Tryz.func39 rfl Tryz.ntmps39 rfl rfl rfl rfl (fun C hro=>?_)
 repeat' ((conv=>whnf);first|(show VH ..;refine .go ?_)|(show VD ..;refine VD.dl [99999] ?_)|(show VK ..;refine xK ?_)|(show VB ..;first|refine VB.tt (by first|decide|rfl) ?_|refine VB.ff (by first|decide|rfl) ?_|refine VB.mk (fun hc=>?_) fun hc=>?_)|(show VC ..;first|refine xC (fun hg=>by fail) ?_|refine xL (fun hg=>by fail) ?_|(fail))|(show VCc ..;refine xO (fun hg=>by fail) ?_)|(show VI ..;refine xJ ?_)|(show VG ..;refine xG ?_)|(show VA ..;refine xA ?_)|(show VZ ..;refine .s ?_)|(show VY ..;refine .s ?_)|(show VW ..;first|refine xW1 ?_|refine xW2 ?_)|(show VE ..;refine .mk ?_))
 exact⟨rfl,[false,true],[],rfl⟩
theorem owe2o (k:Int) (a b:Ty) (v:Nat) (q:List Du) (hq:q.length≤8388608):DM Tryz.prog 39 [.a (.ptr 0 0),.a (.v (.int .i64 k)),.a (.sl [Ty.at a,Ty.at b])] [.cell [.own 1 v],.arr v 23 (q.map Du.at)] (.t []) [.cell [.own 1 (v+1)],.arr (v+1) 23 ((q++[Du.mk k a b]).map Du.at)]:=by
 refine vx_gone [0,1,2,6,14] Tryz.func39 rfl Tryz.ntmps39 rfl rfl rfl rfl (fun C hro=>?_)
 repeat' ((conv=>whnf);first|(show VH ..;refine .go ?_)|(show VD ..;refine VD.dl [99999] ?_)|(show VK ..;refine xK ?_)|(show VB ..;first|refine VB.tt (by first|decide|rfl) ?_|refine VB.ff (by first|decide|rfl) ?_|refine VB.mk (fun hc=>?_) fun hc=>?_)|(show VC ..;first|refine xC (fun hg=>by fail) ?_|refine xL (fun hg=>by fail) ?_|(fail))|(show VCc ..;refine xO (fun hg=>by fail) ?_)|(show VI ..;refine xJ ?_)|(show VG ..;refine xG ?_)|(show VA ..;refine xA ?_)|(show VZ ..;refine .s ?_)|(show VY ..;refine .s ?_)|(show VW ..;first|refine xW1 ?_|refine xW2 ?_)|(show VE ..;refine .mk ?_))
 rw [List.map_append]
 exact⟨rfl,[false,false,true],[.gone],rfl⟩
end
end Go.Proofs.YthkojpnjdpbcgaaGreatDoor
