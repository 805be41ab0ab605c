/- Loops whose rounds leave boxes, of which some are kept: the kept ones grow from round to round. No program in sight. Conditions: none. -/
import Derived.Test.YtibdalkdgjghoaaGreatDoorMg16
import Derived.Test.YtibdalkdgjghoaaGreatDoorMg18
set_option linter.unusedVariables false
set_option maxRecDepth 100000
set_option maxHeartbeats 8000000
set_option linter.unusedSimpArgs false
namespace Go.Proofs.YtibdalkdgjghoaaGreatDoor
open Go.RowKit
section
variable {P:Program} {C:Cx P} {n:Nat} {Q:Exit→(Nat→D)→List Bx→Prop} {e:Nat→D} {st:List Bx}
theorem WP.loopG {α:Type} (env:α→List (Nat×D)) (sto:α→List Bx) (μ:α→Nat) (y:α) {c:Code} (h0:Agree e (env y)) (hs:st=sto y)
  (round:∀y,WP C n c (thenQ (fun e' st'=>∃z ex,μ z<μ y∧(sto y).length≤(sto z).length∧Agree e' (env z)∧st'=sto z++ex∧nrE (sto z).length (env z)=true∧nrS (sto z).length (sto z)=true) Q) (envL (env y)) (sto y)):WP C n (.loop c) Q e st:=by
 subst hs
 have main:C.V0.st.length≤(sto y).length→WP C n (.loop c) Q (envL (env y)) (sto y):=by
  intro hV
  refine WP.loopS (fun y e st=>C.V0.st.length≤(sto y).length∧e=envL (env y)∧st=sto y) μ y ⟨hV,rfl,rfl⟩ ?_
  rintro y2 _ _ ⟨hV2,rfl,rfl⟩
  refine (round y2).mono ?_
  intro ex e' st' hq
  cases ex with
  | normal =>
   obtain⟨z,exx,hlt,hle,hag,rfl,hn1,hn2⟩:=hq
   intro a w x bl hm
   exact⟨z,x,_,_,_,hlt,⟨Nat.le_trans hV2 hle,rfl,rfl⟩,(hm.weaken hag).drop (nrE_env hn1) hn2 (Nat.le_trans hV2 hle)⟩
  | _=>exact hq
 intro a w x bl hm
 exact main hm.m.le.len a w x bl (hm.weaken h0)
end
section
variable {P:Program} {C:Cx P} {ops:Array Oper} {r:List Oper} {e:Nat→D} {st st' st0 st1 bs':List Bx} {K:(Nat→D)→List Bx→Prop} {dst:Option Nat} {ty:TypeId} {pos:String} {after:Array Edge} {j:Nat} {b:Bool} {f:FuncId} {xs:List Operand} {tys:Array TypeId} {vs ds:List D} {d d' g:D} {op:Op}
theorem RS.gM (σ:List Nat) (hgd:gOk ops e 8 (some (j,b)):=by exact⟨rfl,trivial⟩) (hx:xs.map (evO e)=vs:=by (simp only [go_sem,simprocAttr,fx])<;>rfl) (hs:σ.map (fun i=>st.getD i .gone)=bs':=by (simp only [go_sem,simprocAttr,fx])<;>rfl) (hin:lendOk σ bs' vs=true:=by (simp only [go_sem,simprocAttr,fx])<;>rfl) (hu:vs.map (unD σ)=ds:=by (simp only [go_sem,simprocAttr,fx])<;>rfl) (hv:bs'.map (unB σ)=st0:=by (simp only [go_sem,simprocAttr,fx])<;>rfl) (hg:e 1000000=g:=by (simp only [go_sem,simprocAttr])<;>rfl) (hp:DM P f ds st0 d st1) (hne:0<st1.length:=by exact Nat.zero_lt_succ _) (hd:rnD (rnX σ st.length (st1.length-σ.length)) d=d':=by (simp only [go_sem,simprocAttr,fx])<;>rfl)
  (hst:mrg σ st (st1.map (rnB (rnX σ st.length (st1.length-σ.length))))=st':=by (simp only [go_sem,simprocAttr,fx])<;>rfl) (h:RS C ops r (upd (putE e dst d') 1000000 g) st' K):RS C ops (⟨dst,.call ⟨.value (.func f),⟨xs⟩,tys⟩,ty,pos,after,some (j,b)⟩::r) e st K :=
 have q:WS C g st e ⟨dst,.call ⟨.value (.func f),⟨xs⟩,tys⟩,ty,pos,after,none⟩ d' st':=WS.callM hx hs hin hu hv hg hp hne hd hst
 .inr ⟨hgd,_,q.2.2,fun d1 st1 g1 ⟨h1,h2,h3⟩=>by subst h1;subst h2;subst h3;exact h⟩
end
theorem ixE {α:Type} {l:List α} {enc:α→List A} {m k:Nat} {z:α} (hz:l[k]? = some z) (hm:(enc z).length=m) (q2:Option (Nat×Nat)):ixD (some m) q2 (.a (.sl (l.map enc))) (.a (.v (.int .i64 (k:Int))))=some (.a (.ref (enc z) 0)):=ixD_at rfl (by rw [List.getElem?_map,hz];rfl) hm
section
variable {P:Program} {C:Cx P} {n:Nat} {Q:Exit→(Nat→D)→List Bx→Prop} {e:Nat→D} {st:List Bx}
def RDn (env:Nat→List (Nat×D)) (sto:Nat→List Bx) (I:Nat→Prop) (k:Nat) (e':Nat→D) (st':List Bx):Prop :=
 I (k+1)∧∃ex,Agree e' (env (k+1))∧st'=sto (k+1)++ex∧nrE (sto (k+1)).length (env (k+1))=true∧nrS (sto (k+1)).length (sto (k+1))=true
theorem WP.each {α:Type} (l:List α) (enc:α→List A) (m:Nat) (env:Nat→List (Nat×D)) (sto:Nat→List Bx) (I:Nat→Prop) {c:Code} (h0:Agree e (env 0)) (hs:st=sto 0) (hI:I 0) (hn:l.length≤4194304) (hz:∀z,(enc z).length=m)
  (round:∀k z,l[k]? = some z→l.drop k=z::l.drop (k+1)→l.take (k+1)=l.take k++[z]→k<l.length→I k→decide ((k:Int)<((l.length:Nat):Int))=true→(∀q2,ixD (some m) q2 (.a (.sl (l.map enc))) (.a (.v (.int .i64 (k:Int))))=some (.a (.ref (enc z) 0)))→IntKind.i64.wrap ((k:Int)+1)=((k+1:Nat):Int)→WP C n c (thenQ (RDn env sto I k) Q) (envL (env k)) (sto k))
  (last:I l.length→decide ((l.length:Int)<((l.length:Nat):Int))=false→WP C n c (thenQ (fun _ _=>False) Q) (envL (env l.length)) (sto l.length)) (hle:∀k,(sto k).length≤(sto (k+1)).length:=by intros;exact Nat.le_refl _):WP C n (.loop c) Q e st:=by
 refine WP.loopG (α:={ k:Nat // k≤l.length∧I k }) (fun y=>env y.1) (fun y=>sto y.1) (fun y=>l.length-y.1) ⟨0,Nat.zero_le _,hI⟩ h0 hs ?_
 rintro⟨k,hk,hi⟩
 dsimp only
 by_cases hlt:k<l.length
 ·obtain⟨z,hzk⟩:∃z,l[k]? = some z:=⟨_,List.getElem?_eq_getElem hlt⟩
  refine (round k z hzk (by rw [List.drop_eq_getElem_cons hlt];congr 1;exact (List.getElem?_eq_some_iff.1 hzk).2) (take_snocA hzk) hlt hi (decide_eq_true (by omega)) (fun q2=>ixD_at rfl (by rw [List.getElem?_map,hzk];rfl) (hz z)) (wrap64n (by omega))).mono ?_
  intro ex e' st' hq
  cases ex with
  | normal =>
   obtain⟨hi1,ex,h1,h2,h3,h4⟩:=hq
   exact⟨⟨k+1,by omega,hi1⟩,ex,by dsimp only;omega,hle k,h1,h2,h3,h4⟩
  | _=>exact hq
 ·obtain rfl:k=l.length:=by omega
  refine (last hi (decide_eq_false (by omega))).mono ?_
  intro ex e' st' hq
  cases ex with
  | normal=>exact hq.elim
  | _=>exact hq
end
end Go.Proofs.YtibdalkdgjghoaaGreatDoor
