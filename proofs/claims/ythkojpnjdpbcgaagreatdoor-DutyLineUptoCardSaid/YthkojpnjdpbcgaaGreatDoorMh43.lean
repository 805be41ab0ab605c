/- What an owner is, seen from where it is read or written: the document's answer. Conditions: at most 2^20 of anything. -/
import Derived.Test.YthkojpnjdpbcgaaGreatDoorMh41
import Derived.Test.YthkojpnjdpbcgaaGreatDoorMh20
import Derived.Test.YthkojpnjdpbcgaaGreatDoorMh26
import Derived.Test.YthkojpnjdpbcgaaGreatDoorMh42
set_option linter.unusedVariables false
set_option maxRecDepth 100000
set_option maxHeartbeats 8000000
set_option linter.unusedSimpArgs false
namespace Go.Proofs.YthkojpnjdpbcgaaGreatDoor
open Go.RowKit
section
set_option maxRecDepth 100000
structure Vu where
 mode:Int
 obj:Ty
 this:Bool
def Vu.at (v:Vu):List A:=.v (.int .i64 v.mode)::(Ty.at v.obj++[.v (.bool v.this)])
theorem qjb:qaa Tryz.prog 72 [] (.r (owAt (8,0))):=by
 refine qaa.vx [0] Tryz.func72 rfl Tryz.ntmps72 rfl rfl rfl (fun C hro hst=>?_)
 repeat' ((conv=>whnf);first|refine stv ?_|fail)
 rfl
def qko (v:Vu) (o a:Int×Int) (r:List (Int×Int)):Int×Int :=
 bif v.this then putO o (a::r) else
 bif qar v.obj then (bif o.1==3 then putO o (a::r) else bif (bif o.1==4 then true else o.1==6) then o else (8,0)) else
 bif v.mode==1 then (bif o.1==1 then (8,0) else putO o (a::r)) else
 bif v.mode==2 then (bif (bif o.1==5 then true else o.1==6) then o else bif (bif (bif o.1==2 then true else false) then (bif a.1==1 then true else a.1==2) else false) then a else (8,0)) else (8,0)
attribute [local irreducible] putO qar
theorem qpb (v:Vu) (o a:Int×Int) (r:List (Int×Int)) (hl:(a::r).length≤1048576):qaa Tryz.prog 73 [.r (Vu.at v),.r (owAt o),.a (.sl ((a::r).map owAt))] (.r (owAt (qko v o a r))):=by
 have h1:=qjb
 have h2:=qm3 o (a::r) hl
 have h3:=qbg v.obj
 have h4:decide ((((a::r).map owAt).length:Int)>0)=true:=by simp
 unfold qko
 refine qaa.vx [0,1,2,3,4,6,7,11,17,19,28,33,35,42,48,70] Tryz.func73 rfl Tryz.ntmps73 rfl rfl rfl (fun C hro hst=>?_)
 repeat' ((conv=>whnf);first|refine stv ?_|(show VB ..;refine VB.mk (fun hc=>?_) fun hc=>?_)|(show VC ..;refine xC (fun hg=>by first|exact h1|exact h2|exact h3) ?_))
 all_goals (try simp only [h4] at *);simp only [*,cond_true,cond_false];rfl
end
section
set_option maxRecDepth 100000
def qfs (t:Ty) (k:Nat) (x:Int×Int):Ty:=match k with
 | 0=>{ t with o0:=x }
 | 1=>{ t with o1:=x }
 | 2=>{ t with o2:=x }
 | _=>{ t with o3:=x }
def qdy (t:Ty) (k:Nat):Int×Int:=match k with
 | 0=>t.o0
 | 1=>t.o1
 | 2=>t.o2
 | _=>t.o3
def seeK (f:Int×Int→Int×Int) (t:Ty):Nat→Ty
 | 0=>t
 | k+1=>qfs (seeK f t k) k (f (qdy t k))
theorem qlz {t:Ty} {k:Nat} {z:Int×Int} (h:(qcz t)[k]? = some z):k<4∧z=qdy t k:=by
 unfold qcz at h
 cases hk:t.kind==2 with
 | false=>rw [hk] at h;cases h
 | true =>
  rw [hk,cond_true,List.getElem?_take] at h
  split at h
  ·have h4:k<t.own.length:=(List.getElem?_eq_some_iff.1 h).1
   have h5:t.own.length=4:=rfl
   refine⟨by omega,?_⟩
   unfold Ty.own at h
   match k,h with
   | 0,h=>injection h with h;exact h.symm
   | 1,h=>injection h with h;exact h.symm
   | 2,h=>injection h with h;exact h.symm
   | 3,h=>injection h with h;exact h.symm
   | n+4,h=>cases h
  ·cases h
def fixH (x:Int×Int):Int×Int:=bif x.1==8 then (8,0) else x
def qmx (v:Vu) (r:List (Int×Int)×Bool) (z:Int×Int):Int×Int:=bif r.2 then fixH (qko v z (r.1.headD (8,0)) r.1.tail) else (8,0)
def qat (p:List Cs) (v:Vu) (cls:List UInt8):List (Int×Int)×Bool:=qcf p v.obj.cls (qcz v.obj) cls (qax p v.obj.cls)
def seeT (p:List Cs) (v:Vu) (cls:List UInt8) (t:Ty):Ty:=seeK (qmx v (qat p v cls)) t (qcz t).length
theorem goD_ne {p:List Cs} {tn:List UInt8}:∀(ch:List Int) (l:List (Int×Int)),l≠[]→goD p tn ch l≠[]
 | [],l,h=>h
 | i::r,l,h=>by
  rw [goD]
  cases qde p i==tn with
  | true=>exact h
  | false=>exact goD_ne r _ (by unfold qip;simp)
theorem qhp {p:List Cs} {v:Vu} {cls:List UInt8} (hz:∀c∈p,c.above.length<1048576):(qat p v cls).1.length≤1048576∧((qat p v cls).2=true→(qat p v cls).1≠[]):=by
 refine⟨qpa hz (by have:=qed v.obj;omega),fun h=>?_⟩
 unfold qat at h ⊢
 by_cases hn:qcz v.obj=[]
 ·rw [hn,qi7] at h;cases h
 ·unfold qcf at h ⊢
  cases hc:(bif !qb1 p v.obj.cls cls then true else ((qcz v.obj).length:Int) != qax p v.obj.cls+1) with
  | true=>rw [hc] at h;cases h
  | false=>exact goD_ne _ _ hn
attribute [local irreducible] qko qar qat qcz
theorem qm1 (p:List Cs) (v:Vu) (cls:List UInt8) (t:Ty) (hzz:qad Cs.sz p≤1048576):qaa Tryz.prog 30 [.a (.sl (p.map Cs.at)),.r (Vu.at v),.a (.v (.string (bs cls))),.r (Ty.at t)] (.r (Ty.at (seeT p v cls t))):=by
 have hlen:=qav Cs.sz_pos p
 have hz:∀c∈p,c.above.length<1048576:=fun c hc=>(qek hc hzz).1
 have hwr:=qik (p:=p) v.obj.cls fun c hc=>by have:=(qek hc hzz).2;omega
 have ho1:=qed v.obj
 have ho2:=qed t
 have h1:=qje v.obj
 have h2:=qje t
 have h3:=pr15Raise p v.obj.cls (qcz v.obj) cls (by omega) (by omega) hz hwr
 have hro:=qhp (v:=v) (cls:=cls) hz
 rw [show qcf p v.obj.cls (qcz v.obj) cls (qax p v.obj.cls)=qat p v cls by unfold qat;rfl] at h3
 unfold seeT
 generalize qat p v cls=rr at *
 have hget:∀k z,(qcz t)[k]? = some z→k<4∧z=qdy t k:=fun k z h=>qlz h
 generalize qcz t=ot at *
 obtain⟨rl,rb⟩:=rr
 have hF:∀z,rb=false→qmx v (rl,rb) z=(8,0):=fun z h=>by subst h;rfl
 obtain⟨a,r,hrl⟩:∃a r,rb=true→rl=a::r:=by
  cases rl with
  | nil=>exact⟨(0,0),[],fun h=>absurd rfl (hro.2 h)⟩
  | cons a r=>exact⟨a,r,fun _=>rfl⟩
 have h4:rb=true→∀z,qaa Tryz.prog 73 [.r (Vu.at v),.r (owAt z),.a (.sl (rl.map owAt))] (.r (owAt (qko v z a r))):=fun h z=>by
  have:=hrl h
  subst this
  exact qpb v z a r hro.1
 have h5:=qjb
 have hG:rb=true→∀z,qmx v (rl,rb) z=fixH (qko v z a r):=fun h z=>by
  have:=hrl h
  subst this
  subst h
  rfl
 generalize qmx v (rl,rb)=f at *
 refine qaa.vx [0,1,2,3,5,7,8,9,10,11,12,30,37,53] Tryz.func30 rfl Tryz.ntmps30 rfl rfl rfl (fun C hro hst=>?_)
 repeat' ((conv=>whnf);first|(show VD ..;refine .q ?_)|refine stv ?_|(show VC ..;refine xC (fun hg=>by first|exact h1|exact h2|exact h3) ?_))
 conv=>whnf
 refine VL.each ot owAt (fun k=>[(5,.a (.ptr 0 0)),(7,.a (.ptr 1 0)),(8,.a (.ptr 2 0)),(9,.a (.sl (rl.map owAt))),(10,.a (.v (.bool rb))),(11,.a (.sl (ot.map owAt))),(12,.a (.v (.int .i64 (k:Nat))))]) (fun k=>[.cell (Vu.at v),.cell (Ty.at (seeK f t k)),.cell (Ty.at tz)]) (fun _=>True) ⟨rfl,rfl,rfl,rfl,rfl,rfl,rfl,trivial⟩ rfl trivial (by omega) ?_ ?_
 ·intro k z hz2 hd htk hlt _ hlt2 hix hw
  obtain⟨hk4,hzo⟩:=hget k z hz2
  match k,hk4 with
  | 0,_ =>
   repeat' ((conv=>whnf);first|(show VD ..;refine .q ?_)|(show VI ..;refine xI (fun _=>by exact hix) ?_)|refine stv ?_|(show VB ..;first|refine VB.tt (by first|exact hlt2|rfl) ?_|refine VB.mk (fun hc=>?_) fun hc=>?_)|(show VC ..;refine xC (fun hg=>by first|exact h5|exact h4 hc z) ?_))
   all_goals
    conv=>whnf
    refine⟨trivial,[],⟨rfl,rfl,rfl,rfl,rfl,rfl,congrArg (fun z=>D.a (.v (.int .i64 z))) hw,trivial⟩,?_,rfl,rfl⟩
    show _=[Bx.cell _,Bx.cell (Ty.at (qfs (seeK f t 0) 0 (f (qdy t 0)))),Bx.cell _]
    rw [←hzo]
    first|(rw [hF z (by assumption)];rfl)|(rw [hG (by assumption) z,fixH,hc];rfl)|fail
  | 1,_ =>
   repeat' ((conv=>whnf);first|(show VD ..;refine .q ?_)|(show VI ..;refine xI (fun _=>by exact hix) ?_)|refine stv ?_|(show VB ..;first|refine VB.tt (by first|exact hlt2|rfl) ?_|refine VB.mk (fun hc=>?_) fun hc=>?_)|(show VC ..;refine xC (fun hg=>by first|exact h5|exact h4 hc z) ?_))
   all_goals
    conv=>whnf
    refine⟨trivial,[],⟨rfl,rfl,rfl,rfl,rfl,rfl,congrArg (fun z=>D.a (.v (.int .i64 z))) hw,trivial⟩,?_,rfl,rfl⟩
    show _=[Bx.cell _,Bx.cell (Ty.at (qfs (seeK f t 1) 1 (f (qdy t 1)))),Bx.cell _]
    rw [←hzo]
    first|(rw [hF z (by assumption)];rfl)|(rw [hG (by assumption) z,fixH,hc];rfl)|fail
  | 2,_ =>
   repeat' ((conv=>whnf);first|(show VD ..;refine .q ?_)|(show VI ..;refine xI (fun _=>by exact hix) ?_)|refine stv ?_|(show VB ..;first|refine VB.tt (by first|exact hlt2|rfl) ?_|refine VB.mk (fun hc=>?_) fun hc=>?_)|(show VC ..;refine xC (fun hg=>by first|exact h5|exact h4 hc z) ?_))
   all_goals
    conv=>whnf
    refine⟨trivial,[],⟨rfl,rfl,rfl,rfl,rfl,rfl,congrArg (fun z=>D.a (.v (.int .i64 z))) hw,trivial⟩,?_,rfl,rfl⟩
    show _=[Bx.cell _,Bx.cell (Ty.at (qfs (seeK f t 2) 2 (f (qdy t 2)))),Bx.cell _]
    rw [←hzo]
    first|(rw [hF z (by assumption)];rfl)|(rw [hG (by assumption) z,fixH,hc];rfl)|fail
  | 3,_ =>
   repeat' ((conv=>whnf);first|(show VD ..;refine .q ?_)|(show VI ..;refine xI (fun _=>by exact hix) ?_)|refine stv ?_|(show VB ..;first|refine VB.tt (by first|exact hlt2|rfl) ?_|refine VB.mk (fun hc=>?_) fun hc=>?_)|(show VC ..;refine xC (fun hg=>by first|exact h5|exact h4 hc z) ?_))
   all_goals
    conv=>whnf
    refine⟨trivial,[],⟨rfl,rfl,rfl,rfl,rfl,rfl,congrArg (fun z=>D.a (.v (.int .i64 z))) hw,trivial⟩,?_,rfl,rfl⟩
    show _=[Bx.cell _,Bx.cell (Ty.at (qfs (seeK f t 3) 3 (f (qdy t 3)))),Bx.cell _]
    rw [←hzo]
    first|(rw [hF z (by assumption)];rfl)|(rw [hG (by assumption) z,fixH,hc];rfl)|fail
 ·intro _ hlt2
  repeat' ((conv=>whnf);first|refine stv ?_|(show VB ..;refine VB.ff (by exact hlt2) ?_))
  rfl
def qb5 (p:List Cs) (v:Vu) (cls:List UInt8) (t:Ty):Ty :=
 bif (bif (bif (bif v.mode==2 then (seeT p v cls t).kind==2 else false) then (seeT p v cls t).o0.1==8 else false) then !qar v.obj else false) then { seeT p v cls t with o0:=(5,0) } else seeT p v cls t
attribute [local irreducible] seeT
theorem qob (p:List Cs) (v:Vu) (cls:List UInt8) (t:Ty) (hzz:qad Cs.sz p≤1048576):qaa Tryz.prog 28 [.a (.sl (p.map Cs.at)),.r (Vu.at v),.a (.v (.string (bs cls))),.r (Ty.at t)] (.r (Ty.at (qb5 p v cls t))):=by
 have h1:=qm1 p v cls t hzz
 have h2:=qbg v.obj
 unfold qb5
 generalize seeT p v cls t=s at *
 generalize qar v.obj=u at *
 refine qaa.vx [0,1,2,3,5,7,8,9,35] Tryz.func28 rfl Tryz.ntmps28 rfl rfl rfl (fun C hro hst=>?_)
 repeat' ((conv=>whnf);first|refine stv ?_|(show VB ..;refine VB.mk (fun hc=>?_) fun hc=>?_)|(show VC ..;refine xC (fun hg=>by first|exact h1|exact h2) ?_))
 ·rw [hc];rfl
 ·rw [hc];rfl
end
section
set_option maxRecDepth 100000
theorem qly (o:Int×Int):qaa Tryz.prog 177 [.r (owAt o)] (.r (owAt (8,0))):=by
 refine qaa.vx [0,2] Tryz.func177 rfl Tryz.ntmps177 rfl rfl rfl (fun C hro hst=>?_)
 repeat' ((conv=>whnf);first|refine stv ?_|fail)
 rfl
theorem paMade1 (o:Int×Int) (l:List (Int×Int)) (hl:l.length≤1048576):qaa Tryz.prog 208 [.r (owAt o),.a (.ref [.sl (l.map owAt)] 0)] (.r (owAt (putO o l))):=by
 refine qaa.vx [0,1,2,3] Tryz.func208 rfl Tryz.ntmps208 rfl rfl rfl (fun C hro hst=>?_)
 repeat' ((conv=>whnf);first|refine stv ?_|(show VC ..;refine xC (fun hg=>by exact poPut o l hl) ?_))
 rfl
theorem paMade2 (o:Int×Int) (l:List (Int×Int)) (hl:l.length≤1048576):qaa Tryz.prog 210 [.r (owAt o),.a (.ref [.sl (l.map owAt)] 0)] (.r (owAt (bif o.1==1 then (8,0) else putO o l))):=by
 refine qaa.vx [0,1,2,3,6] Tryz.func210 rfl Tryz.ntmps210 rfl rfl rfl (fun C hro hst=>?_)
 repeat' ((conv=>whnf);first|refine stv ?_|(show VB ..;refine VB.mk (fun hc=>?_) fun hc=>?_)|(show VC ..;refine xC (fun hg=>by first|exact poPut o l hl|exact qly o) ?_))
 all_goals simp only [hc,cond_true,cond_false];rfl
theorem paThr1 (o:Int×Int) (l:List (Int×Int)) (put stay:List Int) (hl:l.length≤1048576) (hp:put.length≤4) (hs:stay.length≤4):qaa Tryz.prog 240 [.r (owAt o),.a (.ref [.sl (put.map inAt)] 0),.a (.ref [.sl (l.map owAt)] 0),.a (.ref [.sl (stay.map inAt)] 0)] (.r (owAt (bif put.any (fun x=>x==o.1) then putO o l else bif stay.any (fun x=>x==o.1) then o else (8,0)))):=by
 refine qaa.vx [0,1,2,3,4,5,6,14] Tryz.func240 rfl Tryz.ntmps240 rfl rfl rfl (fun C hro hst=>?_)
 repeat' ((conv=>whnf);first|refine stv ?_|(show VB ..;refine VB.mk (fun hc=>?_) fun hc=>?_)|(show VC ..;refine xC (fun hg=>by first|exact poPut o l hl|exact qly o|exact qkd put o.1 (by omega)|exact qkd stay o.1 (by omega)) ?_))
 all_goals simp only [*,cond_true,cond_false];rfl
theorem paThr (l:List (Int×Int)) (put stay:List Int):qaa Tryz.prog 209 [.a (.sl (l.map owAt)),.a (.sl (put.map inAt)),.a (.sl (stay.map inAt))] (.a (.fn 240 [.ref [.sl (put.map inAt)] 0,.ref [.sl (l.map owAt)] 0,.ref [.sl (stay.map inAt)] 0])):=by
 refine qaa.vx [0,1,2,3,4,5,6] Tryz.func209 rfl Tryz.ntmps209 rfl rfl rfl (fun C hro hst=>?_)
 conv=>whnf
 refine .go ?_
 repeat' ((conv=>whnf);first|(show VK ..;refine xK ?_)|fail)
 conv=>whnf
 refine .wk [(3,.a (.ref [.sl (l.map owAt)] 0)),(4,.a (.ref [.sl (put.map inAt)] 0)),(5,.a (.ref [.sl (stay.map inAt)] 0))] [.gone,.gone,.gone] ((Wk.frz (l:=[(3,.a (.ref [.sl (l.map owAt)] 0)),(4,.a (.ptr 1 0)),(5,.a (.ptr 2 0))]) 0 rfl rfl ⟨rfl,rfl,rfl,trivial⟩).trans ((Wk.frz (l:=[(3,.a (.ref [.sl (l.map owAt)] 0)),(4,.a (.ref [.sl (put.map inAt)] 0)),(5,.a (.ptr 2 0))]) 1 rfl rfl ⟨rfl,rfl,rfl,trivial⟩).trans (Wk.frz 2 rfl rfl ⟨rfl,rfl,rfl,trivial⟩))) ?_
 repeat' ((conv=>whnf);first|refine stv ?_|fail)
 rfl
end
section
set_option maxRecDepth 100000
theorem paThrN (l:List (Int×Int)) (stay:List Int):qaa Tryz.prog 209 [.a (.sl (l.map owAt)),.a .nl,.a (.sl (stay.map inAt))] (.a (.fn 240 [.ref [.sl []] 0,.ref [.sl (l.map owAt)] 0,.ref [.sl (stay.map inAt)] 0])):=by
 refine qaa.vx [0,1,2,3,4,5,6] Tryz.func209 rfl Tryz.ntmps209 rfl rfl rfl (fun C hro hst=>?_)
 conv=>whnf
 refine .go ?_
 repeat' ((conv=>whnf);first|(show VK ..;refine xK ?_)|fail)
 conv=>whnf
 refine .wk [(3,.a (.ref [.sl (l.map owAt)] 0)),(4,.a (.ref [.sl []] 0)),(5,.a (.ref [.sl (stay.map inAt)] 0))] [.gone,.gone,.gone] ((Wk.frz (l:=[(3,.a (.ref [.sl (l.map owAt)] 0)),(4,.a (.ptr 1 0)),(5,.a (.ptr 2 0))]) 0 rfl rfl ⟨rfl,rfl,rfl,trivial⟩).trans ((Wk.frz (l:=[(3,.a (.ref [.sl (l.map owAt)] 0)),(4,.a (.ref [.sl []] 0)),(5,.a (.ptr 2 0))]) 1 rfl rfl ⟨rfl,rfl,rfl,trivial⟩).trans (Wk.frz 2 rfl rfl ⟨rfl,rfl,rfl,trivial⟩))) ?_
 repeat' ((conv=>whnf);first|refine stv ?_|fail)
 rfl
def glF (v:Vu) (rb:Bool):FuncId:=bif !rb then 177 else bif v.this then 208 else bif qar v.obj then 240 else bif v.mode==1 then 210 else bif v.mode==2 then 240 else 177
def glC (v:Vu) (rl:List (Int×Int)) (rb:Bool):List A:=bif !rb then [] else bif v.this then [.ref [.sl (rl.map owAt)] 0] else bif qar v.obj then [.ref [.sl ([3].map inAt)] 0,.ref [.sl (rl.map owAt)] 0,.ref [.sl ([4,6].map inAt)] 0] else bif v.mode==1 then [.ref [.sl (rl.map owAt)] 0] else bif v.mode==2 then
 bif (bif (rl.headD (8,0)).1 != 1 then (rl.headD (8,0)).1 != 2 else false) then [.ref [.sl (([]:List Int).map inAt)] 0,.ref [.sl (rl.map owAt)] 0,.ref [.sl ([5,6].map inAt)] 0] else [.ref [.sl ([2].map inAt)] 0,.ref [.sl (rl.map owAt)] 0,.ref [.sl ([5,6].map inAt)] 0] else []
theorem glC_cl (v:Vu) (rl:List (Int×Int)) (rb:Bool):((glC v rl rb).map D.a).all clD=true:=by
 unfold glC
 cases rb<;>cases v.this<;>cases qar v.obj<;>cases v.mode==1<;>cases v.mode==2<;>cases (bif (rl.headD (8,0)).1 != 1 then (rl.headD (8,0)).1 != 2 else false)<;>rfl
theorem glC_nr (v:Vu) (rl:List (Int×Int)) (rb:Bool) (m:Nat):nrA.nrL m (glC v rl rb)=true:=by
 unfold glC
 cases rb<;>cases v.this<;>cases qar v.obj<;>cases v.mode==1<;>cases v.mode==2<;>cases (bif (rl.headD (8,0)).1 != 1 then (rl.headD (8,0)).1 != 2 else false)<;>rfl
def ql5 (v:Vu) (rr:List (Int×Int)×Bool) (z:Int×Int):Int×Int:=bif rr.2 then qko v z (rr.1.headD (8,0)) rr.1.tail else (8,0)
theorem seenF_P (v:Vu) (rr:List (Int×Int)×Bool) (z:Int×Int):qmx v rr z=fixH (ql5 v rr z):=by
 unfold qmx ql5;cases rr.2<;>rfl
theorem glass_ok (v:Vu) (rl:List (Int×Int)) (rb:Bool) (hl:rl.length≤1048576) (hne:rb=true→rl≠[]) (z:Int×Int):qaa Tryz.prog (glF v rb) (.r (owAt z)::(glC v rl rb).map D.a) (.r (owAt (ql5 v (rl,rb) z))):=by
 unfold glF glC ql5
 cases rb with
 | false=>exact qly z
 | true =>
  obtain⟨a,r,rfl⟩:∃a r,rl=a::r:=by cases rl with|nil=>exact absurd rfl (hne rfl)|cons a r=>exact⟨a,r,rfl⟩
  have hsym:∀i:Int,(i==z.1)=(z.1==i):=fun i=>by rw [Bool.eq_iff_iff,beq_iff_eq,beq_iff_eq];exact eq_comm
  unfold qko
  rw [List.headD_cons,List.tail_cons]
  cases v.this with
  | true=>exact paMade1 z (a::r) hl
  | false =>
   simp only [Bool.not_true,cond_false,cond_true]
   cases qar v.obj with
   | true =>
    have:=paThr1 z (a::r) [3] [4,6] hl (by decide) (by decide)
    simp only [List.any_cons,List.any_nil,Bool.or_false,hsym] at this
    rw [show (z.1==4||z.1==6)=(bif z.1==4 then true else z.1==6) by cases z.1==4<;>rfl] at this
    exact this
   | false =>
    simp only [cond_false]
    cases v.mode==1 with
    | true=>exact paMade2 z (a::r) hl
    | false =>
     simp only [cond_false]
     cases v.mode==2 with
     | false=>exact qly z
     | true =>
      simp only [cond_true]
      have e56:(z.1==5||z.1==6)=(bif z.1==5 then true else z.1==6):=by cases z.1==5<;>rfl
      cases hq:(bif a.1 != 1 then a.1 != 2 else false) with
      | true =>
       have:=paThr1 z (a::r) [] [5,6] hl (by decide) (by decide)
       simp only [List.any_cons,List.any_nil,Bool.or_false,hsym] at this
       rw [e56] at this
       have hq2:(bif a.1==1 then true else a.1==2)=false:=by
        simp only [bne] at hq
        cases h1:a.1==1<;>rw [h1] at hq<;>simp_all
       rw [hq2]
       rw [show (bif (bif z.1==2 then true else false) then false else false)=false by cases z.1==2<;>rfl,cond_false]
       exact this
      | false =>
       have:=paThr1 z (a::r) [2] [5,6] hl (by decide) (by decide)
       simp only [List.any_cons,List.any_nil,Bool.or_false,hsym] at this
       rw [e56] at this
       have hq2:(bif a.1==1 then true else a.1==2)=true:=by
        simp only [bne] at hq
        cases h1:a.1==1<;>rw [h1] at hq<;>simp_all
       rw [hq2]
       simp only [cond_false]
       have e2:(bif (bif z.1==5 then true else z.1==6) then z else bif (bif (bif z.1==2 then true else false) then true else false) then a else (8,0))=(bif z.1==2 then putO z (a::r) else bif (bif z.1==5 then true else z.1==6) then z else (8,0)):=by
        cases h2:z.1==2 with
        | false=>rfl
        | true =>
         have:z.1=2:=by simpa using h2
         unfold putO
         rw [this];rfl
       rw [e2]
       exact this
end
section
set_option maxRecDepth 100000
attribute [local irreducible] qko qar qat qcz ql5
theorem paMade (p:List Cs) (v:Vu) (cls:List UInt8) (hzz:qad Cs.sz p≤1048576):qaa Tryz.prog 176 [.a (.sl (p.map Cs.at)),.r (Vu.at v),.a (.v (.string (bs cls)))] (.a (.fn (glF v (qat p v cls).2) (glC v (qat p v cls).1 (qat p v cls).2))):=by
 have hlen:=qav Cs.sz_pos p
 have hz:∀c∈p,c.above.length<1048576:=fun c hc=>(qek hc hzz).1
 have hwr:=qik (p:=p) v.obj.cls fun c hc=>by have:=(qek hc hzz).2;omega
 have ho1:=qed v.obj
 have h1:=qod v.obj
 have h3:=pRaise p v.obj.cls (qcz v.obj) cls (by omega) (by omega) hz hwr
 have hro:=qhp (v:=v) (cls:=cls) hz
 rw [show qcf p v.obj.cls (qcz v.obj) cls (qax p v.obj.cls)=qat p v cls by unfold qat;rfl] at h3
 generalize qat p v cls=rr at *
 generalize qcz v.obj=vo at *
 obtain⟨rl,rb⟩:=rr
 dsimp only at *
 have h2:=qbk v.obj
 have h5:=paThr rl [3] [4,6]
 have h6:=paThr rl [2] [5,6]
 have h7:=paThrN rl [5,6]
 unfold glF glC
 generalize qar v.obj=u at *
 refine qaa.vx [0,1,2,4,6,7,8,9,22,25,29,37,42,58] Tryz.func176 rfl Tryz.ntmps176 rfl rfl rfl (fun C hro2 hst=>?_)
 conv=>whnf
 refine .go ?_
 repeat' ((conv=>whnf);first|(show VK ..;refine xK ?_)|fail)
 conv=>whnf
 refine .go ?_
 repeat' ((conv=>whnf);first|(show VD ..;refine VD.dl [99999] ?_)|(show VK ..;refine xK ?_)|(show VCc ..;refine xO (fun hg=>by first|exact h1|exact h3) ?_)|(show VG ..;refine xG ?_)|(show VZ ..;refine .s ?_)|fail)
 conv=>whnf
 cases rb with
 | false =>
  repeat' ((conv=>whnf);first|refine stv ?_|(show VB ..;refine VB.tt (by rfl) ?_))
  rfl
 | true =>
  obtain⟨a,r,rfl⟩:∃a r,rl=a::r:=by cases rl with|nil=>exact absurd rfl (hro.2 rfl)|cons a r=>exact⟨a,r,rfl⟩
  refine .wk [(4,.a (.ptr 0 0)),(7,.a (.ref [.sl ((a::r).map owAt)] 0)),(8,.a (.v (.bool true)))] [.cell (Vu.at v),.gone] (Wk.frz 1 rfl rfl ⟨rfl,rfl,rfl,trivial⟩) ?_
  repeat' ((conv=>whnf);first|refine stv ?_|(show VB ..;first|refine VB.ff (by rfl) ?_|refine VB.mk (fun hc=>?_) fun hc=>?_)|(show VC ..;refine xC (fun hg=>by first|exact h2|exact h5|exact h6|exact h7) ?_))
  all_goals simp only [*,List.headD_cons,Bool.not_true,cond_true,cond_false];rfl
theorem paSee (p:List Cs) (v:Vu) (cls:List UInt8) (t:Ty) (hzz:qad Cs.sz p≤1048576):qaa Tryz.prog 120 [.a (.sl (p.map Cs.at)),.r (Vu.at v),.a (.v (.string (bs cls))),.r (Ty.at t)] (.r (Ty.at (seeT p v cls t))):=by
 have hz:∀c∈p,c.above.length<1048576:=fun c hc=>(qek hc hzz).1
 have ho2:=qed t
 have h1:=paMade p v cls hzz
 have h2:=qod t
 have h5:=qly
 have hro:=qhp (v:=v) (cls:=cls) hz
 unfold seeT
 have hgl:∀z,qaa Tryz.prog (glF v (qat p v cls).2) (.r (owAt z)::(glC v (qat p v cls).1 (qat p v cls).2).map D.a) (.r (owAt (ql5 v (qat p v cls) z))):=glass_ok v _ _ hro.1 hro.2
 have hcl:=glC_cl v (qat p v cls).1 (qat p v cls).2
 have hnr:=glC_nr v (qat p v cls).1 (qat p v cls).2 3
 rw [show qmx v (qat p v cls)=fun z=>fixH (ql5 v (qat p v cls) z) from funext fun z=>seenF_P v _ z]
 generalize ql5 v (qat p v cls)=g at *
 generalize glF v (qat p v cls).2=gf at *
 generalize glC v (qat p v cls).1 (qat p v cls).2=gc at *
 have hget:∀k z,(qcz t)[k]? = some z→k<4∧z=qdy t k:=fun k z h=>qlz h
 generalize qcz t=ot at *
 refine qaa.vx [0,1,2,3,5,7,8,9,10,11,17,18,19,20,35] Tryz.func120 rfl Tryz.ntmps120 rfl rfl rfl (fun C hro hst=>?_)
 repeat' ((conv=>whnf);first|refine stv ?_|(show VC ..;refine xC (fun hg=>by first|exact h1|exact h2) ?_))
 conv=>whnf
 refine VL.each ot owAt (fun k=>[(5,.a (.ptr 0 0)),(7,.a (.ptr 1 0)),(8,.a (.ptr 2 0)),(9,.a (.fn gf gc)),(17,.a (.sl (ot.map owAt))),(18,.a (.v (.int .i64 ((ot.map owAt).length:Nat)))),(19,.a (.v (.int .i64 (k:Nat))))]) (fun k=>[.cell (Vu.at v),.cell (Ty.at (seeK (fun x=>fixH (g x)) t k)),.cell (Ty.at tz)]) (fun _=>True) ⟨rfl,rfl,rfl,rfl,rfl,rfl,rfl,trivial⟩ rfl trivial (by omega) ?_ ?_
 ·intro k z hz2 hd htk hlt _ hlt2 hix hw
  obtain⟨hk4,hzo⟩:=hget k z hz2
  match k,hk4 with
  | 0,_ =>
   repeat' ((conv=>whnf);first|(show VI ..;refine xI (fun _=>by exact hix) ?_)|refine stv ?_|(show VB ..;first|refine VB.tt (by exact hlt2) ?_|refine VB.mk (fun hc=>?_) fun hc=>?_)|(show VC ..;first|refine xC (fun hg=>by exact h5 z) ?_|(refine VC.cl _ rfl (fun _=>hgl z) hcl ?_))|fail)
   all_goals
    conv=>whnf
    refine⟨trivial,[.cell (owAt z)],⟨rfl,rfl,rfl,rfl,rfl,rfl,congrArg (fun z=>D.a (.v (.int .i64 z))) hw,trivial⟩,?_,by simp [nrE,nrD,nrA,hnr],rfl⟩
    show _=[Bx.cell _,Bx.cell (Ty.at (qfs (seeK (fun x=>fixH (g x)) t 0) 0 (fixH (g (qdy t 0))))),Bx.cell _]++_
    rw [←hzo,fixH,hc]
    rfl
  | 1,_ =>
   repeat' ((conv=>whnf);first|(show VI ..;refine xI (fun _=>by exact hix) ?_)|refine stv ?_|(show VB ..;first|refine VB.tt (by exact hlt2) ?_|refine VB.mk (fun hc=>?_) fun hc=>?_)|(show VC ..;first|refine xC (fun hg=>by exact h5 z) ?_|(refine VC.cl _ rfl (fun _=>hgl z) hcl ?_))|fail)
   all_goals
    conv=>whnf
    refine⟨trivial,[.cell (owAt z)],⟨rfl,rfl,rfl,rfl,rfl,rfl,congrArg (fun z=>D.a (.v (.int .i64 z))) hw,trivial⟩,?_,by simp [nrE,nrD,nrA,hnr],rfl⟩
    show _=[Bx.cell _,Bx.cell (Ty.at (qfs (seeK (fun x=>fixH (g x)) t 1) 1 (fixH (g (qdy t 1))))),Bx.cell _]++_
    rw [←hzo,fixH,hc]
    rfl
  | 2,_ =>
   repeat' ((conv=>whnf);first|(show VI ..;refine xI (fun _=>by exact hix) ?_)|refine stv ?_|(show VB ..;first|refine VB.tt (by exact hlt2) ?_|refine VB.mk (fun hc=>?_) fun hc=>?_)|(show VC ..;first|refine xC (fun hg=>by exact h5 z) ?_|(refine VC.cl _ rfl (fun _=>hgl z) hcl ?_))|fail)
   all_goals
    conv=>whnf
    refine⟨trivial,[.cell (owAt z)],⟨rfl,rfl,rfl,rfl,rfl,rfl,congrArg (fun z=>D.a (.v (.int .i64 z))) hw,trivial⟩,?_,by simp [nrE,nrD,nrA,hnr],rfl⟩
    show _=[Bx.cell _,Bx.cell (Ty.at (qfs (seeK (fun x=>fixH (g x)) t 2) 2 (fixH (g (qdy t 2))))),Bx.cell _]++_
    rw [←hzo,fixH,hc]
    rfl
  | 3,_ =>
   repeat' ((conv=>whnf);first|(show VI ..;refine xI (fun _=>by exact hix) ?_)|refine stv ?_|(show VB ..;first|refine VB.tt (by exact hlt2) ?_|refine VB.mk (fun hc=>?_) fun hc=>?_)|(show VC ..;first|refine xC (fun hg=>by exact h5 z) ?_|(refine VC.cl _ rfl (fun _=>hgl z) hcl ?_))|fail)
   all_goals
    conv=>whnf
    refine⟨trivial,[.cell (owAt z)],⟨rfl,rfl,rfl,rfl,rfl,rfl,congrArg (fun z=>D.a (.v (.int .i64 z))) hw,trivial⟩,?_,by simp [nrE,nrD,nrA,hnr],rfl⟩
    show _=[Bx.cell _,Bx.cell (Ty.at (qfs (seeK (fun x=>fixH (g x)) t 3) 3 (fixH (g (qdy t 3))))),Bx.cell _]++_
    rw [←hzo,fixH,hc]
    rfl
 ·intro _ hlt2
  repeat' ((conv=>whnf);first|refine stv ?_|(show VB ..;refine VB.ff (by exact hlt2) ?_))
  rfl
attribute [local irreducible] seeT
theorem paRead (p:List Cs) (v:Vu) (cls:List UInt8) (t:Ty) (hzz:qad Cs.sz p≤1048576):qaa Tryz.prog 119 [.a (.sl (p.map Cs.at)),.r (Vu.at v),.a (.v (.string (bs cls))),.r (Ty.at t)] (.r (Ty.at (qb5 p v cls t))):=by
 have h1:=paSee p v cls t hzz
 have h2:=qbk v.obj
 unfold qb5
 generalize seeT p v cls t=s at *
 generalize qar v.obj=u at *
 have e:(bif (bif (bif (bif v.mode==2 then s.kind==2 else false) then s.o0.1==8 else false) then !u else false) then { s with o0:=(5,0) } else s)=(bif (bif (bif (bif s.kind==2 then v.mode==2 else false) then !u else false) then s.o0.1==8 else false) then { s with o0:=(5,0) } else s):=by
  cases v.mode==2<;>cases s.kind==2<;>cases u<;>cases s.o0.1==8<;>rfl
 rw [e]
 refine qaa.vx [0,1,2,3,5,7,8,34] Tryz.func119 rfl Tryz.ntmps119 rfl rfl rfl (fun C hro hst=>?_)
 repeat' ((conv=>whnf);first|refine stv ?_|(show VB ..;refine VB.mk (fun hc=>?_) fun hc=>?_)|(show VC ..;refine xC (fun hg=>by first|exact h1|exact h2) ?_))
 ·rw [hc];rfl
 ·rw [hc];rfl
end
section
set_option maxRecDepth 100000
attribute [local irreducible] qam oneT seeT qb5 calM
theorem qm5 (w:Pc) (s:List UInt8) (h:w.ok):qaa Tryz.prog 25 [.r (Pc.at w),.a (.v (.string (bs s)))] (.r (Ty.at (qam w.c w.m s).1)):=by
 have h1:=qke w.c w.m s h.c h.a h.b
 generalize qam w.c w.m s=q at *
 refine qaa.vx [0,1,2,4,5] Tryz.func25 rfl Tryz.ntmps25 rfl rfl rfl (fun C hro hst=>?_)
 repeat' ((conv=>whnf);first|refine stv ?_|(show VC ..;refine xC (fun hg=>by exact h1) ?_))
 rfl
theorem qlx (w:Pc) (e:Ex) (h:w.ok) (he:e.sz≤1048576):qaa Tryz.prog 27 [.r (Pc.at w),.r (Ex.rw e)] (.r (Ty.at (oneT w.c w.m e).1)):=by
 have h1:=qjd w.c w.m e h.c h.a h.b he
 rw [Ex.at_rw] at h1
 generalize oneT w.c w.m e=q at *
 refine qaa.vx [0,1,2,3,4,5] Tryz.func27 rfl Tryz.ntmps27 rfl rfl rfl (fun C hro hst=>?_)
 repeat' ((conv=>whnf);first|refine stv ?_|(show VC ..;refine xC (fun hg=>by exact h1) ?_))
 rfl
def qbb (t f to_:Ty):List Du:=[⟨3,t,tz⟩,⟨1,f,to_⟩]
theorem qfx (t f u:Ty):qaa Tryz.prog 29 [.r (Ty.at t),.r (Ty.at f),.r (Ty.at u)] (.a (.sl ((qbb t f u).map Du.at))):=by
 refine qaa.vx [0,1,2,3,4,5,6] Tryz.func29 rfl Tryz.ntmps29 rfl rfl rfl (fun C hro hst=>?_)
 repeat' ((conv=>whnf);first|refine stv ?_|fail)
 rfl
end
section
set_option maxRecDepth 100000
def ouD (i:Nat):Option Nat→D
 | none=>.a .nl
 | some v=>.a (.own i v)
def ouB {α:Type} (n:Nat) (enc:α→List A) (q:List α):Option Nat→List Bx
 | none=>[]
 | some v=>[.arr v n (q.map enc)]
def qd1 (w:Pc) (s:St) (v:Vu) (f:Fd) (k:Nat):List Du :=
 (bif !f.m.pure_ then [⟨4,v.obj,tz⟩] else [])++((List.zipWith (fun (e:Ex) (b:Vr)=>qbb (seeT w.p v f.cls b.ty) (oneT w.c w.m e).1 (seeT w.p v f.cls b.ty)) s.args f.m.params).take k).flatten
theorem qjt {w:Pc} {s:St} {v:Vu} {f:Fd} {k:Nat} {e:Ex} {b:Vr} (h1:s.args[k]? = some e) (h2:f.m.params[k]? = some b):qd1 w s v f (k+1)=qd1 w s v f k++qbb (seeT w.p v f.cls b.ty) (oneT w.c w.m e).1 (seeT w.p v f.cls b.ty):=by
 unfold qd1
 rw [List.take_add_one,List.getElem?_zipWith,h1,h2]
 simp
theorem qf4 {w:Pc} {s:St} {v:Vu} {f:Fd}:∀{k:Nat},(qd1 w s v f k).length≤2*k+1
 | 0=>by unfold qd1;cases f.m.pure_<;>simp
 | k+1=>by
  have ih:=qf4 (w:=w) (s:=s) (v:=v) (f:=f) (k:=k)
  cases h1:(List.zipWith (fun (e:Ex) (b:Vr)=>qbb (seeT w.p v f.cls b.ty) (oneT w.c w.m e).1 (seeT w.p v f.cls b.ty)) s.args f.m.params)[k]? with
  | none => 
   unfold qd1 at ih ⊢
   rw [List.take_add_one,h1]
   simp only [Option.toList_none,List.append_nil]
   omega
  | some z =>
   have h2:=h1
   rw [List.getElem?_zipWith] at h2
   unfold qd1 at ih ⊢
   rw [List.take_add_one,h1]
   have hz:z.length=2:=by
    cases ha:s.args[k]?<;>cases hb:f.m.params[k]?<;>rw [ha,hb] at h2<;>simp at h2
    subst h2;rfl
   simp only [Option.toList_some,List.flatten_append,List.length_append,List.flatten_cons,List.flatten_nil,List.append_nil] at ih ⊢
   omega
def qe0 (w:Pc) (s:St) (v:Vu) (f:Fd):List Du :=
 qd1 w s v f s.args.length++bif s.x != [] then qbb (qb5 w.p v f.cls f.m.ret) (qb5 w.p v f.cls f.m.ret) (qam w.c w.m s.x).1 else []
structure WayC (n:Nat) (Q:Nat→List Du) where
 k:Nat
 q:List Du
 v:Option Nat
 hk:k≤n
 hq:q=Q k
 hv:v=none→q=[]
theorem callQ_0 {w:Pc} {s:St} {v:Vu} {f:Fd}:qd1 w s v f 0=bif !f.m.pure_ then [⟨4,v.obj,tz⟩] else []:=by
 unfold qd1;simp
theorem St.args_le (s:St):s.args.length≤s.sz:=by
 obtain⟨kind,x,y,n,t,e,args,body,els,at_⟩:=s
 have:=Ex.szs_len args
 show args.length≤St.sz _
 rw [St.sz]
 omega
attribute [local irreducible] qam oneT seeT qb5 calM qd1
theorem pd28call (w:Pc) (s:St) (v:Vu) (f:Fd) (h:w.ok) (hs:s.sz≤1048576) (hf:calM w.p w.c w.m s=some f) (hn:f.m.params.length=s.args.length):qaa Tryz.prog 31 [.r (Pc.at w),.r (St.rv s),.r (Vu.at v)] (.a (.sl ((qe0 w s v f).map Du.at))):=by
 have h1:=qjc w s h
 rw [hf,St.at_rv] at h1
 have hargs:∀e∈s.args,e.sz≤1048576:=fun e he=>Nat.le_trans (St.arg_sz s e he) hs
 have hal:s.args.length≤1048576:=Nat.le_trans (St.args_le s) hs
 have h2:=fun t=>qm1 w.p v f.cls t h.z
 have h3:=fun e he=>qlx w e h he
 have h4:=qob w.p v f.cls f.m.ret h.z
 have h5:=qm5 w s.x h
 unfold qe0
 refine qaa.vx [0,1,2,3,4,5,6,7,8,10,11,12,22,33,63] Tryz.func31 rfl Tryz.ntmps31 rfl rfl rfl (fun C hro hst=>?_)
 repeat' ((conv=>whnf);first|refine stv ?_|(show VB ..;refine VB.mk (fun hc=>?_) fun hc=>?_)|(show VC ..;refine xC (fun hg=>by exact h1) ?_))
 all_goals
  conv=>whnf
  have hq0:=callQ_0 (w:=w) (s:=s) (v:=v) (f:=f)
  have hc1:(!f.m.pure_)=_:=hc
  rw [hc1] at hq0
  first
  | (refine VL.gW (fun y:WayC s.args.length (qd1 w s v f)=>[(3,.a (.ptr 0 0)),(4,.a (.ptr 1 0)),(5,.a (.ptr 2 0)),(7,ouD 4 y.v),(8,.a (.ptr 3 0)),(10,.a (.v (.int .i64 (y.k:Nat))))]) (fun y=>[.cell (Pc.at w),.cell (St.rv s),.cell (Vu.at v),.cell (Fd.at f)]++ouB 23 Du.at y.q y.v) (fun y=>s.args.length-y.k) ⟨0,[⟨4,v.obj,tz⟩],some 0,Nat.zero_le _,hq0.symm,fun h=>by cases h⟩ ?_ ?_;exact Wk.agree ⟨rfl,rfl,rfl,rfl,rfl,rfl,trivial⟩)
  | (refine VL.gW (fun y:WayC s.args.length (qd1 w s v f)=>[(3,.a (.ptr 0 0)),(4,.a (.ptr 1 0)),(5,.a (.ptr 2 0)),(7,ouD 4 y.v),(8,.a (.ptr 3 0)),(10,.a (.v (.int .i64 (y.k:Nat))))]) (fun y=>[.cell (Pc.at w),.cell (St.rv s),.cell (Vu.at v),.cell (Fd.at f)]++ouB 23 Du.at y.q y.v) (fun y=>s.args.length-y.k) ⟨0,[],none,Nat.zero_le _,hq0.symm,fun _=>rfl⟩ ?_ ?_;exact Wk.agree ⟨rfl,rfl,rfl,rfl,rfl,rfl,trivial⟩)
  | fail
  rintro⟨k,q,ov,hk,hq,hv⟩
  dsimp only
  have hqn:=qf4 (w:=w) (s:=s) (v:=v) (f:=f) (k:=k)
  rw [←hq] at hqn
  by_cases hlt:k<s.args.length
  ·obtain⟨e,he⟩:∃e,s.args[k]? = some e:=⟨_,List.getElem?_eq_getElem hlt⟩
   obtain⟨b,hb⟩:∃b,f.m.params[k]? = some b:=⟨_,List.getElem?_eq_getElem (by omega)⟩
   have hix1:(s.args.map Ex.rw)[k]? = some (Ex.rw e):=by rw [List.getElem?_map,he];rfl
   have hix2:(f.m.params.map Vr.at)[k]? = some (Vr.at b):=by rw [List.getElem?_map,hb];rfl
   have hlt2:decide ((k:Int)<(((s.args.map Ex.rw).length:Nat):Int))=true:=decide_eq_true (by rw [List.length_map];omega)
   have hw1:IntKind.i64.wrap ((k:Nat)+1)=((k+1:Nat):Int):=qap (by omega)
   have hsn:=qjt (w:=w) (s:=s) (v:=v) (f:=f) he hb
   rw [←hq] at hsn
   have g1:=h2 b.ty
   have g2:=h3 e (hargs e (lm4 he))
   have g3:=qfx (seeT w.p v f.cls b.ty) (oneT w.c w.m e).1 (seeT w.p v f.cls b.ty)
   generalize seeT w.p v f.cls b.ty=ts at *
   generalize (oneT w.c w.m e).1=tv at *
   have hs2:(qbb ts tv ts).length=2:=rfl
   obtain⟨y,hy1,hy2,hy3,hy4⟩:∃y:WayC s.args.length (qd1 w s v f),s.args.length-y.k<s.args.length-k∧y.k=k+1∧y.q=q++qbb ts tv ts∧y.v=some (match ov with|none=>0|some ver=>ver+1):=⟨⟨k+1,q++qbb ts tv ts,some _,by omega,hsn.symm,fun h=>by cases h⟩,by dsimp only;omega,rfl,rfl,rfl⟩
   cases ov with
   | none =>
    obtain rfl:=hv rfl
    repeat' ((conv=>whnf);first|(show VD ..;refine VD.dl [99999] ?_)|(show VI ..;refine xI (fun _=>by first|exact hix1|exact hix2) ?_)|refine stv ?_|(show VB ..;refine VB.tt (by exact hlt2) ?_)|(show VCc ..;refine xO (fun hg=>by first|exact g1|exact g2|exact g3) ?_))
    conv=>whnf
    refine⟨y,hy1,?_⟩
    rw [hy2,hy3,hy4,←hw1]
    exact Wk.use [0,1,2,3,5] ⟨rfl,rfl,rfl,rfl,rfl,rfl,trivial⟩ ⟨by simp,rfl,rfl,rfl,rfl⟩ hst
   | some ver =>
    repeat' ((conv=>whnf);first|(show VD ..;refine VD.dl [99999] ?_)|(show VI ..;refine xI (fun _=>by first|exact hix1|exact hix2) ?_)|refine stv ?_|(show VB ..;refine VB.tt (by exact hlt2) ?_)|(show VCc ..;refine xO (fun hg=>by first|exact g1|exact g2|exact g3) ?_))
    conv=>whnf
    refine⟨y,hy1,?_⟩
    rw [hy2,hy3,hy4,←hw1]
    unfold ouB
    rw [List.map_append]
    exact Wk.use [0,1,2,3,4] ⟨rfl,rfl,rfl,rfl,rfl,rfl,trivial⟩ ⟨by simp,rfl,rfl,rfl,rfl⟩ hst
  ·obtain rfl:k=s.args.length:=by omega
   have hlt2:decide (((s.args.length:Nat):Int)<(((s.args.map Ex.rw).length:Nat):Int))=false:=decide_eq_false (by rw [List.length_map];omega)
   have g3:=qfx (qb5 w.p v f.cls f.m.ret) (qb5 w.p v f.cls f.m.ret) (qam w.c w.m s.x).1
   rw [←hq]
   generalize qb5 w.p v f.cls f.m.ret=tr at *
   generalize (qam w.c w.m s.x).1=tx at *
   have hs2:(qbb tr tr tx).length=2:=rfl
   cases ov with
   | none =>
    obtain rfl:=hv rfl
    repeat' ((conv=>whnf);first|(show VD ..;refine VD.dl [99999] ?_)|refine stv ?_|(show VB ..;first|refine VB.ff (by exact hlt2) ?_|refine VB.mk (fun hc=>?_) fun hc=>?_)|(show VC ..;refine xC (fun hg=>by exact h4) ?_)|(show VCc ..;refine xO (fun hg=>by first|exact h5|exact g3) ?_))
    all_goals
     rw [qao,show (ByteArray.mk #[]).toList=[] from qao []] at hc
     change (s.x != [])=_ at hc
     rw [hc]
     first|rfl|(rw [cond_true,List.map_append];done)|(rw [cond_false,List.append_nil];done)|fail
   | some ver =>
    repeat' ((conv=>whnf);first|(show VD ..;refine VD.dl [99999] ?_)|refine stv ?_|(show VB ..;first|refine VB.ff (by exact hlt2) ?_|refine VB.mk (fun hc=>?_) fun hc=>?_)|(show VC ..;refine xC (fun hg=>by exact h4) ?_)|(show VCc ..;refine xO (fun hg=>by first|exact h5|exact g3) ?_))
    all_goals
     rw [qao,show (ByteArray.mk #[]).toList=[] from qao []] at hc
     change (s.x != [])=_ at hc
     rw [hc]
     first|rfl|(rw [cond_true,List.map_append];done)|(rw [cond_false,List.append_nil];done)|fail
end
section
set_option maxRecDepth 100000
theorem qot {p:List Cs} {c:Cs} {m:Me} {s:St} (h:docI p c m s=0) (hk:(s.kind==4)=true):∃f,calM p c m s=some f∧f.m.params.length=s.args.length:=by
 have hk2:s.kind=4:=by simpa using hk
 have key:∀x,docK p c m s x=0→∃f,calM p c m s=some f∧f.m.params.length=s.args.length:=fun x hx=>by
  unfold docK at hx
  rw [if_pos hk] at hx
  unfold qix at hx
  split at hx
  ·rename_i h1
   rw [hx] at h1
   cases h1
  ·cases hc:calM p c m s with
   | none=>rw [hc] at hx;cases hx
   | some f =>
    rw [hc] at hx
    dsimp only at hx
    split at hx
    ·cases hx
    ·rename_i h2
     refine⟨f,rfl,?_⟩
     simp at h2
     omega
 unfold docI at h
 split at h
 ·cases h
 ·split at h
  ·rename_i h8;simp at h8;omega
  ·split at h
   ·exact key _ h
   ·split at h
    ·rename_i h3
     rw [h] at h3
     cases h3
    ·exact key _ h
def vuL (w:Pc) (mode:Int) (s:St):Vu:=⟨mode,(qam w.c w.m s.y).1,s.y==[116,104,105,115]⟩
def slL (w:Pc) (s:St):Fs:=(qa2 w.p (qam w.c w.m s.y).1.cls s.name).1
def qfb (w:Pc) (mode:Int) (s:St):List Du×Bool :=
 bif docI w.p w.c w.m s != 0 then ([],false) else
 bif s.kind==1 then ([⟨1,(oneT w.c w.m s.e).1,(qam w.c w.m s.x).1⟩],true) else
 bif s.kind==2 then (qbb (qb5 w.p (vuL w mode s) (slL w s).cls (slL w s).var.ty) (qb5 w.p (vuL w mode s) (slL w s).cls (slL w s).var.ty) (qam w.c w.m s.x).1,true) else
 bif s.kind==3 then (⟨4,(qam w.c w.m s.y).1,tz⟩::qbb (seeT w.p (vuL w mode s) (slL w s).cls (slL w s).var.ty) (oneT w.c w.m s.e).1 (seeT w.p (vuL w mode s) (slL w s).cls (slL w s).var.ty),true) else
 bif s.kind==4 then (qe0 w s (vuL w mode s) (fdS (calM w.p w.c w.m s)).1,true) else
 bif s.kind==5 then ([⟨5,s.ty,tz⟩,⟨1,s.ty,(qam w.c w.m s.x).1⟩],true) else
 bif s.kind==6 then ([⟨1,s.ty,(qam w.c w.m s.x).1⟩],true) else
 bif (bif s.kind==7 then qar (qam w.c w.m s.x).1 else false) then ([⟨1,(qam w.c w.m s.y).1,(qam w.c w.m s.x).1⟩],true) else
 bif s.kind==7 then ([⟨2,(qam w.c w.m s.y).1,(qam w.c w.m s.x).1⟩],true) else
 bif (bif s.kind==11 then s.e.kind != 0 else false) then ([⟨1,(oneT w.c w.m s.e).1,w.m.ret⟩],true) else ([],true)
attribute [local irreducible] qam oneT seeT qb5 calM qe0 docI qa2 qar
theorem pd28Line (w:Pc) (mode:Int) (s:St) (h:w.ok) (hs:s.sz≤1048576):qaa Tryz.prog 11 [.r (Pc.at w),.a (.v (.int .i64 mode)),.r (St.rv s)] (.t [.a (.sl ((qfb w mode s).1.map Du.at)),.a (.v (.bool (qfb w mode s).2))]):=by
 have he:s.e.sz≤1048576:=Nat.le_trans (St.e_sz s) hs
 have h0:=pr20Stmt w s h hs
 rw [St.at_rv] at h0
 have h1:=qm5 w s.x h
 have h2:=qm5 w s.y h
 have h3:=pr16Of w.p (qam w.c w.m s.y).1.cls s.name h.p h.f
 have h4:=qlx w s.e h he
 have h5:=qob w.p (vuL w mode s) (slL w s).cls (slL w s).var.ty h.z
 have h6:=qm1 w.p (vuL w mode s) (slL w s).cls (slL w s).var.ty h.z
 have h7:=qbg (qam w.c w.m s.x).1
 have h8:docI w.p w.c w.m s=0→(s.kind==4)=true→qaa Tryz.prog 31 [.r (Pc.at w),.r (St.rv s),.r (Vu.at (vuL w mode s))] (.a (.sl ((qe0 w s (vuL w mode s) (fdS (calM w.p w.c w.m s)).1).map Du.at))):=fun hd hk=>by
  obtain⟨f,hf,hn⟩:=qot hd hk
  have:=pd28call w s (vuL w mode s) f h hs hf hn
  rw [hf];exact this
 unfold qfb
 generalize hdoc:docI w.p w.c w.m s=dv at *
 unfold vuL slL at *
 generalize qam w.c w.m s.x=tx at *
 generalize qam w.c w.m s.y=ty at *
 generalize qa2 w.p ty.1.cls s.name=sf at *
 generalize oneT w.c w.m s.e=te at *
 generalize fdS (calM w.p w.c w.m s)=fc at *
 generalize qb5 w.p ⟨mode,ty.1,s.y==[116,104,105,115]⟩ sf.1.cls sf.1.var.ty=tr at *
 generalize seeT w.p ⟨mode,ty.1,s.y==[116,104,105,115]⟩ sf.1.cls sf.1.var.ty=ts at *
 have g1:=qfx tr tr tx.1
 have g2:=qfx ts te.1 ts
 refine qaa.vx [0,1,2,3,5,6,7,8,9,10,11,13,14,15,19,47,56,71,93,99,109,120,126,138] Tryz.func11 rfl Tryz.ntmps11 rfl rfl rfl (fun C hro hst=>?_)
 have hT:(s.y==[116,104,105,115])=((bs s.y).toList==(ByteArray.mk #[116,104,105,115]).toList):=by rw [qao,show (ByteArray.mk #[116,104,105,115]).toList=[116,104,105,115] from qao [116,104,105,115]]
 rw [hT] at h5 h6 h8
 repeat' ((conv=>whnf);first|refine stv ?_|(show VB ..;refine VB.mk (fun hc=>?_) fun hc=>?_)|(show VC ..;refine xC (fun hg=>by exact h0) ?_)|fail)
 ·rw [hc];rfl
 rw [hc,cond_false]
 have hd0:dv=0:=by simpa using hc
 conv=>whnf
 refine VD.dH [99999] 8 ?_
 repeat' ((conv=>whnf);first|(show VD ..;refine VD.dl [99999] ?_)|(show VY ..;refine .k ?_)|refine stv ?_|(show VB ..;refine VB.mk (fun hc=>?_) fun hc=>?_)|(show VC ..;refine xC (fun hg=>by first|exact h3|exact h5|exact h6|exact h7|exact h8 hd0 (by assumption)|exact g1) ?_)|(show VT ..;refine VT.mk ?_ ?_)|(show VCc ..;refine xO (fun hg=>by first|exact h1|exact h2|exact h4|exact g2) ?_))
 all_goals
  try simp only [hT]
  first
  | (simp only [*,cond_true,cond_false]<;>rfl)
  | (rename_i u7;rw [hc,cond_true] at u7;simp only [*,cond_true,cond_false]<;>rfl)
  | fail
end
end Go.Proofs.YthkojpnjdpbcgaaGreatDoor
