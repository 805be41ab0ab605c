/- What an owner is, seen from where it is read or written: the document's answer. Conditions: at most 2^20 of anything. -/
import Derived.Test.YthkojpnjdpbcgaaGreatDoorMl41
import Derived.Test.YthkojpnjdpbcgaaGreatDoorMl20
import Derived.Test.YthkojpnjdpbcgaaGreatDoorMl38
import Derived.Test.YthkojpnjdpbcgaaGreatDoorMl39
import Derived.Test.YthkojpnjdpbcgaaGreatDoorMl25
import Derived.Test.YthkojpnjdpbcgaaGreatDoorMl14
import Derived.Test.YthkojpnjdpbcgaaGreatDoorMl22
import Derived.Test.YthkojpnjdpbcgaaGreatDoorMl26
set_option linter.unusedVariables false
set_option maxRecDepth 100000
set_option maxHeartbeats 8000000
set_option linter.unusedSimpArgs false
namespace Go.Proofs.YthkojpnjdpbcgaaGreatDoor
open Go.RowKit
section
set_option maxRecDepth 100000
structure Vu where
 mode:Int
 obj:Ty
 this:Bool
def Vu.at (v:Vu):List A:=.v (.int .i64 v.mode)::(Ty.at v.obj++[.v (.bool v.this)])
def lookD (v:Vu) (o a:Int×Int) (r:List (Int×Int)):Int×Int :=
 bif v.this then putO o (a::r) else
 bif qan v.obj then (bif o.1==3 then putO o (a::r) else bif (bif o.1==4 then true else o.1==6) then o else (8,0)) else
 bif v.mode==1 then (bif o.1==1 then (8,0) else putO o (a::r)) else
 bif v.mode==2 then (bif (bif o.1==5 then true else o.1==6) then o else bif (bif (bif o.1==2 then true else false) then (bif a.1==1 then true else a.1==2) else false) then a else (8,0)) else (8,0)
attribute [local irreducible] putO qan
end
section
set_option maxRecDepth 100000
def qkg (t:Ty) (k:Nat) (x:Int×Int):Ty:=match k with
 | 0=>{ t with o0:=x }
 | 1=>{ t with o1:=x }
 | 2=>{ t with o2:=x }
 | _=>{ t with o3:=x }
def qhf (t:Ty) (k:Nat):Int×Int:=match k with
 | 0=>t.o0
 | 1=>t.o1
 | 2=>t.o2
 | _=>t.o3
def seeK (f:Int×Int→Int×Int) (t:Ty):Nat→Ty
 | 0=>t
 | k+1=>qkg (seeK f t k) k (f (qhf t k))
theorem ownsT_get {t:Ty} {k:Nat} {z:Int×Int} (h:(qdy t)[k]? = some z):k<4∧z=qhf t k:=by
 unfold qdy at h
 cases hk:t.kind==2 with
 | false=>rw [hk] at h;cases h
 | true =>
  rw [hk,cond_true,List.getElem?_take] at h
  split at h
  ·have h4:k<t.own.length:=(List.getElem?_eq_some_iff.1 h).1
   have h5:t.own.length=4:=rfl
   refine⟨by omega,?_⟩
   unfold Ty.own at h
   match k,h with
   | 0,h=>injection h with h;exact h.symm
   | 1,h=>injection h with h;exact h.symm
   | 2,h=>injection h with h;exact h.symm
   | 3,h=>injection h with h;exact h.symm
   | n+4,h=>cases h
  ·cases h
def fixH (x:Int×Int):Int×Int:=bif x.1==8 then (8,0) else x
def seenF (v:Vu) (r:List (Int×Int)×Bool) (z:Int×Int):Int×Int:=bif r.2 then fixH (lookD v z (r.1.headD (8,0)) r.1.tail) else (8,0)
def qas (p:List Cs) (v:Vu) (cls:List UInt8):List (Int×Int)×Bool:=qcw p v.obj.cls (qdy v.obj) cls (qa1 p v.obj.cls)
def seeT (p:List Cs) (v:Vu) (cls:List UInt8) (t:Ty):Ty:=seeK (seenF v (qas p v cls)) t (qdy t).length
theorem goD_ne {p:List Cs} {tn:List UInt8}:∀(ch:List Int) (l:List (Int×Int)),l≠[]→goD p tn ch l≠[]
 | [],l,h=>h
 | i::r,l,h=>by
  rw [goD]
  cases qf4 p i==tn with
  | true=>exact h
  | false=>exact goD_ne r _ (by unfold qkf;simp)
theorem qkn {p:List Cs} {v:Vu} {cls:List UInt8} (hz:∀c∈p,c.above.length<1048576):(qas p v cls).1.length≤1048576∧((qas p v cls).2=true→(qas p v cls).1≠[]):=by
 refine⟨qn0 hz (by have:=qg4 v.obj;omega),fun h=>?_⟩
 unfold qas at h ⊢
 by_cases hn:qdy v.obj=[]
 ·rw [hn,qid] at h;cases h
 ·unfold qcw at h ⊢
  cases hc:(bif !qcd p v.obj.cls cls then true else ((qdy v.obj).length:Int) != qa1 p v.obj.cls+1) with
  | true=>rw [hc] at h;cases h
  | false=>exact goD_ne _ _ hn
attribute [local irreducible] lookD qan qas qdy
def qca (p:List Cs) (v:Vu) (cls:List UInt8) (t:Ty):Ty :=
 bif (bif (bif (bif v.mode==2 then (seeT p v cls t).kind==2 else false) then (seeT p v cls t).o0.1==8 else false) then !qan v.obj else false) then { seeT p v cls t with o0:=(5,0) } else seeT p v cls t
attribute [local irreducible] seeT
end
section
set_option maxRecDepth 100000
theorem qks (o:Int×Int):qaa Tryz.prog 177 [.r (owAt o)] (.r (owAt (8,0))):=by
 refine qaa.vx [0,2] Tryz.func177 rfl Tryz.ntmps177 rfl rfl rfl (fun C hro hst=>?_)
 repeat' ((conv=>whnf);first|refine stv ?_|fail)
 rfl
theorem paMade1 (o:Int×Int) (l:List (Int×Int)) (hl:l.length≤1048576):qaa Tryz.prog 208 [.r (owAt o),.a (.ref [.sl (l.map owAt)] 0)] (.r (owAt (putO o l))):=by
 refine qaa.vx [0,1,2,3] Tryz.func208 rfl Tryz.ntmps208 rfl rfl rfl (fun C hro hst=>?_)
 repeat' ((conv=>whnf);first|refine stv ?_|(show VC ..;refine xC (fun hg=>by exact poPut o l hl) ?_))
 rfl
theorem paMade2 (o:Int×Int) (l:List (Int×Int)) (hl:l.length≤1048576):qaa Tryz.prog 210 [.r (owAt o),.a (.ref [.sl (l.map owAt)] 0)] (.r (owAt (bif o.1==1 then (8,0) else putO o l))):=by
 refine qaa.vx [0,1,2,3,6] Tryz.func210 rfl Tryz.ntmps210 rfl rfl rfl (fun C hro hst=>?_)
 repeat' ((conv=>whnf);first|refine stv ?_|(show VB ..;refine VB.mk (fun hc=>?_) fun hc=>?_)|(show VC ..;refine xC (fun hg=>by first|exact poPut o l hl|exact qks o) ?_))
 all_goals simp only [hc,cond_true,cond_false];rfl
theorem paThr1 (o:Int×Int) (l:List (Int×Int)) (put stay:List Int) (hl:l.length≤1048576) (hp:put.length≤4) (hs:stay.length≤4):qaa Tryz.prog 240 [.r (owAt o),.a (.ref [.sl (put.map inAt)] 0),.a (.ref [.sl (l.map owAt)] 0),.a (.ref [.sl (stay.map inAt)] 0)] (.r (owAt (bif put.any (fun x=>x==o.1) then putO o l else bif stay.any (fun x=>x==o.1) then o else (8,0)))):=by
 refine qaa.vx [0,1,2,3,4,5,6,14] Tryz.func240 rfl Tryz.ntmps240 rfl rfl rfl (fun C hro hst=>?_)
 repeat' ((conv=>whnf);first|refine stv ?_|(show VB ..;refine VB.mk (fun hc=>?_) fun hc=>?_)|(show VC ..;refine xC (fun hg=>by first|exact poPut o l hl|exact qks o|exact qjd put o.1 (by omega)|exact qjd stay o.1 (by omega)) ?_))
 all_goals simp only [*,cond_true,cond_false];rfl
theorem paThr (l:List (Int×Int)) (put stay:List Int):qaa Tryz.prog 209 [.a (.sl (l.map owAt)),.a (.sl (put.map inAt)),.a (.sl (stay.map inAt))] (.a (.fn 240 [.ref [.sl (put.map inAt)] 0,.ref [.sl (l.map owAt)] 0,.ref [.sl (stay.map inAt)] 0])):=by
 refine qaa.vx [0,1,2,3,4,5,6] Tryz.func209 rfl Tryz.ntmps209 rfl rfl rfl (fun C hro hst=>?_)
 conv=>whnf
 refine .go ?_
 repeat' ((conv=>whnf);first|(show VK ..;refine xK ?_)|fail)
 conv=>whnf
 refine .wk [(3,.a (.ref [.sl (l.map owAt)] 0)),(4,.a (.ref [.sl (put.map inAt)] 0)),(5,.a (.ref [.sl (stay.map inAt)] 0))] [.gone,.gone,.gone] ((Wk.frz (l:=[(3,.a (.ref [.sl (l.map owAt)] 0)),(4,.a (.ptr 1 0)),(5,.a (.ptr 2 0))]) 0 rfl rfl ⟨rfl,rfl,rfl,trivial⟩).trans ((Wk.frz (l:=[(3,.a (.ref [.sl (l.map owAt)] 0)),(4,.a (.ref [.sl (put.map inAt)] 0)),(5,.a (.ptr 2 0))]) 1 rfl rfl ⟨rfl,rfl,rfl,trivial⟩).trans (Wk.frz 2 rfl rfl ⟨rfl,rfl,rfl,trivial⟩))) ?_
 repeat' ((conv=>whnf);first|refine stv ?_|fail)
 rfl
end
section
set_option maxRecDepth 100000
theorem paThrN (l:List (Int×Int)) (stay:List Int):qaa Tryz.prog 209 [.a (.sl (l.map owAt)),.a .nl,.a (.sl (stay.map inAt))] (.a (.fn 240 [.ref [.sl []] 0,.ref [.sl (l.map owAt)] 0,.ref [.sl (stay.map inAt)] 0])):=by
 refine qaa.vx [0,1,2,3,4,5,6] Tryz.func209 rfl Tryz.ntmps209 rfl rfl rfl (fun C hro hst=>?_)
 conv=>whnf
 refine .go ?_
 repeat' ((conv=>whnf);first|(show VK ..;refine xK ?_)|fail)
 conv=>whnf
 refine .wk [(3,.a (.ref [.sl (l.map owAt)] 0)),(4,.a (.ref [.sl []] 0)),(5,.a (.ref [.sl (stay.map inAt)] 0))] [.gone,.gone,.gone] ((Wk.frz (l:=[(3,.a (.ref [.sl (l.map owAt)] 0)),(4,.a (.ptr 1 0)),(5,.a (.ptr 2 0))]) 0 rfl rfl ⟨rfl,rfl,rfl,trivial⟩).trans ((Wk.frz (l:=[(3,.a (.ref [.sl (l.map owAt)] 0)),(4,.a (.ref [.sl []] 0)),(5,.a (.ptr 2 0))]) 1 rfl rfl ⟨rfl,rfl,rfl,trivial⟩).trans (Wk.frz 2 rfl rfl ⟨rfl,rfl,rfl,trivial⟩))) ?_
 repeat' ((conv=>whnf);first|refine stv ?_|fail)
 rfl
def glF (v:Vu) (rb:Bool):FuncId:=bif !rb then 177 else bif v.this then 208 else bif qan v.obj then 240 else bif v.mode==1 then 210 else bif v.mode==2 then 240 else 177
def glC (v:Vu) (rl:List (Int×Int)) (rb:Bool):List A:=bif !rb then [] else bif v.this then [.ref [.sl (rl.map owAt)] 0] else bif qan v.obj then [.ref [.sl ([3].map inAt)] 0,.ref [.sl (rl.map owAt)] 0,.ref [.sl ([4,6].map inAt)] 0] else bif v.mode==1 then [.ref [.sl (rl.map owAt)] 0] else bif v.mode==2 then
 bif (bif (rl.headD (8,0)).1 != 1 then (rl.headD (8,0)).1 != 2 else false) then [.ref [.sl (([]:List Int).map inAt)] 0,.ref [.sl (rl.map owAt)] 0,.ref [.sl ([5,6].map inAt)] 0] else [.ref [.sl ([2].map inAt)] 0,.ref [.sl (rl.map owAt)] 0,.ref [.sl ([5,6].map inAt)] 0] else []
theorem glC_cl (v:Vu) (rl:List (Int×Int)) (rb:Bool):((glC v rl rb).map D.a).all clD=true:=by
 unfold glC
 cases rb<;>cases v.this<;>cases qan v.obj<;>cases v.mode==1<;>cases v.mode==2<;>cases (bif (rl.headD (8,0)).1 != 1 then (rl.headD (8,0)).1 != 2 else false)<;>rfl
theorem glC_nr (v:Vu) (rl:List (Int×Int)) (rb:Bool) (m:Nat):nrA.nrL m (glC v rl rb)=true:=by
 unfold glC
 cases rb<;>cases v.this<;>cases qan v.obj<;>cases v.mode==1<;>cases v.mode==2<;>cases (bif (rl.headD (8,0)).1 != 1 then (rl.headD (8,0)).1 != 2 else false)<;>rfl
def qkw (v:Vu) (rr:List (Int×Int)×Bool) (z:Int×Int):Int×Int:=bif rr.2 then lookD v z (rr.1.headD (8,0)) rr.1.tail else (8,0)
theorem seenF_P (v:Vu) (rr:List (Int×Int)×Bool) (z:Int×Int):seenF v rr z=fixH (qkw v rr z):=by
 unfold seenF qkw;cases rr.2<;>rfl
theorem glass_ok (v:Vu) (rl:List (Int×Int)) (rb:Bool) (hl:rl.length≤1048576) (hne:rb=true→rl≠[]) (z:Int×Int):qaa Tryz.prog (glF v rb) (.r (owAt z)::(glC v rl rb).map D.a) (.r (owAt (qkw v (rl,rb) z))):=by
 unfold glF glC qkw
 cases rb with
 | false=>exact qks z
 | true =>
  obtain⟨a,r,rfl⟩:∃a r,rl=a::r:=by cases rl with|nil=>exact absurd rfl (hne rfl)|cons a r=>exact⟨a,r,rfl⟩
  have hsym:∀i:Int,(i==z.1)=(z.1==i):=fun i=>by rw [Bool.eq_iff_iff,beq_iff_eq,beq_iff_eq];exact eq_comm
  unfold lookD
  rw [List.headD_cons,List.tail_cons]
  cases v.this with
  | true=>exact paMade1 z (a::r) hl
  | false =>
   simp only [Bool.not_true,cond_false,cond_true]
   cases qan v.obj with
   | true =>
    have:=paThr1 z (a::r) [3] [4,6] hl (by decide) (by decide)
    simp only [List.any_cons,List.any_nil,Bool.or_false,hsym] at this
    rw [show (z.1==4||z.1==6)=(bif z.1==4 then true else z.1==6) by cases z.1==4<;>rfl] at this
    exact this
   | false =>
    simp only [cond_false]
    cases v.mode==1 with
    | true=>exact paMade2 z (a::r) hl
    | false =>
     simp only [cond_false]
     cases v.mode==2 with
     | false=>exact qks z
     | true =>
      simp only [cond_true]
      have e56:(z.1==5||z.1==6)=(bif z.1==5 then true else z.1==6):=by cases z.1==5<;>rfl
      cases hq:(bif a.1 != 1 then a.1 != 2 else false) with
      | true =>
       have:=paThr1 z (a::r) [] [5,6] hl (by decide) (by decide)
       simp only [List.any_cons,List.any_nil,Bool.or_false,hsym] at this
       rw [e56] at this
       have hq2:(bif a.1==1 then true else a.1==2)=false:=by
        simp only [bne] at hq
        cases h1:a.1==1<;>rw [h1] at hq<;>simp_all
       rw [hq2]
       rw [show (bif (bif z.1==2 then true else false) then false else false)=false by cases z.1==2<;>rfl,cond_false]
       exact this
      | false =>
       have:=paThr1 z (a::r) [2] [5,6] hl (by decide) (by decide)
       simp only [List.any_cons,List.any_nil,Bool.or_false,hsym] at this
       rw [e56] at this
       have hq2:(bif a.1==1 then true else a.1==2)=true:=by
        simp only [bne] at hq
        cases h1:a.1==1<;>rw [h1] at hq<;>simp_all
       rw [hq2]
       simp only [cond_false]
       have e2:(bif (bif z.1==5 then true else z.1==6) then z else bif (bif (bif z.1==2 then true else false) then true else false) then a else (8,0))=(bif z.1==2 then putO z (a::r) else bif (bif z.1==5 then true else z.1==6) then z else (8,0)):=by
        cases h2:z.1==2 with
        | false=>rfl
        | true =>
         have:z.1=2:=by simpa using h2
         unfold putO
         rw [this];rfl
       rw [e2]
       exact this
end
section
set_option maxRecDepth 100000
attribute [local irreducible] lookD qan qas qdy qkw
theorem paMade (p:List Cs) (v:Vu) (cls:List UInt8) (hzz:qaf Cs.sz p≤1048576):qaa Tryz.prog 176 [.a (.sl (p.map Cs.at)),.r (Vu.at v),.a (.v (.string (bs cls)))] (.a (.fn (glF v (qas p v cls).2) (glC v (qas p v cls).1 (qas p v cls).2))):=by
 have hlen:=qav Cs.sz_pos p
 have hz:∀c∈p,c.above.length<1048576:=fun c hc=>(qhn hc hzz).1
 have hwr:=qmd (p:=p) v.obj.cls fun c hc=>by have:=(qhn hc hzz).2;omega
 have ho1:=qg4 v.obj
 have h1:=qm1 v.obj
 have h3:=pRaise p v.obj.cls (qdy v.obj) cls (by omega) (by omega) hz hwr
 have hro:=qkn (v:=v) (cls:=cls) hz
 rw [show qcw p v.obj.cls (qdy v.obj) cls (qa1 p v.obj.cls)=qas p v cls by unfold qas;rfl] at h3
 generalize qas p v cls=rr at *
 generalize qdy v.obj=vo at *
 obtain⟨rl,rb⟩:=rr
 dsimp only at *
 have h2:=qbd v.obj
 have h5:=paThr rl [3] [4,6]
 have h6:=paThr rl [2] [5,6]
 have h7:=paThrN rl [5,6]
 unfold glF glC
 generalize qan v.obj=u at *
 refine qaa.vx [0,1,2,4,6,7,8,9,22,25,29,37,42,58] Tryz.func176 rfl Tryz.ntmps176 rfl rfl rfl (fun C hro2 hst=>?_)
 conv=>whnf
 refine .go ?_
 repeat' ((conv=>whnf);first|(show VK ..;refine xK ?_)|fail)
 conv=>whnf
 refine .go ?_
 repeat' ((conv=>whnf);first|(show VD ..;refine VD.dl [99999] ?_)|(show VK ..;refine xK ?_)|(show VCc ..;refine xO (fun hg=>by first|exact h1|exact h3) ?_)|(show VG ..;refine xG ?_)|(show VZ ..;refine .s ?_)|fail)
 conv=>whnf
 cases rb with
 | false =>
  repeat' ((conv=>whnf);first|refine stv ?_|(show VB ..;refine VB.tt (by rfl) ?_))
  rfl
 | true =>
  obtain⟨a,r,rfl⟩:∃a r,rl=a::r:=by cases rl with|nil=>exact absurd rfl (hro.2 rfl)|cons a r=>exact⟨a,r,rfl⟩
  refine .wk [(4,.a (.ptr 0 0)),(7,.a (.ref [.sl ((a::r).map owAt)] 0)),(8,.a (.v (.bool true)))] [.cell (Vu.at v),.gone] (Wk.frz 1 rfl rfl ⟨rfl,rfl,rfl,trivial⟩) ?_
  repeat' ((conv=>whnf);first|refine stv ?_|(show VB ..;first|refine VB.ff (by rfl) ?_|refine VB.mk (fun hc=>?_) fun hc=>?_)|(show VC ..;refine xC (fun hg=>by first|exact h2|exact h5|exact h6|exact h7) ?_))
  all_goals simp only [*,List.headD_cons,Bool.not_true,cond_true,cond_false];rfl
theorem paSee (p:List Cs) (v:Vu) (cls:List UInt8) (t:Ty) (hzz:qaf Cs.sz p≤1048576):qaa Tryz.prog 120 [.a (.sl (p.map Cs.at)),.r (Vu.at v),.a (.v (.string (bs cls))),.r (Ty.at t)] (.r (Ty.at (seeT p v cls t))):=by
 have hz:∀c∈p,c.above.length<1048576:=fun c hc=>(qhn hc hzz).1
 have ho2:=qg4 t
 have h1:=paMade p v cls hzz
 have h2:=qm1 t
 have h5:=qks
 have hro:=qkn (v:=v) (cls:=cls) hz
 unfold seeT
 have hgl:∀z,qaa Tryz.prog (glF v (qas p v cls).2) (.r (owAt z)::(glC v (qas p v cls).1 (qas p v cls).2).map D.a) (.r (owAt (qkw v (qas p v cls) z))):=glass_ok v _ _ hro.1 hro.2
 have hcl:=glC_cl v (qas p v cls).1 (qas p v cls).2
 have hnr:=glC_nr v (qas p v cls).1 (qas p v cls).2 3
 rw [show seenF v (qas p v cls)=fun z=>fixH (qkw v (qas p v cls) z) from funext fun z=>seenF_P v _ z]
 generalize qkw v (qas p v cls)=g at *
 generalize glF v (qas p v cls).2=gf at *
 generalize glC v (qas p v cls).1 (qas p v cls).2=gc at *
 have hget:∀k z,(qdy t)[k]? = some z→k<4∧z=qhf t k:=fun k z h=>ownsT_get h
 generalize qdy t=ot at *
 refine qaa.vx [0,1,2,3,5,7,8,9,10,11,17,18,19,20,35] Tryz.func120 rfl Tryz.ntmps120 rfl rfl rfl (fun C hro hst=>?_)
 repeat' ((conv=>whnf);first|refine stv ?_|(show VC ..;refine xC (fun hg=>by first|exact h1|exact h2) ?_))
 conv=>whnf
 refine VL.each ot owAt (fun k=>[(5,.a (.ptr 0 0)),(7,.a (.ptr 1 0)),(8,.a (.ptr 2 0)),(9,.a (.fn gf gc)),(17,.a (.sl (ot.map owAt))),(18,.a (.v (.int .i64 ((ot.map owAt).length:Nat)))),(19,.a (.v (.int .i64 (k:Nat))))]) (fun k=>[.cell (Vu.at v),.cell (Ty.at (seeK (fun x=>fixH (g x)) t k)),.cell (Ty.at tz)]) (fun _=>True) ⟨rfl,rfl,rfl,rfl,rfl,rfl,rfl,trivial⟩ rfl trivial (by omega) ?_ ?_
 ·intro k z hz2 hd htk hlt _ hlt2 hix hw
  obtain⟨hk4,hzo⟩:=hget k z hz2
  match k,hk4 with
  | 0,_ =>
   repeat' ((conv=>whnf);first|(show VI ..;refine xI (fun _=>by exact hix) ?_)|refine stv ?_|(show VB ..;first|refine VB.tt (by exact hlt2) ?_|refine VB.mk (fun hc=>?_) fun hc=>?_)|(show VC ..;first|refine xC (fun hg=>by exact h5 z) ?_|(refine VC.cl _ rfl (fun _=>hgl z) hcl ?_))|fail)
   all_goals
    conv=>whnf
    refine⟨trivial,[.cell (owAt z)],⟨rfl,rfl,rfl,rfl,rfl,rfl,congrArg (fun z=>D.a (.v (.int .i64 z))) hw,trivial⟩,?_,by simp [nrE,nrD,nrA,hnr],rfl⟩
    show _=[Bx.cell _,Bx.cell (Ty.at (qkg (seeK (fun x=>fixH (g x)) t 0) 0 (fixH (g (qhf t 0))))),Bx.cell _]++_
    rw [←hzo,fixH,hc]
    rfl
  | 1,_ =>
   repeat' ((conv=>whnf);first|(show VI ..;refine xI (fun _=>by exact hix) ?_)|refine stv ?_|(show VB ..;first|refine VB.tt (by exact hlt2) ?_|refine VB.mk (fun hc=>?_) fun hc=>?_)|(show VC ..;first|refine xC (fun hg=>by exact h5 z) ?_|(refine VC.cl _ rfl (fun _=>hgl z) hcl ?_))|fail)
   all_goals
    conv=>whnf
    refine⟨trivial,[.cell (owAt z)],⟨rfl,rfl,rfl,rfl,rfl,rfl,congrArg (fun z=>D.a (.v (.int .i64 z))) hw,trivial⟩,?_,by simp [nrE,nrD,nrA,hnr],rfl⟩
    show _=[Bx.cell _,Bx.cell (Ty.at (qkg (seeK (fun x=>fixH (g x)) t 1) 1 (fixH (g (qhf t 1))))),Bx.cell _]++_
    rw [←hzo,fixH,hc]
    rfl
  | 2,_ =>
   repeat' ((conv=>whnf);first|(show VI ..;refine xI (fun _=>by exact hix) ?_)|refine stv ?_|(show VB ..;first|refine VB.tt (by exact hlt2) ?_|refine VB.mk (fun hc=>?_) fun hc=>?_)|(show VC ..;first|refine xC (fun hg=>by exact h5 z) ?_|(refine VC.cl _ rfl (fun _=>hgl z) hcl ?_))|fail)
   all_goals
    conv=>whnf
    refine⟨trivial,[.cell (owAt z)],⟨rfl,rfl,rfl,rfl,rfl,rfl,congrArg (fun z=>D.a (.v (.int .i64 z))) hw,trivial⟩,?_,by simp [nrE,nrD,nrA,hnr],rfl⟩
    show _=[Bx.cell _,Bx.cell (Ty.at (qkg (seeK (fun x=>fixH (g x)) t 2) 2 (fixH (g (qhf t 2))))),Bx.cell _]++_
    rw [←hzo,fixH,hc]
    rfl
  | 3,_ =>
   repeat' ((conv=>whnf);first|(show VI ..;refine xI (fun _=>by exact hix) ?_)|refine stv ?_|(show VB ..;first|refine VB.tt (by exact hlt2) ?_|refine VB.mk (fun hc=>?_) fun hc=>?_)|(show VC ..;first|refine xC (fun hg=>by exact h5 z) ?_|(refine VC.cl _ rfl (fun _=>hgl z) hcl ?_))|fail)
   all_goals
    conv=>whnf
    refine⟨trivial,[.cell (owAt z)],⟨rfl,rfl,rfl,rfl,rfl,rfl,congrArg (fun z=>D.a (.v (.int .i64 z))) hw,trivial⟩,?_,by simp [nrE,nrD,nrA,hnr],rfl⟩
    show _=[Bx.cell _,Bx.cell (Ty.at (qkg (seeK (fun x=>fixH (g x)) t 3) 3 (fixH (g (qhf t 3))))),Bx.cell _]++_
    rw [←hzo,fixH,hc]
    rfl
 ·intro _ hlt2
  repeat' ((conv=>whnf);first|refine stv ?_|(show VB ..;refine VB.ff (by exact hlt2) ?_))
  rfl
attribute [local irreducible] seeT
theorem paRead (p:List Cs) (v:Vu) (cls:List UInt8) (t:Ty) (hzz:qaf Cs.sz p≤1048576):qaa Tryz.prog 119 [.a (.sl (p.map Cs.at)),.r (Vu.at v),.a (.v (.string (bs cls))),.r (Ty.at t)] (.r (Ty.at (qca p v cls t))):=by
 have h1:=paSee p v cls t hzz
 have h2:=qbd v.obj
 unfold qca
 generalize seeT p v cls t=s at *
 generalize qan v.obj=u at *
 have e:(bif (bif (bif (bif v.mode==2 then s.kind==2 else false) then s.o0.1==8 else false) then !u else false) then { s with o0:=(5,0) } else s)=(bif (bif (bif (bif s.kind==2 then v.mode==2 else false) then !u else false) then s.o0.1==8 else false) then { s with o0:=(5,0) } else s):=by
  cases v.mode==2<;>cases s.kind==2<;>cases u<;>cases s.o0.1==8<;>rfl
 rw [e]
 refine qaa.vx [0,1,2,3,5,7,8,34] Tryz.func119 rfl Tryz.ntmps119 rfl rfl rfl (fun C hro hst=>?_)
 repeat' ((conv=>whnf);first|refine stv ?_|(show VB ..;refine VB.mk (fun hc=>?_) fun hc=>?_)|(show VC ..;refine xC (fun hg=>by first|exact h1|exact h2) ?_))
 ·rw [hc];rfl
 ·rw [hc];rfl
end
section
theorem St.arg_sz (s:St):∀e∈s.args,e.sz≤s.sz:=by
 obtain⟨k,x,y,nm,ty,e,ar,bo,el,at_⟩:=s
 intro e1 he
 have h1:∀(l:List Ex) (e1:Ex),e1∈l→e1.sz≤Ex.szs l:=by
  intro l
  induction l with
  | nil=>intro e1 h;cases h
  | cons a r ih =>
   intro e1 h
   rw [Ex.szs]
   rcases List.mem_cons.1 h with rfl|h
   ·omega
   ·have:=ih e1 h;omega
 have:=h1 ar e1 he
 rw [St.sz];omega
def calM (p:List Cs) (c:Cs) (m:Me) (s:St):Option Fd:=if ((objT c m s).2 != 0||s.kind != 4)=true then none else qd6 p (objT c m s).1.cls s.name
def qh4 (p:List Cs) (c:Cs) (m:Me):List Ex→List Vr→Int
 | e::r,v::t=>if (qgr p c m e v.ty != 0)=true then qgr p c m e v.ty else qh4 p c m r t
 | _,_=>0
def qlb (p:List Cs) (c:Cs) (m:Me) (s:St) (x:Ty):Int :=
 if ((objT c m s).2 != 0)=true then (objT c m s).2 else match calM p c m s with
  | none=>12
  | some f=>if ((f.m.params.length:Int) != (s.args.length:Int))=true then 16 else if (qh4 p c m s.args f.m.params != 0)=true then qh4 p c m s.args f.m.params else if (s.x==[])=true then 0 else backI p f.m.ret x
end
section
theorem qfy {p:List Cs} {s:List UInt8}:∀{l:List Int} {f:Fd},qcr p s l=some f→∃c∈p,f.m∈c.methods
 | [],_,h=>by cases h
 | i::r,f,h=>by
  rw [qcr] at h
  cases hi:p[i.toNat]? with
  | none=>rw [hi] at h;exact qfy (l:=r) h
  | some c =>
   rw [hi,Option.bind_some] at h
   cases ho:ownM c s with
   | none=>rw [ho] at h;exact qfy (l:=r) h
   | some m =>
    rw [ho] at h
    cases h
    exact⟨c,lm4 hi,List.mem_of_find?_eq_some ho⟩
def docK (p:List Cs) (c:Cs) (m:Me) (s:St) (x:Ty):Int :=
 if (s.kind==4)=true then qlb p c m s x else if (s.kind==2||s.kind==3)=true then qhi p c m s x else if (s.kind==5||s.kind==6)=true then madeI p c m s x
 else if (s.kind==7)=true then (if ((varT m s.y).2 != 0)=true then (varT m s.y).2 else qfe p (varT m s.y).1 x)
 else if ((oneT c m s.e).2 != 0)=true then (oneT c m s.e).2 else qc2 p (oneT c m s.e).1 x
def docI (p:List Cs) (c:Cs) (m:Me) (s:St):Int :=
 if (!s.rightB (c.params.length:Int))=true then 28 else if decide (s.kind≥8)=true then qk7 p c m s
 else if (s.x==[])=true then docK p c m s Ty.zero else if ((varT m s.x).2 != 0)=true then (varT m s.x).2 else docK p c m s (varT m s.x).1
end
section
set_option maxRecDepth 100000
attribute [local irreducible] qak oneT seeT qca calM
def qbf (t f to_:Ty):List Du:=[⟨3,t,tz⟩,⟨1,f,to_⟩]
end
section
set_option maxRecDepth 100000
def ouB {α:Type} (n:Nat) (enc:α→List A) (q:List α):Option Nat→List Bx
 | none=>[]
 | some v=>[.arr v n (q.map enc)]
def qdk (w:Pc) (s:St) (v:Vu) (f:Fd) (k:Nat):List Du :=
 (bif !f.m.pure_ then [⟨4,v.obj,tz⟩] else [])++((List.zipWith (fun (e:Ex) (b:Vr)=>qbf (seeT w.p v f.cls b.ty) (oneT w.c w.m e).1 (seeT w.p v f.cls b.ty)) s.args f.m.params).take k).flatten
theorem qoa {w:Pc} {s:St} {v:Vu} {f:Fd} {k:Nat} {e:Ex} {b:Vr} (h1:s.args[k]? = some e) (h2:f.m.params[k]? = some b):qdk w s v f (k+1)=qdk w s v f k++qbf (seeT w.p v f.cls b.ty) (oneT w.c w.m e).1 (seeT w.p v f.cls b.ty):=by
 unfold qdk
 rw [List.take_add_one,List.getElem?_zipWith,h1,h2]
 simp
theorem qhr {w:Pc} {s:St} {v:Vu} {f:Fd}:∀{k:Nat},(qdk w s v f k).length≤2*k+1
 | 0=>by unfold qdk;cases f.m.pure_<;>simp
 | k+1=>by
  have ih:=qhr (w:=w) (s:=s) (v:=v) (f:=f) (k:=k)
  cases h1:(List.zipWith (fun (e:Ex) (b:Vr)=>qbf (seeT w.p v f.cls b.ty) (oneT w.c w.m e).1 (seeT w.p v f.cls b.ty)) s.args f.m.params)[k]? with
  | none => 
   unfold qdk at ih ⊢
   rw [List.take_add_one,h1]
   simp only [Option.toList_none,List.append_nil]
   omega
  | some z =>
   have h2:=h1
   rw [List.getElem?_zipWith] at h2
   unfold qdk at ih ⊢
   rw [List.take_add_one,h1]
   have hz:z.length=2:=by
    cases ha:s.args[k]?<;>cases hb:f.m.params[k]?<;>rw [ha,hb] at h2<;>simp at h2
    subst h2;rfl
   simp only [Option.toList_some,List.flatten_append,List.length_append,List.flatten_cons,List.flatten_nil,List.append_nil] at ih ⊢
   omega
def qej (w:Pc) (s:St) (v:Vu) (f:Fd):List Du :=
 qdk w s v f s.args.length++bif s.x != [] then qbf (qca w.p v f.cls f.m.ret) (qca w.p v f.cls f.m.ret) (qak w.c w.m s.x).1 else []
theorem callQ_0 {w:Pc} {s:St} {v:Vu} {f:Fd}:qdk w s v f 0=bif !f.m.pure_ then [⟨4,v.obj,tz⟩] else []:=by
 unfold qdk;simp
theorem St.args_le (s:St):s.args.length≤s.sz:=by
 obtain⟨kind,x,y,n,t,e,args,body,els,at_⟩:=s
 have:=Ex.szs_len args
 show args.length≤St.sz _
 rw [St.sz]
 omega
attribute [local irreducible] qak oneT seeT qca calM qdk
end
section
set_option maxRecDepth 100000
theorem doc_call {p:List Cs} {c:Cs} {m:Me} {s:St} (h:docI p c m s=0) (hk:(s.kind==4)=true):∃f,calM p c m s=some f∧f.m.params.length=s.args.length:=by
 have hk2:s.kind=4:=by simpa using hk
 have key:∀x,docK p c m s x=0→∃f,calM p c m s=some f∧f.m.params.length=s.args.length:=fun x hx=>by
  unfold docK at hx
  rw [if_pos hk] at hx
  unfold qlb at hx
  split at hx
  ·rename_i h1
   rw [hx] at h1
   cases h1
  ·cases hc:calM p c m s with
   | none=>rw [hc] at hx;cases hx
   | some f =>
    rw [hc] at hx
    dsimp only at hx
    split at hx
    ·cases hx
    ·rename_i h2
     refine⟨f,rfl,?_⟩
     simp at h2
     omega
 unfold docI at h
 split at h
 ·cases h
 ·split at h
  ·rename_i h8;simp at h8;omega
  ·split at h
   ·exact key _ h
   ·split at h
    ·rename_i h3
     rw [h] at h3
     cases h3
    ·exact key _ h
def vuL (w:Pc) (mode:Int) (s:St):Vu:=⟨mode,(qak w.c w.m s.y).1,s.y==[116,104,105,115]⟩
def slL (w:Pc) (s:St):Fs:=(qa4 w.p (qak w.c w.m s.y).1.cls s.name).1
def qbo (w:Pc) (mode:Int) (s:St):List Du×Bool :=
 bif docI w.p w.c w.m s != 0 then ([],false) else
 bif s.kind==1 then ([⟨1,(oneT w.c w.m s.e).1,(qak w.c w.m s.x).1⟩],true) else
 bif s.kind==2 then (qbf (qca w.p (vuL w mode s) (slL w s).cls (slL w s).var.ty) (qca w.p (vuL w mode s) (slL w s).cls (slL w s).var.ty) (qak w.c w.m s.x).1,true) else
 bif s.kind==3 then (⟨4,(qak w.c w.m s.y).1,tz⟩::qbf (seeT w.p (vuL w mode s) (slL w s).cls (slL w s).var.ty) (oneT w.c w.m s.e).1 (seeT w.p (vuL w mode s) (slL w s).cls (slL w s).var.ty),true) else
 bif s.kind==4 then (qej w s (vuL w mode s) (fdS (calM w.p w.c w.m s)).1,true) else
 bif s.kind==5 then ([⟨5,s.ty,tz⟩,⟨1,s.ty,(qak w.c w.m s.x).1⟩],true) else
 bif s.kind==6 then ([⟨1,s.ty,(qak w.c w.m s.x).1⟩],true) else
 bif (bif s.kind==7 then qan (qak w.c w.m s.x).1 else false) then ([⟨1,(qak w.c w.m s.y).1,(qak w.c w.m s.x).1⟩],true) else
 bif s.kind==7 then ([⟨2,(qak w.c w.m s.y).1,(qak w.c w.m s.x).1⟩],true) else
 bif (bif s.kind==11 then s.e.kind != 0 else false) then ([⟨1,(oneT w.c w.m s.e).1,w.m.ret⟩],true) else ([],true)
attribute [local irreducible] qak oneT seeT qca calM qej docI qa4 qan
end
section
end
section
end
section
set_option maxRecDepth 100000
theorem qk9 {p:List Cs} {c:Cs} {m:Me} {s:St} (h:docI p c m s=0):s.onlyB=true∧s.namesB (c.params.length:Int)=true:=by
 unfold docI at h
 split at h
 ·cases h
 ·rename_i h1
  have h2:s.rightB (c.params.length:Int)=true:=by simpa using h1
  unfold St.rightB at h2
  rw [St.form_eq] at h2
  simp only [Bool.and_eq_true,Bool.not_eq_true',Bool.or_eq_false_iff,Bool.not_eq_false'] at h2
  exact⟨h2.1.1.1.1,h2.1.1.1.2⟩
theorem only_x {s:St} (h:s.onlyB=true) (hx:s.x≠[]):s.kind=1∨s.kind=2∨s.kind=4∨s.kind=5∨s.kind=6∨s.kind=7:=by
 unfold St.onlyB at h
 simp only [Bool.and_eq_true,beq_iff_eq] at h
 have h1:=h.1.1.1.1.1.2
 unfold St.blank at h1
 dsimp only at h1
 split at h1
 ·assumption
 ·exact absurd h1 hx
theorem names_n {s:St} {p:Int} (h:s.namesB p=true) (hn:s.name=[]):s.kind≠2∧s.kind≠3∧s.kind≠4:=by
 unfold St.namesB at h
 rw [hn] at h
 simp only [Bool.and_eq_true,Bool.or_eq_true,bne_iff_ne] at h
 rcases h.1.2 with h1|h1
 ·exact absurd h1 (by decide)
 ·exact⟨h1.1.1,h1.1.2,h1.2⟩
theorem qob (w:Pc) (s:St) (v v':Vu) (f:Fd) (k:Nat):(qdk w s v f k).map Du.kind=(qdk w s v' f k).map Du.kind:=by
 unfold qdk
 rw [List.map_append,List.map_append]
 congr 1
 ·cases f.m.pure_<;>rfl
 ·rw [List.map_flatten,List.map_flatten,List.map_take,List.map_take,List.map_zipWith,List.map_zipWith]
  rfl
attribute [local irreducible] qak oneT seeT qca calM docI qa4 qan
theorem line_kind (w:Pc) (m1 m2:Int) (s:St):(qbo w m1 s).2=(qbo w m2 s).2∧(qbo w m1 s).1.map Du.kind=(qbo w m2 s).1.map Du.kind:=by
 unfold qbo
 cases docI w.p w.c w.m s != 0 with
 | true=>exact⟨rfl,rfl⟩
 | false =>
 cases s.kind==1 with
 | true=>exact⟨rfl,rfl⟩
 | false =>
 cases s.kind==2 with
 | true=>exact⟨rfl,rfl⟩
 | false =>
 cases s.kind==3 with
 | true=>exact⟨rfl,rfl⟩
 | false =>
 cases s.kind==4 with
 | true =>
  refine⟨rfl,?_⟩
  simp only [cond_true,cond_false]
  unfold qej
  rw [List.map_append,List.map_append,qob w s _ (vuL w m2 s)]
  congr 1
  cases s.x != []<;>rfl
 | false=>exact⟨rfl,rfl⟩
theorem line_no {w:Pc} {m1:Int} {s:St} (h:(qbo w m1 s).2=false):(qbo w m1 s).1=[]:=by
 unfold qbo at h ⊢
 cases hd:docI w.p w.c w.m s != 0 with
 | true=>rfl
 | false =>
  rw [hd] at h
  revert h
  cases s.kind==1<;>cases s.kind==2<;>cases s.kind==3<;>cases s.kind==4<;>cases s.kind==5<;>cases s.kind==6<;>cases s.kind==7<;>cases qan (qak w.c w.m s.x).1<;>cases s.kind==11<;>cases s.e.kind != 0<;>intro h<;>cases h
theorem qnc {w:Pc} {m1:Int} {s:St} (h:(qbo w m1 s).2=true):docI w.p w.c w.m s=0:=by
 unfold qbo at h
 cases hd:docI w.p w.c w.m s != 0 with
 | true=>rw [hd] at h;cases h
 | false=>simpa using hd
theorem line_mode {w:Pc} {m1 m2:Int} {s:St} (h:(qbo w m1 s).2=true) (hn:s.name=[]):qbo w m1 s=qbo w m2 s:=by
 obtain⟨h2,h3,h4⟩:=names_n (qk9 (qnc h)).2 hn
 unfold qbo
 rw [show (s.kind==2)=false from beq_false_of_ne h2,show (s.kind==3)=false from beq_false_of_ne h3,show (s.kind==4)=false from beq_false_of_ne h4]
 rfl
theorem line_none {w:Pc} {m1:Int} {s:St} (h:s.kind=8∨s.kind=9∨s.kind=10):(qbo w m1 s).1=[]:=by
 unfold qbo
 cases docI w.p w.c w.m s != 0 with
 | true=>rfl
 | false=>rcases h with h|h|h<;>rw [h]<;>rfl
theorem line_last {w:Pc} {m1:Int} {s:St} (h:(qbo w m1 s).2=true) (hx:s.x≠[]):∃l d,(qbo w m1 s).1=l++[d]∧d.b=(qak w.c w.m s.x).1∧(d.kind=1∨d.kind=2):=by
 have hd:=qnc h
 have hk:=only_x (qk9 hd).1 hx
 have hx2:(s.x != [])=true:=by simpa using hx
 unfold qbo
 rw [hd]
 rcases hk with hk|hk|hk|hk|hk|hk
 ·rw [hk];exact⟨[],_,rfl,rfl,.inl rfl⟩
 ·rw [hk];exact⟨[_],_,rfl,rfl,.inl rfl⟩
 ·rw [hk]
  show ∃l d,qej w s (vuL w m1 s) (fdS (calM w.p w.c w.m s)).1=l++[d]∧_
  unfold qej
  rw [hx2]
  exact⟨_++[_],_,by rw [cond_true,List.append_assoc];rfl,rfl,.inl rfl⟩
 ·rw [hk];exact⟨[_],_,rfl,rfl,.inl rfl⟩
 ·rw [hk];exact⟨[],_,rfl,rfl,.inl rfl⟩
 ·rw [hk]
  cases qan (qak w.c w.m s.x).1
  ·exact⟨[],_,rfl,rfl,.inr rfl⟩
  ·exact⟨[],_,rfl,rfl,.inl rfl⟩
end
end Go.Proofs.YthkojpnjdpbcgaaGreatDoor
