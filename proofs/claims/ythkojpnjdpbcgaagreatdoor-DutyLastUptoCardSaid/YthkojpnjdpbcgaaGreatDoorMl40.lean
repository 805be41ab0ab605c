/- Owners put in the place of others, as the document does it. Conditions: at most 2^20 owners. -/
import Derived.Test.YthkojpnjdpbcgaaGreatDoorMl23
import Derived.Test.YthkojpnjdpbcgaaGreatDoorMl32
import Derived.Test.YthkojpnjdpbcgaaGreatDoorMl11
import Derived.Test.YthkojpnjdpbcgaaGreatDoorMl39
set_option linter.unusedVariables false
set_option maxRecDepth 100000
set_option maxHeartbeats 8000000
set_option linter.unusedSimpArgs false
namespace Go.Proofs.YthkojpnjdpbcgaaGreatDoor
open Go.RowKit
set_option maxRecDepth 100000
def atF (n:Int):List (Int×Int)→Nat→Int×Int
 | [],_=>(8,0)
 | x::r,k=>bif (k:Int)==n then x else atF n r (k+1)
def putO (o:Int×Int) (l:List (Int×Int)):Int×Int:=bif o.1==2 then atF 0 l 0 else bif o.1==3 then atF o.2 l 0 else o
def allO (l m:List (Int×Int)):List (Int×Int):=l.map fun o=>putO o m
def qdy (t:Ty):List (Int×Int):=bif t.kind==2 then t.own.take ((max 0 (min t.n 3)).toNat+1) else []
set_option maxRecDepth 100000
theorem atF_lo (n:Int):∀(l:List (Int×Int)) (k:Nat),n<k→atF n l k=(8,0)
 | [],_,_=>rfl
 | x::r,k,h=>by rw [atF,show ((k:Int)==n)=false by simp;omega,cond_false];exact atF_lo n r (k+1) (by omega)
theorem atF_hi (n:Int):∀(l:List (Int×Int)) (k:Nat),((k+l.length:Nat):Int)≤n→atF n l k=(8,0)
 | [],_,_=>rfl
 | x::r,k,h=>by rw [List.length_cons] at h;rw [atF,show ((k:Int)==n)=false by simp;omega,cond_false];exact atF_hi n r (k+1) (by omega)
theorem atF_at (z:Int×Int):∀(l:List (Int×Int)) (k j:Nat),l[j]? = some z→atF ((k+j:Nat):Int) l k=z
 | x::r,k,0,h=>by rw [atF];simp only [List.getElem?_cons_zero,Option.some.injEq] at h;simp [h]
 | x::r,k,j+1,h=>by
  rw [atF,show ((k:Int)==((k+(j+1):Nat):Int))=false by simp;omega,cond_false,show k+(j+1)=k+1+j by omega]
  exact atF_at z r (k+1) j (by simpa using h)
theorem poPut (o:Int×Int) (l:List (Int×Int)) (hn:l.length≤1048576):qaa Tryz.prog 78 [.r (owAt o),.a (.sl (l.map owAt))] (.r (owAt (putO o l))):=by
 unfold putO
 obtain⟨k,n⟩:=o
 dsimp only
 rcases (show k=2∨k=3∨(k≠2∧k≠3) by omega) with rfl|rfl|⟨h,h'⟩
 ·rw [show ((2:Int)==2)=true from rfl,cond_true]
  cases l with
  | nil =>
   refine qaa.vx [0,1,2,4,5,7,8,10,21] Tryz.func78 rfl Tryz.ntmps78 rfl rfl rfl (fun C hro hst=>?_)
   repeat' ((conv=>whnf);first|refine stv ?_|(show VB ..;first|refine VB.tt (by first|decide|rfl) ?_|refine VB.ff (by rfl) ?_))
   rfl
  | cons x r =>
   have h1:(bif decide ((0:Int)<0) then true else decide (((List.map owAt (x::r)).length:Int)≤0))=false:=by simp
   refine qaa.vx [0,1,2,4,5,7,8,10,21] Tryz.func78 rfl Tryz.ntmps78 rfl rfl rfl (fun C hro hst=>?_)
   repeat' ((conv=>whnf);first|refine stv ?_|(show VB ..;first|refine VB.tt (by rfl) ?_|refine VB.ff (by rfl) ?_))
   rfl
 ·rw [show ((3:Int)==2)=false from rfl,cond_false,show ((3:Int)==3)=true from rfl,cond_true]
  by_cases hr:0≤n∧n<l.length
  ·obtain⟨j,rfl⟩:∃j:Nat,n=j:=⟨n.toNat,by omega⟩
   obtain⟨z,hz⟩:∃z,l[j]? = some z:=⟨_,List.getElem?_eq_getElem (by omega)⟩
   have hix:(List.map owAt l)[j]? = some (owAt z):=by rw [List.getElem?_map,hz];rfl
   have h1:(bif decide ((j:Int)<0) then true else decide (((List.map owAt l).length:Int)≤j))=false:=by simp;omega
   refine qaa.vx [0,1,2,4,5,7,8,10,21] Tryz.func78 rfl Tryz.ntmps78 rfl rfl rfl (fun C hro hst=>?_)
   repeat' ((conv=>whnf);first|(show VI ..;refine xI (fun _=>by exact hix) ?_)|refine stv ?_|(show VB ..;first|refine VB.tt (by rfl) ?_|refine VB.ff (by exact h1) ?_))
   have h2:=atF_at z l 0 j hz
   rw [Nat.zero_add] at h2
   rw [h2];rfl
  ·have h1:(bif decide (n<0) then true else decide (((List.map owAt l).length:Int)≤n))=true:=by simp;omega
   refine qaa.vx [0,1,2,4,5,7,8,10,21] Tryz.func78 rfl Tryz.ntmps78 rfl rfl rfl (fun C hro hst=>?_)
   repeat' ((conv=>whnf);first|refine stv ?_|(show VB ..;refine VB.tt (by first|rfl|exact h1) ?_))
   rcases (show n<0∨(l.length:Int)≤n by omega) with h2|h2
   ·rw [atF_lo n l 0 h2];rfl
   ·rw [atF_hi n l 0 (by omega)];rfl
 ·have a1:(k==2)=false:=by simp [h]
  have a2:(k==3)=false:=by simp [h']
  rw [a1,a2,cond_false,cond_false]
  refine qaa.vx [0,1,2,4,5,7,8,10,21] Tryz.func78 rfl Tryz.ntmps78 rfl rfl rfl (fun C hro hst=>?_)
  repeat' ((conv=>whnf);first|refine stv ?_|(show VB ..;refine VB.ff (by first|exact a1|exact a2) ?_))
  rfl
theorem pclOw (l:List (Int×Int)) (hn:l.length≤1048576):qaa Tryz.prog 137 [.a (.sl (l.map owAt))] (.a (.sl (l.map owAt))):=by
 refine qaa.go Tryz.func137 rfl Tryz.ntmps137 rfl rfl rfl (fun C hro=>?_)
 have fx:=trivial
 repeat' (first|refine stp [0,2,4] ?_|fail)
 refine RS.eN fun b hb=>?_
 refine RS.run2 (by simp only [go_sem,simprocAttr,qab];first|done|rfl) ?_;simp only [qai]
 repeat' (first|refine stp [0,2,4] ?_|(refine RS.aO ?_;refine rnx ?_)|(refine RS.l0 ?_;refine rnx ?_)|refine WP.cn (fun hc=>?_) (fun hc=>?_)|fail)
 ·cases l with
  | nil=>rfl
  | cons=>exact absurd (hb (by simp)) (by rw [hc];simp)
 ·rfl
theorem du_chunk (t:Ty) (h:Nat) (hh:h≤4):qd8 (Ty.at t) 3 2 0 h=(t.own.take h).map owAt:=by
 obtain⟨k,cls,n,⟨a0,b0⟩,⟨a1,b1⟩,⟨a2,b2⟩,⟨a3,b3⟩⟩:=t
 rcases (show h=0∨h=1∨h=2∨h=3∨h=4 by omega) with rfl|rfl|rfl|rfl|rfl<;>rfl
theorem duOwn (t:Ty) (N:Nat) (hN:N≤3) (h:max 0 (min t.n 3)=(N:Int)):qaa Tryz.prog 138 [.a (.ref (Ty.at t) 0)] (.a (.sl ((t.own.take (N+1)).map owAt))):=by
 rcases (show N=0∨N=1∨N=2∨N=3 by omega) with rfl|rfl|rfl|rfl
 all_goals
  refine qaa.go Tryz.func138 rfl Tryz.ntmps138 rfl rfl rfl (fun C hro=>?_)
  have fx:=trivial
  replace fx:=ai15 h trivial
  repeat' (first|refine WP.seq ?_|(refine WP.rg [0,2,3] ?_;simp only [qai])|refine RS.fnT ?_|(refine RS.sA (hc:=by exact du_chunk t _ (by decide)) (k:=?_);refine RS.rn ?_;simp only [qai])|(refine WP.ret ?_;(try simp only [qbc,qa0]);refine ret3 ?_))
  rfl
theorem qm1 (t:Ty):qaa Tryz.prog 80 [.r (Ty.at t)] (.a (.sl ((qdy t).map owAt))):=by
 obtain⟨N,hN,h⟩:∃N:Nat,N≤3∧max 0 (min t.n 3)=(N:Int):=⟨(max 0 (min t.n 3)).toNat,by omega,by omega⟩
 unfold qdy
 rw [h,Int.toNat_natCast]
 refine qaa.go Tryz.func80 rfl Tryz.ntmps80 rfl rfl rfl (fun C hro=>?_)
 have fx:=trivial
 refine WP.seq ?_
 refine WP.reg [0,1,2,5] (by kernel_rfl) (by kernel_rfl) ?_;refine RS.run2 (by simp only [go_sem,simprocAttr,qab];first|done|rfl) ?_;simp only [qai]
 first|refine RS.finT (by simp only [go_sem,simprocAttr];first|done|rfl) ?_|refine RS.fin (by simp only [go_sem,simprocAttr];first|done|rfl) ?_;(try simp only [qab,qac])
 refine WP.freeze 0 (Ty.at t) [(1,.a (.ref (Ty.at t) 0)),(2,.a .nl)] rfl (Ty.cl t) ?_ ?_
 ·simp only [qal,go_sem,simprocAttr];rfl
 repeat' (first|refine WP.seq ?_|(refine WP.rg [0,1,2,5] ?_;simp only [qai])|refine RS.fnT ?_|(refine RS.cl (hp:=by first|exact duOwn t N hN h|exact pclOw _ (by rw [List.length_take];omega)) (h:=?_);refine RS.rn ?_;simp only [qai])|((refine WP.cn (fun hc=>?_) (fun hc=>?_))<;>try exact Bool.noConfusion hc)|(refine WP.skip ?_;try simp only [qab,qac])|(refine WP.ret ?_;(try simp only [qbc,qa0]);refine ret3 ?_))
 ·rw [show (t.kind==2)=false by simpa using hc];rfl
 rw [show (t.kind==2)=true by simpa using hc];rfl
set_option maxRecDepth 100000
theorem qg4 (t:Ty):(qdy t).length≤4:=by
 unfold qdy
 cases t.kind==2
 ·exact Nat.zero_le _
 ·rw [cond_true,List.length_take];exact Nat.min_le_right _ _
set_option maxRecDepth 100000
theorem qmn {p:List Cs}:∀(m:Nat) (s:List UInt8) (x:Int),x∈upL p m s→0≤x∧∃t,x=qa3 p t
 | 0,_,_,h=>by cases h
 | m+1,s,x,h=>by
  unfold upL at h
  split at h
  ·cases h
  ·rename_i h0
   rcases List.mem_cons.1 h with rfl|h
   ·exact⟨by omega,s,rfl⟩
   ·split at h
    ·cases h
    ·exact qmn m _ x h
theorem qn8 {p:List Cs} {s:List UInt8} {x:Int} (h:x∈qbs p s):0≤x∧∃t,x=qa3 p t:=by
 rcases qgp _ _ _ h with h|h
 ·cases h
 ·exact qmn _ _ _ h
def qf4 (p:List Cs) (i:Int):List UInt8:=((p[i.toNat]?).map Cs.name).getD []
theorem qft {p:List Cs} {t:List UInt8} (h:0≤qa3 p t):qf4 p (qa3 p t)=t:=by
 rcases qfc (fun c:Cs=>c.name==t) p 0 with h1|⟨j,z,hj,hz,h1⟩
 ·unfold qa3 at h;omega
 ·unfold qa3 qf4
  rw [h1,Nat.zero_add,Int.toNat_natCast,hj]
  exact eq_of_beq hz
theorem qn7 {p:List Cs} {s tn:List UInt8} {x:Int} (h:x∈qbs p s):(qf4 p x==tn)=(x==qa3 p tn):=by
 obtain⟨h0,t,rfl⟩:=qn8 h
 rw [qft h0,Bool.eq_iff_iff,beq_iff_eq,beq_iff_eq]
 refine⟨fun h=>by rw [h],fun h=>?_⟩
 have:=qft (p:=p) (t:=tn) (by omega)
 rw [←h,qft h0] at this
 exact this
def qkf (p:List Cs) (i:Int) (out:List (Int×Int)):List (Int×Int):=out.headD (8,0)::allO (((p[i.toNat]?).map Cs.above).getD []) out
def goD (p:List Cs) (tn:List UInt8):List Int→List (Int×Int)→List (Int×Int)
 | [],out=>out
 | i::r,out=>bif qf4 p i==tn then out else goD p tn r (qkf p i out)
def goP (p:List Cs) (e:Int):List Int→List (Int×Int)→Option (List (Int×Int))
 | [],_=>none
 | i::r,out=>bif i==e then some out else goP p e r (qkf p i out)
theorem goPD {p:List Cs} {tn:List UInt8} {e:Int}:∀(l:List Int) (out:List (Int×Int)),(∀i∈l,(qf4 p i==tn)=(i==e))→goP p e l out=bif l.any (fun x=>x==e) then some (goD p tn l out) else none
 | [],_,_=>rfl
 | i::r,out,h=>by
  rw [goP,goD,h i (List.mem_cons_self ..),List.any_cons]
  cases i==e
  ·rw [cond_false,cond_false,Bool.false_or];exact goPD r _ fun j hj=>h j (List.mem_cons_of_mem _ hj)
  ·rfl
def qcw (p:List Cs) (from_:List UInt8) (l:List (Int×Int)) (tn:List UInt8) (ar:Int):List (Int×Int)×Bool :=
 bif (bif !qcd p from_ tn then true else (l.length:Int) != ar+1) then ([],false) else (goD p tn (qbs p from_) l,true)
def qg0 (p:List Cs) (from_:List UInt8) (l:List (Int×Int)) (tn:List UInt8) (ar:Int):List (Int×Int)×Bool :=
 bif (bif (bif decide (qa3 p tn<0) then true else (l.length:Int) != ar+1) then true else (l.length:Int)==0) then ([],false) else
  match goP p (qa3 p tn) (qbs p from_) l with
  | some out=>(out,true)
  | none=>([],false)
theorem qnz (p:List Cs) (from_ tn:List UInt8) (l:List (Int×Int)) (ar:Int) (hl:l≠[]):qg0 p from_ l tn ar=qcw p from_ l tn ar:=by
 unfold qg0 qcw
 rw [goPD _ _ fun i hi=>qn7 hi,←qmb]
 have h0:((l.length:Int)==0)=false:=by cases l with|nil=>exact absurd rfl hl|cons x r=>simp;omega
 rw [h0]
 by_cases hf:qa3 p tn<0
 ·rw [decide_eq_true hf,decide_eq_false (show ¬qa3 p tn≥0 by omega)];rfl
 ·rw [decide_eq_false hf,decide_eq_true (show qa3 p tn≥0 by omega)]
  cases (qbs p from_).any fun x=>x==qa3 p tn<;>cases (l.length:Int) != ar+1<;>rfl
end Go.Proofs.YthkojpnjdpbcgaaGreatDoor
