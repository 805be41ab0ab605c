/- Owners put in the place of others, as the document does it. Conditions: at most 2^20 owners. -/
import Derived.Test.YthkojpnjdpbcgaaGreatDoorMh24
import Derived.Test.YthkojpnjdpbcgaaGreatDoorMh33
import Derived.Test.YthkojpnjdpbcgaaGreatDoorMh11
import Derived.Test.YthkojpnjdpbcgaaGreatDoorMh39
set_option linter.unusedVariables false
set_option maxRecDepth 100000
set_option maxHeartbeats 8000000
set_option linter.unusedSimpArgs false
namespace Go.Proofs.YthkojpnjdpbcgaaGreatDoor
open Go.RowKit
set_option maxRecDepth 100000
def atF (n:Int):List (Int×Int)→Nat→Int×Int
 | [],_=>(8,0)
 | x::r,k=>bif (k:Int)==n then x else atF n r (k+1)
def putO (o:Int×Int) (l:List (Int×Int)):Int×Int:=bif o.1==2 then atF 0 l 0 else bif o.1==3 then atF o.2 l 0 else o
theorem qm3 (o:Int×Int) (l:List (Int×Int)) (hn:l.length≤1048576):qaa Tryz.prog 86 [.r (owAt o),.a (.sl (l.map owAt))] (.r (owAt (putO o l))):=by
 unfold putO
 have ht:∃t1 t2 t3,(o.1==2)=t1∧(o.1==3)=t2∧(bif o.1 != 2 then o.1 != 3 else false)=t3∧t3=(bif t1 then false else !t2)∧(t1=true→t2=false):=⟨_,_,_,rfl,rfl,rfl,by simp only [bne];cases o.1==2<;>rfl,fun h=>by simp only [beq_iff_eq] at h;simp [h]⟩
 obtain⟨t1,t2,t3,a1,a2,a3,a4,a5⟩:=ht
 rw [a1,a2]
 cases t1 with
 | true =>
  obtain rfl:=a5 rfl
  obtain rfl:t3=false:=a4
  rw [cond_true]
  obtain⟨g,hg⟩:∃g,atF 0 l 0=g:=⟨_,rfl⟩
  rw [hg]
  refine qaa.vx [0,1,2,4,5,6,9,12,22,27,32] Tryz.func86 rfl Tryz.ntmps86 rfl rfl rfl (fun C hro hst=>?_)
  repeat' ((conv=>whnf);first|refine stv ?_|(show VB ..;first|refine VB.tt (by exact a1) ?_|refine VB.ff (by first|exact a2|exact a3) ?_))
  refine VL.each l owAt (fun k=>[(1,.a (.sl (l.map owAt))),(2,.a (.ptr 0 0)),(4,.a (.ptr 1 0)),(5,.a (.v (.int .i64 0))),(6,.a (.v (.int .i64 (k:Nat))))]) (fun _=>[.cell (owAt o),.cell [.v (.int .i64 0),.v (.int .i64 0)]]) (fun k=>atF 0 (l.drop k) k=g) ⟨rfl,rfl,rfl,rfl,rfl,trivial⟩ rfl hg (by omega) ?_ ?_
  ·intro k z hz hd htk hlt hinv hlt2 hix hw
   rw [hd,atF] at hinv
   repeat' ((conv=>whnf);first|(show VI ..;refine xI (fun _=>by exact hix) ?_)|refine stv ?_|(show VB ..;first|refine VB.tt (by exact hlt2) ?_|refine VB.mk (fun hc=>?_) fun hc=>?_))
   ·rw [←hinv,hc];rfl
   ·rw [hc,cond_false] at hinv
    exact⟨hinv,[],⟨rfl,rfl,rfl,rfl,congrArg (fun z=>D.a (.v (.int .i64 z))) hw,trivial⟩,rfl,rfl,rfl⟩
  ·intro hinv hlt2
   rw [List.drop_length,atF] at hinv
   repeat' ((conv=>whnf);first|refine stv ?_|(show VB ..;refine VB.ff (by exact hlt2) ?_))
   rw [←hinv];rfl
 | false =>
  cases t2 with
  | true =>
  obtain rfl:t3=false:=a4
  rw [cond_true,cond_false]
  obtain⟨g,hg⟩:∃g,atF o.2 l 0=g:=⟨_,rfl⟩
  rw [hg]
  refine qaa.vx [0,1,2,4,5,6,9,12,22,27,32] Tryz.func86 rfl Tryz.ntmps86 rfl rfl rfl (fun C hro hst=>?_)
  repeat' ((conv=>whnf);first|refine stv ?_|(show VB ..;first|refine VB.tt (by exact a2) ?_|refine VB.ff (by first|exact a1|exact a3) ?_))
  refine VL.each l owAt (fun k=>[(1,.a (.sl (l.map owAt))),(2,.a (.ptr 0 0)),(4,.a (.ptr 1 0)),(5,.a (.v (.int .i64 o.2))),(6,.a (.v (.int .i64 (k:Nat))))]) (fun _=>[.cell (owAt o),.cell [.v (.int .i64 0),.v (.int .i64 0)]]) (fun k=>atF o.2 (l.drop k) k=g) ⟨rfl,rfl,rfl,rfl,rfl,trivial⟩ rfl hg (by omega) ?_ ?_
  ·intro k z hz hd htk hlt hinv hlt2 hix hw
   rw [hd,atF] at hinv
   repeat' ((conv=>whnf);first|(show VI ..;refine xI (fun _=>by exact hix) ?_)|refine stv ?_|(show VB ..;first|refine VB.tt (by exact hlt2) ?_|refine VB.mk (fun hc=>?_) fun hc=>?_))
   ·rw [←hinv,hc];rfl
   ·rw [hc,cond_false] at hinv
    exact⟨hinv,[],⟨rfl,rfl,rfl,rfl,congrArg (fun z=>D.a (.v (.int .i64 z))) hw,trivial⟩,rfl,rfl,rfl⟩
  ·intro hinv hlt2
   rw [List.drop_length,atF] at hinv
   repeat' ((conv=>whnf);first|refine stv ?_|(show VB ..;refine VB.ff (by exact hlt2) ?_))
   rw [←hinv];rfl
  | false =>
  obtain rfl:t3=true:=a4
  refine qaa.vx [0,1,2,4,5,6,9,12,22,27,32] Tryz.func86 rfl Tryz.ntmps86 rfl rfl rfl (fun C hro hst=>?_)
  repeat' ((conv=>whnf);first|refine stv ?_|(show VB ..;first|refine VB.tt (by exact a3) ?_|refine VB.ff (by first|exact a1|exact a2) ?_))
  rfl
def allO (l m:List (Int×Int)):List (Int×Int):=l.map fun o=>putO o m
def oE {α:Type} (i:Nat):List α→D
 | []=>.a .nl
 | _::r=>.a (.own i r.length)
def oB {α:Type} (pre mid:List Bx) (n:Nat) (enc:α→List A):List α→List Bx
 | []=>pre
 | x::r=>pre++(mid++[.arr r.length n ((x::r).map enc)])
theorem oB_le {α:Type} (pre mid:List Bx) (n:Nat) (enc:α→List A) (q:List α) (x:α):(oB pre mid n enc q).length≤(oB pre mid n enc (q++[x])).length:=by
 cases q<;>simp [oB]
theorem pr04All (l m:List (Int×Int)) (hl:l.length≤1048576) (hm:m.length≤1048576):qaa Tryz.prog 85 [.a (.sl (l.map owAt)),.a (.sl (m.map owAt))] (.a (.sl ((allO l m).map owAt))):=by
 refine qaa.vx [0,1,4,5,6,10] Tryz.func85 rfl Tryz.ntmps85 rfl rfl rfl (fun C hro hst=>?_)
 repeat' ((conv=>whnf);first|refine stv ?_|fail)
 have ht:∀k z,l[k]? = some z→allO (l.take (k+1)) m=allO (l.take k) m++[putO z m]:=fun k z h=>by simp [allO,List.take_add_one,h]
 refine VL.each l owAt (fun k=>[(0,.a (.sl (l.map owAt))),(1,.a (.sl (m.map owAt))),(4,.a .nl),(5,oE 0 (allO (l.take k) m)),(6,.a (.v (.int .i64 (k:Nat))))]) (fun k=>oB [] [] 2 owAt (allO (l.take k) m)) (fun _=>True) ⟨rfl,rfl,rfl,rfl,rfl,trivial⟩ rfl trivial (by omega) ?_ ?_ fun k=>?_
 ·intro k z hz hd htk hlt _ hlt2 hix hw
  have h1:=ht k z hz
  have hql:(allO (l.take k) m).length≤1048576:=by simp only [allO,List.length_map,List.length_take];omega
  dsimp only
  generalize allO (l.take k) m=q at h1 hql ⊢
  cases q with
  | nil =>
   simp only [oE,oB]
   repeat' ((conv=>whnf);first|(show VI ..;refine xI (fun _=>by exact hix) ?_)|refine stv ?_|(show VB ..;refine VB.tt (by exact hlt2) ?_)|(show VC ..;refine xC (fun hg=>by exact qm3 _ _ hm) ?_))
   refine⟨trivial,[],⟨rfl,rfl,rfl,?_,congrArg (fun z=>D.a (.v (.int .i64 z))) hw,trivial⟩,?_,?_,?_⟩<;>(try dsimp only)<;>(try rw [h1])<;>rfl
  | cons x r =>
   have hrl:r.length≤1048576:=by rw [List.length_cons] at hql;omega
   simp only [oE,oB,List.nil_append]
   repeat' ((conv=>whnf);first|(show VI ..;refine xI (fun _=>by exact hix) ?_)|refine stv ?_|(show VB ..;refine VB.tt (by exact hlt2) ?_)|(show VC ..;refine xC (fun hg=>by exact qm3 _ _ hm) ?_))
   refine⟨trivial,[],⟨rfl,rfl,rfl,?_,congrArg (fun z=>D.a (.v (.int .i64 z))) hw,trivial⟩,?_,?_,?_⟩<;>(try dsimp only)<;>(try rw [h1])<;>first|rfl|(simp only [List.cons_append,List.map_append,List.map_cons,List.map_nil,List.length_append,List.length_cons,List.length_nil];rfl)
 ·intro _ hlt2
  rw [List.take_length]
  generalize allO l m=q
  cases q<;>simp only [oE,oB]
  ·repeat' ((conv=>whnf);first|refine stv ?_|(show VB ..;refine VB.ff (by exact hlt2) ?_)|fail)
   rfl
  ·repeat' ((conv=>whnf);first|refine stv ?_|(show VB ..;refine VB.ff (by exact hlt2) ?_)|fail)
   rfl
 ·rcases Nat.lt_or_ge k l.length with h|h
  ·rw [ht k _ (List.getElem?_eq_getElem h)];exact oB_le _ _ _ _ _ _
  ·rw [List.take_of_length_le h,List.take_of_length_le (by omega)];exact Nat.le_refl _
theorem pr05count (t:Ty):qaa Tryz.prog 129 [.r (Ty.at t)] (.a (.v (.int .i64 (max 0 (min t.n 3))))):=by
 refine qaa.go Tryz.func129 rfl Tryz.ntmps129 rfl rfl rfl (fun C hro=>?_)
 have fx:=trivial
 repeat' (first|refine stp [0,1,2] ?_|fail)
 rfl
def qcz (t:Ty):List (Int×Int):=bif t.kind==2 then t.own.take ((max 0 (min t.n 3)).toNat+1) else []
theorem qje (t:Ty):qaa Tryz.prog 71 [.r (Ty.at t)] (.a (.sl ((qcz t).map owAt))):=by
 unfold qcz
 obtain⟨N,hN,h⟩:∃N:Nat,N≤3∧max 0 (min t.n 3)=(N:Int):=⟨(max 0 (min t.n 3)).toNat,by omega,by omega⟩
 have hc0:=pr05count t
 rw [h] at hc0
 rw [h,Int.toNat_natCast]
 cases hk:t.kind==2 with
 | false =>
  rw [cond_false]
  rcases (show N=0∨N=1∨N=2∨N=3 by omega) with rfl|rfl|rfl|rfl
  all_goals
   refine qaa.vx [0,1,2,3,4,13] Tryz.func71 rfl Tryz.ntmps71 rfl rfl rfl (fun C hro hst=>?_)
   repeat' ((conv=>whnf);first|refine stv ?_|(show VB ..;refine VB.ff (by (rw [hk];rfl)) ?_)|(show VC ..;refine xC (fun hg=>by exact hc0) ?_)|(show VL ..;refine .un ?_)|fail)
   rfl
 | true =>
  rw [cond_true]
  rcases (show N=0∨N=1∨N=2∨N=3 by omega) with rfl|rfl|rfl|rfl
  all_goals
   refine qaa.vx [0,1,2,3,4,13] Tryz.func71 rfl Tryz.ntmps71 rfl rfl rfl (fun C hro hst=>?_)
   repeat' ((conv=>whnf);first|refine stv ?_|(show VB ..;first|refine VB.tt (by (rw [hk];rfl)) ?_|refine VB.ff (by (rw [hk];rfl)) ?_)|(show VC ..;refine xC (fun hg=>by exact hc0) ?_)|(show VL ..;refine .un ?_)|(show VLI ..;refine .un ?_))
   rfl
set_option maxRecDepth 100000
theorem atF_lo (n:Int):∀(l:List (Int×Int)) (k:Nat),n<k→atF n l k=(8,0)
 | [],_,_=>rfl
 | x::r,k,h=>by rw [atF,show ((k:Int)==n)=false by simp;omega,cond_false];exact atF_lo n r (k+1) (by omega)
theorem atF_hi (n:Int):∀(l:List (Int×Int)) (k:Nat),((k+l.length:Nat):Int)≤n→atF n l k=(8,0)
 | [],_,_=>rfl
 | x::r,k,h=>by rw [List.length_cons] at h;rw [atF,show ((k:Int)==n)=false by simp;omega,cond_false];exact atF_hi n r (k+1) (by omega)
theorem atF_at (z:Int×Int):∀(l:List (Int×Int)) (k j:Nat),l[j]? = some z→atF ((k+j:Nat):Int) l k=z
 | x::r,k,0,h=>by rw [atF];simp only [List.getElem?_cons_zero,Option.some.injEq] at h;simp [h]
 | x::r,k,j+1,h=>by
  rw [atF,show ((k:Int)==((k+(j+1):Nat):Int))=false by simp;omega,cond_false,show k+(j+1)=k+1+j by omega]
  exact atF_at z r (k+1) j (by simpa using h)
theorem poPut (o:Int×Int) (l:List (Int×Int)) (hn:l.length≤1048576):qaa Tryz.prog 78 [.r (owAt o),.a (.sl (l.map owAt))] (.r (owAt (putO o l))):=by
 unfold putO
 obtain⟨k,n⟩:=o
 dsimp only
 rcases (show k=2∨k=3∨(k≠2∧k≠3) by omega) with rfl|rfl|⟨h,h'⟩
 ·rw [show ((2:Int)==2)=true from rfl,cond_true]
  cases l with
  | nil =>
   refine qaa.vx [0,1,2,4,5,7,8,10,21] Tryz.func78 rfl Tryz.ntmps78 rfl rfl rfl (fun C hro hst=>?_)
   repeat' ((conv=>whnf);first|refine stv ?_|(show VB ..;first|refine VB.tt (by first|decide|rfl) ?_|refine VB.ff (by rfl) ?_))
   rfl
  | cons x r =>
   have h1:(bif decide ((0:Int)<0) then true else decide (((List.map owAt (x::r)).length:Int)≤0))=false:=by simp
   refine qaa.vx [0,1,2,4,5,7,8,10,21] Tryz.func78 rfl Tryz.ntmps78 rfl rfl rfl (fun C hro hst=>?_)
   repeat' ((conv=>whnf);first|refine stv ?_|(show VB ..;first|refine VB.tt (by rfl) ?_|refine VB.ff (by rfl) ?_))
   rfl
 ·rw [show ((3:Int)==2)=false from rfl,cond_false,show ((3:Int)==3)=true from rfl,cond_true]
  by_cases hr:0≤n∧n<l.length
  ·obtain⟨j,rfl⟩:∃j:Nat,n=j:=⟨n.toNat,by omega⟩
   obtain⟨z,hz⟩:∃z,l[j]? = some z:=⟨_,List.getElem?_eq_getElem (by omega)⟩
   have hix:(List.map owAt l)[j]? = some (owAt z):=by rw [List.getElem?_map,hz];rfl
   have h1:(bif decide ((j:Int)<0) then true else decide (((List.map owAt l).length:Int)≤j))=false:=by simp;omega
   refine qaa.vx [0,1,2,4,5,7,8,10,21] Tryz.func78 rfl Tryz.ntmps78 rfl rfl rfl (fun C hro hst=>?_)
   repeat' ((conv=>whnf);first|(show VI ..;refine xI (fun _=>by exact hix) ?_)|refine stv ?_|(show VB ..;first|refine VB.tt (by rfl) ?_|refine VB.ff (by exact h1) ?_))
   have h2:=atF_at z l 0 j hz
   rw [Nat.zero_add] at h2
   rw [h2];rfl
  ·have h1:(bif decide (n<0) then true else decide (((List.map owAt l).length:Int)≤n))=true:=by simp;omega
   refine qaa.vx [0,1,2,4,5,7,8,10,21] Tryz.func78 rfl Tryz.ntmps78 rfl rfl rfl (fun C hro hst=>?_)
   repeat' ((conv=>whnf);first|refine stv ?_|(show VB ..;refine VB.tt (by first|rfl|exact h1) ?_))
   rcases (show n<0∨(l.length:Int)≤n by omega) with h2|h2
   ·rw [atF_lo n l 0 h2];rfl
   ·rw [atF_hi n l 0 (by omega)];rfl
 ·have a1:(k==2)=false:=by simp [h]
  have a2:(k==3)=false:=by simp [h']
  rw [a1,a2,cond_false,cond_false]
  refine qaa.vx [0,1,2,4,5,7,8,10,21] Tryz.func78 rfl Tryz.ntmps78 rfl rfl rfl (fun C hro hst=>?_)
  repeat' ((conv=>whnf);first|refine stv ?_|(show VB ..;refine VB.ff (by first|exact a1|exact a2) ?_))
  rfl
theorem pclOw (l:List (Int×Int)) (hn:l.length≤1048576):qaa Tryz.prog 137 [.a (.sl (l.map owAt))] (.a (.sl (l.map owAt))):=by
 refine qaa.go Tryz.func137 rfl Tryz.ntmps137 rfl rfl rfl (fun C hro=>?_)
 have fx:=trivial
 repeat' (first|refine stp [0,2,4] ?_|fail)
 refine RS.eN fun b hb=>?_
 refine RS.run2 (by simp only [go_sem,simprocAttr,qab];first|done|rfl) ?_;simp only [qak]
 repeat' (first|refine stp [0,2,4] ?_|(refine RS.aO ?_;refine rnx ?_)|(refine RS.l0 ?_;refine rnx ?_)|refine WP.cn (fun hc=>?_) (fun hc=>?_)|fail)
 ·cases l with
  | nil=>rfl
  | cons=>exact absurd (hb (by simp)) (by rw [hc];simp)
 ·rfl
theorem du_chunk (t:Ty) (h:Nat) (hh:h≤4):qel (Ty.at t) 3 2 0 h=(t.own.take h).map owAt:=by
 obtain⟨k,cls,n,⟨a0,b0⟩,⟨a1,b1⟩,⟨a2,b2⟩,⟨a3,b3⟩⟩:=t
 rcases (show h=0∨h=1∨h=2∨h=3∨h=4 by omega) with rfl|rfl|rfl|rfl|rfl<;>rfl
theorem duOwn (t:Ty) (N:Nat) (hN:N≤3) (h:max 0 (min t.n 3)=(N:Int)):qaa Tryz.prog 138 [.a (.ref (Ty.at t) 0)] (.a (.sl ((t.own.take (N+1)).map owAt))):=by
 rcases (show N=0∨N=1∨N=2∨N=3 by omega) with rfl|rfl|rfl|rfl
 all_goals
  refine qaa.go Tryz.func138 rfl Tryz.ntmps138 rfl rfl rfl (fun C hro=>?_)
  have fx:=trivial
  replace fx:=ai15 h trivial
  repeat' (first|refine WP.seq ?_|(refine WP.rg [0,2,3] ?_;simp only [qak])|refine RS.fnT ?_|(refine RS.sA (hc:=by exact du_chunk t _ (by decide)) (k:=?_);refine RS.rn ?_;simp only [qak])|(refine WP.ret ?_;(try simp only [qbj,qa6]);refine ret3 ?_))
  rfl
theorem qod (t:Ty):qaa Tryz.prog 80 [.r (Ty.at t)] (.a (.sl ((qcz t).map owAt))):=by
 obtain⟨N,hN,h⟩:∃N:Nat,N≤3∧max 0 (min t.n 3)=(N:Int):=⟨(max 0 (min t.n 3)).toNat,by omega,by omega⟩
 unfold qcz
 rw [h,Int.toNat_natCast]
 refine qaa.go Tryz.func80 rfl Tryz.ntmps80 rfl rfl rfl (fun C hro=>?_)
 have fx:=trivial
 refine WP.seq ?_
 refine WP.reg [0,1,2,5] (by kernel_rfl) (by kernel_rfl) ?_;refine RS.run2 (by simp only [go_sem,simprocAttr,qab];first|done|rfl) ?_;simp only [qak]
 first|refine RS.finT (by simp only [go_sem,simprocAttr];first|done|rfl) ?_|refine RS.fin (by simp only [go_sem,simprocAttr];first|done|rfl) ?_;(try simp only [qab,qac])
 refine WP.freeze 0 (Ty.at t) [(1,.a (.ref (Ty.at t) 0)),(2,.a .nl)] rfl (Ty.cl t) ?_ ?_
 ·simp only [qag,go_sem,simprocAttr];rfl
 repeat' (first|refine WP.seq ?_|(refine WP.rg [0,1,2,5] ?_;simp only [qak])|refine RS.fnT ?_|(refine RS.cl (hp:=by first|exact duOwn t N hN h|exact pclOw _ (by rw [List.length_take];omega)) (h:=?_);refine RS.rn ?_;simp only [qak])|((refine WP.cn (fun hc=>?_) (fun hc=>?_))<;>try exact Bool.noConfusion hc)|(refine WP.skip ?_;try simp only [qab,qac])|(refine WP.ret ?_;(try simp only [qbj,qa6]);refine ret3 ?_))
 ·rw [show (t.kind==2)=false by simpa using hc];rfl
 rw [show (t.kind==2)=true by simpa using hc];rfl
set_option maxRecDepth 100000
theorem qed (t:Ty):(qcz t).length≤4:=by
 unfold qcz
 cases t.kind==2
 ·exact Nat.zero_le _
 ·rw [cond_true,List.length_take];exact Nat.min_le_right _ _
set_option maxRecDepth 100000
theorem qny {p:List Cs}:∀(m:Nat) (s:List UInt8) (x:Int),x∈upL p m s→0≤x∧∃t,x=qa4 p t
 | 0,_,_,h=>by cases h
 | m+1,s,x,h=>by
  unfold upL at h
  split at h
  ·cases h
  ·rename_i h0
   rcases List.mem_cons.1 h with rfl|h
   ·exact⟨by omega,s,rfl⟩
   ·split at h
    ·cases h
    ·exact qny m _ x h
theorem qpk {p:List Cs} {s:List UInt8} {x:Int} (h:x∈qa5 p s):0≤x∧∃t,x=qa4 p t:=by
 rcases qhe _ _ _ h with h|h
 ·cases h
 ·exact qny _ _ _ h
def qde (p:List Cs) (i:Int):List UInt8:=((p[i.toNat]?).map Cs.name).getD []
theorem qgk {p:List Cs} {t:List UInt8} (h:0≤qa4 p t):qde p (qa4 p t)=t:=by
 rcases qev (fun c:Cs=>c.name==t) p 0 with h1|⟨j,z,hj,hz,h1⟩
 ·unfold qa4 at h;omega
 ·unfold qa4 qde
  rw [h1,Nat.zero_add,Int.toNat_natCast,hj]
  exact eq_of_beq hz
theorem qjs {p:List Cs} {s tn:List UInt8} {x:Int} (h:x∈qa5 p s):(qde p x==tn)=(x==qa4 p tn):=by
 obtain⟨h0,t,rfl⟩:=qpk h
 rw [qgk h0,Bool.eq_iff_iff,beq_iff_eq,beq_iff_eq]
 refine⟨fun h=>by rw [h],fun h=>?_⟩
 have:=qgk (p:=p) (t:=tn) (by omega)
 rw [←h,qgk h0] at this
 exact this
def qip (p:List Cs) (i:Int) (out:List (Int×Int)):List (Int×Int):=out.headD (8,0)::allO (((p[i.toNat]?).map Cs.above).getD []) out
def goD (p:List Cs) (tn:List UInt8):List Int→List (Int×Int)→List (Int×Int)
 | [],out=>out
 | i::r,out=>bif qde p i==tn then out else goD p tn r (qip p i out)
def goP (p:List Cs) (e:Int):List Int→List (Int×Int)→Option (List (Int×Int))
 | [],_=>none
 | i::r,out=>bif i==e then some out else goP p e r (qip p i out)
theorem goPD {p:List Cs} {tn:List UInt8} {e:Int}:∀(l:List Int) (out:List (Int×Int)),(∀i∈l,(qde p i==tn)=(i==e))→goP p e l out=bif l.any (fun x=>x==e) then some (goD p tn l out) else none
 | [],_,_=>rfl
 | i::r,out,h=>by
  rw [goP,goD,h i (List.mem_cons_self ..),List.any_cons]
  cases i==e
  ·rw [cond_false,cond_false,Bool.false_or];exact goPD r _ fun j hj=>h j (List.mem_cons_of_mem _ hj)
  ·rfl
def qcf (p:List Cs) (from_:List UInt8) (l:List (Int×Int)) (tn:List UInt8) (ar:Int):List (Int×Int)×Bool :=
 bif (bif !qb1 p from_ tn then true else (l.length:Int) != ar+1) then ([],false) else (goD p tn (qa5 p from_) l,true)
def qhq (p:List Cs) (from_:List UInt8) (l:List (Int×Int)) (tn:List UInt8) (ar:Int):List (Int×Int)×Bool :=
 bif (bif (bif decide (qa4 p tn<0) then true else (l.length:Int) != ar+1) then true else (l.length:Int)==0) then ([],false) else
  match goP p (qa4 p tn) (qa5 p from_) l with
  | some out=>(out,true)
  | none=>([],false)
theorem qo9 (p:List Cs) (from_ tn:List UInt8) (l:List (Int×Int)) (ar:Int) (hl:l≠[]):qhq p from_ l tn ar=qcf p from_ l tn ar:=by
 unfold qhq qcf
 rw [goPD _ _ fun i hi=>qjs hi,←qfh]
 have h0:((l.length:Int)==0)=false:=by cases l with|nil=>exact absurd rfl hl|cons x r=>simp;omega
 rw [h0]
 by_cases hf:qa4 p tn<0
 ·rw [decide_eq_true hf,decide_eq_false (show ¬qa4 p tn≥0 by omega)];rfl
 ·rw [decide_eq_false hf,decide_eq_true (show qa4 p tn≥0 by omega)]
  cases (qa5 p from_).any fun x=>x==qa4 p tn<;>cases (l.length:Int) != ar+1<;>rfl
end Go.Proofs.YthkojpnjdpbcgaaGreatDoor
