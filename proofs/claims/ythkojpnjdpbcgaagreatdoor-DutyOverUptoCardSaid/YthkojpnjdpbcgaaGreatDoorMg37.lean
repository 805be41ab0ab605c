/- Owners put in the place of others, as the document does it. Conditions: at most 2^20 owners. -/
import Derived.Test.YthkojpnjdpbcgaaGreatDoorMg19
import Derived.Test.YthkojpnjdpbcgaaGreatDoorMg34
import Derived.Test.YthkojpnjdpbcgaaGreatDoorMg12
import Derived.Test.YthkojpnjdpbcgaaGreatDoorMg36
set_option linter.unusedVariables false
set_option maxRecDepth 100000
set_option maxHeartbeats 8000000
set_option linter.unusedSimpArgs false
namespace Go.Proofs.YthkojpnjdpbcgaaGreatDoor
open Go.RowKit
set_option maxRecDepth 100000
def atF (n:Int):List (Int×Int)→Nat→Int×Int
 | [],_=>(8,0)
 | x::r,k=>bif (k:Int)==n then x else atF n r (k+1)
def putO (o:Int×Int) (l:List (Int×Int)):Int×Int:=bif o.1==2 then atF 0 l 0 else bif o.1==3 then atF o.2 l 0 else o
theorem qb1 (o:Int×Int) (l:List (Int×Int)) (hn:l.length≤1048576):qab Tryz.prog 86 [.r (owAt o),.a (.sl (l.map owAt))] (.r (owAt (putO o l))):=by
 unfold putO
 have ht:∃t1 t2 t3,(o.1==2)=t1∧(o.1==3)=t2∧(bif o.1 != 2 then o.1 != 3 else false)=t3∧t3=(bif t1 then false else !t2)∧(t1=true→t2=false):=⟨_,_,_,rfl,rfl,rfl,by simp only [bne];cases o.1==2<;>rfl,fun h=>by simp only [beq_iff_eq] at h;simp [h]⟩
 obtain⟨t1,t2,t3,a1,a2,a3,a4,a5⟩:=ht
 rw [a1,a2]
 cases t1 with
 | true =>
  obtain rfl:=a5 rfl
  obtain rfl:t3=false:=a4
  rw [cond_true]
  obtain⟨g,hg⟩:∃g,atF 0 l 0=g:=⟨_,rfl⟩
  rw [hg]
  refine qab.vx [0,1,2,4,5,6,9,12,22,27,32] Tryz.func86 rfl Tryz.ntmps86 rfl rfl rfl (fun C hro hst=>?_)
  repeat' ((conv=>whnf);first|(show VH ..;refine .go ?_)|(show VD ..;refine .q ?_)|(show VK ..;refine xK ?_)|(show VB ..;first|refine VB.tt (by first|exact a1|exact a2|exact a3) ?_|refine VB.ff (by first|exact a1|exact a2|exact a3) ?_|refine VB.mk (fun hc=>?_) fun hc=>?_)|(show VI ..;refine xJ ?_)|(show VG ..;refine xG ?_)|(show VA ..;refine xA ?_)|(show VZ ..;refine .s ?_)|(show VY ..;refine .s ?_)|(show VW ..;first|refine xW1 ?_|refine xW2 ?_)|(show VE ..;refine .mk ?_))
  refine VL.each l owAt (fun k=>[(1,.a (.sl (l.map owAt))),(2,.a (.ptr 0 0)),(4,.a (.ptr 1 0)),(5,.a (.v (.int .i64 0))),(6,.a (.v (.int .i64 (k:Nat))))]) (fun _=>[.cell (owAt o),.cell [.v (.int .i64 0),.v (.int .i64 0)]]) (fun k=>atF 0 (l.drop k) k=g) ⟨rfl,rfl,rfl,rfl,rfl,trivial⟩ rfl hg (by omega) ?_ ?_
  ·intro k z hz hd htk hlt hinv hlt2 hix hw
   rw [hd,atF] at hinv
   repeat' ((conv=>whnf);first|(show VH ..;refine .go ?_)|(show VD ..;refine .q ?_)|(show VK ..;refine xK ?_)|(show VB ..;first|refine VB.tt (by exact hlt2) ?_|refine VB.ff (by exact hlt2) ?_|refine VB.mk (fun hc=>?_) fun hc=>?_)|(show VI ..;first|refine xI (fun _=>by exact hix) ?_|refine xJ ?_)|(show VG ..;refine xG ?_)|(show VA ..;refine xA ?_)|(show VZ ..;refine .s ?_)|(show VY ..;refine .s ?_)|(show VW ..;first|refine xW1 ?_|refine xW2 ?_)|(show VE ..;refine .mk ?_))
   ·rw [←hinv,hc];rfl
   ·rw [hc,cond_false] at hinv
    exact⟨hinv,[],⟨rfl,rfl,rfl,rfl,congrArg (fun z=>D.a (.v (.int .i64 z))) hw,trivial⟩,rfl,rfl,rfl⟩
  ·intro hinv hlt2
   rw [List.drop_length,atF] at hinv
   repeat' ((conv=>whnf);first|(show VH ..;refine .go ?_)|(show VD ..;refine .q ?_)|(show VK ..;refine xK ?_)|(show VB ..;first|refine VB.tt (by exact hlt2) ?_|refine VB.ff (by exact hlt2) ?_|refine VB.mk (fun hc=>?_) fun hc=>?_)|(show VI ..;refine xJ ?_)|(show VG ..;refine xG ?_)|(show VA ..;refine xA ?_)|(show VZ ..;refine .s ?_)|(show VY ..;refine .s ?_)|(show VW ..;first|refine xW1 ?_|refine xW2 ?_)|(show VE ..;refine .mk ?_))
   rw [←hinv];rfl
 | false =>
  cases t2 with
  | true =>
  obtain rfl:t3=false:=a4
  rw [cond_true,cond_false]
  obtain⟨g,hg⟩:∃g,atF o.2 l 0=g:=⟨_,rfl⟩
  rw [hg]
  refine qab.vx [0,1,2,4,5,6,9,12,22,27,32] Tryz.func86 rfl Tryz.ntmps86 rfl rfl rfl (fun C hro hst=>?_)
  repeat' ((conv=>whnf);first|(show VH ..;refine .go ?_)|(show VD ..;refine .q ?_)|(show VK ..;refine xK ?_)|(show VB ..;first|refine VB.tt (by first|exact a1|exact a2|exact a3) ?_|refine VB.ff (by first|exact a1|exact a2|exact a3) ?_|refine VB.mk (fun hc=>?_) fun hc=>?_)|(show VI ..;refine xJ ?_)|(show VG ..;refine xG ?_)|(show VA ..;refine xA ?_)|(show VZ ..;refine .s ?_)|(show VY ..;refine .s ?_)|(show VW ..;first|refine xW1 ?_|refine xW2 ?_)|(show VE ..;refine .mk ?_))
  refine VL.each l owAt (fun k=>[(1,.a (.sl (l.map owAt))),(2,.a (.ptr 0 0)),(4,.a (.ptr 1 0)),(5,.a (.v (.int .i64 o.2))),(6,.a (.v (.int .i64 (k:Nat))))]) (fun _=>[.cell (owAt o),.cell [.v (.int .i64 0),.v (.int .i64 0)]]) (fun k=>atF o.2 (l.drop k) k=g) ⟨rfl,rfl,rfl,rfl,rfl,trivial⟩ rfl hg (by omega) ?_ ?_
  ·intro k z hz hd htk hlt hinv hlt2 hix hw
   rw [hd,atF] at hinv
   repeat' ((conv=>whnf);first|(show VH ..;refine .go ?_)|(show VD ..;refine .q ?_)|(show VK ..;refine xK ?_)|(show VB ..;first|refine VB.tt (by exact hlt2) ?_|refine VB.ff (by exact hlt2) ?_|refine VB.mk (fun hc=>?_) fun hc=>?_)|(show VI ..;first|refine xI (fun _=>by exact hix) ?_|refine xJ ?_)|(show VG ..;refine xG ?_)|(show VA ..;refine xA ?_)|(show VZ ..;refine .s ?_)|(show VY ..;refine .s ?_)|(show VW ..;first|refine xW1 ?_|refine xW2 ?_)|(show VE ..;refine .mk ?_))
   ·rw [←hinv,hc];rfl
   ·rw [hc,cond_false] at hinv
    exact⟨hinv,[],⟨rfl,rfl,rfl,rfl,congrArg (fun z=>D.a (.v (.int .i64 z))) hw,trivial⟩,rfl,rfl,rfl⟩
  ·intro hinv hlt2
   rw [List.drop_length,atF] at hinv
   repeat' ((conv=>whnf);first|(show VH ..;refine .go ?_)|(show VD ..;refine .q ?_)|(show VK ..;refine xK ?_)|(show VB ..;first|refine VB.tt (by exact hlt2) ?_|refine VB.ff (by exact hlt2) ?_|refine VB.mk (fun hc=>?_) fun hc=>?_)|(show VI ..;refine xJ ?_)|(show VG ..;refine xG ?_)|(show VA ..;refine xA ?_)|(show VZ ..;refine .s ?_)|(show VY ..;refine .s ?_)|(show VW ..;first|refine xW1 ?_|refine xW2 ?_)|(show VE ..;refine .mk ?_))
   rw [←hinv];rfl
  | false =>
  obtain rfl:t3=true:=a4
  refine qab.vx [0,1,2,4,5,6,9,12,22,27,32] Tryz.func86 rfl Tryz.ntmps86 rfl rfl rfl (fun C hro hst=>?_)
  repeat' ((conv=>whnf);first|(show VH ..;refine .go ?_)|(show VD ..;refine .q ?_)|(show VK ..;refine xK ?_)|(show VB ..;first|refine VB.tt (by first|exact a1|exact a2|exact a3) ?_|refine VB.ff (by first|exact a1|exact a2|exact a3) ?_|refine VB.mk (fun hc=>?_) fun hc=>?_)|(show VI ..;refine xJ ?_)|(show VG ..;refine xG ?_)|(show VA ..;refine xA ?_)|(show VZ ..;refine .s ?_)|(show VY ..;refine .s ?_)|(show VW ..;first|refine xW1 ?_|refine xW2 ?_)|(show VE ..;refine .mk ?_))
  rfl
def allO (l m:List (Int×Int)):List (Int×Int):=l.map fun o=>putO o m
def oE {α:Type} (i:Nat):List α→D
 | []=>.a .nl
 | _::r=>.a (.own i r.length)
def oB {α:Type} (pre mid:List Bx) (n:Nat) (enc:α→List A):List α→List Bx
 | []=>pre
 | x::r=>pre++(mid++[.arr r.length n ((x::r).map enc)])
theorem oB_le {α:Type} (pre mid:List Bx) (n:Nat) (enc:α→List A) (q:List α) (x:α):(oB pre mid n enc q).length≤(oB pre mid n enc (q++[x])).length:=by
 cases q<;>simp [oB]
theorem pr04All (l m:List (Int×Int)) (hl:l.length≤1048576) (hm:m.length≤1048576):qab Tryz.prog 85 [.a (.sl (l.map owAt)),.a (.sl (m.map owAt))] (.a (.sl ((allO l m).map owAt))):=by
 refine qab.vx [0,1,4,5,6,10] Tryz.func85 rfl Tryz.ntmps85 rfl rfl rfl (fun C hro hst=>?_)
 repeat' ((conv=>whnf);first|(show VH ..;refine .go ?_)|(show VD ..;refine .q ?_)|(show VK ..;refine xK ?_)|(show VB ..;first|refine VB.tt (by decide) ?_|refine VB.ff (by decide) ?_|refine VB.mk (fun hc=>?_) fun hc=>?_)|(show VC ..;first|refine xC (fun hg=>by exact qb1 _ _ hm) ?_|refine xL (fun hg=>by exact qb1 _ _ hm) ?_)|(show VI ..;refine xJ ?_)|(show VG ..;refine xG ?_)|(show VA ..;refine xA ?_)|(show VZ ..;refine .s ?_)|(show VY ..;refine .s ?_)|(show VW ..;first|refine xW1 ?_|refine xW2 ?_)|(show VE ..;refine .mk ?_))
 have ht:∀k z,l[k]? = some z→allO (l.take (k+1)) m=allO (l.take k) m++[putO z m]:=fun k z h=>by simp [allO,List.take_add_one,h]
 refine VL.each l owAt (fun k=>[(0,.a (.sl (l.map owAt))),(1,.a (.sl (m.map owAt))),(4,.a .nl),(5,oE 0 (allO (l.take k) m)),(6,.a (.v (.int .i64 (k:Nat))))]) (fun k=>oB [] [] 2 owAt (allO (l.take k) m)) (fun _=>True) ⟨rfl,rfl,rfl,rfl,rfl,trivial⟩ rfl trivial (by omega) ?_ ?_ fun k=>?_
 ·intro k z hz hd htk hlt _ hlt2 hix hw
  have h1:=ht k z hz
  have hql:(allO (l.take k) m).length≤1048576:=by simp only [allO,List.length_map,List.length_take];omega
  dsimp only
  generalize allO (l.take k) m=q at h1 hql ⊢
  cases q with
  | nil =>
   simp only [oE,oB]
   repeat' ((conv=>whnf);first|(show VH ..;refine .go ?_)|(show VD ..;refine .q ?_)|(show VK ..;refine xK ?_)|(show VB ..;first|refine VB.tt (by exact hlt2) ?_|refine VB.ff (by exact hlt2) ?_|refine VB.mk (fun hc=>?_) fun hc=>?_)|(show VC ..;first|refine xC (fun hg=>by exact qb1 _ _ hm) ?_|refine xL (fun hg=>by exact qb1 _ _ hm) ?_)|(show VI ..;first|refine xI (fun _=>by exact hix) ?_|refine xJ ?_)|(show VG ..;refine xG ?_)|(show VA ..;refine xA ?_)|(show VZ ..;refine .s ?_)|(show VY ..;refine .s ?_)|(show VW ..;first|refine xW1 ?_|refine xW2 ?_)|(show VE ..;refine .mk ?_))
   refine⟨trivial,[],⟨rfl,rfl,rfl,?_,congrArg (fun z=>D.a (.v (.int .i64 z))) hw,trivial⟩,?_,?_,?_⟩<;>(try dsimp only)<;>(try rw [h1])<;>rfl
  | cons x r =>
   have hrl:r.length≤1048576:=by rw [List.length_cons] at hql;omega
   simp only [oE,oB,List.nil_append]
   repeat' ((conv=>whnf);first|(show VH ..;refine .go ?_)|(show VD ..;refine .q ?_)|(show VK ..;refine xK ?_)|(show VB ..;first|refine VB.tt (by exact hlt2) ?_|refine VB.ff (by exact hlt2) ?_|refine VB.mk (fun hc=>?_) fun hc=>?_)|(show VC ..;first|refine xC (fun hg=>by exact qb1 _ _ hm) ?_|refine xL (fun hg=>by exact qb1 _ _ hm) ?_)|(show VI ..;first|refine xI (fun _=>by exact hix) ?_|refine xJ ?_)|(show VG ..;refine xG ?_)|(show VA ..;refine xA ?_)|(show VZ ..;refine .s ?_)|(show VY ..;refine .s ?_)|(show VW ..;first|refine xW1 ?_|refine xW2 ?_)|(show VE ..;refine .mk ?_))
   refine⟨trivial,[],⟨rfl,rfl,rfl,?_,congrArg (fun z=>D.a (.v (.int .i64 z))) hw,trivial⟩,?_,?_,?_⟩<;>(try dsimp only)<;>(try rw [h1])<;>first|rfl|(simp only [List.cons_append,List.map_append,List.map_cons,List.map_nil,List.length_append,List.length_cons,List.length_nil];rfl)
 ·intro _ hlt2
  rw [List.take_length]
  generalize allO l m=q
  cases q<;>simp only [oE,oB]
  ·repeat' ((conv=>whnf);first|(show VH ..;refine .go ?_)|(show VD ..;refine .q ?_)|(show VK ..;refine xK ?_)|(show VB ..;first|refine VB.tt (by exact hlt2) ?_|refine VB.ff (by exact hlt2) ?_|refine VB.mk (fun hc=>?_) fun hc=>?_)|(show VC ..;first|refine xC (fun hg=>by exact qb1 _ _ hm) ?_|refine xL (fun hg=>by exact qb1 _ _ hm) ?_)|(show VI ..;refine xJ ?_)|(show VG ..;refine xG ?_)|(show VA ..;refine xA ?_)|(show VZ ..;refine .s ?_)|(show VY ..;refine .s ?_)|(show VW ..;first|refine xW1 ?_|refine xW2 ?_)|(show VE ..;refine .mk ?_))
   rfl
  ·repeat' ((conv=>whnf);first|(show VH ..;refine .go ?_)|(show VD ..;refine .q ?_)|(show VK ..;refine xK ?_)|(show VB ..;first|refine VB.tt (by exact hlt2) ?_|refine VB.ff (by exact hlt2) ?_|refine VB.mk (fun hc=>?_) fun hc=>?_)|(show VC ..;first|refine xC (fun hg=>by exact qb1 _ _ hm) ?_|refine xL (fun hg=>by exact qb1 _ _ hm) ?_)|(show VI ..;refine xJ ?_)|(show VG ..;refine xG ?_)|(show VA ..;refine xA ?_)|(show VZ ..;refine .s ?_)|(show VY ..;refine .s ?_)|(show VW ..;first|refine xW1 ?_|refine xW2 ?_)|(show VE ..;refine .mk ?_))
   rfl
 ·rcases Nat.lt_or_ge k l.length with h|h
  ·rw [ht k _ (List.getElem?_eq_getElem h)];exact oB_le _ _ _ _ _ _
  ·rw [List.take_of_length_le h,List.take_of_length_le (by omega)];exact Nat.le_refl _
theorem pr05count (t:Ty):qab Tryz.prog 129 [.r (Ty.at t)] (.a (.v (.int .i64 (max 0 (min t.n 3))))):=by
 refine qab.go Tryz.func129 rfl Tryz.ntmps129 rfl rfl rfl (fun C hro=>?_)
 have fx:=trivial
 repeat' (first|refine stp [0,1,2] ?_|fail)
 rfl
def qgf (t:Ty):List (Int×Int):=bif t.kind==2 then t.own.take ((max 0 (min t.n 3)).toNat+1) else []
theorem qn7 (t:Ty):qab Tryz.prog 71 [.r (Ty.at t)] (.a (.sl ((qgf t).map owAt))):=by
 unfold qgf
 obtain⟨N,hN,h⟩:∃N:Nat,N≤3∧max 0 (min t.n 3)=(N:Int):=⟨(max 0 (min t.n 3)).toNat,by omega,by omega⟩
 have hc0:=pr05count t
 rw [h] at hc0
 rw [h,Int.toNat_natCast]
 cases hk:t.kind==2 with
 | false =>
  rw [cond_false]
  rcases (show N=0∨N=1∨N=2∨N=3 by omega) with rfl|rfl|rfl|rfl
  all_goals
   refine qab.vx [0,1,2,3,4,13] Tryz.func71 rfl Tryz.ntmps71 rfl rfl rfl (fun C hro hst=>?_)
   repeat' ((conv=>whnf);first|(show VH ..;refine .go ?_)|(show VD ..;refine .q ?_)|(show VK ..;refine xK ?_)|(show VB ..;first|refine VB.tt (by first|decide|(rw [hk];rfl)) ?_|refine VB.ff (by first|decide|(rw [hk];rfl)) ?_|refine VB.mk (fun hc=>?_) fun hc=>?_)|(show VC ..;first|refine xC (fun hg=>by exact hc0) ?_|refine xL (fun hg=>by exact hc0) ?_)|(show VI ..;refine xJ ?_)|(show VG ..;refine xG ?_)|(show VA ..;refine xA ?_)|(show VZ ..;refine .s ?_)|(show VY ..;refine .s ?_)|(show VW ..;first|refine xW1 ?_|refine xW2 ?_)|(show VE ..;refine .mk ?_)|(show VL ..;refine .un ?_)|(show VLI ..;refine .un ?_))
   rfl
 | true =>
  rw [cond_true]
  rcases (show N=0∨N=1∨N=2∨N=3 by omega) with rfl|rfl|rfl|rfl
  all_goals
   refine qab.vx [0,1,2,3,4,13] Tryz.func71 rfl Tryz.ntmps71 rfl rfl rfl (fun C hro hst=>?_)
   repeat' ((conv=>whnf);first|(show VH ..;refine .go ?_)|(show VD ..;refine .q ?_)|(show VK ..;refine xK ?_)|(show VB ..;first|refine VB.tt (by first|decide|(rw [hk];rfl)) ?_|refine VB.ff (by first|decide|(rw [hk];rfl)) ?_|refine VB.mk (fun hc=>?_) fun hc=>?_)|(show VC ..;first|refine xC (fun hg=>by exact hc0) ?_|refine xL (fun hg=>by exact hc0) ?_)|(show VI ..;refine xJ ?_)|(show VG ..;refine xG ?_)|(show VA ..;refine xA ?_)|(show VZ ..;refine .s ?_)|(show VY ..;refine .s ?_)|(show VW ..;first|refine xW1 ?_|refine xW2 ?_)|(show VE ..;refine .mk ?_)|(show VL ..;refine .un ?_)|(show VLI ..;refine .un ?_))
   rfl
def qgx (t:Ty) (l:List (Int×Int)):Ty:=bif t.kind==2 then
  (match (max 0 (min t.n 3)).toNat with
  | 0=>{ t with o0:=putO t.o0 l }
  | 1=>{ t with o0:=putO t.o0 l,o1:=putO t.o1 l }
  | 2=>{ t with o0:=putO t.o0 l,o1:=putO t.o1 l,o2:=putO t.o2 l }
  | _=>{ t with o0:=putO t.o0 l,o1:=putO t.o1 l,o2:=putO t.o2 l,o3:=putO t.o3 l }) else t
theorem pr05With (t:Ty) (l:List (Int×Int)) (hl:l.length≤1048576):qab Tryz.prog 44 [.r (Ty.at t),.a (.sl (l.map owAt))] (.r (Ty.at (qgx t l))):=by
 have hw0:=qn7 t
 unfold qgx
 unfold qgf at hw0
 obtain⟨N,hN,h⟩:∃N:Nat,N≤3∧max 0 (min t.n 3)=(N:Int):=⟨(max 0 (min t.n 3)).toNat,by omega,by omega⟩
 rw [h,Int.toNat_natCast] at hw0 ⊢
 cases hk:t.kind==2 with
 | false =>
  rw [hk,cond_false] at hw0
  rw [cond_false]
  refine qab.vx [0,1,2,4,5,6,12] Tryz.func44 rfl Tryz.ntmps44 rfl rfl rfl (fun C hro hst=>?_)
  repeat' ((conv=>whnf);first|(show VH ..;refine .go ?_)|(show VD ..;refine .q ?_)|(show VK ..;refine xK ?_)|(show VB ..;first|refine VB.tt (by rfl) ?_|refine VB.ff (by rfl) ?_|refine VB.mk (fun hc=>?_) fun hc=>?_)|(show VC ..;first|refine xC (fun hg=>by exact hw0) ?_|refine xL (fun hg=>by exact hw0) ?_)|(show VI ..;refine xJ ?_)|(show VG ..;refine xG ?_)|(show VA ..;refine xA ?_)|(show VZ ..;refine .s ?_)|(show VY ..;refine .s ?_)|(show VW ..;first|refine xW1 ?_|refine xW2 ?_)|(show VE ..;refine .mk ?_)|(show VL ..;refine .un ?_)|(show VLI ..;refine .un ?_))
  rfl
 | true =>
  rw [hk,cond_true] at hw0
  rw [cond_true]
  rcases (show N=0∨N=1∨N=2∨N=3 by omega) with rfl|rfl|rfl|rfl
  all_goals
   refine qab.vx [0,1,2,4,5,6,12] Tryz.func44 rfl Tryz.ntmps44 rfl rfl rfl (fun C hro hst=>?_)
   repeat' ((conv=>whnf);first|(show VH ..;refine .go ?_)|(show VD ..;refine .q ?_)|(show VK ..;refine xK ?_)|(show VB ..;first|refine VB.tt (by rfl) ?_|refine VB.ff (by rfl) ?_|refine VB.mk (fun hc=>?_) fun hc=>?_)|(show VC ..;first|refine xC (fun hg=>by first|exact hw0|exact qb1 _ _ hl) ?_|refine xL (fun hg=>by first|exact hw0|exact qb1 _ _ hl) ?_)|(show VI ..;refine xJ ?_)|(show VG ..;refine xG ?_)|(show VA ..;refine xA ?_)|(show VZ ..;refine .s ?_)|(show VY ..;refine .s ?_)|(show VW ..;first|refine xW1 ?_|refine xW2 ?_)|(show VE ..;refine .mk ?_)|(show VL ..;refine .un ?_)|(show VLI ..;refine .un ?_))
   rfl
set_option maxRecDepth 100000
theorem atF_lo (n:Int):∀(l:List (Int×Int)) (k:Nat),n<k→atF n l k=(8,0)
 | [],_,_=>rfl
 | x::r,k,h=>by rw [atF,show ((k:Int)==n)=false by simp;omega,cond_false];exact atF_lo n r (k+1) (by omega)
theorem atF_hi (n:Int):∀(l:List (Int×Int)) (k:Nat),((k+l.length:Nat):Int)≤n→atF n l k=(8,0)
 | [],_,_=>rfl
 | x::r,k,h=>by rw [List.length_cons] at h;rw [atF,show ((k:Int)==n)=false by simp;omega,cond_false];exact atF_hi n r (k+1) (by omega)
theorem atF_at (z:Int×Int):∀(l:List (Int×Int)) (k j:Nat),l[j]? = some z→atF ((k+j:Nat):Int) l k=z
 | x::r,k,0,h=>by rw [atF];simp only [List.getElem?_cons_zero,Option.some.injEq] at h;simp [h]
 | x::r,k,j+1,h=>by
  rw [atF,show ((k:Int)==((k+(j+1):Nat):Int))=false by simp;omega,cond_false,show k+(j+1)=k+1+j by omega]
  exact atF_at z r (k+1) j (by simpa using h)
theorem poPut (o:Int×Int) (l:List (Int×Int)) (hn:l.length≤1048576):qab Tryz.prog 78 [.r (owAt o),.a (.sl (l.map owAt))] (.r (owAt (putO o l))):=by
 unfold putO
 obtain⟨k,n⟩:=o
 dsimp only
 rcases (show k=2∨k=3∨(k≠2∧k≠3) by omega) with rfl|rfl|⟨h,h'⟩
 ·rw [show ((2:Int)==2)=true from rfl,cond_true]
  cases l with
  | nil =>
   refine qab.vx [0,1,2,4,5,7,8,10,21] Tryz.func78 rfl Tryz.ntmps78 rfl rfl rfl (fun C hro hst=>?_)
   repeat' ((conv=>whnf);first|(show VH ..;refine .go ?_)|(show VD ..;refine .q ?_)|(show VK ..;refine xK ?_)|(show VB ..;first|refine VB.tt (by first|decide|rfl) ?_|refine VB.ff (by first|decide|rfl) ?_|refine VB.mk (fun hc=>?_) fun hc=>?_)|(show VI ..;refine xJ ?_)|(show VG ..;refine xG ?_)|(show VA ..;refine xA ?_)|(show VZ ..;refine .s ?_)|(show VY ..;refine .s ?_)|(show VW ..;first|refine xW1 ?_|refine xW2 ?_)|(show VE ..;refine .mk ?_))
   rfl
  | cons x r =>
   have h1:(bif decide ((0:Int)<0) then true else decide (((List.map owAt (x::r)).length:Int)≤0))=false:=by simp
   refine qab.vx [0,1,2,4,5,7,8,10,21] Tryz.func78 rfl Tryz.ntmps78 rfl rfl rfl (fun C hro hst=>?_)
   repeat' ((conv=>whnf);first|(show VH ..;refine .go ?_)|(show VD ..;refine .q ?_)|(show VK ..;refine xK ?_)|(show VB ..;first|refine VB.tt (by first|rfl|exact h1) ?_|refine VB.ff (by first|rfl|exact h1) ?_|refine VB.mk (fun hc=>?_) fun hc=>?_)|(show VI ..;refine xJ ?_)|(show VG ..;refine xG ?_)|(show VA ..;refine xA ?_)|(show VZ ..;refine .s ?_)|(show VY ..;refine .s ?_)|(show VW ..;first|refine xW1 ?_|refine xW2 ?_)|(show VE ..;refine .mk ?_))
   rfl
 ·rw [show ((3:Int)==2)=false from rfl,cond_false,show ((3:Int)==3)=true from rfl,cond_true]
  by_cases hr:0≤n∧n<l.length
  ·obtain⟨j,rfl⟩:∃j:Nat,n=j:=⟨n.toNat,by omega⟩
   obtain⟨z,hz⟩:∃z,l[j]? = some z:=⟨_,List.getElem?_eq_getElem (by omega)⟩
   have hix:(List.map owAt l)[j]? = some (owAt z):=by rw [List.getElem?_map,hz];rfl
   have h1:(bif decide ((j:Int)<0) then true else decide (((List.map owAt l).length:Int)≤j))=false:=by simp;omega
   refine qab.vx [0,1,2,4,5,7,8,10,21] Tryz.func78 rfl Tryz.ntmps78 rfl rfl rfl (fun C hro hst=>?_)
   repeat' ((conv=>whnf);first|(show VH ..;refine .go ?_)|(show VD ..;refine .q ?_)|(show VK ..;refine xK ?_)|(show VB ..;first|refine VB.tt (by first|rfl|exact h1) ?_|refine VB.ff (by first|rfl|exact h1) ?_|refine VB.mk (fun hc=>?_) fun hc=>?_)|(show VI ..;first|refine xI (fun _=>by exact hix) ?_|refine xJ ?_)|(show VG ..;refine xG ?_)|(show VA ..;refine xA ?_)|(show VZ ..;refine .s ?_)|(show VY ..;refine .s ?_)|(show VW ..;first|refine xW1 ?_|refine xW2 ?_)|(show VE ..;refine .mk ?_))
   have h2:=atF_at z l 0 j hz
   rw [Nat.zero_add] at h2
   rw [h2];rfl
  ·have h1:(bif decide (n<0) then true else decide (((List.map owAt l).length:Int)≤n))=true:=by simp;omega
   refine qab.vx [0,1,2,4,5,7,8,10,21] Tryz.func78 rfl Tryz.ntmps78 rfl rfl rfl (fun C hro hst=>?_)
   repeat' ((conv=>whnf);first|(show VH ..;refine .go ?_)|(show VD ..;refine .q ?_)|(show VK ..;refine xK ?_)|(show VB ..;first|refine VB.tt (by first|rfl|exact h1) ?_|refine VB.ff (by first|rfl|exact h1) ?_|refine VB.mk (fun hc=>?_) fun hc=>?_)|(show VI ..;refine xJ ?_)|(show VG ..;refine xG ?_)|(show VA ..;refine xA ?_)|(show VZ ..;refine .s ?_)|(show VY ..;refine .s ?_)|(show VW ..;first|refine xW1 ?_|refine xW2 ?_)|(show VE ..;refine .mk ?_))
   rcases (show n<0∨(l.length:Int)≤n by omega) with h2|h2
   ·rw [atF_lo n l 0 h2];rfl
   ·rw [atF_hi n l 0 (by omega)];rfl
 ·have a1:(k==2)=false:=by simp [h]
  have a2:(k==3)=false:=by simp [h']
  rw [a1,a2,cond_false,cond_false]
  refine qab.vx [0,1,2,4,5,7,8,10,21] Tryz.func78 rfl Tryz.ntmps78 rfl rfl rfl (fun C hro hst=>?_)
  repeat' ((conv=>whnf);first|(show VH ..;refine .go ?_)|(show VD ..;refine .q ?_)|(show VK ..;refine xK ?_)|(show VB ..;first|refine VB.tt (by first|exact a1|exact a2|decide) ?_|refine VB.ff (by first|exact a1|exact a2|decide) ?_|refine VB.mk (fun hc=>?_) fun hc=>?_)|(show VI ..;refine xJ ?_)|(show VG ..;refine xG ?_)|(show VA ..;refine xA ?_)|(show VZ ..;refine .s ?_)|(show VY ..;refine .s ?_)|(show VW ..;first|refine xW1 ?_|refine xW2 ?_)|(show VE ..;refine .mk ?_))
  rfl
def allR (l m:List (Int×Int)) (k:Nat):List (List A):=(allO (l.take k) m).map owAt++List.replicate (l.length-k) (owAt (0,0))
theorem qfc (l m:List (Int×Int)):(allO l m).length=l.length:=by simp [allO]
theorem allR_len {l m:List (Int×Int)} {k:Nat} (h:k≤l.length):(allR l m k).length=l.length:=by simp [allR,qfc];omega
theorem allR_0 (l m:List (Int×Int)):allR l m 0=List.replicate l.length (owAt (0,0)):=by simp [allR,allO]
theorem allR_set {l m:List (Int×Int)} {k:Nat} {z:Int×Int} (hz:l[k]? = some z):(allR l m k).set k (owAt (putO z m))=allR l m (k+1):=by
 have h:=(List.getElem?_eq_some_iff.1 hz).1
 unfold allR
 rw [List.set_append_right _ _ (by simp [qfc];omega)]
 obtain⟨j,hj⟩:∃j,l.length-k=j+1:=⟨l.length-k-1,by omega⟩
 rw [hj,show l.length-(k+1)=j by omega]
 have:k-(List.map owAt (allO (List.take k l) m)).length=0:=by simp [qfc];omega
 rw [this]
 simp [List.replicate_succ,allO,List.take_add_one,hz]
theorem allR_nr (l m:List (Int×Int)) (k:Nat):((allR l m k).all fun r=>r.all (nrA 1))=true:=by
 unfold allR
 rw [List.all_append,Bool.and_eq_true,List.all_eq_true,List.all_eq_true]
 refine⟨fun r hr=>?_,fun r hr=>?_⟩
 ·rw [List.mem_map] at hr
  obtain⟨i,_,rfl⟩:=hr
  rfl
 ·rw [List.eq_of_mem_replicate hr];rfl
theorem poAll (l m:List (Int×Int)) (hl:l.length≤1048576) (hm:m.length≤1048576):qab Tryz.prog 79 [.a (.sl (l.map owAt)),.a (.sl (m.map owAt))] (.a (.sl ((allO l m).map owAt))):=by
 refine qab.go Tryz.func79 rfl Tryz.ntmps79 rfl rfl rfl (fun C hro=>?_)
 have fx:=trivial
 repeat' (first|refine stp [0,1,4,5,6,7,11,12,13,14] ?_|(refine RS.mS ?_;refine rnx ?_)|(refine RS.sE ?_;refine rnx ?_)|(refine RS.lC ?_;refine rnx ?_)|(refine RS.xC ?_;refine rnx ?_)|refine WP.cn (fun hc=>?_) (fun hc=>?_)|fail)
 rw [←allR_0 l m]
 refine WP.loopX (α:={ k:Nat // k≤l.length }) (fun y=>[(1,.a (.sl (m.map owAt))),(5,.a (.own 0 0)),(11,.a (.sl (l.map owAt))),(12,.a (.v (.int .i64 (l.length:Nat)))),(13,.a (.v (.int .i64 (y.1:Nat))))]) (fun y=>[.arr 0 2 (allR l m y.1)]) (fun y=>l.length-y.1) ⟨0,by omega⟩ (by simp only [qai,go_sem,simprocAttr];first|done|rfl) rfl ?_
 rintro⟨k,hk⟩
 dsimp only
 have hl:=allR_len (m:=m) hk
 by_cases hlt:k<l.length
 ·have hlt2:decide ((k:Int)<((l.length:Nat):Int))=true:=decide_eq_true (by omega)
  obtain⟨z,hz⟩:∃z,l[k]? = some z:=⟨_,List.getElem?_eq_getElem hlt⟩
  have hzm:z∈l:=lm4 hz
  have hzt:=qak hz
  have hix:∀q2,ixD (some 2) q2 (.a (.sl (l.map owAt))) (.a (.v (.int .i64 (k:Int))))=some (.a (.ref (owAt z) 0)):=fun q2=>qaw rfl (by rw [List.getElem?_map,hz];rfl) (by simp only [go_sem])
  have hwu:=qaz (k:=k) (by omega)
  have hk0:((0:Int)≤(k:Int))=True:=eq_true (by omega)
  have hk1:((k:Int)<(l.length:Int))=True:=eq_true (by omega)
  have hrow:(allR l m k)[k]? = some (owAt (0,0)):=by
   unfold allR
   rw [List.getElem?_append_right (by simp [qfc];omega),List.getElem?_replicate]
   simp [qfc];omega
  have how:owAt (0,0)=[.v (.int .i64 0),.v (.int .i64 0)]:=rfl
  have hset:(allR l m k).set k (owAt (putO z m))=allR l m (k+1):=allR_set hz
  have hiy:∀q2 x,ixS [.arr 0 2 (allR l m k),x] (some 2) q2 (.a (.own 0 0)) (.a (.v (.int .i64 (k:Nat))))=some (.a (.ep 0 0 k 0)):=fun q2 x=>qmk rfl rfl (by omega) rfl
  have hpr:∀x:Int×Int,qae [.v (.int .i64 0),.v (.int .i64 0)] 0 (owAt x)=owAt x:=fun _=>rfl
  have hld:∀x:Int×Int,qaa (some 2) (owAt x) 0=some (.r (owAt x)):=fun _=>rfl
  replace fx:=ai24 hix (ai24 hiy (ai24 hlt2 (ai24 hwu (ai24 hl (ai24 hk0 (ai24 hk1 (ai24 hrow (ai24 hset (ai24 how (ai24 hpr (ai24 hld trivial)))))))))))
  repeat' (first|refine stp [0,1,4,5,6,7,11,12,13,14] ?_|(refine RS.mS ?_;refine rnx ?_)|(refine RS.sE ?_;refine rnx ?_)|(refine RS.lC ?_;refine rnx ?_)|(refine RS.xC ?_;refine rnx ?_)|(refine stc (r1:=by exact poPut _ _ hm) (r2:=?_);refine rnx ?_)|refine WP.cn (fun hc=>?_) (fun hc=>?_)|fail)
  refine⟨⟨k+1,by omega⟩,[.cell (owAt z)],by dsimp only;omega,by simp only [qai,go_sem,simprocAttr],rfl,by simp only [nrE,nrD,List.all_cons,List.all_nil,go_sem,simprocAttr],?_⟩
  simp only [go_sem,simprocAttr,allR_nr,List.length_append]
 ·obtain rfl:k=l.length:=by omega
  have hlt2:decide ((l.length:Int)<(l.length:Int))=false:=decide_eq_false (by omega)
  replace fx:=ai24 hlt2 trivial
  repeat' (first|refine stp [0,1,4,5,6,7,11,12,13,14] ?_|(refine RS.mS ?_;refine rnx ?_)|(refine RS.sE ?_;refine rnx ?_)|(refine RS.lC ?_;refine rnx ?_)|(refine RS.xC ?_;refine rnx ?_)|refine WP.cn (fun hc=>?_) (fun hc=>?_)|fail)
  refine congrArg (fun x=>D.a (A.sl x)) ?_
  simp [allR]
theorem pclOw (l:List (Int×Int)) (hn:l.length≤1048576):qab Tryz.prog 137 [.a (.sl (l.map owAt))] (.a (.sl (l.map owAt))):=by
 refine qab.go Tryz.func137 rfl Tryz.ntmps137 rfl rfl rfl (fun C hro=>?_)
 have fx:=trivial
 repeat' (first|refine stp [0,2,4] ?_|(refine RS.aO ?_;refine rnx ?_)|(refine RS.aN ?_;refine rnx ?_)|(refine RS.l0 ?_;refine rnx ?_)|(refine RS.aE ?_;refine rnx ?_)|(refine RS.aK ?_;refine rnx ?_)|refine WP.cn (fun hc=>?_) (fun hc=>?_)|fail)
 refine RS.eN fun b hb=>?_
 refine RS.run2 (by simp only [go_sem,simprocAttr,qag];first|done|rfl) ?_;simp only [qa7]
 repeat' (first|refine stp [0,2,4] ?_|(refine RS.aO ?_;refine rnx ?_)|(refine RS.aN ?_;refine rnx ?_)|(refine RS.l0 ?_;refine rnx ?_)|(refine RS.aE ?_;refine rnx ?_)|(refine RS.aK ?_;refine rnx ?_)|refine WP.cn (fun hc=>?_) (fun hc=>?_)|fail)
 ·cases l with
  | nil=>rfl
  | cons=>exact absurd (hb (by simp)) (by rw [hc];simp)
 ·rfl
theorem du_chunk (t:Ty) (h:Nat) (hh:h≤4):qf0 (Ty.at t) 3 2 0 h=(t.own.take h).map owAt:=by
 obtain⟨k,cls,n,⟨a0,b0⟩,⟨a1,b1⟩,⟨a2,b2⟩,⟨a3,b3⟩⟩:=t
 rcases (show h=0∨h=1∨h=2∨h=3∨h=4 by omega) with rfl|rfl|rfl|rfl|rfl<;>rfl
theorem duOwn (t:Ty) (N:Nat) (hN:N≤3) (h:max 0 (min t.n 3)=(N:Int)):qab Tryz.prog 138 [.a (.ref (Ty.at t) 0)] (.a (.sl ((t.own.take (N+1)).map owAt))):=by
 rcases (show N=0∨N=1∨N=2∨N=3 by omega) with rfl|rfl|rfl|rfl
 all_goals
  refine qab.go Tryz.func138 rfl Tryz.ntmps138 rfl rfl rfl (fun C hro=>?_)
  have fx:=trivial
  replace fx:=ai24 h trivial
  repeat' (first|refine WP.seq ?_|(refine WP.rg [0,2,3] ?_;simp only [qa7])|refine RS.fnT ?_|(refine RS.fn ?_;try simp only [qag,qam])|(refine RS.sA (hc:=by exact du_chunk t _ (by decide)) (k:=?_);refine RS.rn ?_;simp only [qa7])|(refine WP.ret ?_;(try simp only [qeg,qdg]);refine ret3 ?_))
  rfl
theorem pkOwners (t:Ty):qab Tryz.prog 80 [.r (Ty.at t)] (.a (.sl ((qgf t).map owAt))):=by
 obtain⟨N,hN,h⟩:∃N:Nat,N≤3∧max 0 (min t.n 3)=(N:Int):=⟨(max 0 (min t.n 3)).toNat,by omega,by omega⟩
 unfold qgf
 rw [h,Int.toNat_natCast]
 refine qab.go Tryz.func80 rfl Tryz.ntmps80 rfl rfl rfl (fun C hro=>?_)
 have fx:=trivial
 refine WP.seq ?_
 refine WP.reg [0,1,2,5] (by kernel_rfl) (by kernel_rfl) ?_;refine RS.run2 (by simp only [go_sem,simprocAttr,qag];first|done|rfl) ?_;simp only [qa7]
 first|refine RS.finT (by simp only [go_sem,simprocAttr];first|done|rfl) ?_|refine RS.fin (by simp only [go_sem,simprocAttr];first|done|rfl) ?_;(try simp only [qag,qam])
 refine WP.freeze 0 (Ty.at t) [(1,.a (.ref (Ty.at t) 0)),(2,.a .nl)] rfl (Ty.cl t) ?_ ?_
 ·simp only [qai,go_sem,simprocAttr];rfl
 repeat' (first|refine WP.seq ?_|(refine WP.rg [0,1,2,5] ?_;simp only [qa7])|refine RS.fnT ?_|(refine RS.fn ?_;try simp only [qag,qam])|(refine RS.cl (hp:=by first|exact duOwn t N hN h|exact pclOw _ (by rw [List.length_take];omega)) (h:=?_);refine RS.rn ?_;simp only [qa7])|(refine RS.sA (hc:=by fail) (k:=?_);refine RS.rn ?_;simp only [qa7])|((refine WP.cn (fun hc=>?_) (fun hc=>?_))<;>try exact Bool.noConfusion hc)|(refine WP.skip ?_;try simp only [qag,qam])|refine WP.loop_in ?_|refine WPIn.unroll ?_|(refine WP.ret ?_;(try simp only [qeg,qdg]);refine ret3 ?_))
 ·rw [show (t.kind==2)=false by simpa using hc];rfl
 rw [show (t.kind==2)=true by simpa using hc];rfl
set_option maxRecDepth 100000
theorem with_row (t:Ty) (l:List (Int×Int)):qae (Ty.at t) 3 ((((allO (qgf t) l).map owAt).take (min (((allO (qgf t) l).map owAt)).length 4)).flatten)=Ty.at (qgx t l):=by
 obtain⟨N,hN,h⟩:∃N:Nat,N≤3∧max 0 (min t.n 3)=(N:Int):=⟨(max 0 (min t.n 3)).toNat,by omega,by omega⟩
 unfold qgf qgx
 rw [h,Int.toNat_natCast]
 cases t.kind==2 with
 | false=>rfl
 | true =>
  rw [cond_true,cond_true]
  rcases (show N=0∨N=1∨N=2∨N=3 by omega) with rfl|rfl|rfl|rfl<;>rfl
theorem ownsT_len (t:Ty):(qgf t).length≤4:=by
 unfold qgf
 cases t.kind==2
 ·exact Nat.zero_le _
 ·rw [cond_true,List.length_take];exact Nat.min_le_right _ _
theorem pkWith (t:Ty) (l:List (Int×Int)) (hl:l.length≤1048576):qab Tryz.prog 40 [.r (Ty.at t),.a (.sl (l.map owAt))] (.r (Ty.at (qgx t l))):=by
 have hwr:qae (Ty.at t) 3 (((allO (qgf t) l).map owAt).take (min (allO (qgf t) l).length 4)).flatten=Ty.at (qgx t l):=by have:=with_row t l;rwa [List.length_map] at this
 have how:=ownsT_len t
 refine qab.go Tryz.func40 rfl Tryz.ntmps40 rfl rfl rfl (fun C hro=>?_)
 have fx:=trivial
 replace fx:=ai24 hwr trivial
 repeat' (first|refine stp [0,1,2,4] ?_|(refine RS.sE ?_;refine rnx ?_)|(refine RS.sN ?_;refine rnx ?_)|(refine RS.sC ?_;refine rnx ?_)|(refine RS.cC ?_;refine rnx ?_)|(refine stc (r1:=by first|exact pkOwners t|exact poAll _ _ (by omega) hl) (r2:=?_);refine rnx ?_)|(refine RQ.sC ?_;refine rnx ?_)|((first|refine WP.dw (id:=1) 6 [0,1,2,4] ?_);simp only [qc8,List.drop_succ_cons,List.drop_zero,List.drop_nil])|fail)

 rfl
set_option maxRecDepth 100000
theorem slTail {P:Program} {T:TypeId} {n:Nat} {e:Nat→D} {lo:Operand} {j:Nat} {l:List (List A)} (hes:es P T=some n) (ha:qal n l=true) (hlo:lowD e (some lo) l.length=some j):slD P T e (some lo) none (.a (.sl l))=some (.a (.sl (l.drop j))):=by
 simp only [slD,hes,ha,if_true,bndD,Option.bind_some,hlo,Option.map_some,List.take_length]
theorem low1 {e:Nat→D} {h:Nat} (hh:1≤h):lowD e (some (.const (.int .i64 1))) h=some 1:=by
 show (if (0:Int)≤1∧(1:Int)≤(h:Int) then some (1:Int).toNat else none)=some 1
 rw [if_pos (by omega)];rfl
theorem qnp (l:List Int):qal 1 (l.map inAt)=true:=by simp [qal,inAt]
def qbl (p:List Cs) (c s:List UInt8):Option Fd:=qbu p s ((qat p c).drop 1)
theorem pr17Over (p:List Cs) (c s:List UInt8) (hzz:qah Cs.sz p≤1048576):qab Tryz.prog 41 [.a (.sl (p.map Cs.at)),.a (.v (.string (bs c))),.a (.v (.string (bs s)))] (.t [.r (Fd.at (fdS (qbl p c s)).1),.a (.v (.bool (fdS (qbl p c s)).2))]):=by
 have hlen:=qas Cs.sz_pos p
 have hcl:=(qbz p c).len
 have hok:PlOk p ((qat p c).drop 1):=fun i hi=>(qbz p c).ok i (List.mem_of_mem_drop hi)
 have h1:=pr17among p s ((qat p c).drop 1) hok (by rw [List.length_drop];omega) hzz
 have h0:=qg9 p c (by omega)
 rw [fdR_S] at h1
 unfold qbl
 have hz:(qat p c=[])→qbu p s ((qat p c).drop 1)=none:=fun h=>by rw [h];rfl
 generalize qat p c=l at *
 cases l with
 | nil =>
  rw [hz rfl]
  refine qab.vx [0,1,2,6,7,8,14] Tryz.func41 rfl Tryz.ntmps41 rfl rfl rfl (fun C hro hst=>?_)
  repeat' ((conv=>whnf);first|(show VH ..;refine .go ?_)|(show VD ..;refine .q ?_)|(show VK ..;refine xK ?_)|(show VB ..;first|refine VB.tt (by rfl) ?_|refine VB.ff (by rfl) ?_|refine VB.mk (fun hc=>?_) fun hc=>?_)|(show VC ..;first|refine xC (fun hg=>by exact h0) ?_|refine xL (fun hg=>by exact h0) ?_)|(show VI ..;refine xJ ?_)|(show VG ..;refine xG ?_)|(show VA ..;refine xA ?_)|(show VZ ..;refine .s ?_)|(show VY ..;refine .s ?_)|(show VW ..;first|refine xW1 ?_|refine xW2 ?_)|(show VE ..;refine .mk ?_))
  rfl
 | cons i r =>
  rw [List.drop_succ_cons,List.drop_zero] at h1 ⊢
  generalize fdS (qbu p s r)=R at h1 ⊢
  have hc0:(((r.length+1:Nat):Int)==0)=false:=by simp;omega
  have hsl:∀e,slD Tryz.prog 145 e (some (.const (.int .i64 1))) none (.a (.sl (inAt i::List.map inAt r)))=some (.a (.sl (List.map inAt r))):=fun e=>slTail (l:=List.map inAt (i::r)) (by simp only [go_sem];first|done|rfl) (qnp _) (low1 (by simp))
  have hfz:=Fd.z0
  refine qab.go Tryz.func41 rfl Tryz.ntmps41 rfl rfl rfl (fun C hro=>?_)
  have fx:=trivial
  replace fx:=ai24 hfz (ai24 hsl (ai24 hc0 trivial))
  repeat' (first|refine stp [0,1,2,6,7,8,14] ?_|(refine RS.sE ?_;refine rnx ?_)|(refine RS.sN ?_;refine rnx ?_)|(refine RS.sC ?_;refine rnx ?_)|(refine RS.lC ?_;refine rnx ?_)|(refine stc (r1:=by first|exact h0|exact h1) (r2:=?_);refine rnx ?_)|refine WP.cn (fun hc=>?_) (fun hc=>?_)|fail)
  rfl
theorem lowT {e:Nat→D} {t h j:Nat} (ht:evO e (.tmp t)=.a (.v (.int .i64 (j:Nat)))) (hh:j≤h):lowD e (some (.tmp t)) h=some j:=by
 unfold lowD bndD
 simp only [ht]
 rw [if_pos (by omega)];rfl
theorem pmOver (p:List Cs) (c s:List UInt8) (hzz:qah Cs.sz p≤1048576):qab Tryz.prog 36 [.a (.sl (p.map Cs.at)),.a (.v (.string (bs c))),.a (.v (.string (bs s)))] (.t [.r (Fd.at (fdS (qbl p c s)).1),.a (.v (.bool (fdS (qbl p c s)).2))]):=by
 have hlen:=qas Cs.sz_pos p
 have hcl:=(qbz p c).len
 have hok:PlOk p ((qat p c).drop 1):=fun i hi=>(qbz p c).ok i (List.mem_of_mem_drop hi)
 have h1:=pmFirst p s ((qat p c).drop 1) hok (by rw [List.length_drop];omega) hzz
 have h0:=pChain p c (by omega)
 have hfz:=Fd.z0
 unfold qbl
 generalize qat p c=l at *
 generalize fdS (qbu p s (l.drop 1))=R at h1 ⊢
 obtain⟨j,hj,hd⟩:∃j,min 1 ((l.length:Nat):Int)=((j:Nat):Int)∧j≤l.length∧l.drop 1=l.drop j:=by
  cases l with
  | nil=>exact⟨0,rfl,Nat.le_refl _,rfl⟩
  | cons x r=>exact⟨1,by rw [List.length_cons];omega,by simp,rfl⟩
 have hsl:∀e,evO e (.tmp 16)=.a (.v (.int .i64 (j:Nat)))→slD Tryz.prog 145 e (some (.tmp 16)) none (.a (.sl (List.map inAt l)))=some (.a (.sl (List.map inAt (l.drop 1)))):=fun e he=>by
  rw [slTail (by simp only [go_sem];first|done|rfl) (qnp _) (lowT he (by rw [List.length_map];exact hd.1)),hd.2,List.map_drop]
 refine qab.go Tryz.func36 rfl Tryz.ntmps36 rfl rfl rfl (fun C hro=>?_)
 have fx:=trivial
 replace fx:=ai24 hfz (ai24 hsl (ai24 hj trivial))
 repeat' (first|refine stp [0,1,2,6,7,8] ?_|(refine RS.sE ?_;refine rnx ?_)|(refine RS.sN ?_;refine rnx ?_)|(refine RS.sC ?_;refine rnx ?_)|(refine RS.lC ?_;refine rnx ?_)|(refine stc (r1:=by first|exact h0|exact h1) (r2:=?_);refine rnx ?_)|fail)
 rfl
theorem qm3 {p:List Cs}:∀(m:Nat) (s:List UInt8) (x:Int),x∈upL p m s→0≤x∧∃t,x=qay p t
 | 0,_,_,h=>by cases h
 | m+1,s,x,h=>by
  unfold upL at h
  split at h
  ·cases h
  ·rename_i h0
   rcases List.mem_cons.1 h with rfl|h
   ·exact⟨by omega,s,rfl⟩
   ·split at h
    ·cases h
    ·exact qm3 m _ x h
theorem qof {p:List Cs} {s:List UInt8} {x:Int} (h:x∈qat p s):0≤x∧∃t,x=qay p t:=by
 rcases qg0 _ _ _ h with h|h
 ·cases h
 ·exact qm3 _ _ _ h
def qdj (p:List Cs) (i:Int):List UInt8:=((p[i.toNat]?).map Cs.name).getD []
theorem qfw {p:List Cs} {t:List UInt8} (h:0≤qay p t):qdj p (qay p t)=t:=by
 rcases qjy (fun c:Cs=>c.name==t) p 0 with h1|⟨j,z,hj,hz,h1⟩
 ·unfold qay at h;omega
 ·unfold qay qdj
  rw [h1,Nat.zero_add,Int.toNat_natCast,hj]
  exact eq_of_beq hz
theorem qix {p:List Cs} {s tn:List UInt8} {x:Int} (h:x∈qat p s):(qdj p x==tn)=(x==qay p tn):=by
 obtain⟨h0,t,rfl⟩:=qof h
 rw [qfw h0,Bool.eq_iff_iff,beq_iff_eq,beq_iff_eq]
 refine⟨fun h=>by rw [h],fun h=>?_⟩
 have:=qfw (p:=p) (t:=tn) (by omega)
 rw [←h,qfw h0] at this
 exact this
def qja (p:List Cs) (i:Int) (out:List (Int×Int)):List (Int×Int):=out.headD (8,0)::allO (((p[i.toNat]?).map Cs.above).getD []) out
def goD (p:List Cs) (tn:List UInt8):List Int→List (Int×Int)→List (Int×Int)
 | [],out=>out
 | i::r,out=>bif qdj p i==tn then out else goD p tn r (qja p i out)
def goP (p:List Cs) (e:Int):List Int→List (Int×Int)→Option (List (Int×Int))
 | [],_=>none
 | i::r,out=>bif i==e then some out else goP p e r (qja p i out)
theorem goPD {p:List Cs} {tn:List UInt8} {e:Int}:∀(l:List Int) (out:List (Int×Int)),(∀i∈l,(qdj p i==tn)=(i==e))→goP p e l out=bif l.any (fun x=>x==e) then some (goD p tn l out) else none
 | [],_,_=>rfl
 | i::r,out,h=>by
  rw [goP,goD,h i (List.mem_cons_self ..),List.any_cons]
  cases i==e
  ·rw [cond_false,cond_false,Bool.false_or];exact goPD r _ fun j hj=>h j (List.mem_cons_of_mem _ hj)
  ·rfl
def qb5 (p:List Cs) (from_:List UInt8) (l:List (Int×Int)) (tn:List UInt8) (ar:Int):List (Int×Int)×Bool :=
 bif (bif !qgd p from_ tn then true else (l.length:Int) != ar+1) then ([],false) else (goD p tn (qat p from_) l,true)
def qkx (p:List Cs) (from_:List UInt8) (l:List (Int×Int)) (tn:List UInt8) (ar:Int):List (Int×Int)×Bool :=
 bif (bif (bif decide (qay p tn<0) then true else (l.length:Int) != ar+1) then true else (l.length:Int)==0) then ([],false) else
  match goP p (qay p tn) (qat p from_) l with
  | some out=>(out,true)
  | none=>([],false)
theorem qn6 (p:List Cs) (from_ tn:List UInt8) (l:List (Int×Int)) (ar:Int) (hl:l≠[]):qkx p from_ l tn ar=qb5 p from_ l tn ar:=by
 unfold qkx qb5
 rw [goPD _ _ fun i hi=>qix hi,←qep]
 have h0:((l.length:Int)==0)=false:=by cases l with|nil=>exact absurd rfl hl|cons x r=>simp;omega
 rw [h0]
 by_cases hf:qay p tn<0
 ·rw [decide_eq_true hf,decide_eq_false (show ¬qay p tn≥0 by omega)];rfl
 ·rw [decide_eq_false hf,decide_eq_true (show qay p tn≥0 by omega)]
  cases (qat p from_).any fun x=>x==qay p tn<;>cases (l.length:Int) != ar+1<;>rfl
end Go.Proofs.YthkojpnjdpbcgaaGreatDoor
