/- The document's programs on plain data: whether they may be, and how many statements. Conditions: at most 2^20 of anything. -/
import Derived.Test.YthkojpnjdpbcgaaGreatDoorMl27
import Derived.Test.YthkojpnjdpbcgaaGreatDoorMl24
import Derived.Test.YthkojpnjdpbcgaaGreatDoorMl25
set_option linter.unusedVariables false
set_option maxRecDepth 100000
set_option maxHeartbeats 8000000
set_option linter.unusedSimpArgs false
namespace Go.Proofs.YthkojpnjdpbcgaaGreatDoor
open Go.RowKit
theorem Me.cnt_le (m:Me):St.cnts m.body≤m.sz:=by
 have:=(St.deeps_le m.body fun e _=>St.deep_le _ e (Nat.le_refl _)).2
 unfold Me.sz;omega
theorem Cs.stmts_le (c:Cs):c.stmts≤c.sz:=by
 have:c.stmts≤qaf Me.sz c.methods:=qi4 _ fun m _=>m.cnt_le
 unfold Cs.sz;omega
structure Cn where
 classes:Int
 fields:Int
 methods:Int
 vars:Int
 stmts:Int
 deep:Int
 holes:Int
def Cn.at:Cn→List A
 | ⟨classes,fields,methods,vars,stmts,deep,holes⟩=>[.v (.int .i64 classes),.v (.int .i64 fields),.v (.int .i64 methods),.v (.int .i64 vars),.v (.int .i64 stmts),.v (.int .i64 deep),.v (.int .i64 holes)]
section
variable (s:Cn)
@[go_sem] theorem Cn.len:(Cn.at s).length=7:=by obtain⟨classes,fields,methods,vars,stmts,deep,holes⟩:=s;rfl
end
@[go_sem] theorem Ty.nr (m:Nat) (s:Ty):(Ty.at s).all (nrA m)=true:=by obtain⟨kind,cls,n,o0,o1,o2,o3⟩:=s;rfl
@[go_sem] theorem Ex.nr (m:Nat) (s:Ex):(Ex.at s).all (nrA m)=true:=by obtain⟨kind,num,name,kids⟩:=s;simp only [Ex.at,Ex.at,Ex.ats_map];rfl
@[go_sem] theorem St.nr (m:Nat) (s:St):(St.at s).all (nrA m)=true:=by obtain⟨kind,x,y,name,⟨qa6,ty_cls,ty_n,ty_o0,ty_o1,ty_o2,ty_o3⟩,⟨e_kind,e_num,e_name,e_kids⟩,args,body,els,at_⟩:=s;simp only [St.at,St.at,St.ats_map,Ex.at,Ex.ats_map];rfl
@[go_sem] theorem Vr.nr (m:Nat) (s:Vr):(Vr.at s).all (nrA m)=true:=by obtain⟨name,⟨qa6,ty_cls,ty_n,ty_o0,ty_o1,ty_o2,ty_o3⟩,at_⟩:=s;rfl
@[go_sem] theorem Me.nr (m:Nat) (s:Me):(Me.at s).all (nrA m)=true:=by obtain⟨name,pure_,⟨ret_kind,ret_cls,ret_n,ret_o0,ret_o1,ret_o2,ret_o3⟩,params,locals,body,at_⟩:=s;rfl
@[go_sem] theorem Cs.nr (m:Nat) (s:Cs):(Cs.at s).all (nrA m)=true:=by obtain⟨name,params,super,above,fields,methods,at_⟩:=s;rfl
@[go_sem] theorem Cn.nr (m:Nat) (s:Cn):(Cn.at s).all (nrA m)=true:=by obtain⟨classes,fields,methods,vars,stmts,deep,holes⟩:=s;rfl
def maxOf {α:Type} (f:α→Nat):List α→Nat
 | []=>0
 | x::r=>max (f x) (maxOf f r)
def Me.deep (m:Me):Nat:=St.deeps m.body
def Cs.deep (c:Cs):Nat:=maxOf Me.deep c.methods
/-! Too great to be looked at? -/
mutual
def Ex.kidsB (left:Int):Ex→Bool
 | ⟨_,_,_,l⟩=>(decide (left<0)||decide ((l.length:Int)>4))||Ex.kidssB (left-1) l
def Ex.kidssB (left:Int):List Ex→Bool
 | []=>false
 | e::r=>e.kidsB left||Ex.kidssB left r
end
theorem Ex.kids_eq (left:Int) (e:Ex):e.kidsB left=((decide (left<0)||decide ((e.kids.length:Int)>4))||Ex.kidssB (left-1) e.kids):=by cases e;rfl
theorem Ex.kidssB_any (left:Int) (l:List Ex):Ex.kidssB left l=l.any (Ex.kidsB left):=by
 induction l with
 | nil=>rw [kidssB];rfl
 | cons e r ih=>rw [kidssB,ih];rfl
mutual
def St.muchB (left:Int):St→Bool
 | ⟨_,_,_,_,_,e,args,body,els,_⟩=>(decide (left<0)||decide ((body.length:Int)>500)||decide ((els.length:Int)>500)||decide ((args.length:Int)>20)||e.kidsB 25)||(args.any (Ex.kidsB 25)||(St.muchsB (left-1) body||St.muchsB (left-1) els))
def St.muchsB (left:Int):List St→Bool
 | []=>false
 | e::r=>e.muchB left||St.muchsB left r
end
theorem St.much_eq (left:Int) (s:St):s.muchB left=((decide (left<0)||decide ((s.body.length:Int)>500)||decide ((s.els.length:Int)>500)||decide ((s.args.length:Int)>20)||s.e.kidsB 25)||(s.args.any (Ex.kidsB 25)||(St.muchsB (left-1) s.body||St.muchsB (left-1) s.els))):=by cases s;rfl
theorem St.muchsB_any (left:Int) (l:List St):St.muchsB left l=l.any (St.muchB left):=by
 induction l with
 | nil=>rw [muchsB];rfl
 | cons e r ih=>rw [muchsB,ih];rfl
def uniq (v:Vr):Nat:=if v.ty.o0.1==6 then 1 else 0
def Me.uniques (m:Me):Nat:=qaf uniq m.params+qaf uniq m.locals
theorem uniq_le (l:List Vr):qaf uniq l≤l.length:=by
 induction l with
 | nil=>exact Nat.le_refl _
 | cons e r ih =>
  rw [qaf,List.length_cons]
  have:uniq e≤1:=by unfold uniq;split<;>omega
  omega
def qb4 (n:Nat):List St→Option Nat
 | []=>some n
 | s::r=>bif decide ((n:Int)>500)||s.muchB 25 then none else qb4 (n+s.cnt) r
def hvMe (n:Nat):List Me→Option Nat
 | []=>some n
 | m::r=>bif decide ((m.params.length:Int)>40)||decide ((m.locals.length:Int)>40)||decide ((m.body.length:Int)>500)||decide ((m.uniques:Int)>8) then none else (qb4 n m.body).bind fun k=>hvMe k r
def hvCs (top:Nat) (n:Nat):List Cs→Option Nat
 | []=>some n
 | c::r=>bif decide ((top:Int)>30)||decide ((c.params.length:Int)>20)||decide ((c.above.length:Int)>20)||decide ((c.fields.length:Int)>40)||decide ((c.methods.length:Int)>40) then none else (hvMe n c.methods).bind fun k=>hvCs top k r
def qk3 (l:List Cs):Bool:=match hvCs l.length 0 l with
 | none=>true
 | some n=>decide ((n:Int)>500)
theorem qfq:∀(l:List St) (n:Nat) (m:List St),qb4 n (l++m)=(qb4 n l).bind fun k=>qb4 k m
 | [],n,m=>rfl
 | s::r,n,m=>by
  rw [List.cons_append,qb4,qb4]
  cases decide ((n:Int)>500)||s.muchB 25
  ·simp only [cond_false];exact qfq r _ m
  ·rfl
theorem qjt:∀(l:List Me) (n:Nat) (m:List Me),hvMe n (l++m)=(hvMe n l).bind fun k=>hvMe k m
 | [],n,m=>rfl
 | s::r,n,m=>by
  rw [List.cons_append,hvMe,hvMe]
  cases decide ((s.params.length:Int)>40)||decide ((s.locals.length:Int)>40)||decide ((s.body.length:Int)>500)||decide ((s.uniques:Int)>8)
  ·simp only [cond_false]
   cases qb4 n s.body with
   | none=>rfl
   | some k=>exact qjt r k m
  ·rfl
theorem qju (t:Nat):∀(l:List Cs) (n:Nat) (m:List Cs),hvCs t n (l++m)=(hvCs t n l).bind fun k=>hvCs t k m
 | [],n,m=>rfl
 | s::r,n,m=>by
  rw [List.cons_append,hvCs,hvCs]
  cases decide ((t:Int)>30)||decide ((s.params.length:Int)>20)||decide ((s.above.length:Int)>20)||decide ((s.fields.length:Int)>40)||decide ((s.methods.length:Int)>40)
  ·simp only [cond_false]
   cases hvMe n s.methods with
   | none=>rfl
   | some k=>exact qju t r k m
  ·rfl
theorem qhe:∀(l:List St) (n k:Nat),qb4 n l=some k→k=n+St.cnts l
 | [],n,k,h=>by injection h with h;rw [St.cnts];omega
 | s::r,n,k,h=>by
  rw [qb4] at h
  cases hc:decide ((n:Int)>500)||s.muchB 25<;>rw [hc] at h
  ·have:=qhe r _ _ h;rw [St.cnts];omega
  ·cases h
theorem qly:∀(l:List Me) (n k:Nat),hvMe n l=some k→k=n+qaf (fun m:Me=>St.cnts m.body) l
 | [],n,k,h=>by injection h with h;rw [qaf];omega
 | s::r,n,k,h=>by
  rw [hvMe] at h
  cases hc:decide ((s.params.length:Int)>40)||decide ((s.locals.length:Int)>40)||decide ((s.body.length:Int)>500)||decide ((s.uniques:Int)>8)<;>rw [hc] at h
  ·simp only [cond_false,Option.bind_eq_some_iff] at h
   obtain⟨k1,h1,h2⟩:=h
   have:=qhe _ _ _ h1;have:=qly r _ _ h2;rw [qaf];omega
  ·cases h
theorem hvCs_le (t:Nat):∀(l:List Cs) (n k:Nat),hvCs t n l=some k→k=n+qaf Cs.stmts l
 | [],n,k,h=>by injection h with h;rw [qaf];omega
 | s::r,n,k,h=>by
  rw [hvCs] at h
  cases hc:decide ((t:Int)>30)||decide ((s.params.length:Int)>20)||decide ((s.above.length:Int)>20)||decide ((s.fields.length:Int)>40)||decide ((s.methods.length:Int)>40)<;>rw [hc] at h
  ·simp only [cond_false,Option.bind_eq_some_iff] at h
   obtain⟨k1,h1,h2⟩:=h
   have h3:=qly _ _ _ h1;have:=hvCs_le t r _ _ h2;rw [qaf];unfold Cs.stmts;unfold Cs.stmts at this;omega
  ·cases h
theorem w64 {a b c:Nat} (h:a+b=c) (hc:c≤4000000):IntKind.i64.wrap ((a:Int)+(b:Int))=(c:Int):=by rw [qbk (by omega) (by omega)];omega
set_option maxRecDepth 100000
theorem pKidsB:∀(m:Nat) (e:Ex) (left:Int),e.sz≤m→e.sz≤1048576→left≤25→qaa Tryz.prog 45 [.r (Ex.at e),.a (.v (.int .i64 left))] (.a (.v (.bool (e.kidsB left))))
 | 0,e,_,h,_,_=>by have:=e.sz_pos;omega
 | m+1,e,left,h,hz0,hL=>by
  have IH:0≤left→∀k∈e.kids,qaa Tryz.prog 45 [.r (Ex.rw k),.a (.v (.int .i64 (IntKind.i64.wrap (left-1))))] (.a (.v (.bool (k.kidsB (left-1))))):=fun h0 k hk=>by
   rw [qbk (by omega) (by omega),←Ex.at_rw]
   exact pKidsB m k _ (by have:=Ex.kid_lt hk;omega) (by have:=Ex.kid_lt hk;omega) (by omega)
  have hll:=Ex.szs_len e.kids
  have hse:=e.sz_eq
  rw [e.kids_eq left,Ex.kidssB_any,Ex.at_rv]
  refine qaa.vx [0,1,2,4,5,13,18,28] Tryz.func45 rfl Tryz.ntmps45 rfl rfl rfl (fun C hro hst=>?_)
  repeat' ((conv=>whnf);first|refine stv ?_|(show VB ..;refine VB.mk (fun hc=>?_) fun hc=>?_))
  all_goals rw [List.length_map] at hc;change (decide (left<0)||_)=_ at hc;rw [hc]
  ·rfl
  have hl0:0≤left:=by simp only [Bool.or_eq_false_iff,decide_eq_false_iff_not] at hc;omega
  conv=>whnf
  refine VL.each e.kids Ex.rw (fun k=>[(1,.a (.v (.int .i64 left))),(2,.a (.ptr 0 0)),(5,.a (.v (.int .i64 (k:Nat))))]) (fun _=>[.cell (Ex.rv e)]) (fun k=>(e.kids.take k).any (Ex.kidsB (left-1))=false) ⟨rfl,rfl,rfl,trivial⟩ rfl rfl (by omega) ?_ ?_
  ·intro k z hz hd htk hlt hI hlt2 hix hw
   have hzm:=IH hl0 z (lm4 hz)
   repeat' ((conv=>whnf);first|(show VI ..;refine xI (fun _=>by exact hix) ?_)|refine stv ?_|(show VB ..;first|refine VB.tt (by exact hlt2) ?_|refine VB.mk (fun hc=>?_) fun hc=>?_)|(show VC ..;refine xC (fun hg=>by exact hzm) ?_))
   ·rw [qno hz hc];rfl
   ·conv=>whnf
    exact⟨qnn htk hI hc,[],⟨rfl,rfl,congrArg (fun z=>D.a (.v (.int .i64 z))) hw,trivial⟩,rfl,rfl,rfl⟩
  ·intro hI hlt2
   rw [List.take_length] at hI
   repeat' ((conv=>whnf);first|refine stv ?_|(show VB ..;refine VB.ff (by exact hlt2) ?_))
   rw [hI];rfl
theorem wrapL {l:Int} (h0:0≤l) (h:l≤25):IntKind.i64.wrap (l-1)=l-1:=qbk (by omega) (by omega)
theorem pMuch:∀(m:Nat) (s:St) (left:Int),s.sz≤m→s.sz≤1048576→left≤25→qaa Tryz.prog 17 [.r (St.at s),.a (.v (.int .i64 left))] (.a (.v (.bool (s.muchB left))))
 | 0,s,_,h,_,_=>by have:=s.sz_pos;omega
 | m+1,s,left,h,hz0,hL=>by
  have hse:=s.sz_eq
  have hl1:=St.szs_len s.body
  have hl2:=St.szs_len s.els
  have hl3:=Ex.szs_len s.args
  have IH:0≤left→∀k,k.sz<s.sz→qaa Tryz.prog 17 [.r (St.rw k),.a (.v (.int .i64 (IntKind.i64.wrap (left-1))))] (.a (.v (.bool (k.muchB (left-1))))):=fun h0 k hk=>by
   rw [wrapL h0 hL,←St.at_rw]
   exact pMuch m k _ (by omega) (by omega) (by omega)
  have IK:∀k:Ex,k.sz≤1048576→qaa Tryz.prog 45 [.r (Ex.rw k),.a (.v (.int .i64 25))] (.a (.v (.bool (k.kidsB 25)))):=fun k hk=>by
   rw [←Ex.at_rw]
   exact pKidsB k.sz k 25 (Nat.le_refl _) hk (by omega)
  have IA:∀k∈s.args,qaa Tryz.prog 45 [.r (Ex.rw k),.a (.v (.int .i64 25))] (.a (.v (.bool (k.kidsB 25)))):=fun k hk=>IK k (by have:=Ex.szs_mem hk;omega)
  have IE:=IK s.e (by omega)
  have IB:0≤left→∀k∈s.body,_:=fun h0 k hk=>IH h0 k (by have:=St.body_lt hk;omega)
  have IC:0≤left→∀k∈s.els,_:=fun h0 k hk=>IH h0 k (by have:=St.els_lt hk;omega)
  rw [s.much_eq left,St.muchsB_any,St.muchsB_any,St.at_rx]
  generalize s.e.kidsB 25=eb at *
  refine qaa.vx [0,1,2,4,5,6,7,32,37,45,50,60,65,75] Tryz.func17 rfl Tryz.ntmps17 rfl rfl rfl (fun C hro hst=>?_)
  repeat' ((conv=>whnf);first|refine stv ?_|(show VB ..;refine VB.mk (fun hc=>?_) fun hc=>?_)|(show VC ..;refine xC (fun hg=>by exact IE) ?_))
  all_goals rw [List.length_map,List.length_map,List.length_map] at hc;change ((((decide (left<0)||_)||_)||_)||_)=_ at hc;rw [hc]
  ·rfl
  have hl0:0≤left:=by simp only [Bool.or_eq_false_iff,decide_eq_false_iff_not] at hc;omega
  conv=>whnf
  refine VL.each s.args Ex.rw (fun k=>[(1,.a (.v (.int .i64 left))),(2,.a (.ptr 0 0)),(5,.a (.v (.int .i64 (k:Nat))))]) (fun _=>[.cell (St.rx s)]) (fun k=>(s.args.take k).any (Ex.kidsB 25)=false) ⟨rfl,rfl,rfl,trivial⟩ rfl rfl (by omega) ?_ ?_
  ·intro k z hz hd htk hlt hI hlt2 hix hw
   have hzm:=IA z (lm4 hz)
   repeat' ((conv=>whnf);first|(show VI ..;refine xI (fun _=>by exact hix) ?_)|refine stv ?_|(show VB ..;first|refine VB.tt (by exact hlt2) ?_|refine VB.mk (fun hc=>?_) fun hc=>?_)|(show VC ..;refine xC (fun hg=>by exact hzm) ?_))
   ·rw [qno hz hc];rfl
   ·conv=>whnf
    exact⟨qnn htk hI hc,[],⟨rfl,rfl,congrArg (fun z=>D.a (.v (.int .i64 z))) hw,trivial⟩,rfl,rfl,rfl⟩
  intro hI hlt2
  rw [List.take_length] at hI
  rw [hI]
  repeat' ((conv=>whnf);first|refine stv ?_|(show VB ..;refine VB.ff (by exact hlt2) ?_))
  conv=>whnf
  refine VL.each s.body St.rw (fun k=>[(1,.a (.v (.int .i64 left))),(2,.a (.ptr 0 0)),(6,.a (.v (.int .i64 (k:Nat))))]) (fun _=>[.cell (St.rx s)]) (fun k=>(s.body.take k).any (St.muchB (left-1))=false) ⟨rfl,rfl,rfl,trivial⟩ rfl rfl (by omega) ?_ ?_
  ·intro k z hz hd htk hlt hI hlt2 hix hw
   have hzm:=IB hl0 z (lm4 hz)
   repeat' ((conv=>whnf);first|(show VI ..;refine xI (fun _=>by exact hix) ?_)|refine stv ?_|(show VB ..;first|refine VB.tt (by exact hlt2) ?_|refine VB.mk (fun hc=>?_) fun hc=>?_)|(show VC ..;refine xC (fun hg=>by exact hzm) ?_))
   ·rw [qno hz hc];rfl
   ·conv=>whnf
    exact⟨qnn htk hI hc,[],⟨rfl,rfl,congrArg (fun z=>D.a (.v (.int .i64 z))) hw,trivial⟩,rfl,rfl,rfl⟩
  intro hI hlt2
  rw [List.take_length] at hI
  rw [hI]
  repeat' ((conv=>whnf);first|refine stv ?_|(show VB ..;refine VB.ff (by exact hlt2) ?_))
  conv=>whnf
  refine VL.each s.els St.rw (fun k=>[(1,.a (.v (.int .i64 left))),(2,.a (.ptr 0 0)),(7,.a (.v (.int .i64 (k:Nat))))]) (fun _=>[.cell (St.rx s)]) (fun k=>(s.els.take k).any (St.muchB (left-1))=false) ⟨rfl,rfl,rfl,trivial⟩ rfl rfl (by omega) ?_ ?_
  ·intro k z hz hd htk hlt hI hlt2 hix hw
   have hzm:=IC hl0 z (lm4 hz)
   repeat' ((conv=>whnf);first|(show VI ..;refine xI (fun _=>by exact hix) ?_)|refine stv ?_|(show VB ..;first|refine VB.tt (by exact hlt2) ?_|refine VB.mk (fun hc=>?_) fun hc=>?_)|(show VC ..;refine xC (fun hg=>by exact hzm) ?_))
   ·rw [qno hz hc];rfl
   ·conv=>whnf
    exact⟨qnn htk hI hc,[],⟨rfl,rfl,congrArg (fun z=>D.a (.v (.int .i64 z))) hw,trivial⟩,rfl,rfl,rfl⟩
  intro hI hlt2
  rw [List.take_length] at hI
  rw [hI]
  repeat' ((conv=>whnf);first|refine stv ?_|(show VB ..;refine VB.ff (by exact hlt2) ?_))
  rfl
theorem pUniques (m:Me) (hz:m.sz≤1048576):qaa Tryz.prog 16 [.r (Me.at m)] (.a (.v (.int .i64 m.uniques))):=by
 obtain⟨u1,u2,u3,u4,u5,u6⟩:=Me.szH hz
 have hn:∀(l:List Vr) (k:Nat) (z:Vr) (a:Nat),l[k]? = some z→a≤1048576→l.length≤1048576→qaf uniq (l.take (k+1))=qaf uniq (l.take k)+uniq z∧IntKind.i64.wrap (((a+qaf uniq (l.take k):Nat):Int)+1)=((a+(qaf uniq (l.take k)+1):Nat):Int):=fun l k z a h ha hl=>by
  have hT:=uniq_le (l.take k)
  rw [List.length_take] at hT
  refine⟨by rw [qao h,qe5,qgq],?_⟩
  rw [qap (by omega),Nat.add_assoc]
 have n1:=uniq_le m.params
 refine qaa.vx [0,1,2,3,4,5,10,22,29,41] Tryz.func16 rfl Tryz.ntmps16 rfl rfl rfl (fun C hro hst=>?_)
 repeat' ((conv=>whnf);first|refine stv ?_|fail)
 conv=>whnf
 refine VL.each m.params Vr.at (fun k=>[(1,.a (.ptr 0 0)),(3,.a (.v (.int .i64 ((0+qaf uniq (m.params.take k):Nat):Int)))),(4,.a (.v (.int .i64 (k:Nat))))]) (fun _=>[.cell (Me.at m)]) (fun _=>True) ⟨rfl,rfl,rfl,trivial⟩ rfl trivial (by omega) ?_ ?_
 ·intro k z hz hd htk hlt _ hlt2 hix hw
  obtain⟨e1,e2⟩:=hn _ _ _ (0) hz (by omega) (by omega)
  repeat' ((conv=>whnf);first|(show VI ..;refine xI (fun _=>by exact hix) ?_)|refine stv ?_|(show VB ..;first|refine VB.tt (by exact hlt2) ?_|refine VB.mk (fun hc=>?_) fun hc=>?_))
  all_goals
   have hu:uniq z=_:=congrArg (fun b:Bool=>if b=true then 1 else 0) hc
   conv=>whnf
   exact⟨trivial,[],⟨rfl,congrArg (fun z=>D.a (.v (.int .i64 z))) (by rw [e1,hu];first|exact e2|rfl),congrArg (fun z=>D.a (.v (.int .i64 z))) hw,trivial⟩,rfl,rfl,rfl⟩
 intro _ hlt2
 rw [List.take_length]
 repeat' ((conv=>whnf);first|refine stv ?_|(show VB ..;refine VB.ff (by exact hlt2) ?_))
 conv=>whnf
 refine VL.each m.locals Vr.at (fun k=>[(1,.a (.ptr 0 0)),(3,.a (.v (.int .i64 ((0+qaf uniq m.params+qaf uniq (m.locals.take k):Nat):Int)))),(5,.a (.v (.int .i64 (k:Nat))))]) (fun _=>[.cell (Me.at m)]) (fun _=>True) ⟨rfl,rfl,rfl,trivial⟩ rfl trivial (by omega) ?_ ?_
 ·intro k z hz hd htk hlt _ hlt2 hix hw
  obtain⟨e1,e2⟩:=hn _ _ _ (0+qaf uniq m.params) hz (by omega) (by omega)
  repeat' ((conv=>whnf);first|(show VI ..;refine xI (fun _=>by exact hix) ?_)|refine stv ?_|(show VB ..;first|refine VB.tt (by exact hlt2) ?_|refine VB.mk (fun hc=>?_) fun hc=>?_))
  all_goals
   have hu:uniq z=_:=congrArg (fun b:Bool=>if b=true then 1 else 0) hc
   conv=>whnf
   exact⟨trivial,[],⟨rfl,congrArg (fun z=>D.a (.v (.int .i64 z))) (by rw [e1,hu];first|exact e2|rfl),congrArg (fun z=>D.a (.v (.int .i64 z))) hw,trivial⟩,rfl,rfl,rfl⟩
 intro _ hlt2
 rw [List.take_length]
 repeat' ((conv=>whnf);first|refine stv ?_|(show VB ..;refine VB.ff (by exact hlt2) ?_))
 rw [Nat.zero_add]
 rfl
set_option maxRecDepth 100000
theorem hvCs_none {t n k:Nat} {l:List Cs} (h:hvCs t n (l.take k)=none):hvCs t n l=none:=by
 rw [←List.take_append_drop k l,qju,h];rfl
theorem hvMe_none {n k:Nat} {l:List Me} (h:hvMe n (l.take k)=none):hvMe n l=none:=by
 rw [←List.take_append_drop k l,qjt,h];rfl
theorem qlz {n k:Nat} {l:List St} (h:qb4 n (l.take k)=none):qb4 n l=none:=by
 rw [←List.take_append_drop k l,qfq,h];rfl
theorem pHeavy (l:List Cs) (hz:qaf Cs.sz l≤1048576):qaa Tryz.prog 6 [.a (.sl (l.map Cs.at))] (.a (.v (.bool (qk3 l)))):=by
 have hll:=qav Cs.sz_pos l
 have b4:qaf Cs.stmts l≤qaf Cs.sz l:=qi4 _ fun c _=>c.stmts_le
 have hN:∀k,hvCs l.length 0 (l.take k)=none→qk3 l=true:=fun k h=>by unfold qk3;rw [hvCs_none h]
 refine qaa.vx [0,2,3,4,5,6,7,8,12,45,50,78,83,95] Tryz.func6 rfl Tryz.ntmps6 rfl rfl rfl (fun C hro hst=>?_)
 repeat' ((conv=>whnf);first|refine stv ?_|fail)
 conv=>whnf
 refine VL.each l Cs.at (fun k=>[(0,.a (.sl (l.map Cs.at))),(3,.a (.v (.int .i64 ((0+qaf Cs.stmts (l.take k):Nat):Int)))),(4,.a (.v (.int .i64 (k:Nat))))]) (fun _=>[]) (fun k=>hvCs l.length 0 (l.take k)=some (0+qaf Cs.stmts (l.take k))) ⟨rfl,rfl,rfl,trivial⟩ rfl rfl (by omega) ?_ ?_
 ·intro k z hz2 hd htk hlt hn hlt2 hix hw
  have hN:=hN (k+1)
  have hle:=fun n h=>hvCs_le l.length (l.take (k+1)) 0 n h
  have hzm:=lm4 hz2
  have hzz:z.sz≤1048576:=by have:=qau (f:=Cs.sz) hzm;omega
  obtain⟨y1,y2,y3,y4,y5,y6,y7,y8,y9⟩:=Cs.szH hzz
  have t4:=qcf Cs.stmts l (k+1)
  rw [htk,qe5,qgq] at t4
  have hs:hvCs l.length 0 (l.take (k+1))=hvCs l.length (0+qaf Cs.stmts (l.take k)) [z]:=by rw [htk,qju,hn];rfl
  rw [hvCs] at hs
  have t5:0+qaf Cs.stmts (l.take k)+z.stmts≤1048576:=by omega
  generalize 0+qaf Cs.stmts (l.take k)=n at *
  repeat' ((conv=>whnf);first|(show VI ..;refine xI (fun _=>by exact hix) ?_)|refine stv ?_|(show VB ..;first|refine VB.tt (by exact hlt2) ?_|refine VB.mk (fun hc=>?_) fun hc=>?_))
  all_goals
   simp only [List.length_map] at hc
   change ((((decide ((l.length:Int)>30)||_)||_)||_)||_)=_ at hc
   rw [hc] at hs
  ·rw [hN hs]
  have hs:hvCs l.length 0 (l.take (k+1))=hvMe n z.methods:=by
   rw [hs];simp only [cond_false,hvCs]
   cases hvMe n z.methods<;>rfl
  have hN:=fun j h=>hN (hs.trans (hvMe_none (k:=j) h))
  conv=>whnf
  refine VL.each z.methods Me.at (fun j=>[(0,.a (.sl (l.map Cs.at))),(3,.a (.v (.int .i64 ((n+qaf (fun m:Me=>St.cnts m.body) (z.methods.take j):Nat):Int)))),(4,.a (.v (.int .i64 (k:Nat)))),(5,.a (.ptr 0 0)),(6,.a (.v (.int .i64 (j:Nat))))]) (fun _=>[.cell (Cs.at z)]) (fun j=>hvMe n (z.methods.take j)=some (n+qaf (fun m:Me=>St.cnts m.body) (z.methods.take j))) ⟨rfl,rfl,rfl,rfl,rfl,trivial⟩ rfl rfl (by omega) ?_ ?_
  ·intro j m hz3 hd3 htk3 hlt3 hn2 hlt4 hix2 hw2
   have hmm:=lm4 hz3
   have hmz:m.sz≤1048576:=by have:=qau (f:=Me.sz) hmm;omega
   obtain⟨u1,u2,u3,u4,u5,u6⟩:=Me.szH hmz
   have hbl:=St.szs_len m.body
   have hN:=hN (j+1)
   have hs2:hvMe n (z.methods.take (j+1))=hvMe (n+qaf (fun m:Me=>St.cnts m.body) (z.methods.take j)) [m]:=by rw [htk3,qjt,hn2];rfl
   have hle2:=fun q h=>qly (z.methods.take (j+1)) n q h
   rw [hvMe] at hs2
   have q3:=qcf (fun m:Me=>St.cnts m.body) z.methods (j+1)
   rw [htk3,qe5,qgq] at q3
   have q4:qaf (fun m:Me=>St.cnts m.body) z.methods=z.stmts:=rfl
   have q5:n+qaf (fun m:Me=>St.cnts m.body) (z.methods.take j)+St.cnts m.body≤1048576:=by omega
   generalize n+qaf (fun m:Me=>St.cnts m.body) (z.methods.take j)=n2 at *
   have hu:=pUniques m hmz
   generalize m.uniques=uq at *
   repeat' ((conv=>whnf);first|(show VI ..;refine xI (fun _=>by exact hix2) ?_)|refine stv ?_|(show VB ..;first|refine VB.tt (by exact hlt4) ?_|refine VB.mk (fun hc=>?_) fun hc=>?_)|(show VC ..;refine xC (fun hg=>by exact hu) ?_))
   all_goals
    simp only [List.length_map] at hc
    change (((decide ((m.params.length:Int)>40)||_)||_)||_)=_ at hc
    rw [hc] at hs2
   ·rw [hN hs2]
   have hs2:hvMe n (z.methods.take (j+1))=qb4 n2 m.body:=by
    rw [hs2];simp only [cond_false,hvMe]
    cases qb4 n2 m.body<;>rfl
   have hN:=fun i h=>hN (hs2.trans (qlz (k:=i) h))
   conv=>whnf
   refine VL.each m.body St.at (fun i=>[(0,.a (.sl (l.map Cs.at))),(3,.a (.v (.int .i64 ((n2+St.cnts (m.body.take i):Nat):Int)))),(4,.a (.v (.int .i64 (k:Nat)))),(5,.a (.ptr 0 0)),(6,.a (.v (.int .i64 (j:Nat)))),(7,.a (.ptr 1 0)),(8,.a (.v (.int .i64 (i:Nat))))]) (fun _=>[.cell (Cs.at z),.cell (Me.at m)]) (fun i=>qb4 n2 (m.body.take i)=some (n2+St.cnts (m.body.take i))) ⟨rfl,rfl,rfl,rfl,rfl,rfl,rfl,trivial⟩ rfl rfl (by omega) ?_ ?_
   ·intro i s hz5 hd5 htk5 hlt5 hn3 hlt6 hix5 hw5
    have hsz:s.sz≤1048576:=by have:=St.szs_mem (lm4 hz5);omega
    have hT:=St.cnts_take m.body (i+1)
    rw [htk5,St.cnts_app,St.cnts_one] at hT
    have hN:=hN (i+1)
    have hs3:qb4 n2 (m.body.take (i+1))=qb4 (n2+St.cnts (m.body.take i)) [s]:=by rw [htk5,qfq,hn3];rfl
    have hle3:=fun q h=>qhe (m.body.take (i+1)) n2 q h
    have hwS:=w64 (a:=n2+St.cnts (m.body.take i)) (b:=s.cnt) rfl (by omega)
    rw [qb4] at hs3
    generalize n2+St.cnts (m.body.take i)=n3 at *
    have g1:=pMuch _ s 25 (Nat.le_refl _) hsz (by omega)
    have g2:=pSize _ s (Nat.le_refl _) hsz
    rw [St.at_rw] at hix5 g1 g2
    generalize s.muchB 25=mb at *
    repeat' ((conv=>whnf);first|(show VI ..;refine xI (fun _=>by exact hix5) ?_)|refine stv ?_|(show VB ..;first|refine VB.tt (by exact hlt6) ?_|refine VB.mk (fun hc=>?_) fun hc=>?_)|(show VC ..;refine xC (fun hg=>by first|exact g1|exact g2) ?_))
    all_goals
     change (decide ((n3:Int)>500)||_)=_ at hc
     rw [hc] at hs3
    ·rw [hN hs3]
    ·conv=>whnf
     have e:=hle3 _ hs3
     exact⟨hs3.trans (congrArg some e),_,⟨rfl,congrArg (fun z=>D.a (.v (.int .i64 z))) (hwS.trans (congrArg Nat.cast e)),rfl,rfl,rfl,rfl,congrArg (fun z=>D.a (.v (.int .i64 z))) hw5,trivial⟩,rfl,rfl,rfl⟩
   ·intro hn3 hlt6
    rw [List.take_length] at hn3
    repeat' ((conv=>whnf);first|refine stv ?_|(show VB ..;refine VB.ff (by exact hlt6) ?_))
    conv=>whnf
    rw [hn3] at hs2
    have e:=hle2 _ hs2
    exact⟨hs2.trans (congrArg some e),_,⟨rfl,congrArg (fun z=>D.a (.v (.int .i64 z))) (by rw [List.take_length];exact congrArg Nat.cast e),rfl,rfl,congrArg (fun z=>D.a (.v (.int .i64 z))) hw2,trivial⟩,rfl,rfl,rfl⟩
  ·intro hn2 hlt4
   rw [List.take_length] at hn2
   repeat' ((conv=>whnf);first|refine stv ?_|(show VB ..;refine VB.ff (by exact hlt4) ?_))
   conv=>whnf
   rw [hn2] at hs
   have:=hle _ hs
   exact⟨hs.trans (congrArg some this),_,⟨rfl,congrArg (fun z=>D.a (.v (.int .i64 z))) (by rw [List.take_length];exact congrArg Nat.cast this),congrArg (fun z=>D.a (.v (.int .i64 z))) hw,trivial⟩,rfl,rfl,rfl⟩
 ·intro hn hlt2
  repeat' ((conv=>whnf);first|refine stv ?_|(show VB ..;refine VB.ff (by exact hlt2) ?_))
  unfold qk3
  rw [List.take_length] at hn ⊢
  rw [hn]
end Go.Proofs.YthkojpnjdpbcgaaGreatDoor
