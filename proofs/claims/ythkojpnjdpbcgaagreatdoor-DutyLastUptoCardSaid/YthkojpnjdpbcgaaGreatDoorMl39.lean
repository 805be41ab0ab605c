/- A record of records as plain data. No program in sight. Conditions: none. -/
import Derived.Test.YthkojpnjdpbcgaaGreatDoorMl36
import Derived.Test.YthkojpnjdpbcgaaGreatDoorMl19
import Derived.Test.YthkojpnjdpbcgaaGreatDoorMl30
set_option linter.unusedVariables false
set_option maxRecDepth 100000
set_option maxHeartbeats 8000000
set_option linter.unusedSimpArgs false
namespace Go.Proofs.YthkojpnjdpbcgaaGreatDoor
open Go.RowKit
structure Fd where
 cls:List UInt8
 m:Me
def Fd.at (s:Fd):List A:=[.v (.string (bs s.cls))]++Me.at s.m
section
variable (s:Fd)
theorem Fd.row:Fd.at s=[.v (.string (bs s.cls)),.v (.string (bs s.m.name)),.v (.bool s.m.pure_),.v (.int .i64 s.m.ret.kind),.v (.string (bs s.m.ret.cls)),.v (.int .i64 s.m.ret.n),.v (.int .i64 s.m.ret.o0.1),.v (.int .i64 s.m.ret.o0.2),.v (.int .i64 s.m.ret.o1.1),.v (.int .i64 s.m.ret.o1.2),.v (.int .i64 s.m.ret.o2.1),.v (.int .i64 s.m.ret.o2.2),.v (.int .i64 s.m.ret.o3.1),.v (.int .i64 s.m.ret.o3.2),.sl (s.m.params.map Vr.at),.sl (s.m.locals.map Vr.at),.sl (s.m.body.map St.at),.v (.int .i64 s.m.at_)]:=by obtain⟨cls,⟨m_name,m_pure_,⟨m_ret_kind,m_ret_cls,m_ret_n,m_ret_o0,m_ret_o1,m_ret_o2,m_ret_o3⟩,m_params,m_locals,m_body,m_at_⟩⟩:=s;simp only [Fd.at,Me.at,Ty.at];rfl
@[go_sem] theorem Fd.len:(Fd.at s).length=18:=by rw [Fd.row];rfl
@[go_sem] theorem Fd.cl:(Fd.at s).all clA=true:=by rw [Fd.row];rfl
@[go_sem] theorem Fd.see (st:List Bx):(Fd.at s).map (seeA st)=Fd.at s:=by rw [Fd.row];rfl
@[go_sem] theorem Fd.nr (m:Nat):(Fd.at s).all (nrA m)=true:=by rw [Fd.row];rfl
@[go_sem] theorem Fd.w:qae (some 18) (Fd.at s) 0=some (.r (Fd.at s)):=qbp (Fd.len s)
@[go_sem] theorem Fd.pw (t:Fd):qah (Fd.at s) 0 (Fd.at t)=Fd.at t:=qbv (by rw [Fd.len,Fd.len])
@[go_sem] theorem Fd.g14:qae none (Fd.at s) 14=some (.a (.sl (s.m.params.map Vr.at))):=by rw [Fd.row];rfl
@[go_sem] theorem Fd.s3:qae (some 11) (Fd.at s) 3=some (.r (Ty.at s.m.ret)):=by obtain⟨_,⟨_,_,⟨_,_,_,_,_,_,_⟩,_,_,_,_⟩⟩:=s;simp only [Fd.at,Me.at,Ty.at];rfl
@[go_sem] theorem Fd.p_cls (z:List UInt8):qah (Fd.at s) 0 ([.v (.string (bs z))])=Fd.at { s with cls:=z }:=by obtain⟨_,⟨_,_,⟨_,_,_,_,_,_,_⟩,_,_,_,_⟩⟩:=s;simp only [Fd.at,Me.at,Ty.at];rfl
@[go_sem] theorem Fd.p_m (z:Me):qah (Fd.at s) 1 (Me.at z)=Fd.at { s with m:=z }:=by obtain⟨_,_,⟨_,_,_,_,_,_,_⟩,_,_,_,_⟩:=z;obtain⟨_,⟨_,_,⟨_,_,_,_,_,_,_⟩,_,_,_,_⟩⟩:=s;simp only [Fd.at,Me.at,Ty.at];rfl
end
def Fd.zero:Fd:=⟨[],Me.zero⟩
theorem Fd.z0:[A.v (.string ⟨#[]⟩),.v (.string ⟨#[]⟩),.v (.bool false),.v (.int .i64 0),.v (.string ⟨#[]⟩),.v (.int .i64 0),.v (.int .i64 0),.v (.int .i64 0),.v (.int .i64 0),.v (.int .i64 0),.v (.int .i64 0),.v (.int .i64 0),.v (.int .i64 0),.v (.int .i64 0),.sl [],.sl [],.sl [],.v (.int .i64 0)]=Fd.at Fd.zero:=by unfold Fd.zero;simp only [Fd.at,Me.zero,Me.at,Ty.zero,Ty.at];rfl
structure Hd where
 m:Me
 i:Int
def Hd.at:Hd→List A
 | ⟨m,i⟩=>Me.at m++[.v (.int .i64 i)]
section
variable (s:Hd)
theorem Hd.row:Hd.at s=[.v (.string (bs s.m.name)),.v (.bool s.m.pure_),.v (.int .i64 s.m.ret.kind),.v (.string (bs s.m.ret.cls)),.v (.int .i64 s.m.ret.n),.v (.int .i64 s.m.ret.o0.1),.v (.int .i64 s.m.ret.o0.2),.v (.int .i64 s.m.ret.o1.1),.v (.int .i64 s.m.ret.o1.2),.v (.int .i64 s.m.ret.o2.1),.v (.int .i64 s.m.ret.o2.2),.v (.int .i64 s.m.ret.o3.1),.v (.int .i64 s.m.ret.o3.2),.sl (s.m.params.map Vr.at),.sl (s.m.locals.map Vr.at),.sl (s.m.body.map St.at),.v (.int .i64 s.m.at_),.v (.int .i64 s.i)]:=by obtain⟨⟨m_name,m_pure_,⟨m_ret_kind,m_ret_cls,m_ret_n,m_ret_o0,m_ret_o1,m_ret_o2,m_ret_o3⟩,m_params,m_locals,m_body,m_at_⟩,i⟩:=s;simp only [Hd.at,Me.at,Ty.at];rfl
@[go_sem] theorem Hd.len:(Hd.at s).length=18:=by rw [Hd.row];rfl
@[go_sem] theorem Hd.cl:(Hd.at s).all clA=true:=by rw [Hd.row];rfl
@[go_sem] theorem Hd.nr (m:Nat):(Hd.at s).all (nrA m)=true:=by rw [Hd.row];rfl
@[go_sem] theorem Hd.g0:qae none (Hd.at s) 0=some (.a (.v (.string (bs s.m.name)))):=by rw [Hd.row];rfl
@[go_sem] theorem Hd.g17:qae none (Hd.at s) 17=some (.a (.v (.int .i64 s.i))):=by rw [Hd.row];rfl
@[go_sem] theorem Hd.s0:qae (some 17) (Hd.at s) 0=some (.r (Me.at s.m)):=by obtain⟨⟨_,_,⟨_,_,_,_,_,_,_⟩,_,_,_,_⟩,_⟩:=s;simp only [Hd.at,Me.at,Ty.at];rfl
@[go_sem] theorem Hd.p_m (z:Me):qah (Hd.at s) 0 (Me.at z)=Hd.at { s with m:=z }:=by obtain⟨_,_,⟨_,_,_,_,_,_,_⟩,_,_,_,_⟩:=z;obtain⟨⟨_,_,⟨_,_,_,_,_,_,_⟩,_,_,_,_⟩,_⟩:=s;simp only [Hd.at,Me.at,Ty.at];rfl
@[go_sem] theorem Hd.p_i (z:Int):qah (Hd.at s) 17 ([.v (.int .i64 z)])=Hd.at { s with i:=z }:=by obtain⟨⟨_,_,⟨_,_,_,_,_,_,_⟩,_,_,_,_⟩,_⟩:=s;simp only [Hd.at,Me.at,Ty.at];rfl
end
def Hd.zero:Hd:=⟨Me.zero,0⟩
theorem Hd.z0:[A.v (.string ⟨#[]⟩),.v (.bool false),.v (.int .i64 0),.v (.string ⟨#[]⟩),.v (.int .i64 0),.v (.int .i64 0),.v (.int .i64 0),.v (.int .i64 0),.v (.int .i64 0),.v (.int .i64 0),.v (.int .i64 0),.v (.int .i64 0),.v (.int .i64 0),.sl [],.sl [],.sl [],.v (.int .i64 0),.v (.int .i64 0)]=Hd.at Hd.zero:=by unfold Hd.zero;simp only [Hd.at,Me.zero,Me.at,Ty.zero,Ty.at];rfl
def ownM (c:Cs) (s:List UInt8):Option Me:=c.methods.find? fun m=>m.name==s
def qcr (p:List Cs) (s:List UInt8):List Int→Option Fd
 | []=>none
 | i::r=>(match (p[i.toNat]?).bind fun c=>(ownM c s).map fun m=>(⟨c.name,m⟩:Fd) with
  | some f=>some f
  | none=>qcr p s r)
def PlOk (p:List Cs) (l:List Int):Prop:=∀i∈l,∃(k:Nat) (c:Cs),i=(k:Int)∧p[k]? = some c
theorem qmf {p:List Cs} {s:List UInt8} {k:Nat} {c:Cs} {r:List Int} (h:p[k]? = some c):qcr p s ((k:Int)::r)=(match ownM c s with|some m=>some ⟨c.name,m⟩|none=>qcr p s r):=by
 rw [qcr,Int.toNat_natCast,h,Option.bind_some]
 cases ownM c s<;>rfl
def fdS:Option Fd→Fd×Bool
 | some f=>(f,true)
 | none=>(Fd.zero,false)
theorem pmFirst1 (p:List Cs) (s:List UInt8) (m:Me) (k:Nat) (c:Cs) (hc:p[k]? = some c):DM Tryz.prog 134 [.r (Hd.at ⟨m,(k:Int)⟩),.a (.ptr 0 0),.a (.ptr 1 0),.a (.ptr 2 0),.a (.ptr 3 0)] [.cell [.v (.string (bs s))],.cell [.sl (p.map Cs.at)],.cell (Fd.at Fd.zero),.cell [.v (.bool false)]] (.a (.v (.bool (!(m.name==s)))))
  [.cell [.v (.string (bs s))],.cell [.sl (p.map Cs.at)],.cell (Fd.at (if (m.name==s)=true then ⟨c.name,m⟩ else Fd.zero)),.cell [.v (.bool (m.name==s))]]:=by
 have hix:∀q2,ixD (some 7) q2 (.a (.sl (p.map Cs.at))) (.a (.v (.int .i64 (k:Int))))=some (.a (.ref (Cs.at c) 0)):=fun q2=>qaq rfl (by rw [List.getElem?_map,hc];rfl) (by simp only [go_sem])
 have hfz:=Fd.z0
 cases hn:m.name==s with
 | true =>
  rw [if_pos rfl]
  refine DM.intro Tryz.func134 rfl Tryz.ntmps134 rfl rfl rfl (by simp only [go_sem,simprocAttr]) (fun V0 Kb Nx=>?_)
  have fx:=trivial
  replace fx:=ai15 hn (ai15 hix (ai15 hfz trivial))
  repeat' (first|(refine RWL.fin ?_;try simp only [qab,qac])|refine stp [0,1,2,3,4,5,6,11] ?_|refine RWL.fr ?_|refine RWL.wt ?_|(refine' WP.dl (id:=2) [0,0,2,7,15,31,0,64,0,319,831,2047,4095,8191] [0,1,2,3,4,5,6,11] [8,10,12,13] [(8,_),(10,_),(12,_),(13,_)] ?_)|refine RWL.re ?_ ?_|refine RdO.oz|refine RdO.oe ?_|fail)
  exact qar ⟨rfl,_,rfl⟩
 | false =>
  rw [if_neg Bool.false_ne_true]
  refine DM.intro Tryz.func134 rfl Tryz.ntmps134 rfl rfl rfl (by simp only [go_sem,simprocAttr]) (fun V0 Kb Nx=>?_)
  have fx:=trivial
  replace fx:=ai15 hn (ai15 hix (ai15 hfz trivial))
  repeat' (first|refine stp [0,1,2,3,4,5,6,11] ?_|fail)
  exact qar ⟨rfl,_,rfl⟩
theorem qk5 {α:Type} (q:α→Bool):∀(l:List α) (k:Nat),(l.take k).any q=false→l.find? q=(l.drop k).find? q
 | l,0,_=>rfl
 | [],k+1,_=>by simp
 | x::r,k+1,h=>by
  rw [List.take_succ_cons,List.any_cons,Bool.or_eq_false_iff] at h
  rw [List.find?_cons_of_neg (by rw [h.1];exact Bool.false_ne_true),List.drop_succ_cons]
  exact qk5 q r k h.2
theorem pmWalk (p:List Cs) (s:List UInt8) (l:List Int) (hl:PlOk p l) (hn:l.length≤1048577) (hzz:qaf Cs.sz p≤1048576):DM Tryz.prog 133 [.a (.sl (p.map Cs.at)),.a (.sl (l.map inAt)),.a (.fn 134 [.ptr 0 0,.ptr 1 0,.ptr 2 0,.ptr 3 0])] [.cell [.v (.string (bs s))],.cell [.sl (p.map Cs.at)],.cell (Fd.at Fd.zero),.cell [.v (.bool false)]] (.t [])
  [.cell [.v (.string (bs s))],.cell [.sl (p.map Cs.at)],.cell (Fd.at (fdS (qcr p s l)).1),.cell [.v (.bool (fdS (qcr p s l)).2)]]:=by
 refine DM.intro Tryz.func133 rfl Tryz.ntmps133 rfl rfl rfl (by simp only [go_sem,simprocAttr]) (fun V0 Kb Nx=>?_)
 have fx:=trivial
 repeat' (first|refine stp [0,1,2,7,9,10,11,12,13,20,21,22,23,31] ?_|fail)
 refine WP.loopX (α:={ k:Nat // k≤l.length∧qcr p s l=qcr p s (l.drop k) }) (fun y=>[(0,.a (.sl (p.map Cs.at))),(2,.a (.fn 134 [.ptr 0 0,.ptr 1 0,.ptr 2 0,.ptr 3 0])),(10,.a (.sl (l.map inAt))),(11,.a (.v (.int .i64 (l.length:Nat)))),(12,.a (.v (.int .i64 (y.1:Nat))))]) (fun y=>[.cell [.v (.string (bs s))],.cell [.sl (p.map Cs.at)],.cell (Fd.at Fd.zero),.cell [.v (.bool false)]]) (fun y=>l.length-y.1) ⟨0,by omega,rfl⟩ (by simp only [qal,go_sem,simprocAttr];first|done|rfl) rfl ?_
 rintro⟨k,hk,hinv⟩
 dsimp only
 by_cases hlt:k<l.length
 ·have hlt2:decide ((k:Int)<((l.length:Nat):Int))=true:=decide_eq_true (by omega)
  obtain⟨i,hi⟩:∃i,l[k]? = some i:=⟨_,List.getElem?_eq_getElem hlt⟩
  obtain⟨a,c,rfl,hca⟩:=hl i (lm4 hi)
  have hdr:l.drop k=(a:Int)::l.drop (k+1):=by rw [List.drop_eq_getElem_cons hlt];congr 1;exact (List.getElem?_eq_some_iff.1 hi).2
  rw [hdr,qmf hca] at hinv
  have hix:∀q2,ixD (some 1) q2 (.a (.sl (l.map inAt))) (.a (.v (.int .i64 (k:Int))))=some (.a (.ref (inAt (a:Int)) 0)):=fun q2=>qaq rfl (by rw [List.getElem?_map,hi];rfl) (by simp only [go_sem])
  have hiz:∀q2,ixD (some 7) q2 (.a (.sl (p.map Cs.at))) (.a (.v (.int .i64 (a:Int))))=some (.a (.ref (Cs.at c) 0)):=fun q2=>qaq rfl (by rw [List.getElem?_map,hca];rfl) (by simp only [go_sem])
  have hwu:=qap (k:=k) (by omega)
  have hcs:c.sz≤1048576:=by have:=qau (f:=Cs.sz) (lm4 hca);omega
  obtain⟨y1,y2,y3,y4,y5,y6,y7,y8,y9⟩:=Cs.szH hcs
  replace fx:=ai15 hlt2 (ai15 hix (ai15 hiz (ai15 hwu trivial)))
  repeat' (first|refine stp [0,1,2,7,9,10,11,12,13,20,21,22,23,31] ?_|fail)
  refine WP.loopX (α:={ j:Nat // j≤c.methods.length∧(c.methods.take j).any (fun m=>m.name==s)=false }) (fun y=>[(0,.a (.sl (p.map Cs.at))),(2,.a (.fn 134 [.ptr 0 0,.ptr 1 0,.ptr 2 0,.ptr 3 0])),(7,.a (.v (.int .i64 (a:Nat)))),(10,.a (.sl (l.map inAt))),(11,.a (.v (.int .i64 (l.length:Nat)))),(12,.a (.v (.int .i64 (k:Nat)))),(20,.a (.sl (c.methods.map Me.at))),(21,.a (.v (.int .i64 (c.methods.length:Nat)))),(22,.a (.v (.int .i64 (y.1:Nat))))]) (fun y=>[.cell [.v (.string (bs s))],.cell [.sl (p.map Cs.at)],.cell (Fd.at Fd.zero),.cell [.v (.bool false)]]) (fun y=>c.methods.length-y.1) ⟨0,by omega,rfl⟩ (by simp only [qal,go_sem,simprocAttr];first|done|rfl) rfl ?_
  rintro⟨j,hj,hjv⟩
  dsimp only
  by_cases hlj:j<c.methods.length
  ·have hlt3:decide ((j:Int)<((c.methods.length:Nat):Int))=true:=decide_eq_true (by omega)
   obtain⟨m,hm⟩:∃m,c.methods[j]? = some m:=⟨_,List.getElem?_eq_getElem hlj⟩
   have him:∀q2,ixD (some 17) q2 (.a (.sl (c.methods.map Me.at))) (.a (.v (.int .i64 (j:Int))))=some (.a (.ref (Me.at m) 0)):=fun q2=>qaq rfl (by rw [List.getElem?_map,hm];rfl) (by simp only [go_sem])
   have hwj:=qap (k:=j) (by omega)
   have hdm:c.methods.drop j=m::c.methods.drop (j+1):=by rw [List.drop_eq_getElem_cons hlj];congr 1;exact (List.getElem?_eq_some_iff.1 hm).2
   have hcall:=pmFirst1 p s m a c hca
   have hown:=qk5 (fun m:Me=>m.name==s) c.methods j hjv
   rw [hdm] at hown
   have hhz:=Hd.z0
   cases hnm:m.name==s with
   | true =>
    rw [List.find?_cons_of_pos (p:=fun m:Me=>m.name==s) hnm] at hown
    unfold ownM at hinv
    rw [hown] at hinv
    dsimp only at hinv
    rw [hnm,if_pos rfl] at hcall
    rw [hinv]
    replace fx:=ai15 hlt3 (ai15 him (ai15 hiz (ai15 hhz trivial)))
    repeat' (first|refine stp [0,1,2,7,9,10,11,12,13,20,21,22,23,31] ?_|(refine RS.cvM [0,1,2,3] (hp:=by exact hcall) (h:=?_);refine rnx ?_)|fail)
    refine retM0 ?_
    exact⟨rfl,_,rfl⟩
   | false =>
    rw [hnm,if_neg Bool.false_ne_true] at hcall
    replace fx:=ai15 hlt3 (ai15 him (ai15 hiz (ai15 hwj (ai15 hhz trivial))))
    repeat' (first|refine stp [0,1,2,7,9,10,11,12,13,20,21,22,23,31] ?_|(refine RS.cvM [0,1,2,3] (hp:=by exact hcall) (h:=?_);refine rnx ?_)|fail)
    refine⟨⟨j+1,by omega,by rw [qao hm,List.any_append,hjv];simpa using hnm⟩,_,by dsimp only;omega,by simp only [qal,go_sem,simprocAttr],rfl,by simp only [nrE,nrD,List.all_cons,List.all_nil,go_sem,simprocAttr],by simp only [go_sem,simprocAttr]⟩
  ·obtain rfl:j=c.methods.length:=by omega
   have hlt3:decide ((c.methods.length:Int)<((c.methods.length:Nat):Int))=false:=decide_eq_false (by omega)
   rw [List.take_length] at hjv
   have hown:ownM c s=none:=by unfold ownM;rw [List.find?_eq_none];rw [List.any_eq_false] at hjv;exact hjv
   rw [hown] at hinv
   replace fx:=ai15 hlt3 (ai15 hwu trivial)
   repeat' (first|refine stp [0,1,2,7,9,10,11,12,13,20,21,22,23,31] ?_|fail)
   refine⟨⟨k+1,by omega,hinv⟩,[],by dsimp only;omega,by simp only [qal,go_sem,simprocAttr],rfl,by simp only [nrE,nrD,List.all_cons,List.all_nil,go_sem,simprocAttr],by simp only [go_sem,simprocAttr]⟩
 ·obtain rfl:k=l.length:=by omega
  have hlt2:decide ((l.length:Int)<((l.length:Nat):Int))=false:=decide_eq_false (by omega)
  rw [List.drop_length] at hinv
  replace fx:=ai15 hlt2 trivial
  repeat' (first|refine stp [0,1,2,7,9,10,11,12,13,20,21,22,23,31] ?_|fail)
  rw [hinv]
  refine retM0n ?_
  exact⟨rfl,[],rfl⟩
theorem pmFirst (p:List Cs) (s:List UInt8) (l:List Int) (hl:PlOk p l) (hn:l.length≤1048577) (hzz:qaf Cs.sz p≤1048576):qaa Tryz.prog 76 [.a (.sl (p.map Cs.at)),.a (.sl (l.map inAt)),.a (.v (.string (bs s)))] (.t [.r (Fd.at (fdS (qcr p s l)).1),.a (.v (.bool (fdS (qcr p s l)).2))]):=by
 have hw:=pmWalk p s l hl hn hzz
 generalize fdS (qcr p s l)=R at hw ⊢
 have hfz:=Fd.z0
 refine qaa.go Tryz.func76 rfl Tryz.ntmps76 rfl rfl rfl (fun C hro=>?_)
 have fx:=trivial
 replace fx:=ai15 hfz trivial
 repeat' (first|(refine RWL.fin ?_;try simp only [qab,qac])|refine stp [0,1,2,3,5,6,7,8,9] ?_|refine RWL.fr ?_|refine RWL.wt ?_|(refine RS.cM [1,0,3,4] (hp:=by exact hw) (h:=?_);refine rnx ?_)|(refine' WP.dl (id:=3) [0,0,1,7] [0,1,2,3,5,6,7,8,9] [2] [(2,_)] ?_)|refine RWL.re ?_ ?_|refine RdO.oz|refine RdO.oe ?_|refine RdO.on|fail)
 rfl
def qd6 (p:List Cs) (c s:List UInt8):Option Fd:=qcr p s (qbs p c)
theorem PlN.ok {p:List Cs} {l:List Int} (h:PlN p l):PlOk p l:=h.2
theorem pmFind (p:List Cs) (c s:List UInt8) (hzz:qaf Cs.sz p≤1048576):qaa Tryz.prog 159 [.a (.sl (p.map Cs.at)),.a (.v (.string (bs c))),.a (.v (.string (bs s)))] (.t [.r (Fd.at (fdS (qd6 p c s)).1),.a (.v (.bool (fdS (qd6 p c s)).2))]):=by
 have hlen:=qav Cs.sz_pos p
 have hcl:=(qdd p c).len
 have h1:=pmFirst p s (qbs p c) (qdd p c).ok (by omega) hzz
 unfold qd6
 generalize fdS (qcr p s (qbs p c))=R at h1 ⊢
 have hfz:=Fd.z0
 refine qaa.go Tryz.func159 rfl Tryz.ntmps159 rfl rfl rfl (fun C hro=>?_)
 have fx:=trivial
 replace fx:=ai15 hfz trivial
 repeat' (first|refine stp [0,1,2,6,7] ?_|(refine stc (r1:=by first|exact pChain p c (by omega)|exact h1) (r2:=?_);refine rnx ?_)|fail)
 rfl
end Go.Proofs.YthkojpnjdpbcgaaGreatDoor
