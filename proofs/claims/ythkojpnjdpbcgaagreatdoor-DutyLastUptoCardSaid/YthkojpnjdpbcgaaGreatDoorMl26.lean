/- Plain answers on variables, methods, classes, programs. No program in sight. Conditions: none. -/
import Derived.Test.YthkojpnjdpbcgaaGreatDoorMl25
import Derived.Test.YthkojpnjdpbcgaaGreatDoorMl24
set_option linter.unusedVariables false
set_option maxRecDepth 100000
set_option maxHeartbeats 8000000
set_option linter.unusedSimpArgs false
namespace Go.Proofs.YthkojpnjdpbcgaaGreatDoor
open Go.RowKit
def qaf {α:Type} (f:α→Nat):List α→Nat
 | []=>0
 | x::r=>f x+qaf f r
theorem qau {α:Type} {f:α→Nat}:∀{l:List α} {k:α},k∈l→f k≤qaf f l
 | e::r,k,h=>by
  rw [qaf]
  rcases List.mem_cons.1 h with rfl|h
  ·omega
  ·have:=qau (f:=f) h;omega
theorem qav {α:Type} {f:α→Nat} (hf:∀x,0<f x):∀l:List α,l.length≤qaf f l
 | []=>Nat.le_refl _
 | e::r=>by have:=qav hf r;have:=hf e;rw [qaf,List.length_cons];omega
theorem qe5 {α:Type} (f:α→Nat):∀(l m:List α),qaf f (l++m)=qaf f l+qaf f m
 | [],m=>by rw [List.nil_append,qaf];omega
 | e::r,m=>by rw [List.cons_append,qaf,qaf,qe5 f r m];omega
theorem qgq {α:Type} (f:α→Nat) (x:α):qaf f [x]=f x:=by rw [qaf,qaf];omega
theorem qcf {α:Type} (f:α→Nat):∀(l:List α) (k:Nat),qaf f (l.take k)≤qaf f l
 | [],k=>by simp
 | e::r,0=>by rw [List.take_zero,qaf];omega
 | e::r,k+1=>by rw [List.take_succ_cons,qaf,qaf];have:=qcf f r k;omega
theorem qi4 {α:Type} {f g:α→Nat}:∀(l:List α),(∀x∈l,f x≤g x)→qaf f l≤qaf g l
 | [],_=>Nat.le_refl _
 | e::r,h=>by rw [qaf,qaf];have:=h e (by simp);have:=qi4 r fun x hx=>h x (by simp [hx]);omega
theorem qb6:∀l:List St,St.szs l=qaf St.sz l
 | []=>rfl
 | e::r=>by rw [St.szs,qaf,qb6 r]
def Vr.sz (v:Vr):Nat:=1+v.name.length+v.ty.cls.length
theorem Vr.sz_pos (v:Vr):0<v.sz:=by unfold Vr.sz;omega
def Me.sz (m:Me):Nat:=1+m.name.length+m.ret.cls.length+qaf Vr.sz m.params+qaf Vr.sz m.locals+St.szs m.body
theorem Me.sz_pos (v:Me):0<v.sz:=by unfold Me.sz;omega
def Cs.sz (c:Cs):Nat:=1+c.name.length+c.super.length+qaf (fun s:List UInt8=>s.length+1) c.params+c.above.length+qaf Vr.sz c.fields+qaf Me.sz c.methods
theorem Cs.sz_pos (v:Cs):0<v.sz:=by unfold Cs.sz;omega
theorem Me.szH {m:Me} {n:Nat} (h:m.sz≤n):m.name.length≤n∧m.ret.cls.length≤n∧qaf Vr.sz m.params≤n∧qaf Vr.sz m.locals≤n∧St.szs m.body≤n∧m.params.length+m.locals.length≤n:=by
 have:=qav Vr.sz_pos m.params
 have:=qav Vr.sz_pos m.locals
 unfold Me.sz at h;omega
theorem Cs.szH {c:Cs} {n:Nat} (h:c.sz≤n):c.name.length≤n∧c.super.length≤n∧c.params.length≤n∧(∀s∈c.params,s.length≤n)∧c.above.length≤n∧qaf Vr.sz c.fields≤n∧qaf Me.sz c.methods≤n∧c.fields.length≤n∧c.methods.length≤n:=by
 have:=qav Vr.sz_pos c.fields
 have:=qav Me.sz_pos c.methods
 have:=qav (f:=fun s:List UInt8=>s.length+1) (fun _=>Nat.succ_pos _) c.params
 unfold Cs.sz at h
 refine⟨by omega,by omega,by omega,fun s hs=>?_,by omega,by omega,by omega,by omega,by omega⟩
 have:=qau (f:=fun s:List UInt8=>s.length+1) hs
 omega
/-! The same, one by one; places, too, where q. -/
def Vr.sameB (q:Bool) (a b:Vr):Bool:=a.name==b.name&&(decide (a.ty=b.ty)&&!(q&&a.at_ != b.at_))
namespace St
end St
/-! Holes. -/
/-! Whether it may be. -/
mutual
def St.openB (p:Int):St→Bool
 | ⟨_,_,_,_,t,_,_,body,els,_⟩=>!(t.kind==2&&!wrB t p||!St.opensB p body||!St.opensB p els)
def St.opensB (p:Int):List St→Bool
 | []=>true
 | e::r=>e.openB p&&St.opensB p r
end
def Me.rightB (p:Int) (m:Me):Bool:=m.body.all (St.rightB · p)&&(qaw m.name&&wrB m.ret p&&vrsB m.params 5 p&&vrsB m.locals 12 p&&St.opensB p m.body)
def abB (p:Int) (o:Int×Int):Bool:=!(!owB o p||o.1 != 2&&o.1 != 3&&o.1 != 4)
def Cs.rightB (c:Cs):Bool :=
 c.params.all qaw&&(c.above.all (abB c.params.length)&&(c.methods.all (Me.rightB c.params.length)&&(qaw c.name&&decide ((c.params.length:Int)≤3)&&(c.super==[]&&(c.above.length:Int)==0||qaw c.super&&decide ((c.above.length:Int)≤3))&&vrsB c.fields 12 c.params.length&&decide ((c.methods.length:Int)≤12))))
def Cs.stmts (c:Cs):Nat:=qaf (fun m:Me=>St.cnts m.body) c.methods
def rightB (l:List Cs):Bool:=l.all (fun c=>!(decide ((l.length:Int)>20)||!c.rightB))&&decide (((qaf Cs.stmts l:Nat):Int)≤400)
end Go.Proofs.YthkojpnjdpbcgaaGreatDoor
namespace Go.Proofs.YthkojpnjdpbcgaaGreatDoor
open Go.RowKit
set_option maxRecDepth 100000
theorem pSize:∀(m:Nat) (s:St),s.sz≤m→s.sz≤1048576→qaa Tryz.prog 18 [.r (St.at s)] (.a (.v (.int .i64 s.cnt)))
 | 0,s,h,_=>by have:=s.sz_pos;omega
 | m+1,s,h,hz0=>by
  have IH:∀k,k.sz<s.sz→qaa Tryz.prog 18 [.r (St.rw k)] (.a (.v (.int .i64 k.cnt))):=fun k hk=>by rw [←St.at_rw];exact pSize m k (by omega) (by omega)
  have IB:∀k∈s.body,_:=fun k hk=>IH k (by have:=St.body_lt hk;omega)
  have IE:∀k∈s.els,_:=fun k hk=>IH k (by have:=St.els_lt hk;omega)
  have hse:=s.sz_eq
  have hl1:=St.szs_len s.body
  have hl2:=St.szs_len s.els
  have hce:=s.cnt_eq
  have hcl:=(St.deep_le s.sz s (Nat.le_refl _)).2
  rw [St.at_rx]
  refine qaa.vx [0,1,2,3,4,5,10,25] Tryz.func18 rfl Tryz.ntmps18 rfl rfl rfl (fun C hro hst=>?_)
  repeat' ((conv=>whnf);first|refine stv ?_|fail)
  conv=>whnf
  refine VL.each s.body St.rw (fun k=>[(1,.a (.ptr 0 0)),(3,.a (.v (.int .i64 ((1+St.cnts (s.body.take k):Nat):Int)))),(4,.a (.v (.int .i64 (k:Nat))))]) (fun _=>[.cell (St.rx s)]) (fun _=>True) ⟨rfl,rfl,rfl,trivial⟩ rfl trivial (by omega) ?_ ?_
  ·intro k z hz hd htk hlt _ hlt2 hix hw
   have IH:=IB z (lm4 hz)
   repeat' ((conv=>whnf);first|(show VI ..;refine xI (fun _=>by exact hix) ?_)|refine stv ?_|(show VB ..;refine VB.tt (by exact hlt2) ?_)|(show VC ..;refine xC (fun hg=>by exact IH) ?_))
   conv=>whnf
   exact⟨trivial,[],⟨rfl,congrArg (fun z=>D.a (.v (.int .i64 z))) (by have hT:=St.cnts_take s.body (k+1);rw [htk,St.cnts_app,St.cnts_one] at hT ⊢;rw [qbk (by omega) (by omega)];omega),congrArg (fun z=>D.a (.v (.int .i64 z))) hw,trivial⟩,rfl,rfl,rfl⟩
  intro _ hlt2
  rw [List.take_length]
  repeat' ((conv=>whnf);first|refine stv ?_|(show VB ..;refine VB.ff (by exact hlt2) ?_))
  conv=>whnf
  refine VL.each s.els St.rw (fun k=>[(1,.a (.ptr 0 0)),(3,.a (.v (.int .i64 ((1+St.cnts s.body+St.cnts (s.els.take k):Nat):Int)))),(5,.a (.v (.int .i64 (k:Nat))))]) (fun _=>[.cell (St.rx s)]) (fun _=>True) ⟨rfl,rfl,rfl,trivial⟩ rfl trivial (by omega) ?_ ?_
  ·intro k z hz hd htk hlt _ hlt2 hix hw
   have IH:=IE z (lm4 hz)
   repeat' ((conv=>whnf);first|(show VI ..;refine xI (fun _=>by exact hix) ?_)|refine stv ?_|(show VB ..;refine VB.tt (by exact hlt2) ?_)|(show VC ..;refine xC (fun hg=>by exact IH) ?_))
   conv=>whnf
   exact⟨trivial,[],⟨rfl,congrArg (fun z=>D.a (.v (.int .i64 z))) (by have hT:=St.cnts_take s.els (k+1);rw [htk,St.cnts_app,St.cnts_one] at hT ⊢;rw [qbk (by omega) (by omega)];omega),congrArg (fun z=>D.a (.v (.int .i64 z))) hw,trivial⟩,rfl,rfl,rfl⟩
  intro _ hlt2
  rw [List.take_length]
  repeat' ((conv=>whnf);first|refine stv ?_|(show VB ..;refine VB.ff (by exact hlt2) ?_))
  exact qco (by omega)
theorem beqF {k c:Int} (h:k≠c):(k==c)=false:=by simpa using h
end Go.Proofs.YthkojpnjdpbcgaaGreatDoor
namespace Go.Proofs.YthkojpnjdpbcgaaGreatDoor
open Go.RowKit
end Go.Proofs.YthkojpnjdpbcgaaGreatDoor
namespace Go.Proofs.YthkojpnjdpbcgaaGreatDoor
open Go.RowKit
end Go.Proofs.YthkojpnjdpbcgaaGreatDoor
namespace Go.Proofs.YthkojpnjdpbcgaaGreatDoor
open Go.RowKit
theorem zlen {α:Type} {l m:List α} (q:α×α→Bool) (h:l.length≠m.length):(l.length==m.length&&(l.zip m).all q)=false:=by
 rw [show (l.length==m.length)=false by simpa using h];rfl
theorem zeql {α:Type} {l m:List α} (q:α×α→Bool) (h:l.length=m.length):(l.length==m.length&&(l.zip m).all q)=(l.zip m).all q:=by
 rw [show (l.length==m.length)=true by simpa using h];rfl
theorem lenB {a b:Nat} (hc:((a:Int) != (b:Int))=true):a≠b:=by rintro rfl;simp at hc
theorem lenE {a b:Nat} (hc:((a:Int) != (b:Int))=false):a=b:=by simp only [bne_eq_false_iff_eq] at hc;omega
end Go.Proofs.YthkojpnjdpbcgaaGreatDoor
