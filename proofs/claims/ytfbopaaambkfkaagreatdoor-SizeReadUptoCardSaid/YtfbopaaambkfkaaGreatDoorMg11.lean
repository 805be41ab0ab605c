/- Plain answers on variables, methods, classes, programs. No program in sight. Conditions: none. -/
import Derived.Test.YtfbopaaambkfkaaGreatDoorMg10
set_option linter.unusedVariables false
set_option maxRecDepth 100000
set_option maxHeartbeats 8000000
set_option linter.unusedSimpArgs false
namespace Go.Proofs.YtfbopaaambkfkaaGreatDoor
open Go.RowKit
def qai {α:Type} (f:α→Nat):List α→Nat
 | []=>0
 | x::r=>f x+qai f r
theorem qa5 {α:Type} {f:α→Nat}:∀{l:List α} {k:α},k∈l→f k≤qai f l
 | e::r,k,h=>by
  rw [qai]
  rcases List.mem_cons.1 h with rfl|h
  ·omega
  ·have:=qa5 (f:=f) h;omega
theorem qax {α:Type} {f:α→Nat} (hf:∀x,0<f x):∀l:List α,l.length≤qai f l
 | []=>Nat.le_refl _
 | e::r=>by have:=qax hf r;have:=hf e;rw [qai,List.length_cons];omega
theorem qav {α:Type} (f:α→Nat):∀(l m:List α),qai f (l++m)=qai f l+qai f m
 | [],m=>by rw [List.nil_append,qai];omega
 | e::r,m=>by rw [List.cons_append,qai,qai,qav f r m];omega
theorem qaw {α:Type} (f:α→Nat) (x:α):qai f [x]=f x:=by rw [qai,qai];omega
theorem qdc {α:Type} (f:α→Nat):∀(l:List α) (k:Nat),qai f (l.take k)≤qai f l
 | [],k=>by simp
 | e::r,0=>by rw [List.take_zero,qai];omega
 | e::r,k+1=>by rw [List.take_succ_cons,qai,qai];have:=qdc f r k;omega
theorem qbb {α:Type} {f g:α→Nat}:∀(l:List α),(∀x∈l,f x≤g x)→qai f l≤qai g l
 | [],_=>Nat.le_refl _
 | e::r,h=>by rw [qai,qai];have:=h e (by simp);have:=qbb r fun x hx=>h x (by simp [hx]);omega
theorem qfn:∀l:List St,St.cnts l=qai St.cnt l
 | []=>rfl
 | e::r=>by rw [St.cnts,qai,qfn r]
theorem qe7:∀l:List St,St.szs l=qai St.sz l
 | []=>rfl
 | e::r=>by rw [St.szs,qai,qe7 r]
def Vr.sz (v:Vr):Nat:=1+v.name.length+v.ty.cls.length
theorem Vr.sz_pos (v:Vr):0<v.sz:=by unfold Vr.sz;omega
def Me.sz (m:Me):Nat:=1+m.name.length+m.ret.cls.length+qai Vr.sz m.params+qai Vr.sz m.locals+St.szs m.body
theorem Me.sz_pos (v:Me):0<v.sz:=by unfold Me.sz;omega
def Cs.sz (c:Cs):Nat:=1+c.name.length+c.super.length+qai (fun s:List UInt8=>s.length+1) c.params+c.above.length+qai Vr.sz c.fields+qai Me.sz c.methods
theorem Cs.sz_pos (v:Cs):0<v.sz:=by unfold Cs.sz;omega
theorem Vr.szH {v:Vr} {n:Nat} (h:v.sz≤n):v.name.length≤n∧v.ty.cls.length≤n:=by unfold Vr.sz at h;omega
theorem Vr.szM {l:List Vr} {n:Nat} (h:qai Vr.sz l≤n):l.length≤n∧∀v∈l,v.name.length≤n∧v.ty.cls.length≤n :=
 ⟨by have:=qax Vr.sz_pos l;omega,fun v hv=>Vr.szH (by have:=qa5 (f:=Vr.sz) hv;omega)⟩
theorem Me.szH {m:Me} {n:Nat} (h:m.sz≤n):m.name.length≤n∧m.ret.cls.length≤n∧qai Vr.sz m.params≤n∧qai Vr.sz m.locals≤n∧St.szs m.body≤n∧m.params.length+m.locals.length≤n:=by
 have:=qax Vr.sz_pos m.params
 have:=qax Vr.sz_pos m.locals
 unfold Me.sz at h;omega
theorem Cs.szH {c:Cs} {n:Nat} (h:c.sz≤n):c.name.length≤n∧c.super.length≤n∧c.params.length≤n∧(∀s∈c.params,s.length≤n)∧c.above.length≤n∧qai Vr.sz c.fields≤n∧qai Me.sz c.methods≤n∧c.fields.length≤n∧c.methods.length≤n:=by
 have:=qax Vr.sz_pos c.fields
 have:=qax Me.sz_pos c.methods
 have:=qax (f:=fun s:List UInt8=>s.length+1) (fun _=>Nat.succ_pos _) c.params
 unfold Cs.sz at h
 refine⟨by omega,by omega,by omega,fun s hs=>?_,by omega,by omega,by omega,by omega,by omega⟩
 have:=qa5 (f:=fun s:List UInt8=>s.length+1) hs
 omega
/-! The same, one by one; places, too, where q. -/
def Vr.sameB (q:Bool) (a b:Vr):Bool:=a.name==b.name&&(decide (a.ty=b.ty)&&!(q&&a.at_ != b.at_))
def qa4 (q:Bool) (l m:List Vr):Bool:=l.length==m.length&&(l.zip m).all fun p=>p.1.sameB q p.2
namespace St
mutual
def atB:St→St→Bool
 | ⟨_,_,_,_,_,_,_,body,els,a⟩,⟨_,_,_,_,_,_,_,body',els',a'⟩=>a==a'&&(atsB body body'&&atsB els els')
def atsB:List St→List St→Bool
 | [],[]=>true
 | e::r,f::t=>e.atB f&&atsB r t
 | _,_=>false
end
theorem at_eq (s t:St):s.atB t=(s.at_==t.at_&&(atsB s.body t.body&&atsB s.els t.els)):=by cases s;cases t;rfl
theorem atsB_zip:∀{l m:List St},l.length=m.length→atsB l m=(l.zip m).all fun p=>p.1.atB p.2
 | [],[],_=>rfl
 | e::r,f::t,h=>by rw [atsB,List.zip_cons_cons,List.all_cons,atsB_zip (by simpa using h)]
theorem atsB_len:∀{l m:List St},l.length≠m.length→atsB l m=false
 | [],[],h=>absurd rfl h
 | [],_::_,_=>rfl
 | _::_,[],_=>rfl
 | e::r,f::t,h=>by rw [atsB,atsB_len (by simpa using h),Bool.and_false]
end St
def Me.likeB (q:Bool) (a b:Me):Bool :=
 !(!a.name==b.name||!a.pure_==b.pure_||!decide (a.ret=b.ret)||q&&(a.at_ != b.at_||!St.atsB a.body b.body))&&(qa4 q a.params b.params&&qa4 q a.locals b.locals&&St.samesB a.body b.body)
def Cs.oneB (q:Bool) (a b:Cs):Bool :=
 !(!a.name==b.name||!a.super==b.super||(a.params.length:Int) != b.params.length||(a.above.length:Int) != b.above.length||(a.methods.length:Int) != b.methods.length||q&&a.at_ != b.at_) &&
 ((a.params.zip b.params).all (fun p=>p.1==p.2)&&((a.above.zip b.above).all (fun p=>p.1==p.2)&&((a.methods.zip b.methods).all (fun p=>p.1.likeB q p.2)&&qa4 q a.fields b.fields)))
def likeB (q:Bool) (l m:List Cs):Bool:=l.length==m.length&&(l.zip m).all fun p=>p.1.oneB q p.2
/-! Holes. -/
def Ty.hole (t:Ty):Nat:=if t.kind==2&&t.o0.1==7 then 1 else 0
def vHole (v:Vr):Nat:=v.ty.hole
def qb6 (l:List Vr):Nat:=qai vHole l
mutual
def St.inn:St→Nat
 | ⟨_,_,_,_,t,_,_,body,els,_⟩=>t.hole+St.inns body+St.inns els
def St.inns:List St→Nat
 | []=>0
 | e::r=>e.inn+St.inns r
end
theorem St.inn_eq (s:St):s.inn=s.ty.hole+St.inns s.body+St.inns s.els:=by cases s;rfl
theorem St.inns_sum:∀l:List St,St.inns l=qai St.inn l
 | []=>rfl
 | e::r=>by rw [St.inns,qai,St.inns_sum r]
theorem Ty.hole_le (t:Ty):t.hole≤1:=by unfold Ty.hole;split<;>omega
theorem St.inn_le:∀(m:Nat) (s:St),s.sz≤m→s.inn≤s.cnt
 | 0,e,h=>by have:=sz_pos e;omega
 | m+1,e,h=>by
  have h1:St.inns e.body≤St.cnts e.body:=by rw [St.inns_sum,qfn];exact qbb _ fun k hk=>St.inn_le m k (by have:=body_lt hk;omega)
  have h2:St.inns e.els≤St.cnts e.els:=by rw [St.inns_sum,qfn];exact qbb _ fun k hk=>St.inn_le m k (by have:=els_lt hk;omega)
  have:=e.ty.hole_le
  rw [St.inn_eq,St.cnt_eq]
  omega
theorem St.inns_le (l:List St):St.inns l≤St.szs l:=by
 rw [St.inns_sum,qe7]
 exact qbb _ fun s _=>by have:=St.inn_le _ s (Nat.le_refl _);have:=(St.deep_le _ s (Nat.le_refl _)).2;omega
theorem qcw (l:List Vr):qb6 l≤l.length:=by
 induction l with
 | nil=>exact Nat.le_refl _
 | cons e r ih=>unfold qb6 at ih ⊢;rw [qai,List.length_cons];have:=e.ty.hole_le;unfold vHole at ih ⊢;omega
/-! Whether it may be. -/
mutual
def St.openB (p:Int):St→Bool
 | ⟨_,_,_,_,t,_,_,body,els,_⟩=>!(t.kind==2&&!wrB t p||!St.opensB p body||!St.opensB p els)
def St.opensB (p:Int):List St→Bool
 | []=>true
 | e::r=>e.openB p&&St.opensB p r
end
theorem St.open_eq (p:Int) (s:St):s.openB p = !(s.ty.kind==2&&!wrB s.ty p||!St.opensB p s.body||!St.opensB p s.els):=by cases s;rfl
theorem St.opensB_all (p:Int) (l:List St):St.opensB p l=l.all (St.openB p):=by
 induction l with
 | nil=>rw [opensB];rfl
 | cons e r ih=>rw [opensB,ih];rfl
def Me.rightB (p:Int) (m:Me):Bool:=m.body.all (St.rightB · p)&&(qan m.name&&wrB m.ret p&&vrsB m.params 5 p&&vrsB m.locals 12 p&&St.opensB p m.body)
def abB (p:Int) (o:Int×Int):Bool:=!(!owB o p||o.1 != 2&&o.1 != 3&&o.1 != 4)
def Cs.rightB (c:Cs):Bool :=
 c.params.all qan&&(c.above.all (abB c.params.length)&&(c.methods.all (Me.rightB c.params.length)&&(qan c.name&&decide ((c.params.length:Int)≤3)&&(c.super==[]&&(c.above.length:Int)==0||qan c.super&&decide ((c.above.length:Int)≤3))&&vrsB c.fields 12 c.params.length&&decide ((c.methods.length:Int)≤12))))
def Cs.stmts (c:Cs):Nat:=qai (fun m:Me=>St.cnts m.body) c.methods
def rightB (l:List Cs):Bool:=l.all (fun c=>!(decide ((l.length:Int)>20)||!c.rightB))&&decide (((qai Cs.stmts l:Nat):Int)≤400)
end Go.Proofs.YtfbopaaambkfkaaGreatDoor
