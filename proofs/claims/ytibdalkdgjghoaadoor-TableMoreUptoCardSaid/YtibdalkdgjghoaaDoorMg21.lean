/- Plain answers on variables, methods, classes, programs. No program in sight. Conditions: none. -/
import Derived.Test.YtibdalkdgjghoaaDoorMg19
import Derived.Test.YtibdalkdgjghoaaDoorMg20
set_option linter.unusedVariables false
set_option maxRecDepth 100000
set_option maxHeartbeats 8000000
set_option linter.unusedSimpArgs false
namespace Go.Proofs.YtibdalkdgjghoaaDoor
open Go.RowKit
def sumOf {α:Type} (f:α→Nat):List α→Nat
 | []=>0
 | x::r=>f x+sumOf f r
theorem sumOf_mem {α:Type} {f:α→Nat}:∀{l:List α} {k:α},k∈l→f k≤sumOf f l
 | e::r,k,h=>by
  rw [sumOf]
  rcases List.mem_cons.1 h with rfl|h
  ·omega
  ·have:=sumOf_mem (f:=f) h;omega
theorem sumOf_len {α:Type} {f:α→Nat} (hf:∀x,0<f x):∀l:List α,l.length≤sumOf f l
 | []=>Nat.le_refl _
 | e::r=>by have:=sumOf_len hf r;have:=hf e;rw [sumOf,List.length_cons];omega
theorem sumOf_app {α:Type} (f:α→Nat):∀(l m:List α),sumOf f (l++m)=sumOf f l+sumOf f m
 | [],m=>by rw [List.nil_append,sumOf];omega
 | e::r,m=>by rw [List.cons_append,sumOf,sumOf,sumOf_app f r m];omega
theorem sumOf_one {α:Type} (f:α→Nat) (x:α):sumOf f [x]=f x:=by rw [sumOf,sumOf];omega
theorem sumOf_take {α:Type} (f:α→Nat):∀(l:List α) (k:Nat),sumOf f (l.take k)≤sumOf f l
 | [],k=>by simp
 | e::r,0=>by rw [List.take_zero,sumOf];omega
 | e::r,k+1=>by rw [List.take_succ_cons,sumOf,sumOf];have:=sumOf_take f r k;omega
theorem sumOf_le {α:Type} {f g:α→Nat}:∀(l:List α),(∀x∈l,f x≤g x)→sumOf f l≤sumOf g l
 | [],_=>Nat.le_refl _
 | e::r,h=>by rw [sumOf,sumOf];have:=h e (by simp);have:=sumOf_le r fun x hx=>h x (by simp [hx]);omega
theorem sumOf_cnts:∀l:List St,St.cnts l=sumOf St.cnt l
 | []=>rfl
 | e::r=>by rw [St.cnts,sumOf,sumOf_cnts r]
theorem sumOf_szs:∀l:List St,St.szs l=sumOf St.sz l
 | []=>rfl
 | e::r=>by rw [St.szs,sumOf,sumOf_szs r]
def Vr.sz (v:Vr):Nat:=1+v.name.length+v.ty.cls.length
theorem Vr.sz_pos (v:Vr):0<v.sz:=by unfold Vr.sz;omega
def Me.sz (m:Me):Nat:=1+m.name.length+m.ret.cls.length+sumOf Vr.sz m.params+sumOf Vr.sz m.locals+St.szs m.body
theorem Me.sz_pos (v:Me):0<v.sz:=by unfold Me.sz;omega
def Cs.sz (c:Cs):Nat:=1+c.name.length+c.super.length+sumOf (fun s:List UInt8=>s.length+1) c.params+c.above.length+sumOf Vr.sz c.fields+sumOf Me.sz c.methods
theorem Cs.sz_pos (v:Cs):0<v.sz:=by unfold Cs.sz;omega
theorem Vr.szH {v:Vr} {n:Nat} (h:v.sz≤n):v.name.length≤n∧v.ty.cls.length≤n:=by unfold Vr.sz at h;omega
theorem Vr.szM {l:List Vr} {n:Nat} (h:sumOf Vr.sz l≤n):l.length≤n∧∀v∈l,v.name.length≤n∧v.ty.cls.length≤n :=
 ⟨by have:=sumOf_len Vr.sz_pos l;omega,fun v hv=>Vr.szH (by have:=sumOf_mem (f:=Vr.sz) hv;omega)⟩
theorem Me.szH {m:Me} {n:Nat} (h:m.sz≤n):m.name.length≤n∧m.ret.cls.length≤n∧sumOf Vr.sz m.params≤n∧sumOf Vr.sz m.locals≤n∧St.szs m.body≤n∧m.params.length+m.locals.length≤n:=by
 have:=sumOf_len Vr.sz_pos m.params
 have:=sumOf_len Vr.sz_pos m.locals
 unfold Me.sz at h;omega
theorem Cs.szH {c:Cs} {n:Nat} (h:c.sz≤n):c.name.length≤n∧c.super.length≤n∧c.params.length≤n∧(∀s∈c.params,s.length≤n)∧c.above.length≤n∧sumOf Vr.sz c.fields≤n∧sumOf Me.sz c.methods≤n∧c.fields.length≤n∧c.methods.length≤n:=by
 have:=sumOf_len Vr.sz_pos c.fields
 have:=sumOf_len Me.sz_pos c.methods
 have:=sumOf_len (f:=fun s:List UInt8=>s.length+1) (fun _=>Nat.succ_pos _) c.params
 unfold Cs.sz at h
 refine⟨by omega,by omega,by omega,fun s hs=>?_,by omega,by omega,by omega,by omega,by omega⟩
 have:=sumOf_mem (f:=fun s:List UInt8=>s.length+1) hs
 omega
/-! The same, one by one; places, too, where q. -/
def Vr.sameB (q:Bool) (a b:Vr):Bool:=a.name==b.name&&(decide (a.ty=b.ty)&&!(q&&a.at_ != b.at_))
namespace St
end St
/-! Holes. -/
def Ty.hole (t:Ty):Nat:=if t.kind==2&&t.o0.1==7 then 1 else 0
def vHole (v:Vr):Nat:=v.ty.hole
def holesN (l:List Vr):Nat:=sumOf vHole l
mutual
def St.inn:St→Nat
 | ⟨_,_,_,_,t,_,_,body,els,_⟩=>t.hole+St.inns body+St.inns els
def St.inns:List St→Nat
 | []=>0
 | e::r=>e.inn+St.inns r
end
theorem St.inn_eq (s:St):s.inn=s.ty.hole+St.inns s.body+St.inns s.els:=by cases s;rfl
theorem St.inns_sum:∀l:List St,St.inns l=sumOf St.inn l
 | []=>rfl
 | e::r=>by rw [St.inns,sumOf,St.inns_sum r]
theorem Ty.hole_le (t:Ty):t.hole≤1:=by unfold Ty.hole;split<;>omega
theorem St.inn_le:∀(m:Nat) (s:St),s.sz≤m→s.inn≤s.cnt
 | 0,e,h=>by have:=sz_pos e;omega
 | m+1,e,h=>by
  have h1:St.inns e.body≤St.cnts e.body:=by rw [St.inns_sum,sumOf_cnts];exact sumOf_le _ fun k hk=>St.inn_le m k (by have:=body_lt hk;omega)
  have h2:St.inns e.els≤St.cnts e.els:=by rw [St.inns_sum,sumOf_cnts];exact sumOf_le _ fun k hk=>St.inn_le m k (by have:=els_lt hk;omega)
  have:=e.ty.hole_le
  rw [St.inn_eq,St.cnt_eq]
  omega
theorem St.inns_le (l:List St):St.inns l≤St.szs l:=by
 rw [St.inns_sum,sumOf_szs]
 exact sumOf_le _ fun s _=>by have:=St.inn_le _ s (Nat.le_refl _);have:=(St.deep_le _ s (Nat.le_refl _)).2;omega
theorem holesN_le (l:List Vr):holesN l≤l.length:=by
 induction l with
 | nil=>exact Nat.le_refl _
 | cons e r ih=>unfold holesN at ih ⊢;rw [sumOf,List.length_cons];have:=e.ty.hole_le;unfold vHole at ih ⊢;omega
/-! Whether it may be. -/
mutual
def St.openB (p:Int):St→Bool
 | ⟨_,_,_,_,t,_,_,body,els,_⟩=>!(t.kind==2&&!wrB t p||!St.opensB p body||!St.opensB p els)
def St.opensB (p:Int):List St→Bool
 | []=>true
 | e::r=>e.openB p&&St.opensB p r
end
theorem St.open_eq (p:Int) (s:St):s.openB p = !(s.ty.kind==2&&!wrB s.ty p||!St.opensB p s.body||!St.opensB p s.els):=by cases s;rfl
def Me.rightB (p:Int) (m:Me):Bool:=m.body.all (St.rightB · p)&&(nameB m.name&&wrB m.ret p&&vrsB m.params 5 p&&vrsB m.locals 12 p&&St.opensB p m.body)
def abB (p:Int) (o:Int×Int):Bool:=!(!owB o p||o.1 != 2&&o.1 != 3&&o.1 != 4)
def Cs.rightB (c:Cs):Bool :=
 c.params.all nameB&&(c.above.all (abB c.params.length)&&(c.methods.all (Me.rightB c.params.length)&&(nameB c.name&&decide ((c.params.length:Int)≤3)&&(c.super==[]&&(c.above.length:Int)==0||nameB c.super&&decide ((c.above.length:Int)≤3))&&vrsB c.fields 12 c.params.length&&decide ((c.methods.length:Int)≤12))))
def Cs.stmts (c:Cs):Nat:=sumOf (fun m:Me=>St.cnts m.body) c.methods
def rightB (l:List Cs):Bool:=l.all (fun c=>!(decide ((l.length:Int)>20)||!c.rightB))&&decide (((sumOf Cs.stmts l:Nat):Int)≤400)
end Go.Proofs.YtibdalkdgjghoaaDoor
namespace Go.Proofs.YtibdalkdgjghoaaDoor
open Go.RowKit
theorem zlen {α:Type} {l m:List α} (q:α×α→Bool) (h:l.length≠m.length):(l.length==m.length&&(l.zip m).all q)=false:=by
 rw [show (l.length==m.length)=false by simpa using h];rfl
theorem zeql {α:Type} {l m:List α} (q:α×α→Bool) (h:l.length=m.length):(l.length==m.length&&(l.zip m).all q)=(l.zip m).all q:=by
 rw [show (l.length==m.length)=true by simpa using h];rfl
theorem lenB {a b:Nat} (hc:((a:Int) != (b:Int))=true):a≠b:=by rintro rfl;simp at hc
theorem lenE {a b:Nat} (hc:((a:Int) != (b:Int))=false):a=b:=by simp only [bne_eq_false_iff_eq] at hc;omega
end Go.Proofs.YtibdalkdgjghoaaDoor
