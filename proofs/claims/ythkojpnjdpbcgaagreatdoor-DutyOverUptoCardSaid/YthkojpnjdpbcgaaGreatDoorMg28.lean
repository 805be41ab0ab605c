/- Plain answers on variables, methods, classes, programs. No program in sight. Conditions: none. -/
import Derived.Test.YthkojpnjdpbcgaaGreatDoorMg27
set_option linter.unusedVariables false
set_option maxRecDepth 100000
set_option maxHeartbeats 8000000
set_option linter.unusedSimpArgs false
namespace Go.Proofs.YthkojpnjdpbcgaaGreatDoor
open Go.RowKit
def qah {α:Type} (f:α→Nat):List α→Nat
 | []=>0
 | x::r=>f x+qah f r
theorem qbi {α:Type} {f:α→Nat}:∀{l:List α} {k:α},k∈l→f k≤qah f l
 | e::r,k,h=>by
  rw [qah]
  rcases List.mem_cons.1 h with rfl|h
  ·omega
  ·have:=qbi (f:=f) h;omega
theorem qas {α:Type} {f:α→Nat} (hf:∀x,0<f x):∀l:List α,l.length≤qah f l
 | []=>Nat.le_refl _
 | e::r=>by have:=qas hf r;have:=hf e;rw [qah,List.length_cons];omega
theorem qds {α:Type} (f:α→Nat):∀(l m:List α),qah f (l++m)=qah f l+qah f m
 | [],m=>by rw [List.nil_append,qah];omega
 | e::r,m=>by rw [List.cons_append,qah,qah,qds f r m];omega
theorem qex {α:Type} (f:α→Nat) (x:α):qah f [x]=f x:=by rw [qah,qah];omega
theorem qfl {α:Type} (f:α→Nat):∀(l:List α) (k:Nat),qah f (l.take k)≤qah f l
 | [],k=>by simp
 | e::r,0=>by rw [List.take_zero,qah];omega
 | e::r,k+1=>by rw [List.take_succ_cons,qah,qah];have:=qfl f r k;omega
theorem qi9 {α:Type} {f g:α→Nat}:∀(l:List α),(∀x∈l,f x≤g x)→qah f l≤qah g l
 | [],_=>Nat.le_refl _
 | e::r,h=>by rw [qah,qah];have:=h e (by simp);have:=qi9 r fun x hx=>h x (by simp [hx]);omega
theorem qew:∀l:List St,St.szs l=qah St.sz l
 | []=>rfl
 | e::r=>by rw [St.szs,qah,qew r]
def Vr.sz (v:Vr):Nat:=1+v.name.length+v.ty.cls.length
theorem Vr.sz_pos (v:Vr):0<v.sz:=by unfold Vr.sz;omega
def Me.sz (m:Me):Nat:=1+m.name.length+m.ret.cls.length+qah Vr.sz m.params+qah Vr.sz m.locals+St.szs m.body
theorem Me.sz_pos (v:Me):0<v.sz:=by unfold Me.sz;omega
def Cs.sz (c:Cs):Nat:=1+c.name.length+c.super.length+qah (fun s:List UInt8=>s.length+1) c.params+c.above.length+qah Vr.sz c.fields+qah Me.sz c.methods
theorem Cs.sz_pos (v:Cs):0<v.sz:=by unfold Cs.sz;omega
theorem Me.szH {m:Me} {n:Nat} (h:m.sz≤n):m.name.length≤n∧m.ret.cls.length≤n∧qah Vr.sz m.params≤n∧qah Vr.sz m.locals≤n∧St.szs m.body≤n∧m.params.length+m.locals.length≤n:=by
 have:=qas Vr.sz_pos m.params
 have:=qas Vr.sz_pos m.locals
 unfold Me.sz at h;omega
theorem Cs.szH {c:Cs} {n:Nat} (h:c.sz≤n):c.name.length≤n∧c.super.length≤n∧c.params.length≤n∧(∀s∈c.params,s.length≤n)∧c.above.length≤n∧qah Vr.sz c.fields≤n∧qah Me.sz c.methods≤n∧c.fields.length≤n∧c.methods.length≤n:=by
 have:=qas Vr.sz_pos c.fields
 have:=qas Me.sz_pos c.methods
 have:=qas (f:=fun s:List UInt8=>s.length+1) (fun _=>Nat.succ_pos _) c.params
 unfold Cs.sz at h
 refine⟨by omega,by omega,by omega,fun s hs=>?_,by omega,by omega,by omega,by omega,by omega⟩
 have:=qbi (f:=fun s:List UInt8=>s.length+1) hs
 omega
/-! The same, one by one; places, too, where q. -/
namespace St
end St
/-! Holes. -/
/-! Whether it may be. -/
def Cs.stmts (c:Cs):Nat:=qah (fun m:Me=>St.cnts m.body) c.methods
end Go.Proofs.YthkojpnjdpbcgaaGreatDoor
