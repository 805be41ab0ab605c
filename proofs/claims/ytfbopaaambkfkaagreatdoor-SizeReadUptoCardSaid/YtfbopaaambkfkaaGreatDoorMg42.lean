/- Further records as plain data, and rows that name no block. No program in sight. Conditions: none. -/
import Derived.Test.YtfbopaaambkfkaaGreatDoorMg41
set_option linter.unusedVariables false
set_option maxRecDepth 100000
set_option maxHeartbeats 8000000
set_option linter.unusedSimpArgs false
namespace Go.Proofs.YtfbopaaambkfkaaGreatDoor
open Go.RowKit
structure Cn where
 classes:Int
 fields:Int
 methods:Int
 vars:Int
 stmts:Int
 deep:Int
 holes:Int
def Cn.at:Cn→List A
 | ⟨classes,fields,methods,vars,stmts,deep,holes⟩=>[.v (.int .i64 classes),.v (.int .i64 fields),.v (.int .i64 methods),.v (.int .i64 vars),.v (.int .i64 stmts),.v (.int .i64 deep),.v (.int .i64 holes)]
section
variable (s:Cn)
@[go_sem] theorem Cn.len:(Cn.at s).length=7:=by obtain⟨classes,fields,methods,vars,stmts,deep,holes⟩:=s;rfl
@[go_sem] theorem Cn.cl:(Cn.at s).all clA=true:=by obtain⟨classes,fields,methods,vars,stmts,deep,holes⟩:=s;rfl
@[go_sem] theorem Cn.see (st:List Bx):(Cn.at s).map (seeA st)=Cn.at s:=by obtain⟨classes,fields,methods,vars,stmts,deep,holes⟩:=s;rfl
@[go_sem] theorem Cn.w:qap (some 7) (Cn.at s) 0=some (.r (Cn.at s)):=qca (Cn.len s)
@[go_sem] theorem Cn.pw (t:Cn):qak (Cn.at s) 0 (Cn.at t)=Cn.at t:=qbf (by rw [Cn.len,Cn.len])
@[go_sem] theorem Cn.g1:qap none (Cn.at s) 1=some (.a (.v (.int .i64 s.fields))):=by obtain⟨classes,fields,methods,vars,stmts,deep,holes⟩:=s;rfl
@[go_sem] theorem Cn.g2:qap none (Cn.at s) 2=some (.a (.v (.int .i64 s.methods))):=by obtain⟨classes,fields,methods,vars,stmts,deep,holes⟩:=s;rfl
@[go_sem] theorem Cn.g3:qap none (Cn.at s) 3=some (.a (.v (.int .i64 s.vars))):=by obtain⟨classes,fields,methods,vars,stmts,deep,holes⟩:=s;rfl
@[go_sem] theorem Cn.g4:qap none (Cn.at s) 4=some (.a (.v (.int .i64 s.stmts))):=by obtain⟨classes,fields,methods,vars,stmts,deep,holes⟩:=s;rfl
@[go_sem] theorem Cn.g5:qap none (Cn.at s) 5=some (.a (.v (.int .i64 s.deep))):=by obtain⟨classes,fields,methods,vars,stmts,deep,holes⟩:=s;rfl
@[go_sem] theorem Cn.g6:qap none (Cn.at s) 6=some (.a (.v (.int .i64 s.holes))):=by obtain⟨classes,fields,methods,vars,stmts,deep,holes⟩:=s;rfl
@[go_sem] theorem Cn.p0_0 (z:Int):qak (Cn.at s) 0 [.v (.int .i64 z)]=Cn.at { s with classes:=z }:=by obtain⟨classes,fields,methods,vars,stmts,deep,holes⟩:=s;rfl
@[go_sem] theorem Cn.p1_1 (z:Int):qak (Cn.at s) 1 [.v (.int .i64 z)]=Cn.at { s with fields:=z }:=by obtain⟨classes,fields,methods,vars,stmts,deep,holes⟩:=s;rfl
@[go_sem] theorem Cn.p2_2 (z:Int):qak (Cn.at s) 2 [.v (.int .i64 z)]=Cn.at { s with methods:=z }:=by obtain⟨classes,fields,methods,vars,stmts,deep,holes⟩:=s;rfl
@[go_sem] theorem Cn.p3_3 (z:Int):qak (Cn.at s) 3 [.v (.int .i64 z)]=Cn.at { s with vars:=z }:=by obtain⟨classes,fields,methods,vars,stmts,deep,holes⟩:=s;rfl
@[go_sem] theorem Cn.p4_4 (z:Int):qak (Cn.at s) 4 [.v (.int .i64 z)]=Cn.at { s with stmts:=z }:=by obtain⟨classes,fields,methods,vars,stmts,deep,holes⟩:=s;rfl
@[go_sem] theorem Cn.p5_5 (z:Int):qak (Cn.at s) 5 [.v (.int .i64 z)]=Cn.at { s with deep:=z }:=by obtain⟨classes,fields,methods,vars,stmts,deep,holes⟩:=s;rfl
@[go_sem] theorem Cn.p6_6 (z:Int):qak (Cn.at s) 6 [.v (.int .i64 z)]=Cn.at { s with holes:=z }:=by obtain⟨classes,fields,methods,vars,stmts,deep,holes⟩:=s;rfl
end
def Cn.zero:Cn:=⟨0,0,0,0,0,0,0⟩
@[go_sem] theorem Cn.nr (m:Nat) (s:Cn):(Cn.at s).all (nrA m)=true:=by obtain⟨classes,fields,methods,vars,stmts,deep,holes⟩:=s;rfl
def qc8 {α:Type} (f:α→Nat):List α→Nat
 | []=>0
 | x::r=>max (f x) (qc8 f r)
theorem qgy {α:Type} (f:α→Nat):∀(l m:List α),qc8 f (l++m)=max (qc8 f l) (qc8 f m)
 | [],m=>by rw [List.nil_append,qc8];omega
 | e::r,m=>by rw [List.cons_append,qc8,qc8,qgy f r m];omega
theorem qjo {α:Type} (f:α→Nat) (x:α):qc8 f [x]=f x:=by rw [qc8,qc8];omega
def Me.vars (m:Me):Nat:=m.params.length+m.locals.length
def Me.holes (m:Me):Nat:=m.ret.hole+qb6 m.params+qb6 m.locals+St.inns m.body
def Me.deep (m:Me):Nat:=St.deeps m.body
def Cs.nf (c:Cs):Nat:=c.fields.length
def Cs.nm (c:Cs):Nat:=c.methods.length
def Cs.nv (c:Cs):Nat:=qai Me.vars c.methods
def Cs.nh (c:Cs):Nat:=qb6 c.fields+qai Me.holes c.methods
def Cs.deep (c:Cs):Nat:=qc8 Me.deep c.methods
theorem Me.vars_le (m:Me):m.vars≤m.sz:=by
 have:=qax Vr.sz_pos m.params
 have:=qax Vr.sz_pos m.locals
 unfold Me.vars Me.sz;omega
theorem Me.holes_le (m:Me):m.holes≤m.sz:=by
 have:=qax Vr.sz_pos m.params
 have:=qax Vr.sz_pos m.locals
 have:=qcw m.params
 have:=qcw m.locals
 have:=m.ret.hole_le
 have:=St.inns_le m.body
 unfold Me.holes Me.sz;omega
theorem Cs.nf_le (c:Cs):c.nf≤c.sz:=by have:=(Cs.szH (Nat.le_refl c.sz));unfold Cs.nf;omega
theorem Cs.nm_le (c:Cs):c.nm≤c.sz:=by have:=(Cs.szH (Nat.le_refl c.sz));unfold Cs.nm;omega
theorem Cs.nv_le (c:Cs):c.nv≤c.sz:=by
 have:c.nv≤qai Me.sz c.methods:=qbb _ fun m _=>m.vars_le
 unfold Cs.sz;omega
theorem Cs.nh_le (c:Cs):c.nh≤c.sz:=by
 have:qai Me.holes c.methods≤qai Me.sz c.methods:=qbb _ fun m _=>m.holes_le
 have:=qcw c.fields
 have:=qax Vr.sz_pos c.fields
 unfold Cs.nh Cs.sz;omega
def ofT (n:Nat) (l:List Cs):Cn:=⟨n,(qai Cs.nf l:Nat),(qai Cs.nm l:Nat),(qai Cs.nv l:Nat),(qai Cs.stmts l:Nat),(qc8 Cs.deep l:Nat),(qai Cs.nh l:Nat)⟩
def ofP (l:List Cs):Cn:=ofT l.length l
/-! Too great to be looked at? -/
end Go.Proofs.YtfbopaaambkfkaaGreatDoor
