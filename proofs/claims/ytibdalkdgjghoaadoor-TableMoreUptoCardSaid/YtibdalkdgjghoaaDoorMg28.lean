/- Further records as plain data, and rows that name no block. No program in sight. Conditions: none. -/
import Derived.Test.YtibdalkdgjghoaaDoorMg27
set_option linter.unusedVariables false
set_option maxRecDepth 100000
set_option maxHeartbeats 8000000
set_option linter.unusedSimpArgs false
namespace Go.Proofs.YtibdalkdgjghoaaDoor
open Go.RowKit
structure Cn where
 classes:Int
 fields:Int
 methods:Int
 vars:Int
 stmts:Int
 deep:Int
 holes:Int
def Cn.at:Cn→List A
 | ⟨classes,fields,methods,vars,stmts,deep,holes⟩=>[.v (.int .i64 classes),.v (.int .i64 fields),.v (.int .i64 methods),.v (.int .i64 vars),.v (.int .i64 stmts),.v (.int .i64 deep),.v (.int .i64 holes)]
section
variable (s:Cn)
@[go_sem] theorem Cn.len:(Cn.at s).length=7:=by obtain⟨classes,fields,methods,vars,stmts,deep,holes⟩:=s;rfl
@[go_sem] theorem Cn.cl:(Cn.at s).all clA=true:=by obtain⟨classes,fields,methods,vars,stmts,deep,holes⟩:=s;rfl
@[go_sem] theorem Cn.see (st:List Bx):(Cn.at s).map (seeA st)=Cn.at s:=by obtain⟨classes,fields,methods,vars,stmts,deep,holes⟩:=s;rfl
@[go_sem] theorem Cn.w:ldRow (some 7) (Cn.at s) 0=some (.r (Cn.at s)):=ldRow_all (Cn.len s)
@[go_sem] theorem Cn.pw (t:Cn):putRow (Cn.at s) 0 (Cn.at t)=Cn.at t:=putRow_all (by rw [Cn.len,Cn.len])
@[go_sem] theorem Cn.g1:ldRow none (Cn.at s) 1=some (.a (.v (.int .i64 s.fields))):=by obtain⟨classes,fields,methods,vars,stmts,deep,holes⟩:=s;rfl
@[go_sem] theorem Cn.g2:ldRow none (Cn.at s) 2=some (.a (.v (.int .i64 s.methods))):=by obtain⟨classes,fields,methods,vars,stmts,deep,holes⟩:=s;rfl
@[go_sem] theorem Cn.g3:ldRow none (Cn.at s) 3=some (.a (.v (.int .i64 s.vars))):=by obtain⟨classes,fields,methods,vars,stmts,deep,holes⟩:=s;rfl
@[go_sem] theorem Cn.g4:ldRow none (Cn.at s) 4=some (.a (.v (.int .i64 s.stmts))):=by obtain⟨classes,fields,methods,vars,stmts,deep,holes⟩:=s;rfl
@[go_sem] theorem Cn.g5:ldRow none (Cn.at s) 5=some (.a (.v (.int .i64 s.deep))):=by obtain⟨classes,fields,methods,vars,stmts,deep,holes⟩:=s;rfl
@[go_sem] theorem Cn.g6:ldRow none (Cn.at s) 6=some (.a (.v (.int .i64 s.holes))):=by obtain⟨classes,fields,methods,vars,stmts,deep,holes⟩:=s;rfl
@[go_sem] theorem Cn.p0_0 (z:Int):putRow (Cn.at s) 0 [.v (.int .i64 z)]=Cn.at { s with classes:=z }:=by obtain⟨classes,fields,methods,vars,stmts,deep,holes⟩:=s;rfl
@[go_sem] theorem Cn.p1_1 (z:Int):putRow (Cn.at s) 1 [.v (.int .i64 z)]=Cn.at { s with fields:=z }:=by obtain⟨classes,fields,methods,vars,stmts,deep,holes⟩:=s;rfl
@[go_sem] theorem Cn.p2_2 (z:Int):putRow (Cn.at s) 2 [.v (.int .i64 z)]=Cn.at { s with methods:=z }:=by obtain⟨classes,fields,methods,vars,stmts,deep,holes⟩:=s;rfl
@[go_sem] theorem Cn.p3_3 (z:Int):putRow (Cn.at s) 3 [.v (.int .i64 z)]=Cn.at { s with vars:=z }:=by obtain⟨classes,fields,methods,vars,stmts,deep,holes⟩:=s;rfl
@[go_sem] theorem Cn.p4_4 (z:Int):putRow (Cn.at s) 4 [.v (.int .i64 z)]=Cn.at { s with stmts:=z }:=by obtain⟨classes,fields,methods,vars,stmts,deep,holes⟩:=s;rfl
@[go_sem] theorem Cn.p5_5 (z:Int):putRow (Cn.at s) 5 [.v (.int .i64 z)]=Cn.at { s with deep:=z }:=by obtain⟨classes,fields,methods,vars,stmts,deep,holes⟩:=s;rfl
@[go_sem] theorem Cn.p6_6 (z:Int):putRow (Cn.at s) 6 [.v (.int .i64 z)]=Cn.at { s with holes:=z }:=by obtain⟨classes,fields,methods,vars,stmts,deep,holes⟩:=s;rfl
end
def Cn.zero:Cn:=⟨0,0,0,0,0,0,0⟩
@[go_sem] theorem Cs.nr (m:Nat) (s:Cs):(Cs.at s).all (nrA m)=true:=by obtain⟨name,params,super,above,fields,methods,at_⟩:=s;rfl
@[go_sem] theorem Cn.nr (m:Nat) (s:Cn):(Cn.at s).all (nrA m)=true:=by obtain⟨classes,fields,methods,vars,stmts,deep,holes⟩:=s;rfl
end Go.Proofs.YtibdalkdgjghoaaDoor
