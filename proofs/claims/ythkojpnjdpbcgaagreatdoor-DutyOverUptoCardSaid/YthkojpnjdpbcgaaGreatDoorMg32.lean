/- The document's programs on plain data: whether they may be. Conditions: at most 2^20 of anything. -/
import Derived.Test.YthkojpnjdpbcgaaGreatDoorMg29
set_option linter.unusedVariables false
set_option maxRecDepth 100000
set_option maxHeartbeats 8000000
set_option linter.unusedSimpArgs false
namespace Go.Proofs.YthkojpnjdpbcgaaGreatDoor
open Go.RowKit
def o4At (t:Ty):List A:=[.v (.int .i64 t.o0.1),.v (.int .i64 t.o0.2),.v (.int .i64 t.o1.1),.v (.int .i64 t.o1.2),.v (.int .i64 t.o2.1),.v (.int .i64 t.o2.2),.v (.int .i64 t.o3.1),.v (.int .i64 t.o3.2)]
@[go_sem] theorem o4_ld (t:Ty):qaa (some 8) (Ty.at t) 3=some (.r (o4At t)):=by obtain⟨k,cls,n,⟨a0,b0⟩,⟨a1,b1⟩,⟨a2,b2⟩,⟨a3,b3⟩⟩:=t;rfl
@[go_sem] theorem o4_len (t:Ty):(o4At t).length=8:=rfl
@[go_sem] theorem o4_cl (t:Ty):(o4At t).all clA=true:=rfl
@[go_sem] theorem o4_see (t:Ty) (st:List Bx):(o4At t).map (seeA st)=o4At t:=rfl
@[go_sem] theorem o4_w (t:Ty):qaa (some 8) (o4At t) 0=some (.r (o4At t)):=rfl
@[go_sem] theorem o4_z (t:Ty) (a b c d e f g h:A):qae [a,b,c,d,e,f,g,h] 0 (o4At t)=o4At t:=rfl
@[go_sem] theorem o4_0 (t:Ty):qaa none (o4At t) 0=some (.a (.v (.int .i64 t.o0.1))):=rfl
@[go_sem] theorem o4_1 (t:Ty):qaa none (o4At t) 1=some (.a (.v (.int .i64 t.o0.2))):=rfl
@[go_sem] theorem o4_2 (t:Ty):qaa none (o4At t) 2=some (.a (.v (.int .i64 t.o1.1))):=rfl
@[go_sem] theorem o4_4 (t:Ty):qaa none (o4At t) 4=some (.a (.v (.int .i64 t.o2.1))):=rfl
@[go_sem] theorem o4_6 (t:Ty):qaa none (o4At t) 6=some (.a (.v (.int .i64 t.o3.1))):=rfl
theorem Me.cnt_le (m:Me):St.cnts m.body≤m.sz:=by
 have:=(St.deeps_le m.body fun e _=>St.deep_le _ e (Nat.le_refl _)).2
 unfold Me.sz;omega
theorem Cs.stmts_le (c:Cs):c.stmts≤c.sz:=by
 have:c.stmts≤qah Me.sz c.methods:=qi9 _ fun m _=>m.cnt_le
 unfold Cs.sz;omega
structure Cn where
 classes:Int
 fields:Int
 methods:Int
 vars:Int
 stmts:Int
 deep:Int
 holes:Int
def Cn.at:Cn→List A
 | ⟨classes,fields,methods,vars,stmts,deep,holes⟩=>[.v (.int .i64 classes),.v (.int .i64 fields),.v (.int .i64 methods),.v (.int .i64 vars),.v (.int .i64 stmts),.v (.int .i64 deep),.v (.int .i64 holes)]
section
variable (s:Cn)
@[go_sem] theorem Cn.len:(Cn.at s).length=7:=by obtain⟨classes,fields,methods,vars,stmts,deep,holes⟩:=s;rfl
end
@[go_sem] theorem Ty.nr (m:Nat) (s:Ty):(Ty.at s).all (nrA m)=true:=by obtain⟨kind,cls,n,o0,o1,o2,o3⟩:=s;rfl
@[go_sem] theorem Ex.nr (m:Nat) (s:Ex):(Ex.at s).all (nrA m)=true:=by obtain⟨kind,num,name,kids⟩:=s;simp only [Ex.at,Ex.at,Ex.ats_map];rfl
@[go_sem] theorem St.nr (m:Nat) (s:St):(St.at s).all (nrA m)=true:=by obtain⟨kind,x,y,name,⟨ty_kind,ty_cls,ty_n,ty_o0,ty_o1,ty_o2,ty_o3⟩,⟨e_kind,e_num,e_name,e_kids⟩,args,body,els,at_⟩:=s;simp only [St.at,St.at,St.ats_map,Ex.at,Ex.ats_map];rfl
@[go_sem] theorem Vr.nr (m:Nat) (s:Vr):(Vr.at s).all (nrA m)=true:=by obtain⟨name,⟨ty_kind,ty_cls,ty_n,ty_o0,ty_o1,ty_o2,ty_o3⟩,at_⟩:=s;rfl
@[go_sem] theorem Me.nr (m:Nat) (s:Me):(Me.at s).all (nrA m)=true:=by obtain⟨name,pure_,⟨ret_kind,ret_cls,ret_n,ret_o0,ret_o1,ret_o2,ret_o3⟩,params,locals,body,at_⟩:=s;rfl
@[go_sem] theorem Cs.nr (m:Nat) (s:Cs):(Cs.at s).all (nrA m)=true:=by obtain⟨name,params,super,above,fields,methods,at_⟩:=s;rfl
@[go_sem] theorem Cn.nr (m:Nat) (s:Cn):(Cn.at s).all (nrA m)=true:=by obtain⟨classes,fields,methods,vars,stmts,deep,holes⟩:=s;rfl
end Go.Proofs.YthkojpnjdpbcgaaGreatDoor
