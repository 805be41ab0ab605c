/- A record of records as plain data. No program in sight. Conditions: none. -/
import Derived.Test.YtibdalkdgjghoaaGreatDoorMg33
set_option linter.unusedVariables false
set_option maxRecDepth 100000
set_option maxHeartbeats 8000000
set_option linter.unusedSimpArgs false
namespace Go.Proofs.YtibdalkdgjghoaaGreatDoor
open Go.RowKit
structure Fs where
 cls:List UInt8
 var:Vr
def Fs.at:Fs→List A
 | ⟨cls,var⟩=>[.v (.string (bs cls))]++Vr.at var
section
variable (s:Fs)
theorem Fs.row:Fs.at s=[.v (.string (bs s.cls)),.v (.string (bs s.var.name)),.v (.int .i64 s.var.ty.kind),.v (.string (bs s.var.ty.cls)),.v (.int .i64 s.var.ty.n),.v (.int .i64 s.var.ty.o0.1),.v (.int .i64 s.var.ty.o0.2),.v (.int .i64 s.var.ty.o1.1),.v (.int .i64 s.var.ty.o1.2),.v (.int .i64 s.var.ty.o2.1),.v (.int .i64 s.var.ty.o2.2),.v (.int .i64 s.var.ty.o3.1),.v (.int .i64 s.var.ty.o3.2),.v (.int .i64 s.var.at_)]:=by obtain⟨cls,⟨var_name,⟨var_ty_kind,var_ty_cls,var_ty_n,var_ty_o0,var_ty_o1,var_ty_o2,var_ty_o3⟩,var_at_⟩⟩:=s;simp only [Fs.at,Vr.at,Ty.at];rfl
@[go_sem] theorem Fs.len:(Fs.at s).length=14:=by rw [Fs.row];rfl
@[go_sem] theorem Fs.cl:(Fs.at s).all clA=true:=by rw [Fs.row];rfl
@[go_sem] theorem Fs.see (st:List Bx):(Fs.at s).map (seeA st)=Fs.at s:=by rw [Fs.row];rfl
@[go_sem] theorem Fs.nr (m:Nat):(Fs.at s).all (nrA m)=true:=by rw [Fs.row];rfl
@[go_sem] theorem Fs.w:ldRow (some 14) (Fs.at s) 0=some (.r (Fs.at s)):=ldRow_all (Fs.len s)
@[go_sem] theorem Fs.pw (t:Fs):putRow (Fs.at s) 0 (Fs.at t)=Fs.at t:=putRow_all (by rw [Fs.len,Fs.len])
@[go_sem] theorem Fs.g0:ldRow none (Fs.at s) 0=some (.a (.v (.string (bs s.cls)))):=by rw [Fs.row];rfl
@[go_sem] theorem Fs.g1:ldRow none (Fs.at s) 1=some (.a (.v (.string (bs s.var.name)))):=by rw [Fs.row];rfl
@[go_sem] theorem Fs.g2:ldRow none (Fs.at s) 2=some (.a (.v (.int .i64 s.var.ty.kind))):=by rw [Fs.row];rfl
@[go_sem] theorem Fs.g3:ldRow none (Fs.at s) 3=some (.a (.v (.string (bs s.var.ty.cls)))):=by rw [Fs.row];rfl
@[go_sem] theorem Fs.g4:ldRow none (Fs.at s) 4=some (.a (.v (.int .i64 s.var.ty.n))):=by rw [Fs.row];rfl
@[go_sem] theorem Fs.g5:ldRow none (Fs.at s) 5=some (.a (.v (.int .i64 s.var.ty.o0.1))):=by rw [Fs.row];rfl
@[go_sem] theorem Fs.g6:ldRow none (Fs.at s) 6=some (.a (.v (.int .i64 s.var.ty.o0.2))):=by rw [Fs.row];rfl
@[go_sem] theorem Fs.g7:ldRow none (Fs.at s) 7=some (.a (.v (.int .i64 s.var.ty.o1.1))):=by rw [Fs.row];rfl
@[go_sem] theorem Fs.g8:ldRow none (Fs.at s) 8=some (.a (.v (.int .i64 s.var.ty.o1.2))):=by rw [Fs.row];rfl
@[go_sem] theorem Fs.g9:ldRow none (Fs.at s) 9=some (.a (.v (.int .i64 s.var.ty.o2.1))):=by rw [Fs.row];rfl
@[go_sem] theorem Fs.g10:ldRow none (Fs.at s) 10=some (.a (.v (.int .i64 s.var.ty.o2.2))):=by rw [Fs.row];rfl
@[go_sem] theorem Fs.g11:ldRow none (Fs.at s) 11=some (.a (.v (.int .i64 s.var.ty.o3.1))):=by rw [Fs.row];rfl
@[go_sem] theorem Fs.g12:ldRow none (Fs.at s) 12=some (.a (.v (.int .i64 s.var.ty.o3.2))):=by rw [Fs.row];rfl
@[go_sem] theorem Fs.g13:ldRow none (Fs.at s) 13=some (.a (.v (.int .i64 s.var.at_))):=by rw [Fs.row];rfl
@[go_sem] theorem Fs.s1:ldRow (some 13) (Fs.at s) 1=some (.r (Vr.at s.var)):=by obtain⟨_,⟨_,⟨_,_,_,_,_,_,_⟩,_⟩⟩:=s;simp only [Fs.at,Vr.at,Ty.at];rfl
@[go_sem] theorem Fs.s2:ldRow (some 11) (Fs.at s) 2=some (.r (Ty.at s.var.ty)):=by obtain⟨_,⟨_,⟨_,_,_,_,_,_,_⟩,_⟩⟩:=s;simp only [Fs.at,Vr.at,Ty.at];rfl
@[go_sem] theorem Fs.p_cls (z:List UInt8):putRow (Fs.at s) 0 ([.v (.string (bs z))])=Fs.at { s with cls:=z }:=by obtain⟨_,⟨_,⟨_,_,_,_,_,_,_⟩,_⟩⟩:=s;simp only [Fs.at,Vr.at,Ty.at];rfl
@[go_sem] theorem Fs.p_var (z:Vr):putRow (Fs.at s) 1 (Vr.at z)=Fs.at { s with var:=z }:=by obtain⟨_,⟨_,_,_,_,_,_,_⟩,_⟩:=z;obtain⟨_,⟨_,⟨_,_,_,_,_,_,_⟩,_⟩⟩:=s;simp only [Fs.at,Vr.at,Ty.at];rfl
end
def Fs.zero:Fs:=⟨[],Vr.zero⟩
theorem Fs.z0:[A.v (.string ⟨#[]⟩),.v (.string ⟨#[]⟩),.v (.int .i64 0),.v (.string ⟨#[]⟩),.v (.int .i64 0),.v (.int .i64 0),.v (.int .i64 0),.v (.int .i64 0),.v (.int .i64 0),.v (.int .i64 0),.v (.int .i64 0),.v (.int .i64 0),.v (.int .i64 0),.v (.int .i64 0)]=Fs.at Fs.zero:=by unfold Fs.zero;simp only [Fs.at,Vr.zero,Vr.at,Ty.zero,Ty.at];rfl
end Go.Proofs.YtibdalkdgjghoaaGreatDoor
