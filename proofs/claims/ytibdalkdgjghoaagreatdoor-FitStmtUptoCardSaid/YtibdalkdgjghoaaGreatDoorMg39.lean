/- A record of records as plain data. No program in sight. Conditions: none. -/
import Derived.Test.YtibdalkdgjghoaaGreatDoorMg33
set_option linter.unusedVariables false
set_option maxRecDepth 100000
set_option maxHeartbeats 8000000
set_option linter.unusedSimpArgs false
namespace Go.Proofs.YtibdalkdgjghoaaGreatDoor
open Go.RowKit
structure Pc where
 p:List Cs
 c:Cs
 m:Me
def Pc.at:Pc→List A
 | ⟨p,c,m⟩=>[.sl (p.map Cs.at)]++Cs.at c++Me.at m
section
variable (s:Pc)
theorem Pc.row:Pc.at s=[.sl (s.p.map Cs.at),.v (.string (bs s.c.name)),.sl (s.c.params.map strAt),.v (.string (bs s.c.super)),.sl (s.c.above.map owAt),.sl (s.c.fields.map Vr.at),.sl (s.c.methods.map Me.at),.v (.int .i64 s.c.at_),.v (.string (bs s.m.name)),.v (.bool s.m.pure_),.v (.int .i64 s.m.ret.kind),.v (.string (bs s.m.ret.cls)),.v (.int .i64 s.m.ret.n),.v (.int .i64 s.m.ret.o0.1),.v (.int .i64 s.m.ret.o0.2),.v (.int .i64 s.m.ret.o1.1),.v (.int .i64 s.m.ret.o1.2),.v (.int .i64 s.m.ret.o2.1),.v (.int .i64 s.m.ret.o2.2),.v (.int .i64 s.m.ret.o3.1),.v (.int .i64 s.m.ret.o3.2),.sl (s.m.params.map Vr.at),.sl (s.m.locals.map Vr.at),.sl (s.m.body.map St.at),.v (.int .i64 s.m.at_)]:=by obtain⟨p,⟨c_name,c_params,c_super,c_above,c_fields,c_methods,c_at_⟩,⟨m_name,m_pure_,⟨m_ret_kind,m_ret_cls,m_ret_n,m_ret_o0,m_ret_o1,m_ret_o2,m_ret_o3⟩,m_params,m_locals,m_body,m_at_⟩⟩:=s;simp only [Pc.at,Cs.at,Me.at,Ty.at];rfl
@[go_sem] theorem Pc.len:(Pc.at s).length=25:=by rw [Pc.row];rfl
@[go_sem] theorem Pc.cl:(Pc.at s).all clA=true:=by rw [Pc.row];rfl
@[go_sem] theorem Pc.see (st:List Bx):(Pc.at s).map (seeA st)=Pc.at s:=by rw [Pc.row];rfl
@[go_sem] theorem Pc.nr (m:Nat):(Pc.at s).all (nrA m)=true:=by rw [Pc.row];rfl
@[go_sem] theorem Pc.w:ldRow (some 25) (Pc.at s) 0=some (.r (Pc.at s)):=ldRow_all (Pc.len s)
@[go_sem] theorem Pc.pw (t:Pc):putRow (Pc.at s) 0 (Pc.at t)=Pc.at t:=putRow_all (by rw [Pc.len,Pc.len])
@[go_sem] theorem Pc.g0:ldRow none (Pc.at s) 0=some (.a (.sl (s.p.map Cs.at))):=by rw [Pc.row];rfl
@[go_sem] theorem Pc.g1:ldRow none (Pc.at s) 1=some (.a (.v (.string (bs s.c.name)))):=by rw [Pc.row];rfl
@[go_sem] theorem Pc.g2:ldRow none (Pc.at s) 2=some (.a (.sl (s.c.params.map strAt))):=by rw [Pc.row];rfl
@[go_sem] theorem Pc.g3:ldRow none (Pc.at s) 3=some (.a (.v (.string (bs s.c.super)))):=by rw [Pc.row];rfl
@[go_sem] theorem Pc.g4:ldRow none (Pc.at s) 4=some (.a (.sl (s.c.above.map owAt))):=by rw [Pc.row];rfl
@[go_sem] theorem Pc.g5:ldRow none (Pc.at s) 5=some (.a (.sl (s.c.fields.map Vr.at))):=by rw [Pc.row];rfl
@[go_sem] theorem Pc.g6:ldRow none (Pc.at s) 6=some (.a (.sl (s.c.methods.map Me.at))):=by rw [Pc.row];rfl
@[go_sem] theorem Pc.g7:ldRow none (Pc.at s) 7=some (.a (.v (.int .i64 s.c.at_))):=by rw [Pc.row];rfl
@[go_sem] theorem Pc.g8:ldRow none (Pc.at s) 8=some (.a (.v (.string (bs s.m.name)))):=by rw [Pc.row];rfl
@[go_sem] theorem Pc.g9:ldRow none (Pc.at s) 9=some (.a (.v (.bool s.m.pure_))):=by rw [Pc.row];rfl
@[go_sem] theorem Pc.g10:ldRow none (Pc.at s) 10=some (.a (.v (.int .i64 s.m.ret.kind))):=by rw [Pc.row];rfl
@[go_sem] theorem Pc.g11:ldRow none (Pc.at s) 11=some (.a (.v (.string (bs s.m.ret.cls)))):=by rw [Pc.row];rfl
@[go_sem] theorem Pc.g12:ldRow none (Pc.at s) 12=some (.a (.v (.int .i64 s.m.ret.n))):=by rw [Pc.row];rfl
@[go_sem] theorem Pc.g13:ldRow none (Pc.at s) 13=some (.a (.v (.int .i64 s.m.ret.o0.1))):=by rw [Pc.row];rfl
@[go_sem] theorem Pc.g14:ldRow none (Pc.at s) 14=some (.a (.v (.int .i64 s.m.ret.o0.2))):=by rw [Pc.row];rfl
@[go_sem] theorem Pc.g15:ldRow none (Pc.at s) 15=some (.a (.v (.int .i64 s.m.ret.o1.1))):=by rw [Pc.row];rfl
@[go_sem] theorem Pc.g16:ldRow none (Pc.at s) 16=some (.a (.v (.int .i64 s.m.ret.o1.2))):=by rw [Pc.row];rfl
@[go_sem] theorem Pc.g17:ldRow none (Pc.at s) 17=some (.a (.v (.int .i64 s.m.ret.o2.1))):=by rw [Pc.row];rfl
@[go_sem] theorem Pc.g18:ldRow none (Pc.at s) 18=some (.a (.v (.int .i64 s.m.ret.o2.2))):=by rw [Pc.row];rfl
@[go_sem] theorem Pc.g19:ldRow none (Pc.at s) 19=some (.a (.v (.int .i64 s.m.ret.o3.1))):=by rw [Pc.row];rfl
@[go_sem] theorem Pc.g20:ldRow none (Pc.at s) 20=some (.a (.v (.int .i64 s.m.ret.o3.2))):=by rw [Pc.row];rfl
@[go_sem] theorem Pc.g21:ldRow none (Pc.at s) 21=some (.a (.sl (s.m.params.map Vr.at))):=by rw [Pc.row];rfl
@[go_sem] theorem Pc.g22:ldRow none (Pc.at s) 22=some (.a (.sl (s.m.locals.map Vr.at))):=by rw [Pc.row];rfl
@[go_sem] theorem Pc.g23:ldRow none (Pc.at s) 23=some (.a (.sl (s.m.body.map St.at))):=by rw [Pc.row];rfl
@[go_sem] theorem Pc.g24:ldRow none (Pc.at s) 24=some (.a (.v (.int .i64 s.m.at_))):=by rw [Pc.row];rfl
@[go_sem] theorem Pc.s1:ldRow (some 7) (Pc.at s) 1=some (.r (Cs.at s.c)):=by obtain⟨_,⟨_,_,_,_,_,_,_⟩,⟨_,_,⟨_,_,_,_,_,_,_⟩,_,_,_,_⟩⟩:=s;simp only [Pc.at,Cs.at,Me.at,Ty.at];rfl
@[go_sem] theorem Pc.s8:ldRow (some 17) (Pc.at s) 8=some (.r (Me.at s.m)):=by obtain⟨_,⟨_,_,_,_,_,_,_⟩,⟨_,_,⟨_,_,_,_,_,_,_⟩,_,_,_,_⟩⟩:=s;simp only [Pc.at,Cs.at,Me.at,Ty.at];rfl
@[go_sem] theorem Pc.s10:ldRow (some 11) (Pc.at s) 10=some (.r (Ty.at s.m.ret)):=by obtain⟨_,⟨_,_,_,_,_,_,_⟩,⟨_,_,⟨_,_,_,_,_,_,_⟩,_,_,_,_⟩⟩:=s;simp only [Pc.at,Cs.at,Me.at,Ty.at];rfl
@[go_sem] theorem Pc.p_p (z:List Cs):putRow (Pc.at s) 0 ([.sl (z.map Cs.at)])=Pc.at { s with p:=z }:=by obtain⟨_,⟨_,_,_,_,_,_,_⟩,⟨_,_,⟨_,_,_,_,_,_,_⟩,_,_,_,_⟩⟩:=s;simp only [Pc.at,Cs.at,Me.at,Ty.at];rfl
@[go_sem] theorem Pc.p_c (z:Cs):putRow (Pc.at s) 1 (Cs.at z)=Pc.at { s with c:=z }:=by obtain⟨_,_,_,_,_,_,_⟩:=z;obtain⟨_,⟨_,_,_,_,_,_,_⟩,⟨_,_,⟨_,_,_,_,_,_,_⟩,_,_,_,_⟩⟩:=s;simp only [Pc.at,Cs.at,Me.at,Ty.at];rfl
@[go_sem] theorem Pc.p_m (z:Me):putRow (Pc.at s) 8 (Me.at z)=Pc.at { s with m:=z }:=by obtain⟨_,_,⟨_,_,_,_,_,_,_⟩,_,_,_,_⟩:=z;obtain⟨_,⟨_,_,_,_,_,_,_⟩,⟨_,_,⟨_,_,_,_,_,_,_⟩,_,_,_,_⟩⟩:=s;simp only [Pc.at,Cs.at,Me.at,Ty.at];rfl
end
def Pc.zero:Pc:=⟨[],Cs.zero,Me.zero⟩
theorem Pc.z0:[A.sl [],.v (.string ⟨#[]⟩),.sl [],.v (.string ⟨#[]⟩),.sl [],.sl [],.sl [],.v (.int .i64 0),.v (.string ⟨#[]⟩),.v (.bool false),.v (.int .i64 0),.v (.string ⟨#[]⟩),.v (.int .i64 0),.v (.int .i64 0),.v (.int .i64 0),.v (.int .i64 0),.v (.int .i64 0),.v (.int .i64 0),.v (.int .i64 0),.v (.int .i64 0),.v (.int .i64 0),.sl [],.sl [],.sl [],.v (.int .i64 0)]=Pc.at Pc.zero:=by unfold Pc.zero;simp only [Pc.at,Cs.zero,Cs.at,Me.zero,Me.at,Ty.zero,Ty.at];rfl
end Go.Proofs.YtibdalkdgjghoaaGreatDoor
