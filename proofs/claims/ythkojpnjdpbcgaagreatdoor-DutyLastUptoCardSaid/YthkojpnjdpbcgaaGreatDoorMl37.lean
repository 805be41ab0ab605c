/- A record of records as plain data. No program in sight. Conditions: none. -/
import Derived.Test.YthkojpnjdpbcgaaGreatDoorMl35
set_option linter.unusedVariables false
set_option maxRecDepth 100000
set_option maxHeartbeats 8000000
set_option linter.unusedSimpArgs false
namespace Go.Proofs.YthkojpnjdpbcgaaGreatDoor
open Go.RowKit
structure Pc where
 p:List Cs
 c:Cs
 m:Me
def Pc.at:Pc→List A
 | ⟨p,c,m⟩=>[.sl (p.map Cs.at)]++Cs.at c++Me.at m
section
variable (s:Pc)
theorem Pc.row:Pc.at s=[.sl (s.p.map Cs.at),.v (.string (bs s.c.name)),.sl (s.c.params.map qi5),.v (.string (bs s.c.super)),.sl (s.c.above.map owAt),.sl (s.c.fields.map Vr.at),.sl (s.c.methods.map Me.at),.v (.int .i64 s.c.at_),.v (.string (bs s.m.name)),.v (.bool s.m.pure_),.v (.int .i64 s.m.ret.kind),.v (.string (bs s.m.ret.cls)),.v (.int .i64 s.m.ret.n),.v (.int .i64 s.m.ret.o0.1),.v (.int .i64 s.m.ret.o0.2),.v (.int .i64 s.m.ret.o1.1),.v (.int .i64 s.m.ret.o1.2),.v (.int .i64 s.m.ret.o2.1),.v (.int .i64 s.m.ret.o2.2),.v (.int .i64 s.m.ret.o3.1),.v (.int .i64 s.m.ret.o3.2),.sl (s.m.params.map Vr.at),.sl (s.m.locals.map Vr.at),.sl (s.m.body.map St.at),.v (.int .i64 s.m.at_)]:=by obtain⟨p,⟨c_name,c_params,c_super,c_above,c_fields,c_methods,c_at_⟩,⟨m_name,m_pure_,⟨m_ret_kind,m_ret_cls,m_ret_n,m_ret_o0,m_ret_o1,m_ret_o2,m_ret_o3⟩,m_params,m_locals,m_body,m_at_⟩⟩:=s;simp only [Pc.at,Cs.at,Me.at,Ty.at];rfl
@[go_sem] theorem Pc.len:(Pc.at s).length=25:=by rw [Pc.row];rfl
@[go_sem] theorem Pc.cl:(Pc.at s).all clA=true:=by rw [Pc.row];rfl
@[go_sem] theorem Pc.nr (m:Nat):(Pc.at s).all (nrA m)=true:=by rw [Pc.row];rfl
@[go_sem] theorem Pc.w:qae (some 25) (Pc.at s) 0=some (.r (Pc.at s)):=qbp (Pc.len s)
@[go_sem] theorem Pc.g0:qae none (Pc.at s) 0=some (.a (.sl (s.p.map Cs.at))):=by rw [Pc.row];rfl
@[go_sem] theorem Pc.g2:qae none (Pc.at s) 2=some (.a (.sl (s.c.params.map qi5))):=by rw [Pc.row];rfl
@[go_sem] theorem Pc.g10:qae none (Pc.at s) 10=some (.a (.v (.int .i64 s.m.ret.kind))):=by rw [Pc.row];rfl
@[go_sem] theorem Pc.s1:qae (some 7) (Pc.at s) 1=some (.r (Cs.at s.c)):=by obtain⟨_,⟨_,_,_,_,_,_,_⟩,⟨_,_,⟨_,_,_,_,_,_,_⟩,_,_,_,_⟩⟩:=s;simp only [Pc.at,Cs.at,Me.at,Ty.at];rfl
@[go_sem] theorem Pc.s8:qae (some 17) (Pc.at s) 8=some (.r (Me.at s.m)):=by obtain⟨_,⟨_,_,_,_,_,_,_⟩,⟨_,_,⟨_,_,_,_,_,_,_⟩,_,_,_,_⟩⟩:=s;simp only [Pc.at,Cs.at,Me.at,Ty.at];rfl
@[go_sem] theorem Pc.s10:qae (some 11) (Pc.at s) 10=some (.r (Ty.at s.m.ret)):=by obtain⟨_,⟨_,_,_,_,_,_,_⟩,⟨_,_,⟨_,_,_,_,_,_,_⟩,_,_,_,_⟩⟩:=s;simp only [Pc.at,Cs.at,Me.at,Ty.at];rfl
end
end Go.Proofs.YthkojpnjdpbcgaaGreatDoor
