/- fit.all: one question behind the other, on plain data. Conditions: none. -/
import Derived.Test.YthkojpnjdpbcgaaGreatDoorMg16
import Derived.Test.YthkojpnjdpbcgaaGreatDoorMg20
import Derived.Test.YthkojpnjdpbcgaaGreatDoorMg33
set_option linter.unusedVariables false
set_option maxRecDepth 100000
set_option maxHeartbeats 8000000
set_option linter.unusedSimpArgs false
namespace Go.Proofs.YthkojpnjdpbcgaaGreatDoor
open Go.RowKit
def fnOf:A→Option (FuncId×List A)
 | .fn f caps=>some (f,caps)
 | .fm f caps=>some (f,caps)
 | _=>none
inductive AllR (P:Program) (j:Nat) (row:List A):List A→List Bx→Int→List Bx→Prop
 | nil (st:List Bx):AllR P j row [] st 0 st
 | stop (x:A) (f:FuncId) (caps:List A) (r:List A) (st st1:List Bx) (z:Int):fnOf x=some (f,caps)→DM P f (caps.map D.a) st (.a (.v (.int .i64 z))) st1→(z != 0)=true→AllR P j row (x::r) st z st1
 | go (x:A) (f:FuncId) (caps:List A) (r:List A) (st st1 st2:List Bx) (z:Int):fnOf x=some (f,caps)→DM P f (caps.map D.a) st (.a (.v (.int .i64 0))) st1→st1[j]? = some (.cell row)→st1.all Bx.live=true→AllR P j row r st1 z st2→AllR P j row (x::r) st z st2
theorem AllR.nr {P:Program} {j:Nat} {row l:List A} {st st':List Bx} {z:Int} (h:AllR P j row l st z st'):nrS st.length st=true→nrS st'.length st'=true∧st.length≤st'.length:=by
 induction h with
 | nil st=>exact fun h=>⟨h,Nat.le_refl _⟩
 | stop x f caps r st st1 z _ hd _=>exact fun _=>⟨hd.nr,hd.le⟩
 | go x f caps r st st1 st2 z _ hd _ _ _ ih=>exact fun _=>⟨(ih hd.nr).1,Nat.le_trans hd.le (ih hd.nr).2⟩
section
variable {P:Program} {C:Cx P} {ops:Array Oper} {r:List Oper} {e:Nat→D} {st st1:List Bx} {dst:Option Nat} {ty:TypeId} {pos:String} {after:Array Edge} {K:(Nat→D)→List Bx→Prop} {f:FuncId} {y:Operand} {tys:Array TypeId} {d:D} {caps:List A} {x:A}
end
structure Ak where
 p:List Cs
 c:Cs
 m:Me
 s:St
 x:Ty
 o:Ty
def Ak.at:Ak→List A
 | ⟨p,c,m,s,x,o⟩=>[.sl (p.map Cs.at)]++Cs.at c++Me.at m++St.at s++Ty.at x++Ty.at o
section
variable (s:Ak)
theorem Ak.row:Ak.at s=[.sl (s.p.map Cs.at),.v (.string (bs s.c.name)),.sl (s.c.params.map qg1),.v (.string (bs s.c.super)),.sl (s.c.above.map owAt),.sl (s.c.fields.map Vr.at),.sl (s.c.methods.map Me.at),.v (.int .i64 s.c.at_),.v (.string (bs s.m.name)),.v (.bool s.m.pure_),.v (.int .i64 s.m.ret.kind),.v (.string (bs s.m.ret.cls)),.v (.int .i64 s.m.ret.n),.v (.int .i64 s.m.ret.o0.1),.v (.int .i64 s.m.ret.o0.2),.v (.int .i64 s.m.ret.o1.1),.v (.int .i64 s.m.ret.o1.2),.v (.int .i64 s.m.ret.o2.1),.v (.int .i64 s.m.ret.o2.2),.v (.int .i64 s.m.ret.o3.1),.v (.int .i64 s.m.ret.o3.2),.sl (s.m.params.map Vr.at),.sl (s.m.locals.map Vr.at),.sl (s.m.body.map St.at),.v (.int .i64 s.m.at_),.v (.int .i64 s.s.kind),.v (.string (bs s.s.x)),.v (.string (bs s.s.y)),.v (.string (bs s.s.name)),.v (.int .i64 s.s.ty.kind),.v (.string (bs s.s.ty.cls)),.v (.int .i64 s.s.ty.n),.v (.int .i64 s.s.ty.o0.1),.v (.int .i64 s.s.ty.o0.2),.v (.int .i64 s.s.ty.o1.1),.v (.int .i64 s.s.ty.o1.2),.v (.int .i64 s.s.ty.o2.1),.v (.int .i64 s.s.ty.o2.2),.v (.int .i64 s.s.ty.o3.1),.v (.int .i64 s.s.ty.o3.2),.v (.int .i64 s.s.e.kind),.v (.int .i64 s.s.e.num),.v (.string (bs s.s.e.name)),.sl (s.s.e.kids.map Ex.at),.sl (s.s.args.map Ex.at),.sl (s.s.body.map St.at),.sl (s.s.els.map St.at),.v (.int .i64 s.s.at_),.v (.int .i64 s.x.kind),.v (.string (bs s.x.cls)),.v (.int .i64 s.x.n),.v (.int .i64 s.x.o0.1),.v (.int .i64 s.x.o0.2),.v (.int .i64 s.x.o1.1),.v (.int .i64 s.x.o1.2),.v (.int .i64 s.x.o2.1),.v (.int .i64 s.x.o2.2),.v (.int .i64 s.x.o3.1),.v (.int .i64 s.x.o3.2),.v (.int .i64 s.o.kind),.v (.string (bs s.o.cls)),.v (.int .i64 s.o.n),.v (.int .i64 s.o.o0.1),.v (.int .i64 s.o.o0.2),.v (.int .i64 s.o.o1.1),.v (.int .i64 s.o.o1.2),.v (.int .i64 s.o.o2.1),.v (.int .i64 s.o.o2.2),.v (.int .i64 s.o.o3.1),.v (.int .i64 s.o.o3.2)]:=by obtain⟨p,⟨c_name,c_params,c_super,c_above,c_fields,c_methods,c_at_⟩,⟨m_name,m_pure_,⟨m_ret_kind,m_ret_cls,m_ret_n,m_ret_o0,m_ret_o1,m_ret_o2,m_ret_o3⟩,m_params,m_locals,m_body,m_at_⟩,⟨s_kind,s_x,s_y,s_name,⟨s_ty_kind,s_ty_cls,s_ty_n,s_ty_o0,s_ty_o1,s_ty_o2,s_ty_o3⟩,⟨s_e_kind,s_e_num,s_e_name,s_e_kids⟩,s_args,s_body,s_els,s_at_⟩,⟨x_kind,x_cls,x_n,x_o0,x_o1,x_o2,x_o3⟩,⟨o_kind,o_cls,o_n,o_o0,o_o1,o_o2,o_o3⟩⟩:=s;simp only [Ak.at,Cs.at,Me.at,Ty.at,St.at,Ex.at,St.ats_map,Ex.ats_map];rfl
@[go_sem] theorem Ak.len:(Ak.at s).length=70:=by rw [Ak.row];rfl
@[go_sem] theorem Ak.cl:(Ak.at s).all clA=true:=by rw [Ak.row];rfl
@[go_sem] theorem Ak.see (st:List Bx):(Ak.at s).map (seeA st)=Ak.at s:=by rw [Ak.row];rfl
@[go_sem] theorem Ak.nr (m:Nat):(Ak.at s).all (nrA m)=true:=by rw [Ak.row];rfl
@[go_sem] theorem Ak.w:qaa (some 70) (Ak.at s) 0=some (.r (Ak.at s)):=qbm (Ak.len s)
@[go_sem] theorem Ak.pw (t:Ak):qae (Ak.at s) 0 (Ak.at t)=Ak.at t:=qbh (by rw [Ak.len,Ak.len])
@[go_sem] theorem Ak.g0:qaa none (Ak.at s) 0=some (.a (.sl (s.p.map Cs.at))):=by rw [Ak.row];rfl
@[go_sem] theorem Ak.g1:qaa none (Ak.at s) 1=some (.a (.v (.string (bs s.c.name)))):=by rw [Ak.row];rfl
@[go_sem] theorem Ak.g2:qaa none (Ak.at s) 2=some (.a (.sl (s.c.params.map qg1))):=by rw [Ak.row];rfl
@[go_sem] theorem Ak.g3:qaa none (Ak.at s) 3=some (.a (.v (.string (bs s.c.super)))):=by rw [Ak.row];rfl
@[go_sem] theorem Ak.g4:qaa none (Ak.at s) 4=some (.a (.sl (s.c.above.map owAt))):=by rw [Ak.row];rfl
@[go_sem] theorem Ak.g5:qaa none (Ak.at s) 5=some (.a (.sl (s.c.fields.map Vr.at))):=by rw [Ak.row];rfl
@[go_sem] theorem Ak.g6:qaa none (Ak.at s) 6=some (.a (.sl (s.c.methods.map Me.at))):=by rw [Ak.row];rfl
@[go_sem] theorem Ak.g7:qaa none (Ak.at s) 7=some (.a (.v (.int .i64 s.c.at_))):=by rw [Ak.row];rfl
@[go_sem] theorem Ak.g8:qaa none (Ak.at s) 8=some (.a (.v (.string (bs s.m.name)))):=by rw [Ak.row];rfl
@[go_sem] theorem Ak.g9:qaa none (Ak.at s) 9=some (.a (.v (.bool s.m.pure_))):=by rw [Ak.row];rfl
@[go_sem] theorem Ak.g10:qaa none (Ak.at s) 10=some (.a (.v (.int .i64 s.m.ret.kind))):=by rw [Ak.row];rfl
@[go_sem] theorem Ak.g11:qaa none (Ak.at s) 11=some (.a (.v (.string (bs s.m.ret.cls)))):=by rw [Ak.row];rfl
@[go_sem] theorem Ak.g12:qaa none (Ak.at s) 12=some (.a (.v (.int .i64 s.m.ret.n))):=by rw [Ak.row];rfl
@[go_sem] theorem Ak.g13:qaa none (Ak.at s) 13=some (.a (.v (.int .i64 s.m.ret.o0.1))):=by rw [Ak.row];rfl
@[go_sem] theorem Ak.g14:qaa none (Ak.at s) 14=some (.a (.v (.int .i64 s.m.ret.o0.2))):=by rw [Ak.row];rfl
@[go_sem] theorem Ak.g15:qaa none (Ak.at s) 15=some (.a (.v (.int .i64 s.m.ret.o1.1))):=by rw [Ak.row];rfl
@[go_sem] theorem Ak.g16:qaa none (Ak.at s) 16=some (.a (.v (.int .i64 s.m.ret.o1.2))):=by rw [Ak.row];rfl
@[go_sem] theorem Ak.g17:qaa none (Ak.at s) 17=some (.a (.v (.int .i64 s.m.ret.o2.1))):=by rw [Ak.row];rfl
@[go_sem] theorem Ak.g18:qaa none (Ak.at s) 18=some (.a (.v (.int .i64 s.m.ret.o2.2))):=by rw [Ak.row];rfl
@[go_sem] theorem Ak.g19:qaa none (Ak.at s) 19=some (.a (.v (.int .i64 s.m.ret.o3.1))):=by rw [Ak.row];rfl
@[go_sem] theorem Ak.g20:qaa none (Ak.at s) 20=some (.a (.v (.int .i64 s.m.ret.o3.2))):=by rw [Ak.row];rfl
@[go_sem] theorem Ak.g21:qaa none (Ak.at s) 21=some (.a (.sl (s.m.params.map Vr.at))):=by rw [Ak.row];rfl
@[go_sem] theorem Ak.g22:qaa none (Ak.at s) 22=some (.a (.sl (s.m.locals.map Vr.at))):=by rw [Ak.row];rfl
@[go_sem] theorem Ak.g23:qaa none (Ak.at s) 23=some (.a (.sl (s.m.body.map St.at))):=by rw [Ak.row];rfl
@[go_sem] theorem Ak.g24:qaa none (Ak.at s) 24=some (.a (.v (.int .i64 s.m.at_))):=by rw [Ak.row];rfl
@[go_sem] theorem Ak.g25:qaa none (Ak.at s) 25=some (.a (.v (.int .i64 s.s.kind))):=by rw [Ak.row];rfl
@[go_sem] theorem Ak.g26:qaa none (Ak.at s) 26=some (.a (.v (.string (bs s.s.x)))):=by rw [Ak.row];rfl
@[go_sem] theorem Ak.g27:qaa none (Ak.at s) 27=some (.a (.v (.string (bs s.s.y)))):=by rw [Ak.row];rfl
@[go_sem] theorem Ak.g28:qaa none (Ak.at s) 28=some (.a (.v (.string (bs s.s.name)))):=by rw [Ak.row];rfl
@[go_sem] theorem Ak.g29:qaa none (Ak.at s) 29=some (.a (.v (.int .i64 s.s.ty.kind))):=by rw [Ak.row];rfl
@[go_sem] theorem Ak.g30:qaa none (Ak.at s) 30=some (.a (.v (.string (bs s.s.ty.cls)))):=by rw [Ak.row];rfl
@[go_sem] theorem Ak.g31:qaa none (Ak.at s) 31=some (.a (.v (.int .i64 s.s.ty.n))):=by rw [Ak.row];rfl
@[go_sem] theorem Ak.g32:qaa none (Ak.at s) 32=some (.a (.v (.int .i64 s.s.ty.o0.1))):=by rw [Ak.row];rfl
@[go_sem] theorem Ak.g33:qaa none (Ak.at s) 33=some (.a (.v (.int .i64 s.s.ty.o0.2))):=by rw [Ak.row];rfl
@[go_sem] theorem Ak.g34:qaa none (Ak.at s) 34=some (.a (.v (.int .i64 s.s.ty.o1.1))):=by rw [Ak.row];rfl
@[go_sem] theorem Ak.g35:qaa none (Ak.at s) 35=some (.a (.v (.int .i64 s.s.ty.o1.2))):=by rw [Ak.row];rfl
@[go_sem] theorem Ak.g36:qaa none (Ak.at s) 36=some (.a (.v (.int .i64 s.s.ty.o2.1))):=by rw [Ak.row];rfl
@[go_sem] theorem Ak.g37:qaa none (Ak.at s) 37=some (.a (.v (.int .i64 s.s.ty.o2.2))):=by rw [Ak.row];rfl
@[go_sem] theorem Ak.g38:qaa none (Ak.at s) 38=some (.a (.v (.int .i64 s.s.ty.o3.1))):=by rw [Ak.row];rfl
@[go_sem] theorem Ak.g39:qaa none (Ak.at s) 39=some (.a (.v (.int .i64 s.s.ty.o3.2))):=by rw [Ak.row];rfl
@[go_sem] theorem Ak.g40:qaa none (Ak.at s) 40=some (.a (.v (.int .i64 s.s.e.kind))):=by rw [Ak.row];rfl
@[go_sem] theorem Ak.g41:qaa none (Ak.at s) 41=some (.a (.v (.int .i64 s.s.e.num))):=by rw [Ak.row];rfl
@[go_sem] theorem Ak.g42:qaa none (Ak.at s) 42=some (.a (.v (.string (bs s.s.e.name)))):=by rw [Ak.row];rfl
@[go_sem] theorem Ak.g43:qaa none (Ak.at s) 43=some (.a (.sl (s.s.e.kids.map Ex.at))):=by rw [Ak.row];rfl
@[go_sem] theorem Ak.g44:qaa none (Ak.at s) 44=some (.a (.sl (s.s.args.map Ex.at))):=by rw [Ak.row];rfl
@[go_sem] theorem Ak.g45:qaa none (Ak.at s) 45=some (.a (.sl (s.s.body.map St.at))):=by rw [Ak.row];rfl
@[go_sem] theorem Ak.g46:qaa none (Ak.at s) 46=some (.a (.sl (s.s.els.map St.at))):=by rw [Ak.row];rfl
@[go_sem] theorem Ak.g47:qaa none (Ak.at s) 47=some (.a (.v (.int .i64 s.s.at_))):=by rw [Ak.row];rfl
@[go_sem] theorem Ak.g48:qaa none (Ak.at s) 48=some (.a (.v (.int .i64 s.x.kind))):=by rw [Ak.row];rfl
@[go_sem] theorem Ak.g49:qaa none (Ak.at s) 49=some (.a (.v (.string (bs s.x.cls)))):=by rw [Ak.row];rfl
@[go_sem] theorem Ak.g50:qaa none (Ak.at s) 50=some (.a (.v (.int .i64 s.x.n))):=by rw [Ak.row];rfl
@[go_sem] theorem Ak.g51:qaa none (Ak.at s) 51=some (.a (.v (.int .i64 s.x.o0.1))):=by rw [Ak.row];rfl
@[go_sem] theorem Ak.g52:qaa none (Ak.at s) 52=some (.a (.v (.int .i64 s.x.o0.2))):=by rw [Ak.row];rfl
@[go_sem] theorem Ak.g53:qaa none (Ak.at s) 53=some (.a (.v (.int .i64 s.x.o1.1))):=by rw [Ak.row];rfl
@[go_sem] theorem Ak.g54:qaa none (Ak.at s) 54=some (.a (.v (.int .i64 s.x.o1.2))):=by rw [Ak.row];rfl
@[go_sem] theorem Ak.g55:qaa none (Ak.at s) 55=some (.a (.v (.int .i64 s.x.o2.1))):=by rw [Ak.row];rfl
@[go_sem] theorem Ak.g56:qaa none (Ak.at s) 56=some (.a (.v (.int .i64 s.x.o2.2))):=by rw [Ak.row];rfl
@[go_sem] theorem Ak.g57:qaa none (Ak.at s) 57=some (.a (.v (.int .i64 s.x.o3.1))):=by rw [Ak.row];rfl
@[go_sem] theorem Ak.g58:qaa none (Ak.at s) 58=some (.a (.v (.int .i64 s.x.o3.2))):=by rw [Ak.row];rfl
@[go_sem] theorem Ak.g59:qaa none (Ak.at s) 59=some (.a (.v (.int .i64 s.o.kind))):=by rw [Ak.row];rfl
@[go_sem] theorem Ak.g60:qaa none (Ak.at s) 60=some (.a (.v (.string (bs s.o.cls)))):=by rw [Ak.row];rfl
@[go_sem] theorem Ak.g61:qaa none (Ak.at s) 61=some (.a (.v (.int .i64 s.o.n))):=by rw [Ak.row];rfl
@[go_sem] theorem Ak.g62:qaa none (Ak.at s) 62=some (.a (.v (.int .i64 s.o.o0.1))):=by rw [Ak.row];rfl
@[go_sem] theorem Ak.g63:qaa none (Ak.at s) 63=some (.a (.v (.int .i64 s.o.o0.2))):=by rw [Ak.row];rfl
@[go_sem] theorem Ak.g64:qaa none (Ak.at s) 64=some (.a (.v (.int .i64 s.o.o1.1))):=by rw [Ak.row];rfl
@[go_sem] theorem Ak.g65:qaa none (Ak.at s) 65=some (.a (.v (.int .i64 s.o.o1.2))):=by rw [Ak.row];rfl
@[go_sem] theorem Ak.g66:qaa none (Ak.at s) 66=some (.a (.v (.int .i64 s.o.o2.1))):=by rw [Ak.row];rfl
@[go_sem] theorem Ak.g67:qaa none (Ak.at s) 67=some (.a (.v (.int .i64 s.o.o2.2))):=by rw [Ak.row];rfl
@[go_sem] theorem Ak.g68:qaa none (Ak.at s) 68=some (.a (.v (.int .i64 s.o.o3.1))):=by rw [Ak.row];rfl
@[go_sem] theorem Ak.g69:qaa none (Ak.at s) 69=some (.a (.v (.int .i64 s.o.o3.2))):=by rw [Ak.row];rfl
@[go_sem] theorem Ak.s1:qaa (some 7) (Ak.at s) 1=some (.r (Cs.at s.c)):=by obtain⟨_,⟨_,_,_,_,_,_,_⟩,⟨_,_,⟨_,_,_,_,_,_,_⟩,_,_,_,_⟩,⟨_,_,_,_,⟨_,_,_,_,_,_,_⟩,⟨_,_,_,_⟩,_,_,_,_⟩,⟨_,_,_,_,_,_,_⟩,⟨_,_,_,_,_,_,_⟩⟩:=s;simp only [Ak.at,Cs.at,Me.at,Ty.at,St.at,Ex.at,St.ats_map,Ex.ats_map];rfl
@[go_sem] theorem Ak.s8:qaa (some 17) (Ak.at s) 8=some (.r (Me.at s.m)):=by obtain⟨_,⟨_,_,_,_,_,_,_⟩,⟨_,_,⟨_,_,_,_,_,_,_⟩,_,_,_,_⟩,⟨_,_,_,_,⟨_,_,_,_,_,_,_⟩,⟨_,_,_,_⟩,_,_,_,_⟩,⟨_,_,_,_,_,_,_⟩,⟨_,_,_,_,_,_,_⟩⟩:=s;simp only [Ak.at,Cs.at,Me.at,Ty.at,St.at,Ex.at,St.ats_map,Ex.ats_map];rfl
@[go_sem] theorem Ak.s10:qaa (some 11) (Ak.at s) 10=some (.r (Ty.at s.m.ret)):=by obtain⟨_,⟨_,_,_,_,_,_,_⟩,⟨_,_,⟨_,_,_,_,_,_,_⟩,_,_,_,_⟩,⟨_,_,_,_,⟨_,_,_,_,_,_,_⟩,⟨_,_,_,_⟩,_,_,_,_⟩,⟨_,_,_,_,_,_,_⟩,⟨_,_,_,_,_,_,_⟩⟩:=s;simp only [Ak.at,Cs.at,Me.at,Ty.at,St.at,Ex.at,St.ats_map,Ex.ats_map];rfl
@[go_sem] theorem Ak.s25:qaa (some 23) (Ak.at s) 25=some (.r (St.at s.s)):=by obtain⟨_,⟨_,_,_,_,_,_,_⟩,⟨_,_,⟨_,_,_,_,_,_,_⟩,_,_,_,_⟩,⟨_,_,_,_,⟨_,_,_,_,_,_,_⟩,⟨_,_,_,_⟩,_,_,_,_⟩,⟨_,_,_,_,_,_,_⟩,⟨_,_,_,_,_,_,_⟩⟩:=s;simp only [Ak.at,Cs.at,Me.at,Ty.at,St.at,Ex.at,St.ats_map,Ex.ats_map];rfl
@[go_sem] theorem Ak.s29:qaa (some 11) (Ak.at s) 29=some (.r (Ty.at s.s.ty)):=by obtain⟨_,⟨_,_,_,_,_,_,_⟩,⟨_,_,⟨_,_,_,_,_,_,_⟩,_,_,_,_⟩,⟨_,_,_,_,⟨_,_,_,_,_,_,_⟩,⟨_,_,_,_⟩,_,_,_,_⟩,⟨_,_,_,_,_,_,_⟩,⟨_,_,_,_,_,_,_⟩⟩:=s;simp only [Ak.at,Cs.at,Me.at,Ty.at,St.at,Ex.at,St.ats_map,Ex.ats_map];rfl
@[go_sem] theorem Ak.s40:qaa (some 4) (Ak.at s) 40=some (.r (Ex.at s.s.e)):=by obtain⟨_,⟨_,_,_,_,_,_,_⟩,⟨_,_,⟨_,_,_,_,_,_,_⟩,_,_,_,_⟩,⟨_,_,_,_,⟨_,_,_,_,_,_,_⟩,⟨_,_,_,_⟩,_,_,_,_⟩,⟨_,_,_,_,_,_,_⟩,⟨_,_,_,_,_,_,_⟩⟩:=s;simp only [Ak.at,Cs.at,Me.at,Ty.at,St.at,Ex.at,St.ats_map,Ex.ats_map];rfl
@[go_sem] theorem Ak.s48:qaa (some 11) (Ak.at s) 48=some (.r (Ty.at s.x)):=by obtain⟨_,⟨_,_,_,_,_,_,_⟩,⟨_,_,⟨_,_,_,_,_,_,_⟩,_,_,_,_⟩,⟨_,_,_,_,⟨_,_,_,_,_,_,_⟩,⟨_,_,_,_⟩,_,_,_,_⟩,⟨_,_,_,_,_,_,_⟩,⟨_,_,_,_,_,_,_⟩⟩:=s;simp only [Ak.at,Cs.at,Me.at,Ty.at,St.at,Ex.at,St.ats_map,Ex.ats_map];rfl
@[go_sem] theorem Ak.s59:qaa (some 11) (Ak.at s) 59=some (.r (Ty.at s.o)):=by obtain⟨_,⟨_,_,_,_,_,_,_⟩,⟨_,_,⟨_,_,_,_,_,_,_⟩,_,_,_,_⟩,⟨_,_,_,_,⟨_,_,_,_,_,_,_⟩,⟨_,_,_,_⟩,_,_,_,_⟩,⟨_,_,_,_,_,_,_⟩,⟨_,_,_,_,_,_,_⟩⟩:=s;simp only [Ak.at,Cs.at,Me.at,Ty.at,St.at,Ex.at,St.ats_map,Ex.ats_map];rfl
@[go_sem] theorem Ak.p_p (z:List Cs):qae (Ak.at s) 0 ([.sl (z.map Cs.at)])=Ak.at { s with p:=z }:=by obtain⟨_,⟨_,_,_,_,_,_,_⟩,⟨_,_,⟨_,_,_,_,_,_,_⟩,_,_,_,_⟩,⟨_,_,_,_,⟨_,_,_,_,_,_,_⟩,⟨_,_,_,_⟩,_,_,_,_⟩,⟨_,_,_,_,_,_,_⟩,⟨_,_,_,_,_,_,_⟩⟩:=s;simp only [Ak.at,Cs.at,Me.at,Ty.at,St.at,Ex.at,St.ats_map,Ex.ats_map];rfl
@[go_sem] theorem Ak.p_c (z:Cs):qae (Ak.at s) 1 (Cs.at z)=Ak.at { s with c:=z }:=by obtain⟨_,_,_,_,_,_,_⟩:=z;obtain⟨_,⟨_,_,_,_,_,_,_⟩,⟨_,_,⟨_,_,_,_,_,_,_⟩,_,_,_,_⟩,⟨_,_,_,_,⟨_,_,_,_,_,_,_⟩,⟨_,_,_,_⟩,_,_,_,_⟩,⟨_,_,_,_,_,_,_⟩,⟨_,_,_,_,_,_,_⟩⟩:=s;simp only [Ak.at,Cs.at,Me.at,Ty.at,St.at,Ex.at,St.ats_map,Ex.ats_map];rfl
@[go_sem] theorem Ak.p_m (z:Me):qae (Ak.at s) 8 (Me.at z)=Ak.at { s with m:=z }:=by obtain⟨_,_,⟨_,_,_,_,_,_,_⟩,_,_,_,_⟩:=z;obtain⟨_,⟨_,_,_,_,_,_,_⟩,⟨_,_,⟨_,_,_,_,_,_,_⟩,_,_,_,_⟩,⟨_,_,_,_,⟨_,_,_,_,_,_,_⟩,⟨_,_,_,_⟩,_,_,_,_⟩,⟨_,_,_,_,_,_,_⟩,⟨_,_,_,_,_,_,_⟩⟩:=s;simp only [Ak.at,Cs.at,Me.at,Ty.at,St.at,Ex.at,St.ats_map,Ex.ats_map];rfl
@[go_sem] theorem Ak.p_s (z:St):qae (Ak.at s) 25 (St.at z)=Ak.at { s with s:=z }:=by obtain⟨_,_,_,_,⟨_,_,_,_,_,_,_⟩,⟨_,_,_,_⟩,_,_,_,_⟩:=z;obtain⟨_,⟨_,_,_,_,_,_,_⟩,⟨_,_,⟨_,_,_,_,_,_,_⟩,_,_,_,_⟩,⟨_,_,_,_,⟨_,_,_,_,_,_,_⟩,⟨_,_,_,_⟩,_,_,_,_⟩,⟨_,_,_,_,_,_,_⟩,⟨_,_,_,_,_,_,_⟩⟩:=s;simp only [Ak.at,Cs.at,Me.at,Ty.at,St.at,Ex.at,St.ats_map,Ex.ats_map];rfl
@[go_sem] theorem Ak.p_x (z:Ty):qae (Ak.at s) 48 (Ty.at z)=Ak.at { s with x:=z }:=by obtain⟨_,_,_,_,_,_,_⟩:=z;obtain⟨_,⟨_,_,_,_,_,_,_⟩,⟨_,_,⟨_,_,_,_,_,_,_⟩,_,_,_,_⟩,⟨_,_,_,_,⟨_,_,_,_,_,_,_⟩,⟨_,_,_,_⟩,_,_,_,_⟩,⟨_,_,_,_,_,_,_⟩,⟨_,_,_,_,_,_,_⟩⟩:=s;simp only [Ak.at,Cs.at,Me.at,Ty.at,St.at,Ex.at,St.ats_map,Ex.ats_map];rfl
@[go_sem] theorem Ak.p_o (z:Ty):qae (Ak.at s) 59 (Ty.at z)=Ak.at { s with o:=z }:=by obtain⟨_,_,_,_,_,_,_⟩:=z;obtain⟨_,⟨_,_,_,_,_,_,_⟩,⟨_,_,⟨_,_,_,_,_,_,_⟩,_,_,_,_⟩,⟨_,_,_,_,⟨_,_,_,_,_,_,_⟩,⟨_,_,_,_⟩,_,_,_,_⟩,⟨_,_,_,_,_,_,_⟩,⟨_,_,_,_,_,_,_⟩⟩:=s;simp only [Ak.at,Cs.at,Me.at,Ty.at,St.at,Ex.at,St.ats_map,Ex.ats_map];rfl
end
end Go.Proofs.YthkojpnjdpbcgaaGreatDoor
