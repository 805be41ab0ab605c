/- A record of records as plain data. No program in sight. Conditions: none. -/
import Derived.Test.YthkojpnjdpbcgaaGreatDoorMl32
set_option linter.unusedVariables false
set_option maxRecDepth 100000
set_option maxHeartbeats 8000000
set_option linter.unusedSimpArgs false
namespace Go.Proofs.YthkojpnjdpbcgaaGreatDoor
open Go.RowKit
structure Ln where
 c:Int
 m:Int
 d:Int
 s:St
def Ln.at:Ln→List A
 | ⟨c,m,d,s⟩=>[.v (.int .i64 c),.v (.int .i64 m),.v (.int .i64 d)]++St.at s
section
variable (s:Ln)
theorem Ln.row:Ln.at s=[.v (.int .i64 s.c),.v (.int .i64 s.m),.v (.int .i64 s.d),.v (.int .i64 s.s.kind),.v (.string (bs s.s.x)),.v (.string (bs s.s.y)),.v (.string (bs s.s.name)),.v (.int .i64 s.s.ty.kind),.v (.string (bs s.s.ty.cls)),.v (.int .i64 s.s.ty.n),.v (.int .i64 s.s.ty.o0.1),.v (.int .i64 s.s.ty.o0.2),.v (.int .i64 s.s.ty.o1.1),.v (.int .i64 s.s.ty.o1.2),.v (.int .i64 s.s.ty.o2.1),.v (.int .i64 s.s.ty.o2.2),.v (.int .i64 s.s.ty.o3.1),.v (.int .i64 s.s.ty.o3.2),.v (.int .i64 s.s.e.kind),.v (.int .i64 s.s.e.num),.v (.string (bs s.s.e.name)),.sl (s.s.e.kids.map Ex.at),.sl (s.s.args.map Ex.at),.sl (s.s.body.map St.at),.sl (s.s.els.map St.at),.v (.int .i64 s.s.at_)]:=by obtain⟨c,m,d,⟨s_kind,s_x,s_y,s_name,⟨s_ty_kind,s_ty_cls,s_ty_n,s_ty_o0,s_ty_o1,s_ty_o2,s_ty_o3⟩,⟨s_e_kind,s_e_num,s_e_name,s_e_kids⟩,s_args,s_body,s_els,s_at_⟩⟩:=s;simp only [Ln.at,St.at,Ty.at,Ex.at,St.ats_map,Ex.ats_map];rfl
@[go_sem] theorem Ln.len:(Ln.at s).length=26:=by rw [Ln.row];rfl
@[go_sem] theorem Ln.cl:(Ln.at s).all clA=true:=by rw [Ln.row];rfl
@[go_sem] theorem Ln.nr (m:Nat):(Ln.at s).all (nrA m)=true:=by rw [Ln.row];rfl
@[go_sem] theorem Ln.w:qae (some 26) (Ln.at s) 0=some (.r (Ln.at s)):=qbp (Ln.len s)
@[go_sem] theorem Ln.pw (t:Ln):qah (Ln.at s) 0 (Ln.at t)=Ln.at t:=qbv (by rw [Ln.len,Ln.len])
@[go_sem] theorem Ln.g2:qae none (Ln.at s) 2=some (.a (.v (.int .i64 s.d))):=by rw [Ln.row];rfl
@[go_sem] theorem Ln.p_d (z:Int):qah (Ln.at s) 2 ([.v (.int .i64 z)])=Ln.at { s with d:=z }:=by obtain⟨c,m,d,⟨s_kind,s_x,s_y,s_name,⟨s_ty_kind,s_ty_cls,s_ty_n,s_ty_o0,s_ty_o1,s_ty_o2,s_ty_o3⟩,⟨s_e_kind,s_e_num,s_e_name,s_e_kids⟩,s_args,s_body,s_els,s_at_⟩⟩:=s;simp only [Ln.at,St.at,Ty.at,Ex.at,St.ats_map,Ex.ats_map];rfl
@[go_sem] theorem Ln.p_s (z:St):qah (Ln.at s) 3 (St.at z)=Ln.at { s with s:=z }:=by obtain⟨z_kind,z_x,z_y,z_name,⟨z_ty_kind,z_ty_cls,z_ty_n,z_ty_o0,z_ty_o1,z_ty_o2,z_ty_o3⟩,⟨z_e_kind,z_e_num,z_e_name,z_e_kids⟩,z_args,z_body,z_els,z_at_⟩:=z;obtain⟨c,m,d,⟨s_kind,s_x,s_y,s_name,⟨s_ty_kind,s_ty_cls,s_ty_n,s_ty_o0,s_ty_o1,s_ty_o2,s_ty_o3⟩,⟨s_e_kind,s_e_num,s_e_name,s_e_kids⟩,s_args,s_body,s_els,s_at_⟩⟩:=s;simp only [Ln.at,St.at,Ty.at,Ex.at,St.ats_map,Ex.ats_map];rfl
end
def Ln.zero:Ln:=⟨0,0,0,St.zero⟩
theorem Ln.z0:[A.v (.int .i64 0),.v (.int .i64 0),.v (.int .i64 0),.v (.int .i64 0),.v (.string ⟨#[]⟩),.v (.string ⟨#[]⟩),.v (.string ⟨#[]⟩),.v (.int .i64 0),.v (.string ⟨#[]⟩),.v (.int .i64 0),.v (.int .i64 0),.v (.int .i64 0),.v (.int .i64 0),.v (.int .i64 0),.v (.int .i64 0),.v (.int .i64 0),.v (.int .i64 0),.v (.int .i64 0),.v (.int .i64 0),.v (.int .i64 0),.v (.string ⟨#[]⟩),.sl [],.sl [],.sl [],.sl [],.v (.int .i64 0)]=Ln.at Ln.zero:=by unfold Ln.zero;simp only [Ln.at,St.zero,St.at,Ty.zero,Ty.at,Ex.zero,Ex.at,St.ats_map,Ex.ats_map];rfl
mutual
def St.ln (d:Int):St→List (Int×St)
 | ⟨kind,x,y,name,ty,e,args,body,els,at_⟩=>(d,⟨kind,x,y,name,ty,e,args,body,els,at_⟩)::(St.lns (d+1) body++St.lns (d+1) els)
def St.lns (d:Int):List St→List (Int×St)
 | []=>[]
 | s::r=>St.ln d s++St.lns d r
end
theorem St.ln_eq (d:Int) (s:St):s.ln d=(d,s)::(St.lns (d+1) s.body++St.lns (d+1) s.els):=by cases s;rfl
theorem St.lns_cons (d:Int) (s:St) (r:List St):St.lns d (s::r)=((d,s)::(St.lns (d+1) s.body++St.lns (d+1) s.els))++St.lns d r:=by rw [St.lns,St.ln_eq]
theorem St.lns_app (d:Int) (l m:List St):St.lns d (l++m)=St.lns d l++St.lns d m:=by
 induction l with
 | nil=>rfl
 | cons x l ih=>rw [List.cons_append,St.lns,St.lns,ih,List.append_assoc]
theorem St.lns_len:∀(n:Nat) (l:List St) (d:Int),St.szs l≤n→(St.lns d l).length≤St.szs l
 | n,[],d,_=>Nat.zero_le _
 | n,s::r,d,h=>by
  have hz:s.sz+St.szs r=St.szs (s::r):=by rw [St.szs]
  have hb:=St.sz_eq s
  rw [St.lns_cons,List.length_append,List.length_cons,List.length_append]
  cases n with
  | zero=>have:=St.sz_pos s;omega
  | succ n =>
   have h1:=St.lns_len n s.body (d+1) (by omega)
   have h2:=St.lns_len n s.els (d+1) (by omega)
   have h3:=St.lns_len (n+1-s.sz) r d (by omega)
   omega
 termination_by n l=>(n,l.length)
end Go.Proofs.YthkojpnjdpbcgaaGreatDoor
