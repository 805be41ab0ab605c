/- fit.all: one question behind the other, on plain data. Conditions: none. -/
import Derived.Test.YthkojpnjdpbcgaaGreatDoorMl22
import Derived.Test.YthkojpnjdpbcgaaGreatDoorMl13
import Derived.Test.YthkojpnjdpbcgaaGreatDoorMl31
set_option linter.unusedVariables false
set_option maxRecDepth 100000
set_option maxHeartbeats 8000000
set_option linter.unusedSimpArgs false
namespace Go.Proofs.YthkojpnjdpbcgaaGreatDoor
open Go.RowKit
def fnOf:A→Option (FuncId×List A)
 | .fn f caps=>some (f,caps)
 | .fm f caps=>some (f,caps)
 | _=>none
inductive AllR (P:Program) (j:Nat) (row:List A):List A→List Bx→Int→List Bx→Prop
 | nil (st:List Bx):AllR P j row [] st 0 st
 | stop (x:A) (f:FuncId) (caps:List A) (r:List A) (st st1:List Bx) (z:Int):fnOf x=some (f,caps)→DM P f (caps.map D.a) st (.a (.v (.int .i64 z))) st1→(z != 0)=true→AllR P j row (x::r) st z st1
 | go (x:A) (f:FuncId) (caps:List A) (r:List A) (st st1 st2:List Bx) (z:Int):fnOf x=some (f,caps)→DM P f (caps.map D.a) st (.a (.v (.int .i64 0))) st1→st1[j]? = some (.cell row)→st1.all Bx.live=true→AllR P j row r st1 z st2→AllR P j row (x::r) st z st2
theorem AllR.nr {P:Program} {j:Nat} {row l:List A} {st st':List Bx} {z:Int} (h:AllR P j row l st z st'):nrS st.length st=true→nrS st'.length st'=true∧st.length≤st'.length:=by
 induction h with
 | nil st=>exact fun h=>⟨h,Nat.le_refl _⟩
 | stop x f caps r st st1 z _ hd _=>exact fun _=>⟨hd.nr,hd.le⟩
 | go x f caps r st st1 st2 z _ hd _ _ _ ih=>exact fun _=>⟨(ih hd.nr).1,Nat.le_trans hd.le (ih hd.nr).2⟩
section
variable {P:Program} {C:Cx P} {ops:Array Oper} {r:List Oper} {e:Nat→D} {st st1:List Bx} {dst:Option Nat} {ty:TypeId} {pos:String} {after:Array Edge} {K:(Nat→D)→List Bx→Prop} {f:FuncId} {y:Operand} {tys:Array TypeId} {d:D} {caps:List A} {x:A}
theorem RS.callA (hy:evO e y=.a x) (hf:fnOf x=some (f,caps)) (hlv:st.all Bx.live=true) (hnr:nrS st.length st=true) (hvn:caps.all (nrA st.length)=true) (hg:e 1000000=.junk) (hp:DM P f (caps.map D.a) st d st1) (hne:0<st1.length) (h:RS C ops r (upd (putE e dst d) 1000000 .junk) st1 K):RS C ops (⟨dst,.call ⟨.value y,⟨[]⟩,tys⟩,ty,pos,after,none⟩::r) e st K:=by
 have hvn2:(caps.map D.a).all (nrI st.length)=true:=by rw [List.all_map];exact hvn
 cases x with
 | fn f' caps' =>
  injection hf with hf;injection hf with h1 h2;subst h1;subst h2
  exact RS.callvI hy rfl hlv hnr hvn2 hg hp hne h
 | fm f' caps' =>
  injection hf with hf;injection hf with h1 h2;subst h1;subst h2
  have hle:=hp.le
  rw [List.all_eq_true] at hlv hvn2
  refine RS.callbM (List.range st.length) (bs:=st) (ds:=caps'.map D.a) (vs:=caps'.map D.a) (st0:=st) (d:=d) (st1:=st1) hy (by simp) ?_ ?_ ?_ ?_ hg hp hne ?_ ?_ h
  ·refine List.ext_getElem? fun q=>?_
   rw [List.getElem?_map]
   by_cases hq:q<st.length
   ·rw [List.getElem?_range hq,Option.map_some,List.getD_eq_getElem?_getD,List.getElem?_eq_getElem hq];rfl
   ·rw [List.getElem?_eq_none (by rw [qb5];omega),List.getElem?_eq_none (by omega)];rfl
  ·simp only [qbz,Bool.and_eq_true,decide_eq_true_iff]
   exact⟨⟨List.nodup_range,List.all_eq_true.2 fun b hb=>(qic (qd2 hnr b hb)).2.2 (hlv b hb)⟩,List.all_eq_true.2 fun d hd=>(qmq (hvn2 d hd)).2⟩
  ·refine Eq.trans (List.map_congr_left fun d hd=>(qmq (hvn2 d hd)).1) (List.map_id' _)
  ·exact qg6 fun b hb=>(qic (qd2 hnr b hb)).2.1
  ·rw [qb5,qmv,show st.length+(st1.length-st.length)=st1.length by omega]
   exact rnD_id _ hp.nd
  ·rw [qb5,qmv,show st.length+(st1.length-st.length)=st1.length by omega]
   rw [qg6 fun b hb=>(qic (qd2 hp.nr b hb)).1]
   exact mrg_id hle
 | _=>cases hf
theorem fnOf_nr {n:Nat} {x:A} (h:fnOf x=some (f,caps)) (hn:nrA n x=true):caps.all (nrA n)=true:=by
 have key:∀l:List A,nrA.nrL n l=true→l.all (nrA n)=true:=fun l=>by
  induction l with
  | nil=>intro _;rfl
  | cons y l ih=>intro h;rw [nrA.nrL,Bool.and_eq_true] at h;rw [List.all_cons,h.1,ih h.2];rfl
 cases x with
 | fn f' caps'=>injection h with h;injection h with h1 h2;subst h2;exact key _ hn
 | fm f' caps'=>injection h with h;injection h with h1 h2;subst h2;exact key _ hn
 | _=>cases h
end
theorem pAll (j:Nat) (row:List A) (st0 st':List Bx) (z:Int) (hn:row.length≤1048576) (hj0:st0[j]? = some (.cell row)) (hlv0:st0.all Bx.live=true) (hnr0:nrS st0.length st0=true) (hA0:AllR Tryz.prog j row row st0 z st'):DM Tryz.prog 97 [.a (.cs j 0 row.length)] st0 (.a (.v (.int .i64 z))) st':=by
 obtain⟨hnrE,hleE⟩:=hA0.nr hnr0
 refine DM.intro Tryz.func97 rfl Tryz.ntmps97 rfl rfl rfl (by rw [hnrE,decide_eq_true hleE];rfl) (fun V0 Kb Nx=>?_)
 have fx:=trivial
 repeat' (first|refine stp [0,2,4,5,6,7,8,9,15] ?_|(refine RS.lC ?_;refine rnx ?_)|fail)
 refine WP.loop (α:={ y:Nat×List Bx // y.1≤row.length∧AllR Tryz.prog j row (row.drop y.1) y.2 z st'∧y.2[j]? = some (.cell row)∧y.2.all Bx.live=true∧nrS y.2.length y.2=true }) (fun y=>[(6,.a (.cs j 0 row.length)),(7,.a (.v (.int .i64 (row.length:Nat)))),(8,.a (.v (.int .i64 (y.1.1:Nat))))]) (fun y=>y.1.2) (fun y=>row.length-y.1.1) ⟨(0,st0),by omega,hA0,hj0,hlv0,hnr0⟩ (by simp only [qal,go_sem,simprocAttr];first|done|rfl) rfl ?_
 rintro⟨⟨k,st⟩,hk,hA,hj,hlv,hnr⟩
 dsimp only at hk hA hj hlv hnr ⊢
 by_cases hlt:k<row.length
 ·have hlt2:decide ((k:Int)<((row.length:Nat):Int))=true:=decide_eq_true (by omega)
  obtain⟨x,hx⟩:∃x,row[k]? = some x:=⟨_,List.getElem?_eq_getElem hlt⟩
  have hwu:=qap (k:=k) (by omega)
  have hof:0+(k:Int).toNat*1=k:=by omega
  have hof2:0+k*1=k:=by omega
  have hld:qae none row k=some (.a x):=by unfold qae;rw [hx];rfl
  have hdr:row.drop k=x::row.drop (k+1):=by rw [List.drop_eq_getElem_cons hlt];congr 1;exact (List.getElem?_eq_some_iff.1 hx).2
  rw [hdr] at hA
  replace fx:=ai15 hlt2 (ai15 hof (ai15 hof2 (ai15 hj (ai15 hld (ai15 hwu trivial)))))
  repeat' (first|refine stp [0,2,4,5,6,7,8,9,15] ?_|(refine RS.xC ?_;refine rnx ?_)|fail)
  have hxr:nrA st.length x=true:=by
   have h1:=qd2 hnr _ (lm4 hj)
   rw [nrS,Bool.and_eq_true] at h1
   exact List.all_eq_true.1 h1.1 x (lm4 hx)
  cases hA with
  | stop _ f caps _ _ _ _ hf hd hz =>
   have h1:0<st'.length:=by have:=(List.getElem?_eq_some_iff.1 hj).1;have:=hd.le;omega
   refine RS.callA (by (simp only [go_sem,simprocAttr,fx])<;>rfl) hf hlv hnr (fnOf_nr hf hxr) (by (simp only [go_sem,simprocAttr])<;>rfl) hd h1 ?_
   refine RS.run2 (by simp only [go_sem,simprocAttr,qab];first|done|rfl) ?_;simp only [qai]
   replace fx:=ai15 hz trivial
   repeat' (first|refine stp [0,2,4,5,6,7,8,9,15] ?_|fail)
   refine qar ?_
   exact⟨rfl,[],(List.append_nil _).symm⟩
  | go _ f caps _ _ st1 _ _ hf hd hj1 hl1 hA =>
   have h1:0<st1.length:=by have:=(List.getElem?_eq_some_iff.1 hj).1;have:=hd.le;omega
   have hw0:((0:Int) != 0)=false:=rfl
   refine RS.callA (by (simp only [go_sem,simprocAttr,fx])<;>rfl) hf hlv hnr (fnOf_nr hf hxr) (by (simp only [go_sem,simprocAttr])<;>rfl) hd h1 ?_
   refine RS.run2 (by simp only [go_sem,simprocAttr,qab];first|done|rfl) ?_;simp only [qai]
   replace fx:=ai15 hw0 (ai15 hwu trivial)
   repeat' (first|refine stp [0,2,4,5,6,7,8,9,15] ?_|fail)
   refine⟨⟨(k+1,st1),by dsimp only;omega,hA,hj1,hl1,hd.nr⟩,by dsimp only;omega,by simp only [qal,go_sem,simprocAttr],rfl⟩
 ·obtain rfl:k=row.length:=by omega
  rw [List.drop_length] at hA
  cases hA
  have hlt2:decide ((row.length:Int)<((row.length:Nat):Int))=false:=decide_eq_false (by omega)
  replace fx:=ai15 hlt2 trivial
  repeat' (first|refine stp [0,2,4,5,6,7,8,9,15] ?_|fail)
  refine qar ?_
  exact⟨rfl,[],(List.append_nil _).symm⟩
structure Ak where
 p:List Cs
 c:Cs
 m:Me
 s:St
 x:Ty
 o:Ty
def Ak.at:Ak→List A
 | ⟨p,c,m,s,x,o⟩=>[.sl (p.map Cs.at)]++Cs.at c++Me.at m++St.at s++Ty.at x++Ty.at o
section
variable (s:Ak)
theorem Ak.row:Ak.at s=[.sl (s.p.map Cs.at),.v (.string (bs s.c.name)),.sl (s.c.params.map qi5),.v (.string (bs s.c.super)),.sl (s.c.above.map owAt),.sl (s.c.fields.map Vr.at),.sl (s.c.methods.map Me.at),.v (.int .i64 s.c.at_),.v (.string (bs s.m.name)),.v (.bool s.m.pure_),.v (.int .i64 s.m.ret.kind),.v (.string (bs s.m.ret.cls)),.v (.int .i64 s.m.ret.n),.v (.int .i64 s.m.ret.o0.1),.v (.int .i64 s.m.ret.o0.2),.v (.int .i64 s.m.ret.o1.1),.v (.int .i64 s.m.ret.o1.2),.v (.int .i64 s.m.ret.o2.1),.v (.int .i64 s.m.ret.o2.2),.v (.int .i64 s.m.ret.o3.1),.v (.int .i64 s.m.ret.o3.2),.sl (s.m.params.map Vr.at),.sl (s.m.locals.map Vr.at),.sl (s.m.body.map St.at),.v (.int .i64 s.m.at_),.v (.int .i64 s.s.kind),.v (.string (bs s.s.x)),.v (.string (bs s.s.y)),.v (.string (bs s.s.name)),.v (.int .i64 s.s.ty.kind),.v (.string (bs s.s.ty.cls)),.v (.int .i64 s.s.ty.n),.v (.int .i64 s.s.ty.o0.1),.v (.int .i64 s.s.ty.o0.2),.v (.int .i64 s.s.ty.o1.1),.v (.int .i64 s.s.ty.o1.2),.v (.int .i64 s.s.ty.o2.1),.v (.int .i64 s.s.ty.o2.2),.v (.int .i64 s.s.ty.o3.1),.v (.int .i64 s.s.ty.o3.2),.v (.int .i64 s.s.e.kind),.v (.int .i64 s.s.e.num),.v (.string (bs s.s.e.name)),.sl (s.s.e.kids.map Ex.at),.sl (s.s.args.map Ex.at),.sl (s.s.body.map St.at),.sl (s.s.els.map St.at),.v (.int .i64 s.s.at_),.v (.int .i64 s.x.kind),.v (.string (bs s.x.cls)),.v (.int .i64 s.x.n),.v (.int .i64 s.x.o0.1),.v (.int .i64 s.x.o0.2),.v (.int .i64 s.x.o1.1),.v (.int .i64 s.x.o1.2),.v (.int .i64 s.x.o2.1),.v (.int .i64 s.x.o2.2),.v (.int .i64 s.x.o3.1),.v (.int .i64 s.x.o3.2),.v (.int .i64 s.o.kind),.v (.string (bs s.o.cls)),.v (.int .i64 s.o.n),.v (.int .i64 s.o.o0.1),.v (.int .i64 s.o.o0.2),.v (.int .i64 s.o.o1.1),.v (.int .i64 s.o.o1.2),.v (.int .i64 s.o.o2.1),.v (.int .i64 s.o.o2.2),.v (.int .i64 s.o.o3.1),.v (.int .i64 s.o.o3.2)]:=by obtain⟨p,⟨c_name,c_params,c_super,c_above,c_fields,c_methods,c_at_⟩,⟨m_name,m_pure_,⟨m_ret_kind,m_ret_cls,m_ret_n,m_ret_o0,m_ret_o1,m_ret_o2,m_ret_o3⟩,m_params,m_locals,m_body,m_at_⟩,⟨s_kind,s_x,s_y,s_name,⟨s_ty_kind,s_ty_cls,s_ty_n,s_ty_o0,s_ty_o1,s_ty_o2,s_ty_o3⟩,⟨s_e_kind,s_e_num,s_e_name,s_e_kids⟩,s_args,s_body,s_els,s_at_⟩,⟨x_kind,x_cls,x_n,x_o0,x_o1,x_o2,x_o3⟩,⟨o_kind,o_cls,o_n,o_o0,o_o1,o_o2,o_o3⟩⟩:=s;simp only [Ak.at,Cs.at,Me.at,Ty.at,St.at,Ex.at,St.ats_map,Ex.ats_map];rfl
@[go_sem] theorem Ak.len:(Ak.at s).length=70:=by rw [Ak.row];rfl
@[go_sem] theorem Ak.cl:(Ak.at s).all clA=true:=by rw [Ak.row];rfl
@[go_sem] theorem Ak.nr (m:Nat):(Ak.at s).all (nrA m)=true:=by rw [Ak.row];rfl
@[go_sem] theorem Ak.g0:qae none (Ak.at s) 0=some (.a (.sl (s.p.map Cs.at))):=by rw [Ak.row];rfl
@[go_sem] theorem Ak.g10:qae none (Ak.at s) 10=some (.a (.v (.int .i64 s.m.ret.kind))):=by rw [Ak.row];rfl
@[go_sem] theorem Ak.g25:qae none (Ak.at s) 25=some (.a (.v (.int .i64 s.s.kind))):=by rw [Ak.row];rfl
@[go_sem] theorem Ak.g26:qae none (Ak.at s) 26=some (.a (.v (.string (bs s.s.x)))):=by rw [Ak.row];rfl
@[go_sem] theorem Ak.g27:qae none (Ak.at s) 27=some (.a (.v (.string (bs s.s.y)))):=by rw [Ak.row];rfl
@[go_sem] theorem Ak.g28:qae none (Ak.at s) 28=some (.a (.v (.string (bs s.s.name)))):=by rw [Ak.row];rfl
@[go_sem] theorem Ak.g40:qae none (Ak.at s) 40=some (.a (.v (.int .i64 s.s.e.kind))):=by rw [Ak.row];rfl
@[go_sem] theorem Ak.g44:qae none (Ak.at s) 44=some (.a (.sl (s.s.args.map Ex.at))):=by rw [Ak.row];rfl
@[go_sem] theorem Ak.g48:qae none (Ak.at s) 48=some (.a (.v (.int .i64 s.x.kind))):=by rw [Ak.row];rfl
@[go_sem] theorem Ak.g49:qae none (Ak.at s) 49=some (.a (.v (.string (bs s.x.cls)))):=by rw [Ak.row];rfl
@[go_sem] theorem Ak.g60:qae none (Ak.at s) 60=some (.a (.v (.string (bs s.o.cls)))):=by rw [Ak.row];rfl
@[go_sem] theorem Ak.s1:qae (some 7) (Ak.at s) 1=some (.r (Cs.at s.c)):=by obtain⟨_,⟨_,_,_,_,_,_,_⟩,⟨_,_,⟨_,_,_,_,_,_,_⟩,_,_,_,_⟩,⟨_,_,_,_,⟨_,_,_,_,_,_,_⟩,⟨_,_,_,_⟩,_,_,_,_⟩,⟨_,_,_,_,_,_,_⟩,⟨_,_,_,_,_,_,_⟩⟩:=s;simp only [Ak.at,Cs.at,Me.at,Ty.at,St.at,Ex.at,St.ats_map,Ex.ats_map];rfl
@[go_sem] theorem Ak.s8:qae (some 17) (Ak.at s) 8=some (.r (Me.at s.m)):=by obtain⟨_,⟨_,_,_,_,_,_,_⟩,⟨_,_,⟨_,_,_,_,_,_,_⟩,_,_,_,_⟩,⟨_,_,_,_,⟨_,_,_,_,_,_,_⟩,⟨_,_,_,_⟩,_,_,_,_⟩,⟨_,_,_,_,_,_,_⟩,⟨_,_,_,_,_,_,_⟩⟩:=s;simp only [Ak.at,Cs.at,Me.at,Ty.at,St.at,Ex.at,St.ats_map,Ex.ats_map];rfl
@[go_sem] theorem Ak.s10:qae (some 11) (Ak.at s) 10=some (.r (Ty.at s.m.ret)):=by obtain⟨_,⟨_,_,_,_,_,_,_⟩,⟨_,_,⟨_,_,_,_,_,_,_⟩,_,_,_,_⟩,⟨_,_,_,_,⟨_,_,_,_,_,_,_⟩,⟨_,_,_,_⟩,_,_,_,_⟩,⟨_,_,_,_,_,_,_⟩,⟨_,_,_,_,_,_,_⟩⟩:=s;simp only [Ak.at,Cs.at,Me.at,Ty.at,St.at,Ex.at,St.ats_map,Ex.ats_map];rfl
@[go_sem] theorem Ak.s29:qae (some 11) (Ak.at s) 29=some (.r (Ty.at s.s.ty)):=by obtain⟨_,⟨_,_,_,_,_,_,_⟩,⟨_,_,⟨_,_,_,_,_,_,_⟩,_,_,_,_⟩,⟨_,_,_,_,⟨_,_,_,_,_,_,_⟩,⟨_,_,_,_⟩,_,_,_,_⟩,⟨_,_,_,_,_,_,_⟩,⟨_,_,_,_,_,_,_⟩⟩:=s;simp only [Ak.at,Cs.at,Me.at,Ty.at,St.at,Ex.at,St.ats_map,Ex.ats_map];rfl
@[go_sem] theorem Ak.s40:qae (some 4) (Ak.at s) 40=some (.r (Ex.at s.s.e)):=by obtain⟨_,⟨_,_,_,_,_,_,_⟩,⟨_,_,⟨_,_,_,_,_,_,_⟩,_,_,_,_⟩,⟨_,_,_,_,⟨_,_,_,_,_,_,_⟩,⟨_,_,_,_⟩,_,_,_,_⟩,⟨_,_,_,_,_,_,_⟩,⟨_,_,_,_,_,_,_⟩⟩:=s;simp only [Ak.at,Cs.at,Me.at,Ty.at,St.at,Ex.at,St.ats_map,Ex.ats_map];rfl
@[go_sem] theorem Ak.s48:qae (some 11) (Ak.at s) 48=some (.r (Ty.at s.x)):=by obtain⟨_,⟨_,_,_,_,_,_,_⟩,⟨_,_,⟨_,_,_,_,_,_,_⟩,_,_,_,_⟩,⟨_,_,_,_,⟨_,_,_,_,_,_,_⟩,⟨_,_,_,_⟩,_,_,_,_⟩,⟨_,_,_,_,_,_,_⟩,⟨_,_,_,_,_,_,_⟩⟩:=s;simp only [Ak.at,Cs.at,Me.at,Ty.at,St.at,Ex.at,St.ats_map,Ex.ats_map];rfl
@[go_sem] theorem Ak.p_p (z:List Cs):qah (Ak.at s) 0 ([.sl (z.map Cs.at)])=Ak.at { s with p:=z }:=by obtain⟨_,⟨_,_,_,_,_,_,_⟩,⟨_,_,⟨_,_,_,_,_,_,_⟩,_,_,_,_⟩,⟨_,_,_,_,⟨_,_,_,_,_,_,_⟩,⟨_,_,_,_⟩,_,_,_,_⟩,⟨_,_,_,_,_,_,_⟩,⟨_,_,_,_,_,_,_⟩⟩:=s;simp only [Ak.at,Cs.at,Me.at,Ty.at,St.at,Ex.at,St.ats_map,Ex.ats_map];rfl
@[go_sem] theorem Ak.p_c (z:Cs):qah (Ak.at s) 1 (Cs.at z)=Ak.at { s with c:=z }:=by obtain⟨_,_,_,_,_,_,_⟩:=z;obtain⟨_,⟨_,_,_,_,_,_,_⟩,⟨_,_,⟨_,_,_,_,_,_,_⟩,_,_,_,_⟩,⟨_,_,_,_,⟨_,_,_,_,_,_,_⟩,⟨_,_,_,_⟩,_,_,_,_⟩,⟨_,_,_,_,_,_,_⟩,⟨_,_,_,_,_,_,_⟩⟩:=s;simp only [Ak.at,Cs.at,Me.at,Ty.at,St.at,Ex.at,St.ats_map,Ex.ats_map];rfl
@[go_sem] theorem Ak.p_m (z:Me):qah (Ak.at s) 8 (Me.at z)=Ak.at { s with m:=z }:=by obtain⟨_,_,⟨_,_,_,_,_,_,_⟩,_,_,_,_⟩:=z;obtain⟨_,⟨_,_,_,_,_,_,_⟩,⟨_,_,⟨_,_,_,_,_,_,_⟩,_,_,_,_⟩,⟨_,_,_,_,⟨_,_,_,_,_,_,_⟩,⟨_,_,_,_⟩,_,_,_,_⟩,⟨_,_,_,_,_,_,_⟩,⟨_,_,_,_,_,_,_⟩⟩:=s;simp only [Ak.at,Cs.at,Me.at,Ty.at,St.at,Ex.at,St.ats_map,Ex.ats_map];rfl
@[go_sem] theorem Ak.p_s (z:St):qah (Ak.at s) 25 (St.at z)=Ak.at { s with s:=z }:=by obtain⟨_,_,_,_,⟨_,_,_,_,_,_,_⟩,⟨_,_,_,_⟩,_,_,_,_⟩:=z;obtain⟨_,⟨_,_,_,_,_,_,_⟩,⟨_,_,⟨_,_,_,_,_,_,_⟩,_,_,_,_⟩,⟨_,_,_,_,⟨_,_,_,_,_,_,_⟩,⟨_,_,_,_⟩,_,_,_,_⟩,⟨_,_,_,_,_,_,_⟩,⟨_,_,_,_,_,_,_⟩⟩:=s;simp only [Ak.at,Cs.at,Me.at,Ty.at,St.at,Ex.at,St.ats_map,Ex.ats_map];rfl
@[go_sem] theorem Ak.p_x (z:Ty):qah (Ak.at s) 48 (Ty.at z)=Ak.at { s with x:=z }:=by obtain⟨_,_,_,_,_,_,_⟩:=z;obtain⟨_,⟨_,_,_,_,_,_,_⟩,⟨_,_,⟨_,_,_,_,_,_,_⟩,_,_,_,_⟩,⟨_,_,_,_,⟨_,_,_,_,_,_,_⟩,⟨_,_,_,_⟩,_,_,_,_⟩,⟨_,_,_,_,_,_,_⟩,⟨_,_,_,_,_,_,_⟩⟩:=s;simp only [Ak.at,Cs.at,Me.at,Ty.at,St.at,Ex.at,St.ats_map,Ex.ats_map];rfl
@[go_sem] theorem Ak.p_o (z:Ty):qah (Ak.at s) 59 (Ty.at z)=Ak.at { s with o:=z }:=by obtain⟨_,_,_,_,_,_,_⟩:=z;obtain⟨_,⟨_,_,_,_,_,_,_⟩,⟨_,_,⟨_,_,_,_,_,_,_⟩,_,_,_,_⟩,⟨_,_,_,_,⟨_,_,_,_,_,_,_⟩,⟨_,_,_,_⟩,_,_,_,_⟩,⟨_,_,_,_,_,_,_⟩,⟨_,_,_,_,_,_,_⟩⟩:=s;simp only [Ak.at,Cs.at,Me.at,Ty.at,St.at,Ex.at,St.ats_map,Ex.ats_map];rfl
end
def Ak.zero:Ak:=⟨[],Cs.zero,Me.zero,St.zero,Ty.zero,Ty.zero⟩
theorem Ak.z0:[A.sl [],.v (.string ⟨#[]⟩),.sl [],.v (.string ⟨#[]⟩),.sl [],.sl [],.sl [],.v (.int .i64 0),.v (.string ⟨#[]⟩),.v (.bool false),.v (.int .i64 0),.v (.string ⟨#[]⟩),.v (.int .i64 0),.v (.int .i64 0),.v (.int .i64 0),.v (.int .i64 0),.v (.int .i64 0),.v (.int .i64 0),.v (.int .i64 0),.v (.int .i64 0),.v (.int .i64 0),.sl [],.sl [],.sl [],.v (.int .i64 0),.v (.int .i64 0),.v (.string ⟨#[]⟩),.v (.string ⟨#[]⟩),.v (.string ⟨#[]⟩),.v (.int .i64 0),.v (.string ⟨#[]⟩),.v (.int .i64 0),.v (.int .i64 0),.v (.int .i64 0),.v (.int .i64 0),.v (.int .i64 0),.v (.int .i64 0),.v (.int .i64 0),.v (.int .i64 0),.v (.int .i64 0),.v (.int .i64 0),.v (.int .i64 0),.v (.string ⟨#[]⟩),.sl [],.sl [],.sl [],.sl [],.v (.int .i64 0),.v (.int .i64 0),.v (.string ⟨#[]⟩),.v (.int .i64 0),.v (.int .i64 0),.v (.int .i64 0),.v (.int .i64 0),.v (.int .i64 0),.v (.int .i64 0),.v (.int .i64 0),.v (.int .i64 0),.v (.int .i64 0),.v (.int .i64 0),.v (.string ⟨#[]⟩),.v (.int .i64 0),.v (.int .i64 0),.v (.int .i64 0),.v (.int .i64 0),.v (.int .i64 0),.v (.int .i64 0),.v (.int .i64 0),.v (.int .i64 0),.v (.int .i64 0)]=Ak.at Ak.zero:=by unfold Ak.zero;simp only [Ak.at,Cs.zero,Cs.at,Me.zero,Me.at,Ty.zero,Ty.at,St.zero,St.at,Ex.zero,Ex.at,St.ats_map,Ex.ats_map];rfl
end Go.Proofs.YthkojpnjdpbcgaaGreatDoor
