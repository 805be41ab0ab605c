/- fit.all: one question behind the other, on plain data. Conditions: none. -/
import Derived.Test.YtibdalkdgjghoaaGreatDoorMg14
import Derived.Test.YtibdalkdgjghoaaGreatDoorMg16
import Derived.Test.YtibdalkdgjghoaaGreatDoorMg31
set_option linter.unusedVariables false
set_option maxRecDepth 100000
set_option maxHeartbeats 8000000
set_option linter.unusedSimpArgs false
namespace Go.Proofs.YtibdalkdgjghoaaGreatDoor
open Go.RowKit
def fnOf:A→Option (FuncId×List A)
 | .fn f caps=>some (f,caps)
 | .fm f caps=>some (f,caps)
 | _=>none
inductive AllR (P:Program) (j:Nat) (row:List A):List A→List Bx→Int→List Bx→Prop
 | nil (st:List Bx):AllR P j row [] st 0 st
 | stop (x:A) (f:FuncId) (caps:List A) (r:List A) (st st1:List Bx) (z:Int):fnOf x=some (f,caps)→DM P f (caps.map D.a) st (.a (.v (.int .i64 z))) st1→(z != 0)=true→AllR P j row (x::r) st z st1
 | go (x:A) (f:FuncId) (caps:List A) (r:List A) (st st1 st2:List Bx) (z:Int):fnOf x=some (f,caps)→DM P f (caps.map D.a) st (.a (.v (.int .i64 0))) st1→st1[j]? = some (.cell row)→st1.all Bx.live=true→AllR P j row r st1 z st2→AllR P j row (x::r) st z st2
theorem AllR.nr {P:Program} {j:Nat} {row l:List A} {st st':List Bx} {z:Int} (h:AllR P j row l st z st'):nrS st.length st=true→nrS st'.length st'=true∧st.length≤st'.length:=by
 induction h with
 | nil st=>exact fun h=>⟨h,Nat.le_refl _⟩
 | stop x f caps r st st1 z _ hd _=>exact fun _=>⟨hd.nr,hd.le⟩
 | go x f caps r st st1 st2 z _ hd _ _ _ ih=>exact fun _=>⟨(ih hd.nr).1,Nat.le_trans hd.le (ih hd.nr).2⟩
section
variable {P:Program} {C:Cx P} {ops:Array Oper} {r:List Oper} {e:Nat→D} {st st1:List Bx} {dst:Option Nat} {ty:TypeId} {pos:String} {after:Array Edge} {K:(Nat→D)→List Bx→Prop} {f:FuncId} {y:Operand} {tys:Array TypeId} {d:D} {caps:List A} {x:A}
theorem RS.callA (hy:evO e y=.a x) (hf:fnOf x=some (f,caps)) (hlv:st.all Bx.live=true) (hnr:nrS st.length st=true) (hvn:caps.all (nrA st.length)=true) (hg:e 1000000=.junk) (hp:DM P f (caps.map D.a) st d st1) (hne:0<st1.length) (h:RS C ops r (upd (putE e dst d) 1000000 .junk) st1 K):RS C ops (⟨dst,.call ⟨.value y,⟨[]⟩,tys⟩,ty,pos,after,none⟩::r) e st K:=by
 have hvn2:(caps.map D.a).all (nrI st.length)=true:=by rw [List.all_map];exact hvn
 cases x with
 | fn f' caps' =>
  injection hf with hf;injection hf with h1 h2;subst h1;subst h2
  exact RS.callvI hy rfl hlv hnr hvn2 hg hp hne h
 | fm f' caps' =>
  injection hf with hf;injection hf with h1 h2;subst h1;subst h2
  have hle:=hp.le
  rw [List.all_eq_true] at hlv hvn2
  refine RS.callbM (List.range st.length) (bs:=st) (ds:=caps'.map D.a) (vs:=caps'.map D.a) (st0:=st) (d:=d) (st1:=st1) hy (by simp) ?_ ?_ ?_ ?_ hg hp hne ?_ ?_ h
  ·refine List.ext_getElem? fun q=>?_
   rw [List.getElem?_map]
   by_cases hq:q<st.length
   ·rw [List.getElem?_range hq,Option.map_some,List.getD_eq_getElem?_getD,List.getElem?_eq_getElem hq];rfl
   ·rw [List.getElem?_eq_none (by rw [rng_len];omega),List.getElem?_eq_none (by omega)];rfl
  ·simp only [lendOk,Bool.and_eq_true,decide_eq_true_iff]
   exact⟨⟨List.nodup_range,List.all_eq_true.2 fun b hb=>(rnB_id (nrS_mem hnr b hb)).2.2 (hlv b hb)⟩,List.all_eq_true.2 fun d hd=>(unD_id (hvn2 d hd)).2⟩
  ·refine Eq.trans (List.map_congr_left fun d hd=>(unD_id (hvn2 d hd)).1) (List.map_id' _)
  ·exact map_idB fun b hb=>(rnB_id (nrS_mem hnr b hb)).2.1
  ·rw [rng_len,rnX_id,show st.length+(st1.length-st.length)=st1.length by omega]
   exact rnD_id _ hp.nd
  ·rw [rng_len,rnX_id,show st.length+(st1.length-st.length)=st1.length by omega]
   rw [map_idB fun b hb=>(rnB_id (nrS_mem hp.nr b hb)).1]
   exact mrg_id hle
 | _=>cases hf
theorem fnOf_nr {n:Nat} {x:A} (h:fnOf x=some (f,caps)) (hn:nrA n x=true):caps.all (nrA n)=true:=by
 have key:∀l:List A,nrA.nrL n l=true→l.all (nrA n)=true:=fun l=>by
  induction l with
  | nil=>intro _;rfl
  | cons y l ih=>intro h;rw [nrA.nrL,Bool.and_eq_true] at h;rw [List.all_cons,h.1,ih h.2];rfl
 cases x with
 | fn f' caps'=>injection h with h;injection h with h1 h2;subst h2;exact key _ hn
 | fm f' caps'=>injection h with h;injection h with h1 h2;subst h2;exact key _ hn
 | _=>cases h
end
theorem pAll (j:Nat) (row:List A) (st0 st':List Bx) (z:Int) (hn:row.length≤1048576) (hj0:st0[j]? = some (.cell row)) (hlv0:st0.all Bx.live=true) (hnr0:nrS st0.length st0=true) (hA0:AllR Tryz.prog j row row st0 z st'):DM Tryz.prog 117 [.a (.cs j 0 row.length)] st0 (.a (.v (.int .i64 z))) st':=by
 obtain⟨hnrE,hleE⟩:=hA0.nr hnr0
 refine DM.intro Tryz.func117 rfl Tryz.ntmps117 rfl rfl rfl (by rw [hnrE,decide_eq_true hleE];rfl) (fun V0 Kb Nx=>?_)
 have fx:=trivial
 repeat' (first|refine stp [0,2,4,5,6,7,8,9,15] ?_|(refine RS.lC ?_;refine rnx ?_)|(refine RS.xC ?_;refine rnx ?_)|refine WP.cn (fun hc=>?_) (fun hc=>?_)|fail)
 refine WP.loop (α:={ y:Nat×List Bx // y.1≤row.length∧AllR Tryz.prog j row (row.drop y.1) y.2 z st'∧y.2[j]? = some (.cell row)∧y.2.all Bx.live=true∧nrS y.2.length y.2=true }) (fun y=>[(6,.a (.cs j 0 row.length)),(7,.a (.v (.int .i64 (row.length:Nat)))),(8,.a (.v (.int .i64 (y.1.1:Nat))))]) (fun y=>y.1.2) (fun y=>row.length-y.1.1) ⟨(0,st0),by omega,hA0,hj0,hlv0,hnr0⟩ (by simp only [Agree,go_sem,simprocAttr];first|done|rfl) rfl ?_
 rintro⟨⟨k,st⟩,hk,hA,hj,hlv,hnr⟩
 dsimp only at hk hA hj hlv hnr ⊢
 by_cases hlt:k<row.length
 ·have hlt2:decide ((k:Int)<((row.length:Nat):Int))=true:=decide_eq_true (by omega)
  obtain⟨x,hx⟩:∃x,row[k]? = some x:=⟨_,List.getElem?_eq_getElem hlt⟩
  have hwu:=wrap64n (k:=k) (by omega)
  have hof:0+(k:Int).toNat*1=k:=by omega
  have hof2:0+k*1=k:=by omega
  have hld:ldRow none row k=some (.a x):=by unfold ldRow;rw [hx];rfl
  have hdr:row.drop k=x::row.drop (k+1):=by rw [List.drop_eq_getElem_cons hlt];congr 1;exact (List.getElem?_eq_some_iff.1 hx).2
  rw [hdr] at hA
  replace fx:=And.intro hlt2 (And.intro hof (And.intro hof2 (And.intro hj (And.intro hld (And.intro hwu trivial)))))
  repeat' (first|refine stp [0,2,4,5,6,7,8,9,15] ?_|(refine RS.lC ?_;refine rnx ?_)|(refine RS.xC ?_;refine rnx ?_)|refine WP.cn (fun hc=>?_) (fun hc=>?_)|fail)
  have hxr:nrA st.length x=true:=by
   have h1:=nrS_mem hnr _ (List.mem_of_getElem? hj)
   rw [nrS,Bool.and_eq_true] at h1
   exact List.all_eq_true.1 h1.1 x (List.mem_of_getElem? hx)
  cases hA with
  | stop _ f caps _ _ _ _ hf hd hz =>
   have h1:0<st'.length:=by have:=(List.getElem?_eq_some_iff.1 hj).1;have:=hd.le;omega
   refine RS.callA (by (simp only [go_sem,simprocAttr,fx])<;>rfl) hf hlv hnr (fnOf_nr hf hxr) (by (simp only [go_sem,simprocAttr])<;>rfl) hd h1 ?_
   refine RS.run2 (by simp only [go_sem,simprocAttr,thenQ_n];first|done|rfl) ?_;simp only [RSr_mk]
   replace fx:=And.intro hz trivial
   repeat' (first|refine stp [0,2,4,5,6,7,8,9,15] ?_|(refine RS.lC ?_;refine rnx ?_)|(refine RS.xC ?_;refine rnx ?_)|refine WP.cn (fun hc=>?_) (fun hc=>?_)|fail)
   refine retM1 ?_
   exact⟨rfl,[],(List.append_nil _).symm⟩
  | go _ f caps _ _ st1 _ _ hf hd hj1 hl1 hA =>
   have h1:0<st1.length:=by have:=(List.getElem?_eq_some_iff.1 hj).1;have:=hd.le;omega
   have hw0:((0:Int) != 0)=false:=rfl
   refine RS.callA (by (simp only [go_sem,simprocAttr,fx])<;>rfl) hf hlv hnr (fnOf_nr hf hxr) (by (simp only [go_sem,simprocAttr])<;>rfl) hd h1 ?_
   refine RS.run2 (by simp only [go_sem,simprocAttr,thenQ_n];first|done|rfl) ?_;simp only [RSr_mk]
   replace fx:=And.intro hw0 (And.intro hwu trivial)
   repeat' (first|refine stp [0,2,4,5,6,7,8,9,15] ?_|(refine RS.lC ?_;refine rnx ?_)|(refine RS.xC ?_;refine rnx ?_)|refine WP.cn (fun hc=>?_) (fun hc=>?_)|fail)
   refine⟨⟨(k+1,st1),by dsimp only;omega,hA,hj1,hl1,hd.nr⟩,by dsimp only;omega,by simp only [Agree,go_sem,simprocAttr],rfl⟩
 ·obtain rfl:k=row.length:=by omega
  rw [List.drop_length] at hA
  cases hA
  have hlt2:decide ((row.length:Int)<((row.length:Nat):Int))=false:=decide_eq_false (by omega)
  replace fx:=And.intro hlt2 trivial
  repeat' (first|refine stp [0,2,4,5,6,7,8,9,15] ?_|(refine RS.lC ?_;refine rnx ?_)|(refine RS.xC ?_;refine rnx ?_)|refine WP.cn (fun hc=>?_) (fun hc=>?_)|fail)
  refine retM1 ?_
  exact⟨rfl,[],(List.append_nil _).symm⟩
structure Ak where
 p:List Cs
 c:Cs
 m:Me
 s:St
 x:Ty
 o:Ty
def Ak.at:Ak→List A
 | ⟨p,c,m,s,x,o⟩=>[.sl (p.map Cs.at)]++Cs.at c++Me.at m++St.at s++Ty.at x++Ty.at o
section
variable (s:Ak)
theorem Ak.row:Ak.at s=[.sl (s.p.map Cs.at),.v (.string (bs s.c.name)),.sl (s.c.params.map strAt),.v (.string (bs s.c.super)),.sl (s.c.above.map owAt),.sl (s.c.fields.map Vr.at),.sl (s.c.methods.map Me.at),.v (.int .i64 s.c.at_),.v (.string (bs s.m.name)),.v (.bool s.m.pure_),.v (.int .i64 s.m.ret.kind),.v (.string (bs s.m.ret.cls)),.v (.int .i64 s.m.ret.n),.v (.int .i64 s.m.ret.o0.1),.v (.int .i64 s.m.ret.o0.2),.v (.int .i64 s.m.ret.o1.1),.v (.int .i64 s.m.ret.o1.2),.v (.int .i64 s.m.ret.o2.1),.v (.int .i64 s.m.ret.o2.2),.v (.int .i64 s.m.ret.o3.1),.v (.int .i64 s.m.ret.o3.2),.sl (s.m.params.map Vr.at),.sl (s.m.locals.map Vr.at),.sl (s.m.body.map St.at),.v (.int .i64 s.m.at_),.v (.int .i64 s.s.kind),.v (.string (bs s.s.x)),.v (.string (bs s.s.y)),.v (.string (bs s.s.name)),.v (.int .i64 s.s.ty.kind),.v (.string (bs s.s.ty.cls)),.v (.int .i64 s.s.ty.n),.v (.int .i64 s.s.ty.o0.1),.v (.int .i64 s.s.ty.o0.2),.v (.int .i64 s.s.ty.o1.1),.v (.int .i64 s.s.ty.o1.2),.v (.int .i64 s.s.ty.o2.1),.v (.int .i64 s.s.ty.o2.2),.v (.int .i64 s.s.ty.o3.1),.v (.int .i64 s.s.ty.o3.2),.v (.int .i64 s.s.e.kind),.v (.int .i64 s.s.e.num),.v (.string (bs s.s.e.name)),.sl (s.s.e.kids.map Ex.at),.sl (s.s.args.map Ex.at),.sl (s.s.body.map St.at),.sl (s.s.els.map St.at),.v (.int .i64 s.s.at_),.v (.int .i64 s.x.kind),.v (.string (bs s.x.cls)),.v (.int .i64 s.x.n),.v (.int .i64 s.x.o0.1),.v (.int .i64 s.x.o0.2),.v (.int .i64 s.x.o1.1),.v (.int .i64 s.x.o1.2),.v (.int .i64 s.x.o2.1),.v (.int .i64 s.x.o2.2),.v (.int .i64 s.x.o3.1),.v (.int .i64 s.x.o3.2),.v (.int .i64 s.o.kind),.v (.string (bs s.o.cls)),.v (.int .i64 s.o.n),.v (.int .i64 s.o.o0.1),.v (.int .i64 s.o.o0.2),.v (.int .i64 s.o.o1.1),.v (.int .i64 s.o.o1.2),.v (.int .i64 s.o.o2.1),.v (.int .i64 s.o.o2.2),.v (.int .i64 s.o.o3.1),.v (.int .i64 s.o.o3.2)]:=by obtain⟨p,⟨c_name,c_params,c_super,c_above,c_fields,c_methods,c_at_⟩,⟨m_name,m_pure_,⟨m_ret_kind,m_ret_cls,m_ret_n,m_ret_o0,m_ret_o1,m_ret_o2,m_ret_o3⟩,m_params,m_locals,m_body,m_at_⟩,⟨s_kind,s_x,s_y,s_name,⟨s_ty_kind,s_ty_cls,s_ty_n,s_ty_o0,s_ty_o1,s_ty_o2,s_ty_o3⟩,⟨s_e_kind,s_e_num,s_e_name,s_e_kids⟩,s_args,s_body,s_els,s_at_⟩,⟨x_kind,x_cls,x_n,x_o0,x_o1,x_o2,x_o3⟩,⟨o_kind,o_cls,o_n,o_o0,o_o1,o_o2,o_o3⟩⟩:=s;simp only [Ak.at,Cs.at,Me.at,Ty.at,St.at,Ex.at,St.ats_map,Ex.ats_map];rfl
@[go_sem] theorem Ak.len:(Ak.at s).length=70:=by rw [Ak.row];rfl
@[go_sem] theorem Ak.cl:(Ak.at s).all clA=true:=by rw [Ak.row];rfl
@[go_sem] theorem Ak.see (st:List Bx):(Ak.at s).map (seeA st)=Ak.at s:=by rw [Ak.row];rfl
@[go_sem] theorem Ak.nr (m:Nat):(Ak.at s).all (nrA m)=true:=by rw [Ak.row];rfl
@[go_sem] theorem Ak.w:ldRow (some 70) (Ak.at s) 0=some (.r (Ak.at s)):=ldRow_all (Ak.len s)
@[go_sem] theorem Ak.pw (t:Ak):putRow (Ak.at s) 0 (Ak.at t)=Ak.at t:=putRow_all (by rw [Ak.len,Ak.len])
@[go_sem] theorem Ak.g0:ldRow none (Ak.at s) 0=some (.a (.sl (s.p.map Cs.at))):=by rw [Ak.row];rfl
@[go_sem] theorem Ak.g1:ldRow none (Ak.at s) 1=some (.a (.v (.string (bs s.c.name)))):=by rw [Ak.row];rfl
@[go_sem] theorem Ak.g2:ldRow none (Ak.at s) 2=some (.a (.sl (s.c.params.map strAt))):=by rw [Ak.row];rfl
@[go_sem] theorem Ak.g3:ldRow none (Ak.at s) 3=some (.a (.v (.string (bs s.c.super)))):=by rw [Ak.row];rfl
@[go_sem] theorem Ak.g4:ldRow none (Ak.at s) 4=some (.a (.sl (s.c.above.map owAt))):=by rw [Ak.row];rfl
@[go_sem] theorem Ak.g5:ldRow none (Ak.at s) 5=some (.a (.sl (s.c.fields.map Vr.at))):=by rw [Ak.row];rfl
@[go_sem] theorem Ak.g6:ldRow none (Ak.at s) 6=some (.a (.sl (s.c.methods.map Me.at))):=by rw [Ak.row];rfl
@[go_sem] theorem Ak.g7:ldRow none (Ak.at s) 7=some (.a (.v (.int .i64 s.c.at_))):=by rw [Ak.row];rfl
@[go_sem] theorem Ak.g8:ldRow none (Ak.at s) 8=some (.a (.v (.string (bs s.m.name)))):=by rw [Ak.row];rfl
@[go_sem] theorem Ak.g9:ldRow none (Ak.at s) 9=some (.a (.v (.bool s.m.pure_))):=by rw [Ak.row];rfl
@[go_sem] theorem Ak.g10:ldRow none (Ak.at s) 10=some (.a (.v (.int .i64 s.m.ret.kind))):=by rw [Ak.row];rfl
@[go_sem] theorem Ak.g11:ldRow none (Ak.at s) 11=some (.a (.v (.string (bs s.m.ret.cls)))):=by rw [Ak.row];rfl
@[go_sem] theorem Ak.g12:ldRow none (Ak.at s) 12=some (.a (.v (.int .i64 s.m.ret.n))):=by rw [Ak.row];rfl
@[go_sem] theorem Ak.g13:ldRow none (Ak.at s) 13=some (.a (.v (.int .i64 s.m.ret.o0.1))):=by rw [Ak.row];rfl
@[go_sem] theorem Ak.g14:ldRow none (Ak.at s) 14=some (.a (.v (.int .i64 s.m.ret.o0.2))):=by rw [Ak.row];rfl
@[go_sem] theorem Ak.g15:ldRow none (Ak.at s) 15=some (.a (.v (.int .i64 s.m.ret.o1.1))):=by rw [Ak.row];rfl
@[go_sem] theorem Ak.g16:ldRow none (Ak.at s) 16=some (.a (.v (.int .i64 s.m.ret.o1.2))):=by rw [Ak.row];rfl
@[go_sem] theorem Ak.g17:ldRow none (Ak.at s) 17=some (.a (.v (.int .i64 s.m.ret.o2.1))):=by rw [Ak.row];rfl
@[go_sem] theorem Ak.g18:ldRow none (Ak.at s) 18=some (.a (.v (.int .i64 s.m.ret.o2.2))):=by rw [Ak.row];rfl
@[go_sem] theorem Ak.g19:ldRow none (Ak.at s) 19=some (.a (.v (.int .i64 s.m.ret.o3.1))):=by rw [Ak.row];rfl
@[go_sem] theorem Ak.g20:ldRow none (Ak.at s) 20=some (.a (.v (.int .i64 s.m.ret.o3.2))):=by rw [Ak.row];rfl
@[go_sem] theorem Ak.g21:ldRow none (Ak.at s) 21=some (.a (.sl (s.m.params.map Vr.at))):=by rw [Ak.row];rfl
@[go_sem] theorem Ak.g22:ldRow none (Ak.at s) 22=some (.a (.sl (s.m.locals.map Vr.at))):=by rw [Ak.row];rfl
@[go_sem] theorem Ak.g23:ldRow none (Ak.at s) 23=some (.a (.sl (s.m.body.map St.at))):=by rw [Ak.row];rfl
@[go_sem] theorem Ak.g24:ldRow none (Ak.at s) 24=some (.a (.v (.int .i64 s.m.at_))):=by rw [Ak.row];rfl
@[go_sem] theorem Ak.g25:ldRow none (Ak.at s) 25=some (.a (.v (.int .i64 s.s.kind))):=by rw [Ak.row];rfl
@[go_sem] theorem Ak.g26:ldRow none (Ak.at s) 26=some (.a (.v (.string (bs s.s.x)))):=by rw [Ak.row];rfl
@[go_sem] theorem Ak.g27:ldRow none (Ak.at s) 27=some (.a (.v (.string (bs s.s.y)))):=by rw [Ak.row];rfl
@[go_sem] theorem Ak.g28:ldRow none (Ak.at s) 28=some (.a (.v (.string (bs s.s.name)))):=by rw [Ak.row];rfl
@[go_sem] theorem Ak.g29:ldRow none (Ak.at s) 29=some (.a (.v (.int .i64 s.s.ty.kind))):=by rw [Ak.row];rfl
@[go_sem] theorem Ak.g30:ldRow none (Ak.at s) 30=some (.a (.v (.string (bs s.s.ty.cls)))):=by rw [Ak.row];rfl
@[go_sem] theorem Ak.g31:ldRow none (Ak.at s) 31=some (.a (.v (.int .i64 s.s.ty.n))):=by rw [Ak.row];rfl
@[go_sem] theorem Ak.g32:ldRow none (Ak.at s) 32=some (.a (.v (.int .i64 s.s.ty.o0.1))):=by rw [Ak.row];rfl
@[go_sem] theorem Ak.g33:ldRow none (Ak.at s) 33=some (.a (.v (.int .i64 s.s.ty.o0.2))):=by rw [Ak.row];rfl
@[go_sem] theorem Ak.g34:ldRow none (Ak.at s) 34=some (.a (.v (.int .i64 s.s.ty.o1.1))):=by rw [Ak.row];rfl
@[go_sem] theorem Ak.g35:ldRow none (Ak.at s) 35=some (.a (.v (.int .i64 s.s.ty.o1.2))):=by rw [Ak.row];rfl
@[go_sem] theorem Ak.g36:ldRow none (Ak.at s) 36=some (.a (.v (.int .i64 s.s.ty.o2.1))):=by rw [Ak.row];rfl
@[go_sem] theorem Ak.g37:ldRow none (Ak.at s) 37=some (.a (.v (.int .i64 s.s.ty.o2.2))):=by rw [Ak.row];rfl
@[go_sem] theorem Ak.g38:ldRow none (Ak.at s) 38=some (.a (.v (.int .i64 s.s.ty.o3.1))):=by rw [Ak.row];rfl
@[go_sem] theorem Ak.g39:ldRow none (Ak.at s) 39=some (.a (.v (.int .i64 s.s.ty.o3.2))):=by rw [Ak.row];rfl
@[go_sem] theorem Ak.g40:ldRow none (Ak.at s) 40=some (.a (.v (.int .i64 s.s.e.kind))):=by rw [Ak.row];rfl
@[go_sem] theorem Ak.g41:ldRow none (Ak.at s) 41=some (.a (.v (.int .i64 s.s.e.num))):=by rw [Ak.row];rfl
@[go_sem] theorem Ak.g42:ldRow none (Ak.at s) 42=some (.a (.v (.string (bs s.s.e.name)))):=by rw [Ak.row];rfl
@[go_sem] theorem Ak.g43:ldRow none (Ak.at s) 43=some (.a (.sl (s.s.e.kids.map Ex.at))):=by rw [Ak.row];rfl
@[go_sem] theorem Ak.g44:ldRow none (Ak.at s) 44=some (.a (.sl (s.s.args.map Ex.at))):=by rw [Ak.row];rfl
@[go_sem] theorem Ak.g45:ldRow none (Ak.at s) 45=some (.a (.sl (s.s.body.map St.at))):=by rw [Ak.row];rfl
@[go_sem] theorem Ak.g46:ldRow none (Ak.at s) 46=some (.a (.sl (s.s.els.map St.at))):=by rw [Ak.row];rfl
@[go_sem] theorem Ak.g47:ldRow none (Ak.at s) 47=some (.a (.v (.int .i64 s.s.at_))):=by rw [Ak.row];rfl
@[go_sem] theorem Ak.g48:ldRow none (Ak.at s) 48=some (.a (.v (.int .i64 s.x.kind))):=by rw [Ak.row];rfl
@[go_sem] theorem Ak.g49:ldRow none (Ak.at s) 49=some (.a (.v (.string (bs s.x.cls)))):=by rw [Ak.row];rfl
@[go_sem] theorem Ak.g50:ldRow none (Ak.at s) 50=some (.a (.v (.int .i64 s.x.n))):=by rw [Ak.row];rfl
@[go_sem] theorem Ak.g51:ldRow none (Ak.at s) 51=some (.a (.v (.int .i64 s.x.o0.1))):=by rw [Ak.row];rfl
@[go_sem] theorem Ak.g52:ldRow none (Ak.at s) 52=some (.a (.v (.int .i64 s.x.o0.2))):=by rw [Ak.row];rfl
@[go_sem] theorem Ak.g53:ldRow none (Ak.at s) 53=some (.a (.v (.int .i64 s.x.o1.1))):=by rw [Ak.row];rfl
@[go_sem] theorem Ak.g54:ldRow none (Ak.at s) 54=some (.a (.v (.int .i64 s.x.o1.2))):=by rw [Ak.row];rfl
@[go_sem] theorem Ak.g55:ldRow none (Ak.at s) 55=some (.a (.v (.int .i64 s.x.o2.1))):=by rw [Ak.row];rfl
@[go_sem] theorem Ak.g56:ldRow none (Ak.at s) 56=some (.a (.v (.int .i64 s.x.o2.2))):=by rw [Ak.row];rfl
@[go_sem] theorem Ak.g57:ldRow none (Ak.at s) 57=some (.a (.v (.int .i64 s.x.o3.1))):=by rw [Ak.row];rfl
@[go_sem] theorem Ak.g58:ldRow none (Ak.at s) 58=some (.a (.v (.int .i64 s.x.o3.2))):=by rw [Ak.row];rfl
@[go_sem] theorem Ak.g59:ldRow none (Ak.at s) 59=some (.a (.v (.int .i64 s.o.kind))):=by rw [Ak.row];rfl
@[go_sem] theorem Ak.g60:ldRow none (Ak.at s) 60=some (.a (.v (.string (bs s.o.cls)))):=by rw [Ak.row];rfl
@[go_sem] theorem Ak.g61:ldRow none (Ak.at s) 61=some (.a (.v (.int .i64 s.o.n))):=by rw [Ak.row];rfl
@[go_sem] theorem Ak.g62:ldRow none (Ak.at s) 62=some (.a (.v (.int .i64 s.o.o0.1))):=by rw [Ak.row];rfl
@[go_sem] theorem Ak.g63:ldRow none (Ak.at s) 63=some (.a (.v (.int .i64 s.o.o0.2))):=by rw [Ak.row];rfl
@[go_sem] theorem Ak.g64:ldRow none (Ak.at s) 64=some (.a (.v (.int .i64 s.o.o1.1))):=by rw [Ak.row];rfl
@[go_sem] theorem Ak.g65:ldRow none (Ak.at s) 65=some (.a (.v (.int .i64 s.o.o1.2))):=by rw [Ak.row];rfl
@[go_sem] theorem Ak.g66:ldRow none (Ak.at s) 66=some (.a (.v (.int .i64 s.o.o2.1))):=by rw [Ak.row];rfl
@[go_sem] theorem Ak.g67:ldRow none (Ak.at s) 67=some (.a (.v (.int .i64 s.o.o2.2))):=by rw [Ak.row];rfl
@[go_sem] theorem Ak.g68:ldRow none (Ak.at s) 68=some (.a (.v (.int .i64 s.o.o3.1))):=by rw [Ak.row];rfl
@[go_sem] theorem Ak.g69:ldRow none (Ak.at s) 69=some (.a (.v (.int .i64 s.o.o3.2))):=by rw [Ak.row];rfl
@[go_sem] theorem Ak.s1:ldRow (some 7) (Ak.at s) 1=some (.r (Cs.at s.c)):=by obtain⟨_,⟨_,_,_,_,_,_,_⟩,⟨_,_,⟨_,_,_,_,_,_,_⟩,_,_,_,_⟩,⟨_,_,_,_,⟨_,_,_,_,_,_,_⟩,⟨_,_,_,_⟩,_,_,_,_⟩,⟨_,_,_,_,_,_,_⟩,⟨_,_,_,_,_,_,_⟩⟩:=s;simp only [Ak.at,Cs.at,Me.at,Ty.at,St.at,Ex.at,St.ats_map,Ex.ats_map];rfl
@[go_sem] theorem Ak.s8:ldRow (some 17) (Ak.at s) 8=some (.r (Me.at s.m)):=by obtain⟨_,⟨_,_,_,_,_,_,_⟩,⟨_,_,⟨_,_,_,_,_,_,_⟩,_,_,_,_⟩,⟨_,_,_,_,⟨_,_,_,_,_,_,_⟩,⟨_,_,_,_⟩,_,_,_,_⟩,⟨_,_,_,_,_,_,_⟩,⟨_,_,_,_,_,_,_⟩⟩:=s;simp only [Ak.at,Cs.at,Me.at,Ty.at,St.at,Ex.at,St.ats_map,Ex.ats_map];rfl
@[go_sem] theorem Ak.s10:ldRow (some 11) (Ak.at s) 10=some (.r (Ty.at s.m.ret)):=by obtain⟨_,⟨_,_,_,_,_,_,_⟩,⟨_,_,⟨_,_,_,_,_,_,_⟩,_,_,_,_⟩,⟨_,_,_,_,⟨_,_,_,_,_,_,_⟩,⟨_,_,_,_⟩,_,_,_,_⟩,⟨_,_,_,_,_,_,_⟩,⟨_,_,_,_,_,_,_⟩⟩:=s;simp only [Ak.at,Cs.at,Me.at,Ty.at,St.at,Ex.at,St.ats_map,Ex.ats_map];rfl
@[go_sem] theorem Ak.s25:ldRow (some 23) (Ak.at s) 25=some (.r (St.at s.s)):=by obtain⟨_,⟨_,_,_,_,_,_,_⟩,⟨_,_,⟨_,_,_,_,_,_,_⟩,_,_,_,_⟩,⟨_,_,_,_,⟨_,_,_,_,_,_,_⟩,⟨_,_,_,_⟩,_,_,_,_⟩,⟨_,_,_,_,_,_,_⟩,⟨_,_,_,_,_,_,_⟩⟩:=s;simp only [Ak.at,Cs.at,Me.at,Ty.at,St.at,Ex.at,St.ats_map,Ex.ats_map];rfl
@[go_sem] theorem Ak.s29:ldRow (some 11) (Ak.at s) 29=some (.r (Ty.at s.s.ty)):=by obtain⟨_,⟨_,_,_,_,_,_,_⟩,⟨_,_,⟨_,_,_,_,_,_,_⟩,_,_,_,_⟩,⟨_,_,_,_,⟨_,_,_,_,_,_,_⟩,⟨_,_,_,_⟩,_,_,_,_⟩,⟨_,_,_,_,_,_,_⟩,⟨_,_,_,_,_,_,_⟩⟩:=s;simp only [Ak.at,Cs.at,Me.at,Ty.at,St.at,Ex.at,St.ats_map,Ex.ats_map];rfl
@[go_sem] theorem Ak.s40:ldRow (some 4) (Ak.at s) 40=some (.r (Ex.at s.s.e)):=by obtain⟨_,⟨_,_,_,_,_,_,_⟩,⟨_,_,⟨_,_,_,_,_,_,_⟩,_,_,_,_⟩,⟨_,_,_,_,⟨_,_,_,_,_,_,_⟩,⟨_,_,_,_⟩,_,_,_,_⟩,⟨_,_,_,_,_,_,_⟩,⟨_,_,_,_,_,_,_⟩⟩:=s;simp only [Ak.at,Cs.at,Me.at,Ty.at,St.at,Ex.at,St.ats_map,Ex.ats_map];rfl
@[go_sem] theorem Ak.s48:ldRow (some 11) (Ak.at s) 48=some (.r (Ty.at s.x)):=by obtain⟨_,⟨_,_,_,_,_,_,_⟩,⟨_,_,⟨_,_,_,_,_,_,_⟩,_,_,_,_⟩,⟨_,_,_,_,⟨_,_,_,_,_,_,_⟩,⟨_,_,_,_⟩,_,_,_,_⟩,⟨_,_,_,_,_,_,_⟩,⟨_,_,_,_,_,_,_⟩⟩:=s;simp only [Ak.at,Cs.at,Me.at,Ty.at,St.at,Ex.at,St.ats_map,Ex.ats_map];rfl
@[go_sem] theorem Ak.s59:ldRow (some 11) (Ak.at s) 59=some (.r (Ty.at s.o)):=by obtain⟨_,⟨_,_,_,_,_,_,_⟩,⟨_,_,⟨_,_,_,_,_,_,_⟩,_,_,_,_⟩,⟨_,_,_,_,⟨_,_,_,_,_,_,_⟩,⟨_,_,_,_⟩,_,_,_,_⟩,⟨_,_,_,_,_,_,_⟩,⟨_,_,_,_,_,_,_⟩⟩:=s;simp only [Ak.at,Cs.at,Me.at,Ty.at,St.at,Ex.at,St.ats_map,Ex.ats_map];rfl
@[go_sem] theorem Ak.p_p (z:List Cs):putRow (Ak.at s) 0 ([.sl (z.map Cs.at)])=Ak.at { s with p:=z }:=by obtain⟨_,⟨_,_,_,_,_,_,_⟩,⟨_,_,⟨_,_,_,_,_,_,_⟩,_,_,_,_⟩,⟨_,_,_,_,⟨_,_,_,_,_,_,_⟩,⟨_,_,_,_⟩,_,_,_,_⟩,⟨_,_,_,_,_,_,_⟩,⟨_,_,_,_,_,_,_⟩⟩:=s;simp only [Ak.at,Cs.at,Me.at,Ty.at,St.at,Ex.at,St.ats_map,Ex.ats_map];rfl
@[go_sem] theorem Ak.p_c (z:Cs):putRow (Ak.at s) 1 (Cs.at z)=Ak.at { s with c:=z }:=by obtain⟨_,_,_,_,_,_,_⟩:=z;obtain⟨_,⟨_,_,_,_,_,_,_⟩,⟨_,_,⟨_,_,_,_,_,_,_⟩,_,_,_,_⟩,⟨_,_,_,_,⟨_,_,_,_,_,_,_⟩,⟨_,_,_,_⟩,_,_,_,_⟩,⟨_,_,_,_,_,_,_⟩,⟨_,_,_,_,_,_,_⟩⟩:=s;simp only [Ak.at,Cs.at,Me.at,Ty.at,St.at,Ex.at,St.ats_map,Ex.ats_map];rfl
@[go_sem] theorem Ak.p_m (z:Me):putRow (Ak.at s) 8 (Me.at z)=Ak.at { s with m:=z }:=by obtain⟨_,_,⟨_,_,_,_,_,_,_⟩,_,_,_,_⟩:=z;obtain⟨_,⟨_,_,_,_,_,_,_⟩,⟨_,_,⟨_,_,_,_,_,_,_⟩,_,_,_,_⟩,⟨_,_,_,_,⟨_,_,_,_,_,_,_⟩,⟨_,_,_,_⟩,_,_,_,_⟩,⟨_,_,_,_,_,_,_⟩,⟨_,_,_,_,_,_,_⟩⟩:=s;simp only [Ak.at,Cs.at,Me.at,Ty.at,St.at,Ex.at,St.ats_map,Ex.ats_map];rfl
@[go_sem] theorem Ak.p_s (z:St):putRow (Ak.at s) 25 (St.at z)=Ak.at { s with s:=z }:=by obtain⟨_,_,_,_,⟨_,_,_,_,_,_,_⟩,⟨_,_,_,_⟩,_,_,_,_⟩:=z;obtain⟨_,⟨_,_,_,_,_,_,_⟩,⟨_,_,⟨_,_,_,_,_,_,_⟩,_,_,_,_⟩,⟨_,_,_,_,⟨_,_,_,_,_,_,_⟩,⟨_,_,_,_⟩,_,_,_,_⟩,⟨_,_,_,_,_,_,_⟩,⟨_,_,_,_,_,_,_⟩⟩:=s;simp only [Ak.at,Cs.at,Me.at,Ty.at,St.at,Ex.at,St.ats_map,Ex.ats_map];rfl
@[go_sem] theorem Ak.p_x (z:Ty):putRow (Ak.at s) 48 (Ty.at z)=Ak.at { s with x:=z }:=by obtain⟨_,_,_,_,_,_,_⟩:=z;obtain⟨_,⟨_,_,_,_,_,_,_⟩,⟨_,_,⟨_,_,_,_,_,_,_⟩,_,_,_,_⟩,⟨_,_,_,_,⟨_,_,_,_,_,_,_⟩,⟨_,_,_,_⟩,_,_,_,_⟩,⟨_,_,_,_,_,_,_⟩,⟨_,_,_,_,_,_,_⟩⟩:=s;simp only [Ak.at,Cs.at,Me.at,Ty.at,St.at,Ex.at,St.ats_map,Ex.ats_map];rfl
@[go_sem] theorem Ak.p_o (z:Ty):putRow (Ak.at s) 59 (Ty.at z)=Ak.at { s with o:=z }:=by obtain⟨_,_,_,_,_,_,_⟩:=z;obtain⟨_,⟨_,_,_,_,_,_,_⟩,⟨_,_,⟨_,_,_,_,_,_,_⟩,_,_,_,_⟩,⟨_,_,_,_,⟨_,_,_,_,_,_,_⟩,⟨_,_,_,_⟩,_,_,_,_⟩,⟨_,_,_,_,_,_,_⟩,⟨_,_,_,_,_,_,_⟩⟩:=s;simp only [Ak.at,Cs.at,Me.at,Ty.at,St.at,Ex.at,St.ats_map,Ex.ats_map];rfl
end
def Ak.zero:Ak:=⟨[],Cs.zero,Me.zero,St.zero,Ty.zero,Ty.zero⟩
theorem Ak.z0:[A.sl [],.v (.string ⟨#[]⟩),.sl [],.v (.string ⟨#[]⟩),.sl [],.sl [],.sl [],.v (.int .i64 0),.v (.string ⟨#[]⟩),.v (.bool false),.v (.int .i64 0),.v (.string ⟨#[]⟩),.v (.int .i64 0),.v (.int .i64 0),.v (.int .i64 0),.v (.int .i64 0),.v (.int .i64 0),.v (.int .i64 0),.v (.int .i64 0),.v (.int .i64 0),.v (.int .i64 0),.sl [],.sl [],.sl [],.v (.int .i64 0),.v (.int .i64 0),.v (.string ⟨#[]⟩),.v (.string ⟨#[]⟩),.v (.string ⟨#[]⟩),.v (.int .i64 0),.v (.string ⟨#[]⟩),.v (.int .i64 0),.v (.int .i64 0),.v (.int .i64 0),.v (.int .i64 0),.v (.int .i64 0),.v (.int .i64 0),.v (.int .i64 0),.v (.int .i64 0),.v (.int .i64 0),.v (.int .i64 0),.v (.int .i64 0),.v (.string ⟨#[]⟩),.sl [],.sl [],.sl [],.sl [],.v (.int .i64 0),.v (.int .i64 0),.v (.string ⟨#[]⟩),.v (.int .i64 0),.v (.int .i64 0),.v (.int .i64 0),.v (.int .i64 0),.v (.int .i64 0),.v (.int .i64 0),.v (.int .i64 0),.v (.int .i64 0),.v (.int .i64 0),.v (.int .i64 0),.v (.string ⟨#[]⟩),.v (.int .i64 0),.v (.int .i64 0),.v (.int .i64 0),.v (.int .i64 0),.v (.int .i64 0),.v (.int .i64 0),.v (.int .i64 0),.v (.int .i64 0),.v (.int .i64 0)]=Ak.at Ak.zero:=by unfold Ak.zero;simp only [Ak.at,Cs.zero,Cs.at,Me.zero,Me.at,Ty.zero,Ty.at,St.zero,St.at,Ex.zero,Ex.at,St.ats_map,Ex.ats_map];rfl
structure Ak.ok (a:Ak):Prop where
 np:a.p.length≤1048576
 nc:a.c.params.length≤1048576
 na:a.m.params.length≤1048576
 nl:a.m.locals.length≤1048576
 nz:a.s.sz≤1048576
theorem St.e_sz (s:St):s.e.sz≤s.sz:=by
 obtain⟨k,x,y,nm,ty,e,ar,bo,el,at_⟩:=s
 rw [St.sz];dsimp only;omega
def vrE (a:Ak) (s:List UInt8):Int:=if placeI a.m s<0 then 13 else 0
def tgt (a:Ak):Int×Ak:=if placeI a.m a.s.x<0 then (13,a) else (0,{ a with x:=(typeT a.c a.m a.s.x).1 })
theorem pgVarX (a:Ak) (s:List UInt8):DM Tryz.prog 125 [.a (.ptr 0 0),.a (.v (.string (bs s))),.a (.ptr 0 48)] [.cell (Ak.at a)] (.a (.fn 185 [.ptr 1 0,.ptr 2 0,.ptr 3 0])) [.cell (Ak.at a),.cell [.ptr 0 0],.cell [.v (.string (bs s))],.cell [.ptr 0 48]]:=by
 refine DM.intro Tryz.func125 rfl Tryz.ntmps125 rfl rfl rfl (by simp only [go_sem,simprocAttr]) (fun V0 Kb Nx=>?_)
 have fx:=trivial
 repeat' (first|refine stp [0,1,2,3,4,5,6] ?_|fail)
 exact retM1 ⟨rfl,[],rfl⟩
theorem pgVarT (a:Ak) (t:Ty) (s:List UInt8):DM Tryz.prog 125 [.a (.ptr 0 0),.a (.v (.string (bs s))),.a (.ptr 1 0)] [.cell (Ak.at a),.cell (Ty.at t)] (.a (.fn 185 [.ptr 2 0,.ptr 3 0,.ptr 4 0])) [.cell (Ak.at a),.cell (Ty.at t),.cell [.ptr 0 0],.cell [.v (.string (bs s))],.cell [.ptr 1 0]]:=by
 refine DM.intro Tryz.func125 rfl Tryz.ntmps125 rfl rfl rfl (by simp only [go_sem,simprocAttr]) (fun V0 Kb Nx=>?_)
 have fx:=trivial
 repeat' (first|refine stp [0,1,2,3,4,5,6] ?_|fail)
 exact retM1 ⟨rfl,[],rfl⟩
theorem pgVarX1 (a:Ak) (s:List UInt8) (h:a.ok):DM Tryz.prog 185 [.a (.ptr 1 0),.a (.ptr 2 0),.a (.ptr 3 0)] [.cell (Ak.at a),.cell [.ptr 0 0],.cell [.v (.string (bs s))],.cell [.ptr 0 48]] (.a (.v (.int .i64 (vrE a s)))) [.cell (Ak.at (if placeI a.m s<0 then a else { a with x:=(typeT a.c a.m s).1 })),.cell [.ptr 0 0],.cell [.v (.string (bs s))],.cell [.ptr 0 48]]:=by
 by_cases hp:placeI a.m s<0
 ·have hd:=decide_eq_true hp
  unfold vrE;rw [if_pos hp,if_pos hp]
  refine DM.intro Tryz.func185 rfl Tryz.ntmps185 rfl rfl rfl (by simp only [go_sem,simprocAttr]) (fun V0 Kb Nx=>?_)
  have fx:=trivial
  replace fx:=And.intro hd trivial
  repeat' (first|(refine RWL.fin ?_;try simp only [thenQ_n,blockQ_n])|refine stp [0,1,2,3,10] ?_|(refine RS.sE ?_;refine rnx ?_)|refine RWL.fr ?_|refine RWL.wt ?_|(refine stc (r1:=by first|exact pPlace a.m s h.na h.nl|exact pType a.c a.m s h.nc h.na h.nl) (r2:=?_);refine rnx ?_)|(refine' WP.dl (id:=3) [0,0,2,6,14,0,32,96,224,0,1022,2046,4094,4094,8191,24575] [0,1,2,3,10] [15] [(15,_)] ?_)|refine RWL.re ?_ ?_|refine RdO.oz|refine RdO.oa ?_|refine RdO.oe ?_|refine RdO.on|refine WP.cn (fun hc=>?_) (fun hc=>?_)|((first|refine WP.dw (id:=1) 7 [0,1,2,3,10] ?_);simp only [RQr_mk,List.drop_succ_cons,List.drop_zero,List.drop_nil])|fail)
  exact retM1 ⟨rfl,_,rfl⟩
 ·have hd:=decide_eq_false hp
  unfold vrE;rw [if_neg hp,if_neg hp]
  refine DM.intro Tryz.func185 rfl Tryz.ntmps185 rfl rfl rfl (by simp only [go_sem,simprocAttr]) (fun V0 Kb Nx=>?_)
  have fx:=trivial
  replace fx:=And.intro hd trivial
  repeat' (first|(refine RWL.fin ?_;try simp only [thenQ_n,blockQ_n])|refine stp [0,1,2,3,10] ?_|(refine RS.sE ?_;refine rnx ?_)|refine RWL.fr ?_|refine RWL.wt ?_|(refine stc (r1:=by first|exact pPlace a.m s h.na h.nl|exact pType a.c a.m s h.nc h.na h.nl) (r2:=?_);refine rnx ?_)|(refine' WP.dl (id:=3) [0,0,2,6,14,0,32,96,224,0,1022,2046,4094,4094,8191,24575] [0,1,2,3,10] [15] [(15,_)] ?_)|refine RWL.re ?_ ?_|refine RdO.oz|refine RdO.oa ?_|refine RdO.oe ?_|refine RdO.on|refine WP.cn (fun hc=>?_) (fun hc=>?_)|((first|refine WP.dw (id:=1) 7 [0,1,2,3,10] ?_);simp only [RQr_mk,List.drop_succ_cons,List.drop_zero,List.drop_nil])|fail)
  exact retM1 ⟨rfl,_,rfl⟩
theorem pgVarT1 (a:Ak) (t:Ty) (s:List UInt8) (h:a.ok):DM Tryz.prog 185 [.a (.ptr 2 0),.a (.ptr 3 0),.a (.ptr 4 0)] [.cell (Ak.at a),.cell (Ty.at t),.cell [.ptr 0 0],.cell [.v (.string (bs s))],.cell [.ptr 1 0]] (.a (.v (.int .i64 (vrE a s)))) [.cell (Ak.at a),.cell (Ty.at (if placeI a.m s<0 then t else (typeT a.c a.m s).1)),.cell [.ptr 0 0],.cell [.v (.string (bs s))],.cell [.ptr 1 0]]:=by
 by_cases hp:placeI a.m s<0
 ·have hd:=decide_eq_true hp
  unfold vrE;rw [if_pos hp,if_pos hp]
  refine DM.intro Tryz.func185 rfl Tryz.ntmps185 rfl rfl rfl (by simp only [go_sem,simprocAttr]) (fun V0 Kb Nx=>?_)
  have fx:=trivial
  replace fx:=And.intro hd trivial
  repeat' (first|(refine RWL.fin ?_;try simp only [thenQ_n,blockQ_n])|refine stp [0,1,2,3,10] ?_|(refine RS.sE ?_;refine rnx ?_)|refine RWL.fr ?_|refine RWL.wt ?_|(refine stc (r1:=by first|exact pPlace a.m s h.na h.nl|exact pType a.c a.m s h.nc h.na h.nl) (r2:=?_);refine rnx ?_)|(refine' WP.dl (id:=3) [0,0,2,6,14,0,32,96,224,0,1022,2046,4094,4094,8191,24575] [0,1,2,3,10] [15] [(15,_)] ?_)|refine RWL.re ?_ ?_|refine RdO.oz|refine RdO.oa ?_|refine RdO.oe ?_|refine RdO.on|refine WP.cn (fun hc=>?_) (fun hc=>?_)|((first|refine WP.dw (id:=1) 7 [0,1,2,3,10] ?_);simp only [RQr_mk,List.drop_succ_cons,List.drop_zero,List.drop_nil])|fail)
  exact retM1 ⟨rfl,_,rfl⟩
 ·have hd:=decide_eq_false hp
  unfold vrE;rw [if_neg hp,if_neg hp]
  refine DM.intro Tryz.func185 rfl Tryz.ntmps185 rfl rfl rfl (by simp only [go_sem,simprocAttr]) (fun V0 Kb Nx=>?_)
  have fx:=trivial
  replace fx:=And.intro hd trivial
  repeat' (first|(refine RWL.fin ?_;try simp only [thenQ_n,blockQ_n])|refine stp [0,1,2,3,10] ?_|(refine RS.sE ?_;refine rnx ?_)|refine RWL.fr ?_|refine RWL.wt ?_|(refine stc (r1:=by first|exact pPlace a.m s h.na h.nl|exact pType a.c a.m s h.nc h.na h.nl) (r2:=?_);refine rnx ?_)|(refine' WP.dl (id:=3) [0,0,2,6,14,0,32,96,224,0,1022,2046,4094,4094,8191,24575] [0,1,2,3,10] [15] [(15,_)] ?_)|refine RWL.re ?_ ?_|refine RdO.oz|refine RdO.oa ?_|refine RdO.oe ?_|refine RdO.on|refine WP.cn (fun hc=>?_) (fun hc=>?_)|((first|refine WP.dw (id:=1) 7 [0,1,2,3,10] ?_);simp only [RQr_mk,List.drop_succ_cons,List.drop_zero,List.drop_nil])|fail)
  exact retM1 ⟨rfl,_,rfl⟩
theorem pgTarget (a:Ak) (h:a.ok):DM Tryz.prog 118 [.a (.ptr 0 0)] [.cell (Ak.at a)] (.a (.v (.int .i64 (tgt a).1))) [.cell (Ak.at (tgt a).2)]:=by
 have h1:=pgVarX a a.s.x
 have h2:=pgVarX1 a a.s.x h
 have e1:(tgt a).1=vrE a a.s.x:=by unfold tgt vrE;split<;>rfl
 have e2:(tgt a).2=if placeI a.m a.s.x<0 then a else { a with x:=(typeT a.c a.m a.s.x).1 }:=by unfold tgt;split<;>rfl
 rw [e1,e2]
 generalize vrE a a.s.x=z at h2 ⊢
 generalize (if placeI a.m a.s.x<0 then a else { a with x:=(typeT a.c a.m a.s.x).1 })=b at h2 ⊢
 refine DM.intro Tryz.func118 rfl Tryz.ntmps118 rfl rfl rfl (by simp only [go_sem,simprocAttr]) (fun V0 Kb Nx=>?_)
 have fx:=trivial
 repeat' (first|refine stp [0,2] ?_|(refine RS.cM [0] (hp:=by exact h1) (h:=?_);refine rnx ?_)|(refine RS.cvM [0] (hp:=by exact h1) (h:=?_);refine rnx ?_)|(refine RS.cM [0,1,2,3] (hp:=by exact h2) (h:=?_);refine rnx ?_)|(refine RS.cvM [0,1,2,3] (hp:=by exact h2) (h:=?_);refine rnx ?_)|((first|refine WP.dw (id:=1) 9 [0,2] ?_);simp only [RQr_mk,List.drop_succ_cons,List.drop_zero,List.drop_nil])|fail)
 exact retM1 ⟨rfl,_,rfl⟩
theorem pgValue (a:Ak) (t:Ty):DM Tryz.prog 119 [.a (.ptr 0 0),.a (.ptr 1 0)] [.cell (Ak.at a),.cell (Ty.at t)] (.a (.fn 177 [.ptr 2 0,.ptr 3 0])) [.cell (Ak.at a),.cell (Ty.at t),.cell [.ptr 0 0],.cell [.ptr 1 0]]:=by
 refine DM.intro Tryz.func119 rfl Tryz.ntmps119 rfl rfl rfl (by simp only [go_sem,simprocAttr]) (fun V0 Kb Nx=>?_)
 have fx:=trivial
 repeat' (first|refine stp [0,1,2,3,4] ?_|fail)
 exact retM1 ⟨rfl,[],rfl⟩
theorem pgValue1 (a:Ak) (t:Ty) (h:a.ok):DM Tryz.prog 177 [.a (.ptr 2 0),.a (.ptr 3 0)] [.cell (Ak.at a),.cell (Ty.at t),.cell [.ptr 0 0],.cell [.ptr 1 0]] (.a (.v (.int .i64 (oneT a.c a.m a.s.e).2))) [.cell (Ak.at a),.cell (Ty.at (oneT a.c a.m a.s.e).1),.cell [.ptr 0 0],.cell [.ptr 1 0]]:=by
 have h1:=pShOf a.c a.m a.s.e h.nc h.na h.nl (Nat.le_trans a.s.e_sz h.nz)
 generalize oneT a.c a.m a.s.e=R at h1 ⊢
 refine DM.intro Tryz.func177 rfl Tryz.ntmps177 rfl rfl rfl (by simp only [go_sem,simprocAttr]) (fun V0 Kb Nx=>?_)
 have fx:=trivial
 repeat' (first|(refine RWL.fin ?_;try simp only [thenQ_n,blockQ_n])|refine stp [0,1,2] ?_|(refine RS.sE ?_;refine rnx ?_)|refine RWL.fr ?_|refine RWL.wt ?_|(refine stc (r1:=by exact h1) (r2:=?_);refine rnx ?_)|(refine' WP.dl (id:=1) [0,0,2,6,14,0,32,96,224,0,512,1536,3584,7680,16382,32766,65534,65534,131071,393215,1048575] [0,1,2] [19] [(19,_)] ?_)|refine RWL.re ?_ ?_|refine RdO.oz|refine RdO.oa ?_|refine RdO.oe ?_|refine RdO.on|fail)
 exact retM1 ⟨rfl,_,rfl⟩
theorem pgFitsX (a:Ak) (t:Ty):DM Tryz.prog 120 [.a (.ptr 0 0),.a (.ptr 1 0),.a (.ptr 0 48)] [.cell (Ak.at a),.cell (Ty.at t)] (.a (.fn 178 [.ptr 2 0,.ptr 3 0,.ptr 4 0])) [.cell (Ak.at a),.cell (Ty.at t),.cell [.ptr 0 0],.cell [.ptr 1 0],.cell [.ptr 0 48]]:=by
 refine DM.intro Tryz.func120 rfl Tryz.ntmps120 rfl rfl rfl (by simp only [go_sem,simprocAttr]) (fun V0 Kb Nx=>?_)
 have fx:=trivial
 repeat' (first|refine stp [0,1,2,3,4,5,6] ?_|fail)
 exact retM1 ⟨rfl,[],rfl⟩
theorem pgFitsX1 (a:Ak) (t:Ty) (h:a.ok):DM Tryz.prog 178 [.a (.ptr 2 0),.a (.ptr 3 0),.a (.ptr 4 0)] [.cell (Ak.at a),.cell (Ty.at t),.cell [.ptr 0 0],.cell [.ptr 1 0],.cell [.ptr 0 48]] (.a (.v (.int .i64 (fitsI a.p t a.x)))) [.cell (Ak.at a),.cell (Ty.at t),.cell [.ptr 0 0],.cell [.ptr 1 0],.cell [.ptr 0 48]]:=by
 refine DM.intro Tryz.func178 rfl Tryz.ntmps178 rfl rfl rfl (by simp only [go_sem,simprocAttr]) (fun V0 Kb Nx=>?_)
 have fx:=trivial
 repeat' (first|refine stp [0,1,2,3] ?_|(refine stc (r1:=by exact pFits a.p t a.x h.np) (r2:=?_);refine rnx ?_)|((first|refine WP.dw (id:=1) 12 [0,1,2,3] ?_);simp only [RQr_mk,List.drop_succ_cons,List.drop_zero,List.drop_nil])|fail)
 exact retM1 ⟨rfl,_,rfl⟩
theorem Ak.ok_tgt {a:Ak} (h:a.ok):(tgt a).2.ok:=by
 unfold tgt;split
 ·exact h
 ·exact⟨h.np,h.nc,h.na,h.nl,h.nz⟩
def setI (a:Ak):Int×Ak×Ty :=
 if ((tgt a).1 != 0)=true then ((tgt a).1,(tgt a).2,Ty.zero) else
 if ((oneT a.c a.m a.s.e).2 != 0)=true then ((oneT a.c a.m a.s.e).2,(tgt a).2,(oneT a.c a.m a.s.e).1) else
 (fitsI a.p (oneT a.c a.m a.s.e).1 (tgt a).2.x,(tgt a).2,(oneT a.c a.m a.s.e).1)
theorem tgt_keep (a:Ak):(tgt a).2.p=a.p∧(tgt a).2.c=a.c∧(tgt a).2.m=a.m∧(tgt a).2.s=a.s∧(tgt a).2.o=a.o:=by
 unfold tgt;split<;>exact⟨rfl,rfl,rfl,rfl,rfl⟩
theorem allSet (a:Ak) (h:a.ok):DM Tryz.prog 117 [.a (.cs 9 0 3)] [.cell (Ak.at a),.cell [.ptr 0 0],.cell (Ty.at Ty.zero),.cell (Ty.at Ty.zero),.cell [.ptr 0 0],.cell [.ptr 2 0],.cell [.ptr 0 0],.cell [.ptr 2 0],.cell [.ptr 0 48],.cell [.fm 118 [.ptr 0 0],.fn 177 [.ptr 4 0,.ptr 5 0],.fn 178 [.ptr 6 0,.ptr 7 0,.ptr 8 0]]] (.a (.v (.int .i64 (setI a).1)))
  [.cell (Ak.at (setI a).2.1),.cell [.ptr 0 0],.cell (Ty.at (setI a).2.2),.cell (Ty.at Ty.zero),.cell [.ptr 0 0],.cell [.ptr 2 0],.cell [.ptr 0 0],.cell [.ptr 2 0],.cell [.ptr 0 48],.cell [.fm 118 [.ptr 0 0],.fn 177 [.ptr 4 0,.ptr 5 0],.fn 178 [.ptr 6 0,.ptr 7 0,.ptr 8 0]]]:=by
 have ht:=pgTarget a h
 obtain⟨k1,k2,k3,k4,k5⟩:=tgt_keep a
 have hv:=pgValue1 (tgt a).2 Ty.zero (Ak.ok_tgt h)
 have hf:=pgFitsX1 (tgt a).2 (oneT a.c a.m a.s.e).1 (Ak.ok_tgt h)
 rw [k2,k3,k4] at hv
 rw [k1] at hf
 refine pAll 9 [.fm 118 [.ptr 0 0],.fn 177 [.ptr 4 0,.ptr 5 0],.fn 178 [.ptr 6 0,.ptr 7 0,.ptr 8 0]] _ _ _ (by decide) rfl rfl (by simp only [go_sem,simprocAttr]) ?_
 unfold setI
 generalize (tgt a).1=e1 at ht ⊢
 generalize (tgt a).2=b at ht hv hf ⊢
 generalize oneT a.c a.m a.s.e=R at hv hf ⊢
 cases h1:e1 != 0 with
 | true =>
  rw [if_pos rfl]
  exact .stop _ _ _ _ _ _ _ rfl (DM.lift [0] ht) h1
 | false =>
  have h1:e1=0:=by simpa using h1
  subst h1
  rw [if_neg Bool.false_ne_true]
  refine .go _ _ _ _ _ _ _ _ rfl (DM.lift [0] ht) rfl rfl ?_
  obtain⟨t,z⟩:=R
  dsimp only at hv hf ⊢
  cases h2:z != 0 with
  | true =>
   rw [if_pos rfl]
   exact .stop _ _ _ _ _ _ _ rfl (DM.lift [0,2,4,5] hv) h2
  | false =>
   have h2:z=0:=by simpa using h2
   subst h2
   rw [if_neg Bool.false_ne_true]
   refine .go _ _ _ _ _ _ _ _ rfl (DM.lift [0,2,4,5] hv) rfl rfl ?_
   generalize fitsI a.p t b.x=y at hf ⊢
   cases h3:y != 0 with
   | true=>exact .stop _ _ _ _ _ _ _ rfl (DM.lift [0,2,6,7,8] hf) h3
   | false =>
    have h3:y=0:=by simpa using h3
    subst h3
    exact .go _ _ _ _ _ _ _ _ rfl (DM.lift [0,2,6,7,8] hf) rfl rfl (.nil _)
theorem pAskSet (a:Ak) (h:a.ok) (hk:a.s.kind=1):DM Tryz.prog 60 [.a (.ptr 0 0)] [.cell (Ak.at a)] (.a (.v (.int .i64 (setI a).1))) [.cell (Ak.at (setI a).2.1)]:=by
 have hA:=allSet a h
 generalize setI a=R at hA ⊢
 refine DM.intro Tryz.func60 rfl Tryz.ntmps60 rfl rfl rfl (by simp only [go_sem,simprocAttr]) (fun V0 Kb Nx=>?_)
 have fx:=trivial
 replace fx:=And.intro hk (And.intro tyZ trivial)
 repeat' (first|(refine RWL.fin ?_;try simp only [thenQ_n,blockQ_n])|refine stp [0,1,2,3,4,9,10,23,38,50,57,72,80,88,102,115] ?_|(refine RS.li ?_;refine rnx ?_)|(refine RS.bC ?_;refine rnx ?_)|(refine RS.mb ?_;refine rnx ?_)|refine RWL.fr ?_|refine RWL.mb ?_|refine RWL.wt ?_|refine RWL.lS ?_|refine RWL.bC ?_|(refine RS.cM [0,2] (hp:=by exact pgValue a Ty.zero) (h:=?_);refine rnx ?_)|(refine RS.cM [0,2] (hp:=by exact pgFitsX a Ty.zero) (h:=?_);refine rnx ?_)|(refine RS.cM [0,1,2,3,4,5,6,7,8,9] (hp:=by exact hA) (h:=?_);refine rnx ?_)|(refine' WP.dl (id:=4) [0,1,0,4,0,0,32,96,252,511,1023,2047] [0,1,2,3,4,9,10,23,38,50,57,72,80,88,102,115] [3,8,9,10] [(3,_),(8,_),(9,_),(10,_)] ?_)|(refine RWL.cM [0,2] (hp:=by exact pgValue a Ty.zero) (h:=?_))|(refine RWL.cM [0,2] (hp:=by exact pgFitsX a Ty.zero) (h:=?_))|(refine RWL.cM [0,1,2,3,4,5,6,7,8,9] (hp:=by exact hA) (h:=?_))|refine RWL.re ?_ ?_|refine RdO.oz|refine RdO.oa ?_|refine RdO.oe ?_|refine RdO.on|refine WP.cn (fun hc=>?_) (fun hc=>?_)|((first|refine WP.dw (id:=6) 11 [0,1,2,3,4,9,10,23,38,50,57,72,80,88,102,115] ?_|refine WP.dw (id:=8) 8 [0,1,2,3,4,9,10,23,38,50,57,72,80,88,102,115] ?_|refine WP.dw (id:=18) 10 [0,1,2,3,4,9,10,23,38,50,57,72,80,88,102,115] ?_|refine WP.dw (id:=20) 9 [0,1,2,3,4,9,10,23,38,50,57,72,80,88,102,115] ?_);simp only [RQr_mk,List.drop_succ_cons,List.drop_zero,List.drop_nil])|fail)
 exact retM1 ⟨rfl,_,rfl⟩
def suitsI (p:List Cs) (c:Cs) (m:Me) (e:Ex) (u:Ty):Int :=
 if ((oneT c m e).2 != 0)=true then (oneT c m e).2 else if ((oneT c m e).1.kind==2&&uniqB u)=true then givesI p (oneT c m e).1 u else fitsI p (oneT c m e).1 u
theorem pgSuits (p:List Cs) (c:Cs) (m:Me) (e:Ex) (u:Ty) (hp:p.length≤1048576) (hc:c.params.length≤1048576) (ha:m.params.length≤1048576) (hb:m.locals.length≤1048576) (hz:e.sz≤1048576):DPure Tryz.prog 19 [.a (.sl (p.map Cs.at)),.r (Cs.at c),.r (Me.at m),.r (Ex.at e),.r (Ty.at u)] (.a (.v (.int .i64 (suitsI p c m e u)))):=by
 have h1:=pShOf c m e hc ha hb hz
 unfold suitsI
 generalize oneT c m e=R at h1 ⊢
 refine DPure.go Tryz.func19 rfl Tryz.ntmps19 rfl rfl rfl (fun C hro=>?_)
 have fx:=trivial
 replace fx:=And.intro tyZ trivial
 repeat' (first|refine stp [0,1,2,3,4,6,7,8,9,10,11,12,20,24] ?_|(refine RS.sE ?_;refine rnx ?_)|(refine RS.pk ?_;refine rnx ?_)|(refine RS.gF ?_;refine rnx ?_)|(refine stc (r1:=by first|exact h1|exact pUnique u|exact pGives p R.1 u hp|exact pFits p R.1 u hp) (r2:=?_);refine rnx ?_)|refine WP.cn (fun hc=>?_) (fun hc=>?_)|fail)
 all_goals (refine int_eq ?_;simp_all)
def retI (a:Ak):Int:=if ((a.s.e.kind==0) != (a.m.ret.kind==0))=true then 14 else if (a.s.e.kind==0)=true then 0 else suitsI a.p a.c a.m a.s.e a.m.ret
theorem pgReturns (a:Ak) (h:a.ok):DM Tryz.prog 129 [.a (.ptr 0 0)] [.cell (Ak.at a)] (.a (.v (.int .i64 (retI a)))) [.cell (Ak.at a)]:=by
 unfold retI
 refine DM.intro Tryz.func129 rfl Tryz.ntmps129 rfl rfl rfl (by simp only [go_sem,simprocAttr]) (fun V0 Kb Nx=>?_)
 have fx:=trivial
 repeat' (first|refine stp [0,2,3,19,20] ?_|(refine stc (r1:=by exact pgSuits a.p a.c a.m a.s.e a.m.ret h.np h.nc h.na h.nl (Nat.le_trans a.s.e_sz h.nz)) (r2:=?_);refine rnx ?_)|refine WP.cn (fun hc=>?_) (fun hc=>?_)|((first|refine WP.dw (id:=6) 24 [0,2,3,19,20] ?_);simp only [RQr_mk,List.drop_succ_cons,List.drop_zero,List.drop_nil])|fail)
 all_goals (refine retM1 ⟨congrArg (fun z:Int=>D.a (.v (.int .i64 z))) ?_,[],rfl⟩;cases h1:(a.s.e.kind==0)<;>cases h2:(a.m.ret.kind==0)<;>simp_all)
theorem pAskRet (a:Ak) (h:a.ok) (hk:a.s.kind=11):DM Tryz.prog 60 [.a (.ptr 0 0)] [.cell (Ak.at a)] (.a (.v (.int .i64 (retI a)))) [.cell (Ak.at a)]:=by
 have hA:=pgReturns a h
 refine DM.intro Tryz.func60 rfl Tryz.ntmps60 rfl rfl rfl (by simp only [go_sem,simprocAttr]) (fun V0 Kb Nx=>?_)
 have fx:=trivial
 replace fx:=And.intro hk (And.intro tyZ trivial)
 repeat' (first|(refine RWL.fin ?_;try simp only [thenQ_n,blockQ_n])|refine stp [0,1,2,3,4,9,10,23,38,50,57,72,80,88,102,115] ?_|(refine RS.li ?_;refine rnx ?_)|(refine RS.bC ?_;refine rnx ?_)|(refine RS.mb ?_;refine rnx ?_)|refine RWL.fr ?_|refine RWL.mb ?_|refine RWL.wt ?_|refine RWL.lS ?_|refine RWL.bC ?_|(refine RS.cM [0] (hp:=by exact hA) (h:=?_);refine rnx ?_)|(refine' WP.dl (id:=20) [0,0,2,6,14,30,63,0,0,511,1023,2047] [0,1,2,3,4,9,10,23,38,50,57,72,80,88,102,115] [6,9,10] [(6,_),(9,_),(10,_)] ?_)|(refine RWL.cM [0] (hp:=by exact hA) (h:=?_))|refine RWL.re ?_ ?_|refine RdO.oz|refine RdO.oa ?_|refine RdO.oe ?_|refine RdO.on|refine WP.cn (fun hc=>?_) (fun hc=>?_)|((first|refine WP.dw (id:=4) 9 [0,1,2,3,4,9,10,23,38,50,57,72,80,88,102,115] ?_|refine WP.dw (id:=6) 11 [0,1,2,3,4,9,10,23,38,50,57,72,80,88,102,115] ?_|refine WP.dw (id:=8) 8 [0,1,2,3,4,9,10,23,38,50,57,72,80,88,102,115] ?_|refine WP.dw (id:=18) 10 [0,1,2,3,4,9,10,23,38,50,57,72,80,88,102,115] ?_);simp only [RQr_mk,List.drop_succ_cons,List.drop_zero,List.drop_nil])|fail)
 exact retM1 ⟨rfl,_,rfl⟩
theorem pgAsk2 (t:Ty):DM Tryz.prog 127 [.a (.ptr 0 0)] [.cell (Ty.at t)] (.a (.v (.int .i64 (bif t.kind==2 then 0 else 14)))) [.cell (Ty.at t)]:=by
 refine DM.intro Tryz.func127 rfl Tryz.ntmps127 rfl rfl rfl (by simp only [go_sem,simprocAttr]) (fun V0 Kb Nx=>?_)
 have fx:=trivial
 repeat' (first|refine stp [0,1] ?_|(refine stc (r1:=by exact pMust _ _) (r2:=?_);refine rnx ?_)|fail)
 exact retM1 ⟨rfl,_,rfl⟩
theorem pgAsk3 (t:Ty):DM Tryz.prog 128 [.a (.ptr 0 0)] [.cell (Ty.at t)] (.a (.v (.int .i64 (bif uniqB t then 0 else 22)))) [.cell (Ty.at t)]:=by
 refine DM.intro Tryz.func128 rfl Tryz.ntmps128 rfl rfl rfl (by simp only [go_sem,simprocAttr]) (fun V0 Kb Nx=>?_)
 have fx:=trivial
 repeat' (first|refine stp [0,1] ?_|(refine stc (r1:=by first|exact pUnique t|exact pMust _ _) (r2:=?_);refine rnx ?_)|fail)
 exact retM1 ⟨rfl,_,rfl⟩
theorem pgAsk4 (t:Ty):DM Tryz.prog 130 [.a (.ptr 0 0)] [.cell (Ty.at t)] (.a (.v (.int .i64 (bif t.kind==1 then 0 else 14)))) [.cell (Ty.at t)]:=by
 refine DM.intro Tryz.func130 rfl Tryz.ntmps130 rfl rfl rfl (by simp only [go_sem,simprocAttr]) (fun V0 Kb Nx=>?_)
 have fx:=trivial
 repeat' (first|refine stp [0,1] ?_|(refine stc (r1:=by exact pMust _ _) (r2:=?_);refine rnx ?_)|fail)
 exact retM1 ⟨rfl,_,rfl⟩
def vrT (a:Ak) (s:List UInt8):Ty:=if placeI a.m s<0 then Ty.zero else (typeT a.c a.m s).1
def delI (a:Ak):Int×Ty:=if (vrE a a.s.y != 0)=true then (vrE a a.s.y,vrT a a.s.y) else if ((vrT a a.s.y).kind != 2)=true then (14,vrT a a.s.y) else if (!uniqB (vrT a a.s.y))=true then (22,vrT a a.s.y) else (0,vrT a a.s.y)
theorem AllR.one {P:Program} {j:Nat} {row r:List A} {st st1:List Bx} {x:A} {f:FuncId} {caps:List A} {z:Int} {res:Int} {st2:List Bx} (hf:fnOf x=some (f,caps)) (hd:DM P f (caps.map D.a) st (.a (.v (.int .i64 z))) st1) (hs:(z != 0)=true→res=z∧st2=st1) (hg:(z != 0)=false→AllR P j row r st1 res st2) (hj:st1[j]? = some (.cell row):=by rfl) (hl:st1.all Bx.live=true:=by rfl):AllR P j row (x::r) st res st2:=by
 cases h:z != 0 with
 | true=>obtain⟨h1,h2⟩:=hs h;subst h1;subst h2;exact .stop _ _ _ _ _ _ _ hf hd h
 | false =>
  have hz:z=0:=by simpa using h
  subst hz
  exact .go _ _ _ _ _ _ _ _ hf hd hj hl (hg h)
theorem allDel (a:Ak) (h:a.ok):DM Tryz.prog 117 [.a (.cs 7 0 3)] [.cell (Ak.at a),.cell [.ptr 0 0],.cell (Ty.at Ty.zero),.cell (Ty.at Ty.zero),.cell [.ptr 0 0],.cell [.v (.string (bs a.s.y))],.cell [.ptr 2 0],.cell [.fn 185 [.ptr 4 0,.ptr 5 0,.ptr 6 0],.fn 127 [.ptr 2 0],.fn 128 [.ptr 2 0]]] (.a (.v (.int .i64 (delI a).1)))
  [.cell (Ak.at a),.cell [.ptr 0 0],.cell (Ty.at (delI a).2),.cell (Ty.at Ty.zero),.cell [.ptr 0 0],.cell [.v (.string (bs a.s.y))],.cell [.ptr 2 0],.cell [.fn 185 [.ptr 4 0,.ptr 5 0,.ptr 6 0],.fn 127 [.ptr 2 0],.fn 128 [.ptr 2 0]]]:=by
 have ht:=pgVarT1 a Ty.zero a.s.y h
 have hb:(if placeI a.m a.s.y<0 then Ty.zero else (typeT a.c a.m a.s.y).1)=vrT a a.s.y:=rfl
 rw [hb] at ht
 have h2:=pgAsk2 (vrT a a.s.y)
 have h3:=pgAsk3 (vrT a a.s.y)
 refine pAll 7 [.fn 185 [.ptr 4 0,.ptr 5 0,.ptr 6 0],.fn 127 [.ptr 2 0],.fn 128 [.ptr 2 0]] _ _ _ (by decide) rfl rfl (by simp only [go_sem,simprocAttr]) ?_
 unfold delI
 generalize vrE a a.s.y=e1 at ht ⊢
 generalize vrT a a.s.y=t at ht h2 h3 ⊢
 refine .one rfl (DM.lift [0,2,4,5,6] ht) (fun h1=>?_) fun h1=>?_
 ·rw [if_pos h1];exact⟨rfl,rfl⟩
 rw [if_neg (by rw [h1];exact Bool.false_ne_true)]
 refine .one rfl (DM.lift [2] h2) (fun h1=>?_) fun h1=>?_
 ·cases hk:t.kind==2 with
  | true=>rw [hk] at h1;cases h1
  | false=>rw [if_pos (by simpa using hk)];exact⟨rfl,rfl⟩
 have hk:(t.kind==2)=true:=by cases hk:t.kind==2<;>rw [hk] at h1<;>first|rfl|cases h1
 rw [if_neg (by simpa using hk)]
 refine .one rfl (DM.lift [2] h3) (fun h1=>?_) fun h1=>?_
 ·cases hk:uniqB t with
  | true=>rw [hk] at h1;cases h1
  | false=>rw [if_pos (by simp)];exact⟨rfl,rfl⟩
 have hk:uniqB t=true:=by cases hk:uniqB t<;>rw [hk] at h1<;>first|rfl|cases h1
 rw [if_neg (by rw [hk];exact Bool.false_ne_true)]
 exact .nil _
theorem pAskDel (a:Ak) (h:a.ok) (hk:a.s.kind=8):DM Tryz.prog 60 [.a (.ptr 0 0)] [.cell (Ak.at a)] (.a (.v (.int .i64 (delI a).1))) [.cell (Ak.at a)]:=by
 have hA:=allDel a h
 generalize delI a=R at hA ⊢
 refine DM.intro Tryz.func60 rfl Tryz.ntmps60 rfl rfl rfl (by simp only [go_sem,simprocAttr]) (fun V0 Kb Nx=>?_)
 have fx:=trivial
 replace fx:=And.intro hk (And.intro tyZ trivial)
 repeat' (first|(refine RWL.fin ?_;try simp only [thenQ_n,blockQ_n])|refine stp [0,1,2,3,4,9,10,23,38,50,57,72,80,88,102,115] ?_|(refine RS.li ?_;refine rnx ?_)|(refine RS.bC ?_;refine rnx ?_)|(refine RS.mb ?_;refine rnx ?_)|refine RWL.fr ?_|refine RWL.mb ?_|refine RWL.wt ?_|refine RWL.lS ?_|refine RWL.bC ?_|(refine RS.cM [0,2] (hp:=by exact pgVarT a Ty.zero a.s.y) (h:=?_);refine rnx ?_)|(refine RS.cM [0,1,2,3,4,5,6,7] (hp:=by exact hA) (h:=?_);refine rnx ?_)|(refine' WP.dl (id:=20) [0,0,2,6,14,30,63,0,0,511,1023,2047] [0,1,2,3,4,9,10,23,38,50,57,72,80,88,102,115] [6,9,10] [(6,_),(9,_),(10,_)] ?_)|(refine RWL.cM [0,2] (hp:=by exact pgVarT a Ty.zero a.s.y) (h:=?_))|(refine RWL.cM [0,1,2,3,4,5,6,7] (hp:=by exact hA) (h:=?_))|refine RWL.re ?_ ?_|refine RdO.oz|refine RdO.oa ?_|refine RdO.oe ?_|refine RdO.on|refine WP.cn (fun hc=>?_) (fun hc=>?_)|((first|refine WP.dw (id:=4) 9 [0,1,2,3,4,9,10,23,38,50,57,72,80,88,102,115] ?_|refine WP.dw (id:=6) 11 [0,1,2,3,4,9,10,23,38,50,57,72,80,88,102,115] ?_|refine WP.dw (id:=8) 8 [0,1,2,3,4,9,10,23,38,50,57,72,80,88,102,115] ?_|refine WP.dw (id:=18) 10 [0,1,2,3,4,9,10,23,38,50,57,72,80,88,102,115] ?_);simp only [RQr_mk,List.drop_succ_cons,List.drop_zero,List.drop_nil])|fail)
 exact retM1 ⟨rfl,_,rfl⟩
end Go.Proofs.YtibdalkdgjghoaaGreatDoor
