/- The document's programs on plain data: whether they may be. Conditions: at most 2^20 of anything. -/
import Derived.Test.YtibdalkdgjghoaaGreatDoorMg24
set_option linter.unusedVariables false
set_option maxRecDepth 100000
set_option maxHeartbeats 8000000
set_option linter.unusedSimpArgs false
namespace Go.Proofs.YtibdalkdgjghoaaGreatDoor
open Go.RowKit
def o4At (t:Ty):List A:=[.v (.int .i64 t.o0.1),.v (.int .i64 t.o0.2),.v (.int .i64 t.o1.1),.v (.int .i64 t.o1.2),.v (.int .i64 t.o2.1),.v (.int .i64 t.o2.2),.v (.int .i64 t.o3.1),.v (.int .i64 t.o3.2)]
@[go_sem] theorem o4_ld (t:Ty):ldRow (some 8) (Ty.at t) 3=some (.r (o4At t)):=by obtain⟨k,cls,n,⟨a0,b0⟩,⟨a1,b1⟩,⟨a2,b2⟩,⟨a3,b3⟩⟩:=t;rfl
@[go_sem] theorem o4_len (t:Ty):(o4At t).length=8:=rfl
@[go_sem] theorem o4_cl (t:Ty):(o4At t).all clA=true:=rfl
@[go_sem] theorem o4_see (t:Ty) (st:List Bx):(o4At t).map (seeA st)=o4At t:=rfl
@[go_sem] theorem o4_w (t:Ty):ldRow (some 8) (o4At t) 0=some (.r (o4At t)):=rfl
@[go_sem] theorem o4_z (t:Ty) (a b c d e f g h:A):putRow [a,b,c,d,e,f,g,h] 0 (o4At t)=o4At t:=rfl
@[go_sem] theorem o4_0 (t:Ty):ldRow none (o4At t) 0=some (.a (.v (.int .i64 t.o0.1))):=rfl
@[go_sem] theorem o4_1 (t:Ty):ldRow none (o4At t) 1=some (.a (.v (.int .i64 t.o0.2))):=rfl
@[go_sem] theorem o4_2 (t:Ty):ldRow none (o4At t) 2=some (.a (.v (.int .i64 t.o1.1))):=rfl
@[go_sem] theorem o4_4 (t:Ty):ldRow none (o4At t) 4=some (.a (.v (.int .i64 t.o2.1))):=rfl
@[go_sem] theorem o4_6 (t:Ty):ldRow none (o4At t) 6=some (.a (.v (.int .i64 t.o3.1))):=rfl
theorem pWritten (t:Ty) (p:Int) (hz:t.cls.length≤1048576):DPure Tryz.prog 212 [.r (Ty.at t),.a (.v (.int .i64 p))] (.a (.v (.bool (wrB t p)))):=by
 refine DPure.go Tryz.func212 rfl Tryz.ntmps212 rfl rfl rfl (fun C hro=>?_)
 have fx:=trivial
 repeat' (first|refine stp [0,1,2,4,5] ?_|(refine stc (r1:=by exact pTyRight t p (by omega)) (r2:=?_);refine rnx ?_)|fail)
 refine bool_eq ?_
 rfl
theorem pVarsR (l:List Vr) (most:Nat) (p:Int) (hz:sumOf Vr.sz l≤1048576):DPure Tryz.prog 158 [.a (.sl (l.map Vr.at)),.a (.v (.int .i64 (most:Int))),.a (.v (.int .i64 p))] (.a (.v (.bool (vrsB l most p)))):=by
 obtain⟨hn,hv⟩:=Vr.szM hz
 have hse:vrsB l most p=(l.all (vrB p)&&decide ((l.length:Int)≤(most:Int))):=by
  unfold vrsB
  rw [Bool.and_comm]
  congr 1
  rw [Bool.eq_iff_iff];simp
 refine DPure.go Tryz.func158 rfl Tryz.ntmps158 rfl rfl rfl (fun C hro=>?_)
 have fx:=trivial
 repeat' (first|refine stp [0,1,2,6,7,11,39] ?_|refine WP.cn (fun hc=>?_) (fun hc=>?_)|fail)
 refine WP.loop (α:={ k:Nat // k≤(l).length∧((l).take k).all (vrB p)=true }) (fun y=>[(0,.a (.sl (l.map Vr.at))),(1,.a (.v (.int .i64 (most:Int)))),(2,.a (.v (.int .i64 p))),(7,.a (.v (.int .i64 y.1)))]) (fun _=>[]) (fun y=>(l).length-y.1) ⟨0,by omega,rfl⟩ (by simp only [Agree,go_sem,simprocAttr]) rfl ?_
 rintro⟨k,hk,hinv⟩
 dsimp only
 by_cases hlt:k<(l).length
 ·have hlt2:decide ((k:Int)<(((l).length:Nat):Int))=true:=decide_eq_true (by omega)
  obtain⟨z,hz⟩:∃z,(l)[k]? = some z:=⟨_,List.getElem?_eq_getElem hlt⟩
  have hzm:z∈(l):=List.mem_of_getElem? hz
  have hzt:=take_snocA hz
  have hix:∀q2,ixD (some 13) q2 (.a (.sl ((l).map Vr.at))) (.a (.v (.int .i64 (k:Int))))=some (.a (.ref (Vr.at z) 0)):=fun q2=>ixD_at rfl (by rw [List.getElem?_map,hz];rfl) (by simp only [go_sem])
  have hw:k<9223372036854775807:=by omega
  skip
  replace fx:=And.intro hlt2 (And.intro hix (And.intro hw trivial))
  repeat' (first|refine stp [0,1,2,6,7,11,39] ?_|(refine stc (r1:=by first|exact pName z.name (by have:=(hv z hzm).1;omega)|exact pWritten z.ty p (hv z hzm).2) (r2:=?_);refine rnx ?_)|refine WP.cn (fun hc=>?_) (fun hc=>?_)|fail)
  ·refine bool_eq ?_
   rw [hse,show (l).all (vrB p)=false by rw [List.all_eq_false];exact⟨z,hzm,by simp only [vrB,List.all_cons,List.all_nil,Bool.and_true,Bool.true_and];unfold bne;revert hc;cases (z.ty.kind==0)<;>cases nameB z.name<;>cases wrB z.ty p<;>simp⟩];rfl
  ·refine⟨⟨k+1,by omega,by rw [hzt,List.all_append,hinv];simp only [vrB,List.all_cons,List.all_nil,Bool.and_true,Bool.true_and];unfold bne;revert hc;cases (z.ty.kind==0)<;>cases nameB z.name<;>cases wrB z.ty p<;>simp⟩,by dsimp only;omega,?_,rfl⟩
   simp only [Agree,go_sem,simprocAttr]
 obtain rfl:k=(l).length:=by omega
 rw [List.take_length] at hinv
 have hlt2:decide (((l).length:Int)<((l).length:Int))=false:=decide_eq_false (by omega)
 replace fx:=And.intro hlt2 trivial
 repeat' (first|refine stp [0,1,2,6,7,11,39] ?_|refine WP.cn (fun hc=>?_) (fun hc=>?_)|fail)
 exact bool_eq (by rw [hse,hinv];rfl)
theorem pOpen (l:List St) (p:Int) (hz:St.szs l≤1048576):DPure Tryz.prog 213 [.a (.sl (l.map St.at)),.a (.v (.int .i64 p))] (.a (.v (.bool (St.opensB p l)))):=by
 have hll:=St.szs_len l
 have IB:∀k∈l,DPure Tryz.prog 213 [.a (.sl (k.body.map St.at)),.a (.v (.int .i64 p))] (.a (.v (.bool (St.opensB p k.body)))):=fun k hk=>pOpen k.body p (by have:=St.szs_mem hk;have:=k.sz_eq;omega)
 have IE:∀k∈l,DPure Tryz.prog 213 [.a (.sl (k.els.map St.at)),.a (.v (.int .i64 p))] (.a (.v (.bool (St.opensB p k.els)))):=fun k hk=>pOpen k.els p (by have:=St.szs_mem hk;have:=k.sz_eq;omega)
 have hse:=St.opensB_all p l
 refine DPure.go Tryz.func213 rfl Tryz.ntmps213 rfl rfl rfl (fun C hro=>?_)
 have fx:=trivial
 repeat' (first|refine stp [0,1,4,5,9,48] ?_|refine WP.cn (fun hc=>?_) (fun hc=>?_)|fail)
 refine WP.loop (α:={ k:Nat // k≤(l).length∧((l).take k).all (St.openB p)=true }) (fun y=>[(0,.a (.sl (l.map St.at))),(1,.a (.v (.int .i64 p))),(5,.a (.v (.int .i64 y.1)))]) (fun _=>[]) (fun y=>(l).length-y.1) ⟨0,by omega,rfl⟩ (by simp only [Agree,go_sem,simprocAttr]) rfl ?_
 rintro⟨k,hk,hinv⟩
 dsimp only
 by_cases hlt:k<(l).length
 ·have hlt2:decide ((k:Int)<(((l).length:Nat):Int))=true:=decide_eq_true (by omega)
  obtain⟨z,hz⟩:∃z,(l)[k]? = some z:=⟨_,List.getElem?_eq_getElem hlt⟩
  have hzm:z∈(l):=List.mem_of_getElem? hz
  have hzt:=take_snocA hz
  have hix:∀q2,ixD (some 23) q2 (.a (.sl ((l).map St.at))) (.a (.v (.int .i64 (k:Int))))=some (.a (.ref (St.at z) 0)):=fun q2=>ixD_at rfl (by rw [List.getElem?_map,hz];rfl) (by simp only [go_sem])
  have hw:k<9223372036854775807:=by omega
  skip
  replace fx:=And.intro hlt2 (And.intro hix (And.intro hw trivial))
  repeat' (first|refine stp [0,1,4,5,9,48] ?_|(refine stc (r1:=by first|exact IB _ hzm|exact IE _ hzm|exact pWritten z.ty p (by have:=St.szs_mem hzm;have:=z.sz_eq;omega)) (r2:=?_);refine rnx ?_)|refine WP.cn (fun hc=>?_) (fun hc=>?_)|fail)
  ·refine bool_eq ?_
   rw [hse,show (l).all (St.openB p)=false by rw [List.all_eq_false];exact⟨z,hzm,by simp only [St.open_eq,List.all_cons,List.all_nil,Bool.and_true,Bool.true_and];revert hc;cases (z.ty.kind==2)<;>cases wrB z.ty p<;>cases St.opensB p z.body<;>cases St.opensB p z.els<;>simp⟩]
  ·refine⟨⟨k+1,by omega,by rw [hzt,List.all_append,hinv];simp only [St.open_eq,List.all_cons,List.all_nil,Bool.and_true,Bool.true_and];revert hc;cases (z.ty.kind==2)<;>cases wrB z.ty p<;>cases St.opensB p z.body<;>cases St.opensB p z.els<;>simp⟩,by dsimp only;omega,?_,rfl⟩
   simp only [Agree,go_sem,simprocAttr]
 obtain rfl:k=(l).length:=by omega
 rw [List.take_length] at hinv
 have hlt2:decide (((l).length:Int)<((l).length:Int))=false:=decide_eq_false (by omega)
 replace fx:=And.intro hlt2 trivial
 repeat' (first|refine stp [0,1,4,5,9,48] ?_|refine WP.cn (fun hc=>?_) (fun hc=>?_)|fail)
 exact bool_eq (by rw [hse,hinv])
 termination_by St.szs l
 decreasing_by all_goals (have:=St.szs_mem hk;have:=k.sz_eq;omega)
theorem pMethod (m:Me) (p:Int) (hz:m.sz≤1048576):DPure Tryz.prog 157 [.r (Me.at m),.a (.v (.int .i64 p))] (.a (.v (.bool (m.rightB p)))):=by
 obtain⟨z1,z2,z3,z4,z5,z6⟩:=Me.szH hz
 have hll:=St.szs_len m.body
 have hse:m.rightB p=(m.body.all (St.rightB · p)&&(nameB m.name&&wrB m.ret p&&vrsB m.params 5 p&&vrsB m.locals 12 p&&St.opensB p m.body)):=rfl
 refine DPure.go Tryz.func157 rfl Tryz.ntmps157 rfl rfl rfl (fun C hro=>?_)
 have fx:=trivial
 repeat' (first|refine stp [0,1,2,4,5,10,20] ?_|refine WP.cn (fun hc=>?_) (fun hc=>?_)|fail)
 refine WP.loop (α:={ k:Nat // k≤(m.body).length∧((m.body).take k).all ((St.rightB · p))=true }) (fun y=>[(1,.a (.v (.int .i64 p))),(2,.a (.ptr 0 0)),(5,.a (.v (.int .i64 y.1)))]) (fun _=>[.cell (Me.at m)]) (fun y=>(m.body).length-y.1) ⟨0,by omega,rfl⟩ (by simp only [Agree,go_sem,simprocAttr]) rfl ?_
 rintro⟨k,hk,hinv⟩
 dsimp only
 by_cases hlt:k<(m.body).length
 ·have hlt2:decide ((k:Int)<(((m.body).length:Nat):Int))=true:=decide_eq_true (by omega)
  obtain⟨z,hz⟩:∃z,(m.body)[k]? = some z:=⟨_,List.getElem?_eq_getElem hlt⟩
  have hzm:z∈(m.body):=List.mem_of_getElem? hz
  have hzt:=take_snocA hz
  have hix:∀q2,ixD (some 23) q2 (.a (.sl ((m.body).map St.at))) (.a (.v (.int .i64 (k:Int))))=some (.a (.ref (St.at z) 0)):=fun q2=>ixD_at rfl (by rw [List.getElem?_map,hz];rfl) (by simp only [go_sem])
  have hw:k<9223372036854775807:=by omega
  skip
  replace fx:=And.intro hlt2 (And.intro hix (And.intro hw trivial))
  repeat' (first|refine stp [0,1,2,4,5,10,20] ?_|(refine stc (r1:=by exact pStRight z p (by have:=St.szs_mem hzm;omega)) (r2:=?_);refine rnx ?_)|refine WP.cn (fun hc=>?_) (fun hc=>?_)|fail)
  ·refine bool_eq ?_
   rw [hse,show (m.body).all ((St.rightB · p))=false by rw [List.all_eq_false];exact⟨z,hzm,by simpa using hc⟩];rfl
  ·refine⟨⟨k+1,by omega,by rw [hzt,List.all_append,hinv];simpa using hc⟩,by dsimp only;omega,?_,rfl⟩
   simp only [Agree,go_sem,simprocAttr]
 obtain rfl:k=(m.body).length:=by omega
 rw [List.take_length] at hinv
 have hlt2:decide (((m.body).length:Int)<((m.body).length:Int))=false:=decide_eq_false (by omega)
 rw [hinv,Bool.true_and] at hse
 replace fx:=And.intro hlt2 trivial
 repeat' (first|refine stp [0,1,2,4,5,10,20] ?_|(refine stc (r1:=by first|exact pName _ (by omega)|exact pWritten _ p (by omega)|exact pVarsR m.params 5 p z3|exact pVarsR m.locals 12 p z4|exact pOpen _ p z5) (r2:=?_);refine rnx ?_)|refine WP.cn (fun hc=>?_) (fun hc=>?_)|fail)
 exact bool_eq (by rw [hse])
end Go.Proofs.YtibdalkdgjghoaaGreatDoor
