/- Plain answers on variables, methods, classes, programs. No program in sight. Conditions: none. -/
import Derived.Test.YthkojpnjdpbcgaaGreatDoorMh26
import Derived.Test.YthkojpnjdpbcgaaGreatDoorMh25
set_option linter.unusedVariables false
set_option maxRecDepth 100000
set_option maxHeartbeats 8000000
set_option linter.unusedSimpArgs false
namespace Go.Proofs.YthkojpnjdpbcgaaGreatDoor
open Go.RowKit
def qad {α:Type} (f:α→Nat):List α→Nat
 | []=>0
 | x::r=>f x+qad f r
theorem qas {α:Type} {f:α→Nat}:∀{l:List α} {k:α},k∈l→f k≤qad f l
 | e::r,k,h=>by
  rw [qad]
  rcases List.mem_cons.1 h with rfl|h
  ·omega
  ·have:=qas (f:=f) h;omega
theorem qav {α:Type} {f:α→Nat} (hf:∀x,0<f x):∀l:List α,l.length≤qad f l
 | []=>Nat.le_refl _
 | e::r=>by have:=qav hf r;have:=hf e;rw [qad,List.length_cons];omega
theorem qfp {α:Type} (f:α→Nat):∀(l m:List α),qad f (l++m)=qad f l+qad f m
 | [],m=>by rw [List.nil_append,qad];omega
 | e::r,m=>by rw [List.cons_append,qad,qad,qfp f r m];omega
theorem qhf {α:Type} (f:α→Nat) (x:α):qad f [x]=f x:=by rw [qad,qad];omega
theorem qcr {α:Type} (f:α→Nat):∀(l:List α) (k:Nat),qad f (l.take k)≤qad f l
 | [],k=>by simp
 | e::r,0=>by rw [List.take_zero,qad];omega
 | e::r,k+1=>by rw [List.take_succ_cons,qad,qad];have:=qcr f r k;omega
theorem qj4 {α:Type} {f g:α→Nat}:∀(l:List α),(∀x∈l,f x≤g x)→qad f l≤qad g l
 | [],_=>Nat.le_refl _
 | e::r,h=>by rw [qad,qad];have:=h e (by simp);have:=qj4 r fun x hx=>h x (by simp [hx]);omega
theorem qck:∀l:List St,St.szs l=qad St.sz l
 | []=>rfl
 | e::r=>by rw [St.szs,qad,qck r]
def Vr.sz (v:Vr):Nat:=1+v.name.length+v.ty.cls.length
theorem Vr.sz_pos (v:Vr):0<v.sz:=by unfold Vr.sz;omega
def Me.sz (m:Me):Nat:=1+m.name.length+m.ret.cls.length+qad Vr.sz m.params+qad Vr.sz m.locals+St.szs m.body
theorem Me.sz_pos (v:Me):0<v.sz:=by unfold Me.sz;omega
def Cs.sz (c:Cs):Nat:=1+c.name.length+c.super.length+qad (fun s:List UInt8=>s.length+1) c.params+c.above.length+qad Vr.sz c.fields+qad Me.sz c.methods
theorem Cs.sz_pos (v:Cs):0<v.sz:=by unfold Cs.sz;omega
theorem Me.szH {m:Me} {n:Nat} (h:m.sz≤n):m.name.length≤n∧m.ret.cls.length≤n∧qad Vr.sz m.params≤n∧qad Vr.sz m.locals≤n∧St.szs m.body≤n∧m.params.length+m.locals.length≤n:=by
 have:=qav Vr.sz_pos m.params
 have:=qav Vr.sz_pos m.locals
 unfold Me.sz at h;omega
theorem Cs.szH {c:Cs} {n:Nat} (h:c.sz≤n):c.name.length≤n∧c.super.length≤n∧c.params.length≤n∧(∀s∈c.params,s.length≤n)∧c.above.length≤n∧qad Vr.sz c.fields≤n∧qad Me.sz c.methods≤n∧c.fields.length≤n∧c.methods.length≤n:=by
 have:=qav Vr.sz_pos c.fields
 have:=qav Me.sz_pos c.methods
 have:=qav (f:=fun s:List UInt8=>s.length+1) (fun _=>Nat.succ_pos _) c.params
 unfold Cs.sz at h
 refine⟨by omega,by omega,by omega,fun s hs=>?_,by omega,by omega,by omega,by omega,by omega⟩
 have:=qas (f:=fun s:List UInt8=>s.length+1) hs
 omega
/-! The same, one by one; places, too, where q. -/
def Vr.sameB (q:Bool) (a b:Vr):Bool:=a.name==b.name&&(decide (a.ty=b.ty)&&!(q&&a.at_ != b.at_))
namespace St
end St
/-! Holes. -/
/-! Whether it may be. -/
mutual
def St.openB (p:Int):St→Bool
 | ⟨_,_,_,_,t,_,_,body,els,_⟩=>!(t.kind==2&&!wrB t p||!St.opensB p body||!St.opensB p els)
def St.opensB (p:Int):List St→Bool
 | []=>true
 | e::r=>e.openB p&&St.opensB p r
end
def Me.rightB (p:Int) (m:Me):Bool:=m.body.all (St.rightB · p)&&(qau m.name&&wrB m.ret p&&vrsB m.params 5 p&&vrsB m.locals 12 p&&St.opensB p m.body)
def abB (p:Int) (o:Int×Int):Bool:=!(!owB o p||o.1 != 2&&o.1 != 3&&o.1 != 4)
def Cs.rightB (c:Cs):Bool :=
 c.params.all qau&&(c.above.all (abB c.params.length)&&(c.methods.all (Me.rightB c.params.length)&&(qau c.name&&decide ((c.params.length:Int)≤3)&&(c.super==[]&&(c.above.length:Int)==0||qau c.super&&decide ((c.above.length:Int)≤3))&&vrsB c.fields 12 c.params.length&&decide ((c.methods.length:Int)≤12))))
def Cs.stmts (c:Cs):Nat:=qad (fun m:Me=>St.cnts m.body) c.methods
def rightB (l:List Cs):Bool:=l.all (fun c=>!(decide ((l.length:Int)>20)||!c.rightB))&&decide (((qad Cs.stmts l:Nat):Int)≤400)
end Go.Proofs.YthkojpnjdpbcgaaGreatDoor
namespace Go.Proofs.YthkojpnjdpbcgaaGreatDoor
open Go.RowKit
set_option maxRecDepth 100000
theorem pSize:∀(m:Nat) (s:St),s.sz≤m→s.sz≤1048576→qaa Tryz.prog 18 [.r (St.at s)] (.a (.v (.int .i64 s.cnt)))
 | 0,s,h,_=>by have:=s.sz_pos;omega
 | m+1,s,h,hz0=>by
  have IH:∀k,k.sz<s.sz→qaa Tryz.prog 18 [.r (St.rw k)] (.a (.v (.int .i64 k.cnt))):=fun k hk=>by rw [←St.at_rw];exact pSize m k (by omega) (by omega)
  have IB:∀k∈s.body,_:=fun k hk=>IH k (by have:=St.body_lt hk;omega)
  have IE:∀k∈s.els,_:=fun k hk=>IH k (by have:=St.els_lt hk;omega)
  have hse:=s.sz_eq
  have hl1:=St.szs_len s.body
  have hl2:=St.szs_len s.els
  have hce:=s.cnt_eq
  have hcl:=(St.deep_le s.sz s (Nat.le_refl _)).2
  rw [St.at_rx]
  refine qaa.vx [0,1,2,3,4,5,10,25] Tryz.func18 rfl Tryz.ntmps18 rfl rfl rfl (fun C hro hst=>?_)
  repeat' ((conv=>whnf);first|refine stv ?_|fail)
  conv=>whnf
  refine VL.each s.body St.rw (fun k=>[(1,.a (.ptr 0 0)),(3,.a (.v (.int .i64 ((1+St.cnts (s.body.take k):Nat):Int)))),(4,.a (.v (.int .i64 (k:Nat))))]) (fun _=>[.cell (St.rx s)]) (fun _=>True) ⟨rfl,rfl,rfl,trivial⟩ rfl trivial (by omega) ?_ ?_
  ·intro k z hz hd htk hlt _ hlt2 hix hw
   have IH:=IB z (lm4 hz)
   repeat' ((conv=>whnf);first|(show VI ..;refine xI (fun _=>by exact hix) ?_)|refine stv ?_|(show VB ..;refine VB.tt (by exact hlt2) ?_)|(show VC ..;refine xC (fun hg=>by exact IH) ?_))
   conv=>whnf
   exact⟨trivial,[],⟨rfl,congrArg (fun z=>D.a (.v (.int .i64 z))) (by have hT:=St.cnts_take s.body (k+1);rw [htk,St.cnts_app,St.cnts_one] at hT ⊢;rw [qbl (by omega) (by omega)];omega),congrArg (fun z=>D.a (.v (.int .i64 z))) hw,trivial⟩,rfl,rfl,rfl⟩
  intro _ hlt2
  rw [List.take_length]
  repeat' ((conv=>whnf);first|refine stv ?_|(show VB ..;refine VB.ff (by exact hlt2) ?_))
  conv=>whnf
  refine VL.each s.els St.rw (fun k=>[(1,.a (.ptr 0 0)),(3,.a (.v (.int .i64 ((1+St.cnts s.body+St.cnts (s.els.take k):Nat):Int)))),(5,.a (.v (.int .i64 (k:Nat))))]) (fun _=>[.cell (St.rx s)]) (fun _=>True) ⟨rfl,rfl,rfl,trivial⟩ rfl trivial (by omega) ?_ ?_
  ·intro k z hz hd htk hlt _ hlt2 hix hw
   have IH:=IE z (lm4 hz)
   repeat' ((conv=>whnf);first|(show VI ..;refine xI (fun _=>by exact hix) ?_)|refine stv ?_|(show VB ..;refine VB.tt (by exact hlt2) ?_)|(show VC ..;refine xC (fun hg=>by exact IH) ?_))
   conv=>whnf
   exact⟨trivial,[],⟨rfl,congrArg (fun z=>D.a (.v (.int .i64 z))) (by have hT:=St.cnts_take s.els (k+1);rw [htk,St.cnts_app,St.cnts_one] at hT ⊢;rw [qbl (by omega) (by omega)];omega),congrArg (fun z=>D.a (.v (.int .i64 z))) hw,trivial⟩,rfl,rfl,rfl⟩
  intro _ hlt2
  rw [List.take_length]
  repeat' ((conv=>whnf);first|refine stv ?_|(show VB ..;refine VB.ff (by exact hlt2) ?_))
  exact qaw (by omega)
theorem pStDeep:∀(m:Nat) (s:St),s.sz≤m→s.sz≤1048576→qaa Tryz.prog 123 [.r (St.at s)] (.a (.v (.int .i64 s.deep)))
 | 0,s,h,_=>by have:=s.sz_pos;omega
 | m+1,s,h,hz0=>by
  have IH:∀k,k.sz<s.sz→qaa Tryz.prog 123 [.r (St.rw k)] (.a (.v (.int .i64 k.deep))):=fun k hk=>by rw [←St.at_rw];exact pStDeep m k (by omega) (by omega)
  have IB:∀k∈s.body,_:=fun k hk=>IH k (by have:=St.body_lt hk;omega)
  have IE:∀k∈s.els,_:=fun k hk=>IH k (by have:=St.els_lt hk;omega)
  have hse:=s.sz_eq
  have hl1:=St.szs_len s.body
  have hl2:=St.szs_len s.els
  have hce:=s.deep_eq
  have hcl:=(St.deep_le s.sz s (Nat.le_refl _)).1
  rw [St.at_rx]
  refine qaa.vx [0,1,2,3,4,5,10,25] Tryz.func123 rfl Tryz.ntmps123 rfl rfl rfl (fun C hro hst=>?_)
  repeat' ((conv=>whnf);first|refine stv ?_|fail)
  conv=>whnf
  refine VL.each s.body St.rw (fun k=>[(1,.a (.ptr 0 0)),(3,.a (.v (.int .i64 ((St.deeps (s.body.take k):Nat):Int)))),(4,.a (.v (.int .i64 (k:Nat))))]) (fun _=>[.cell (St.rx s)]) (fun _=>True) ⟨rfl,rfl,rfl,trivial⟩ rfl trivial (by omega) ?_ ?_
  ·intro k z hz hd htk hlt _ hlt2 hix hw
   have IH:=IB z (lm4 hz)
   repeat' ((conv=>whnf);first|(show VI ..;refine xI (fun _=>by exact hix) ?_)|refine stv ?_|(show VB ..;refine VB.tt (by exact hlt2) ?_)|(show VC ..;refine xC (fun hg=>by exact IH) ?_))
   conv=>whnf
   exact⟨trivial,[],⟨rfl,congrArg (fun z=>D.a (.v (.int .i64 z))) (by rw [htk,St.deeps_app,St.deeps_one];exact qk3 _ _),congrArg (fun z=>D.a (.v (.int .i64 z))) hw,trivial⟩,rfl,rfl,rfl⟩
  intro _ hlt2
  rw [List.take_length]
  repeat' ((conv=>whnf);first|refine stv ?_|(show VB ..;refine VB.ff (by exact hlt2) ?_))
  conv=>whnf
  refine VL.each s.els St.rw (fun k=>[(1,.a (.ptr 0 0)),(3,.a (.v (.int .i64 ((max (St.deeps s.body) (St.deeps (s.els.take k)):Nat):Int)))),(5,.a (.v (.int .i64 (k:Nat))))]) (fun _=>[.cell (St.rx s)]) (fun _=>True) ⟨rfl,congrArg (fun n:Nat=>D.a (.v (.int .i64 (n:Int)))) (Nat.max_zero _).symm,rfl,trivial⟩ rfl trivial (by omega) ?_ ?_
  ·intro k z hz hd htk hlt _ hlt2 hix hw
   have IH:=IE z (lm4 hz)
   repeat' ((conv=>whnf);first|(show VI ..;refine xI (fun _=>by exact hix) ?_)|refine stv ?_|(show VB ..;refine VB.tt (by exact hlt2) ?_)|(show VC ..;refine xC (fun hg=>by exact IH) ?_))
   conv=>whnf
   exact⟨trivial,[],⟨rfl,congrArg (fun z=>D.a (.v (.int .i64 z))) (by rw [htk,St.deeps_app,St.deeps_one,←Nat.max_assoc];exact qk3 _ _),congrArg (fun z=>D.a (.v (.int .i64 z))) hw,trivial⟩,rfl,rfl,rfl⟩
  intro _ hlt2
  rw [List.take_length]
  repeat' ((conv=>whnf);first|refine stv ?_|(show VB ..;refine VB.ff (by exact hlt2) ?_))
  rw [qap (by omega)]
  exact qaw (by omega)
theorem beqF {k c:Int} (h:k≠c):(k==c)=false:=by simpa using h
theorem pBlank (s:St):qaa Tryz.prog 211 [.r (St.at s)] (.r (St.at s.blank)):=by
 by_cases hin:1≤s.kind∧s.kind≤11
 ·rw [St.at_rx s,St.at_rx s.blank]
  have:s.kind=1∨s.kind=2∨s.kind=3∨s.kind=4∨s.kind=5∨s.kind=6∨s.kind=7∨s.kind=8∨s.kind=9∨s.kind=10∨s.kind=11:=by omega
  obtain⟨kind,x,y,name,ty,e,args,body,els,at_⟩:=s
  dsimp only at this
  rcases this with rfl|rfl|rfl|rfl|rfl|rfl|rfl|rfl|rfl|rfl|rfl
  all_goals
   refine qaa.vx [0,1,2,3,27,46,57,64,88,92,99,102] Tryz.func211 rfl Tryz.ntmps211 rfl rfl rfl (fun C hro hst=>?_)
   repeat' ((conv=>whnf);first|refine stv ?_|(show VB ..;first|refine VB.tt (by rfl) ?_|refine VB.ff (by rfl) ?_))
   rfl
 ·have h:=fun c (h1:1≤c∧c≤11)=>beqF (show s.kind≠c by omega)
  have hb:s.blank=s:=by
   have h1:=h 1 (by decide)
   have h2:=h 2 (by decide)
   have h3:=h 3 (by decide)
   have h4:=h 4 (by decide)
   have h5:=h 5 (by decide)
   have h6:=h 6 (by decide)
   have h7:=h 7 (by decide)
   have h8:=h 8 (by decide)
   have h9:=h 9 (by decide)
   have h10:=h 10 (by decide)
   have h11:=h 11 (by decide)
   simp only [beq_eq_false_iff_ne] at *
   simp [St.blank, *]
   cases s;rfl
  rw [hb,St.at_rx]
  refine qaa.vx [0,1,2,3,27,46,57,64,88,92,99,102] Tryz.func211 rfl Tryz.ntmps211 rfl rfl rfl (fun C hro hst=>?_)
  repeat' ((conv=>whnf);first|refine stv ?_|(show VB ..;refine VB.ff (by (refine (?_:(_:Bool)=false);(repeat' refine orF ?_ ?_)<;>exact h _ (by decide))) ?_))
  rfl
end Go.Proofs.YthkojpnjdpbcgaaGreatDoor
namespace Go.Proofs.YthkojpnjdpbcgaaGreatDoor
open Go.RowKit
theorem blank_sz (s:St):s.blank.e.sz≤s.sz∧s.blank.args.length≤s.args.length∧s.blank.body.length≤s.body.length∧s.blank.els.length≤s.els.length:=by
 have:=s.sz_eq
 have h0:Ex.zero.sz=1:=rfl
 unfold St.blank
 refine⟨?_,?_,?_,?_⟩<;>(dsimp only;split<;>(try simp only [List.length_nil,h0])<;>omega)
theorem pOnly (s:St) (hz:s.sz≤1048576):qaa Tryz.prog 178 [.r (St.at s)] (.a (.v (.bool s.onlyB))):=by
 have hb:=blank_sz s
 have hse:=s.sz_eq
 have hl1:=St.szs_len s.body
 have hl2:=St.szs_len s.els
 have hl3:=Ex.szs_len s.args
 have w1:IntKind.i64.wrap ((s.blank.args.length:Int)+(s.blank.body.length:Int))=((s.blank.args.length+s.blank.body.length:Nat):Int):=by rw [qbl (by omega) (by omega)];omega
 have w2:IntKind.i64.wrap (((s.blank.args.length+s.blank.body.length:Nat):Int)+(s.blank.els.length:Int))=((s.blank.args.length+s.blank.body.length+s.blank.els.length:Nat):Int):=by rw [qbl (by omega) (by omega)];omega
 refine qaa.go Tryz.func178 rfl Tryz.ntmps178 rfl rfl rfl (fun C hro=>?_)
 have fx:=trivial
 replace fx:=And.intro w1 (And.intro w2 trivial)
 repeat' (first|refine stp [0,1,2,3] ?_|(refine stc (r1:=by first|exact pBlank s|exact pESame _ s.blank.e Ex.zero (Nat.le_refl _) (by omega)) (r2:=?_);refine rnx ?_)|fail)
 refine qaj ?_
 unfold St.onlyB
 rfl
theorem pNames (s:St) (p:Int) (hz:s.sz≤1048576):qaa Tryz.prog 179 [.r (St.at s),.a (.v (.int .i64 p))] (.a (.v (.bool (s.namesB p)))):=by
 have hse:=s.sz_eq
 refine qaa.go Tryz.func179 rfl Tryz.ntmps179 rfl rfl rfl (fun C hro=>?_)
 have fx:=trivial
 repeat' (first|refine stp [0,1,2,4,5,6,7,8,9] ?_|(refine stc (r1:=by first|exact pName s.x (by omega)|exact pName s.y (by omega)|exact pName s.name (by omega)|exact pTyRight s.ty p (by omega)) (r2:=?_);refine rnx ?_)|fail)
 refine qaj ?_
 unfold St.namesB
 rfl
theorem pTells (s:St) (hz:s.sz≤1048576):qaa Tryz.prog 180 [.r (St.at s)] (.a (.v (.bool s.tellsB))):=by
 have hse:=s.sz_eq
 have hl3:=Ex.szs_len s.args
 have hte:s.tellsB=(!(!St.noneB s&&!s.e.rightB||s.kind==6&&s.e.kind != 2&&s.e.kind != 3&&s.e.kind != 4||decide ((s.args.length:Int)>5))&&s.args.all Ex.rightB):=rfl
 refine qaa.go Tryz.func180 rfl Tryz.ntmps180 rfl rfl rfl (fun C hro=>?_)
 have fx:=trivial
 repeat' (first|refine stp [0,1,2,3,4,5,71,76,85] ?_|(refine stc (r1:=by first|exact pESame _ s.e Ex.zero (Nat.le_refl _) (by omega)|exact qm6 s.e (by omega)) (r2:=?_);refine rnx ?_)|refine WP.cn (fun hc=>?_) (fun hc=>?_)|fail)
 ·refine qaj ?_
  rw [hte]
  unfold St.noneB
  rw [hc];rfl
 have hte:s.tellsB=s.args.all Ex.rightB:=by
  rw [hte]
  unfold St.noneB
  rw [hc];rfl
 refine WP.loop (α:={ k:Nat // k≤(s.args).length∧((s.args).take k).all (Ex.rightB)=true }) (fun y=>[(1,.a (.ptr 0 0)),(5,.a (.v (.int .i64 y.1)))]) (fun _=>[.cell (St.at s)]) (fun y=>(s.args).length-y.1) ⟨0,by omega,rfl⟩ (by simp only [qag,go_sem,simprocAttr]) rfl ?_
 rintro⟨k,hk,hinv⟩
 dsimp only
 by_cases hlt:k<(s.args).length
 ·have hlt2:decide ((k:Int)<(((s.args).length:Nat):Int))=true:=decide_eq_true (by omega)
  obtain⟨z,hz⟩:∃z,(s.args)[k]? = some z:=⟨_,List.getElem?_eq_getElem hlt⟩
  have hzm:z∈(s.args):=lm4 hz
  have hzt:=qan hz
  have hix:∀q2,ixD (some 4) q2 (.a (.sl ((s.args).map Ex.at))) (.a (.v (.int .i64 (k:Int))))=some (.a (.ref (Ex.at z) 0)):=fun q2=>qaq rfl (by rw [List.getElem?_map,hz];rfl) (by simp only [go_sem])
  have hw:k<9223372036854775807:=by omega
  skip
  replace fx:=And.intro hlt2 (And.intro hix (And.intro hw trivial))
  repeat' (first|refine stp [0,1,2,3,4,5,71,76,85] ?_|(refine stc (r1:=by exact qm6 z (by have:=Ex.szs_mem hzm;omega)) (r2:=?_);refine rnx ?_)|refine WP.cn (fun hc=>?_) (fun hc=>?_)|fail)
  ·refine qaj ?_
   rw [hte,show (s.args).all (Ex.rightB)=false by rw [List.all_eq_false];exact⟨z,hzm,by simpa using hc⟩]
  ·refine⟨⟨k+1,by omega,by rw [hzt,List.all_append,hinv];simpa using hc⟩,by dsimp only;omega,?_,rfl⟩
   simp only [qag,go_sem,simprocAttr]
 obtain rfl:k=(s.args).length:=by omega
 rw [List.take_length] at hinv
 have hlt2:decide (((s.args).length:Int)<((s.args).length:Int))=false:=decide_eq_false (by omega)
 replace fx:=And.intro hlt2 trivial
 repeat' (first|refine stp [0,1,2,3,4,5,71,76,85] ?_|fail)
 exact qaj (by rw [hte,hinv])
theorem pStForm (p:Int):∀(m:Nat) (s:St),s.sz≤m→s.sz≤1048576→qaa Tryz.prog 122 [.r (St.at s),.a (.v (.int .i64 p))] (.a (.v (.bool (St.formB p s))))
 | 0,s,h,_=>by have:=s.sz_pos;omega
 | m+1,s,h,hz0=>by
  have IH:∀k,k.sz<s.sz→qaa Tryz.prog 122 [.r (St.rw k),.a (.v (.int .i64 p))] (.a (.v (.bool (St.formB p k)))):=fun k hk=>by rw [←St.at_rw];exact pStForm p m k (by omega) (by omega)
  have IB:∀k∈s.body,_:=fun k hk=>IH k (by have:=St.body_lt hk;omega)
  have IE:∀k∈s.els,_:=fun k hk=>IH k (by have:=St.els_lt hk;omega)
  have hse:=s.sz_eq
  have hl1:=St.szs_len s.body
  have hl2:=St.szs_len s.els
  have g1:=pOnly s hz0
  have g2:=pNames s p hz0
  have g3:=pTells s hz0
  rw [St.form_eq p s,St.formsB_all,St.formsB_all]
  rw [St.at_rx] at g1 g2 g3 ⊢
  generalize s.onlyB=b1 at *
  generalize s.namesB p=b2 at *
  generalize s.tellsB=b3 at *
  refine qaa.vx [0,1,2,4,5,6,20,25,35,40,50] Tryz.func122 rfl Tryz.ntmps122 rfl rfl rfl (fun C hro hst=>?_)
  repeat' ((conv=>whnf);first|refine stv ?_|(show VB ..;refine VB.mk (fun hc=>?_) fun hc=>?_)|(show VC ..;refine xC (fun hg=>by first|exact g1|exact g2|exact g3) ?_))
  all_goals change ((!b1||!b2)||!b3)=_ at hc;rw [hc]
  ·rfl
  conv=>whnf
  refine VL.each s.body St.rw (fun k=>[(1,.a (.v (.int .i64 p))),(2,.a (.ptr 0 0)),(5,.a (.v (.int .i64 (k:Nat))))]) (fun _=>[.cell (St.rx s)]) (fun k=>(s.body.take k).all (St.formB p)=true) ⟨rfl,rfl,rfl,trivial⟩ rfl rfl (by omega) ?_ ?_
  ·intro k z hz hd htk hlt hI hlt2 hix hw
   have IH:=IB z (lm4 hz)
   repeat' ((conv=>whnf);first|(show VI ..;refine xI (fun _=>by exact hix) ?_)|refine stv ?_|(show VB ..;first|refine VB.tt (by exact hlt2) ?_|refine VB.mk (fun hc=>?_) fun hc=>?_)|(show VC ..;refine xC (fun hg=>by exact IH) ?_))
   ·rw [all_at hz hc];rfl
   ·conv=>whnf
    exact⟨all_on htk hI hc,[],⟨rfl,rfl,congrArg (fun z=>D.a (.v (.int .i64 z))) hw,trivial⟩,rfl,rfl,rfl⟩
  intro hI hlt2
  rw [List.take_length] at hI
  rw [hI]
  repeat' ((conv=>whnf);first|refine stv ?_|(show VB ..;refine VB.ff (by exact hlt2) ?_))
  conv=>whnf
  refine VL.each s.els St.rw (fun k=>[(1,.a (.v (.int .i64 p))),(2,.a (.ptr 0 0)),(6,.a (.v (.int .i64 (k:Nat))))]) (fun _=>[.cell (St.rx s)]) (fun k=>(s.els.take k).all (St.formB p)=true) ⟨rfl,rfl,rfl,trivial⟩ rfl rfl (by omega) ?_ ?_
  ·intro k z hz hd htk hlt hI hlt2 hix hw
   have IH:=IE z (lm4 hz)
   repeat' ((conv=>whnf);first|(show VI ..;refine xI (fun _=>by exact hix) ?_)|refine stv ?_|(show VB ..;first|refine VB.tt (by exact hlt2) ?_|refine VB.mk (fun hc=>?_) fun hc=>?_)|(show VC ..;refine xC (fun hg=>by exact IH) ?_))
   ·rw [all_at hz hc];rfl
   ·conv=>whnf
    exact⟨all_on htk hI hc,[],⟨rfl,rfl,congrArg (fun z=>D.a (.v (.int .i64 z))) hw,trivial⟩,rfl,rfl,rfl⟩
  intro hI hlt2
  rw [List.take_length] at hI
  rw [hI]
  repeat' ((conv=>whnf);first|refine stv ?_|(show VB ..;refine VB.ff (by exact hlt2) ?_))
  rfl
theorem pStRight (s:St) (p:Int) (hz:s.sz≤1048576):qaa Tryz.prog 60 [.r (St.at s),.a (.v (.int .i64 p))] (.a (.v (.bool (s.rightB p)))):=by
 refine qaa.go Tryz.func60 rfl Tryz.ntmps60 rfl rfl rfl (fun C hro=>?_)
 have fx:=trivial
 repeat' (first|refine stp [0,1,2,4] ?_|(refine stc (r1:=by first|exact pStForm p _ s (Nat.le_refl _) hz|exact pStDeep _ s (Nat.le_refl _) hz) (r2:=?_);refine rnx ?_)|fail)
 refine qaj ?_
 unfold St.rightB
 congr 1
 rw [Bool.eq_iff_iff];simp;omega
end Go.Proofs.YthkojpnjdpbcgaaGreatDoor
namespace Go.Proofs.YthkojpnjdpbcgaaGreatDoor
open Go.RowKit
end Go.Proofs.YthkojpnjdpbcgaaGreatDoor
namespace Go.Proofs.YthkojpnjdpbcgaaGreatDoor
open Go.RowKit
theorem zlen {α:Type} {l m:List α} (q:α×α→Bool) (h:l.length≠m.length):(l.length==m.length&&(l.zip m).all q)=false:=by
 rw [show (l.length==m.length)=false by simpa using h];rfl
theorem zeql {α:Type} {l m:List α} (q:α×α→Bool) (h:l.length=m.length):(l.length==m.length&&(l.zip m).all q)=(l.zip m).all q:=by
 rw [show (l.length==m.length)=true by simpa using h];rfl
theorem lenB {a b:Nat} (hc:((a:Int) != (b:Int))=true):a≠b:=by rintro rfl;simp at hc
theorem lenE {a b:Nat} (hc:((a:Int) != (b:Int))=false):a=b:=by simp only [bne_eq_false_iff_eq] at hc;omega
end Go.Proofs.YthkojpnjdpbcgaaGreatDoor
