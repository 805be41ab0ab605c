/- Loops over functions whose rounds may call back in their turn, and to which blocks are given. No program in sight. Conditions: none. -/
import Derived.Test.YtfbopaaambkfkaaGreatDoorMg18
import Derived.Test.YtfbopaaambkfkaaGreatDoorMg19
import Derived.Lib.AppendZeros
set_option linter.unusedVariables false
set_option maxRecDepth 100000
set_option maxHeartbeats 8000000
set_option linter.unusedSimpArgs false
namespace Go.Proofs.YtfbopaaambkfkaaGreatDoor
open Go.RowKit
/-! ### Blocks given away -/
/-! ### A round -/
section
variable {P:Program} {on:Prop} {N0 gv xo Dp:Nat→Prop} {Vs:Vw} {W1:World} {l:Nat} {ms:List Nat} {st:List Bx} {lo:Loop} {bl:List Nat}
end
/-! ### What comes of a round -/
section
variable {P:Program} {C:Cx P} {n:Nat} {N0 gv:Nat→Prop} {Vs:Vw} {W1:World} {l:Nat} {ms:List Nat} {tm:Array Value} {e eo:Nat→D} {ps:Array Tmp} {assign body:Code} {fn dB:Nat} {sto:Nat→List Bx} {Q:Exit→(Nat→D)→List Bx→Prop} {tl:List (List D)} {Inv:Nat→Prop} {gh:Nat→D}
end
/-! ### The rule -/
theorem fnA_inv {V:Vw} {f:FuncId} {caps:List A} {u:Value} (h:RepD V (.a (.fn f caps)) u):∃vs:List Value,u=.func (.func f) #[] vs.toArray∧vs.length=caps.length∧∀(i:Nat) (y:A),caps[i]? = some y→RepA V y (vs.getD i Go.undef):=by
 cases h with
 | a _ _ h=>cases h with
  | c _ _ h=>cases h with
   | fn _ _ vs hl h=>exact⟨vs,rfl,hl,fun i y hi=>.c _ _ (h i y hi)⟩
  | fn _ _ vs hl h=>exact⟨vs,rfl,hl,h⟩
theorem qaa.goV {P:Program} {f:FuncId} {fn:Func} {c:Code} {n:Nat} {rs:List ResultVar} {ds:List D} {d:D} (hf:P.funcs[f]? = some fn) (hb:fn.body=some c) (hn:fn.ntmps=n) (hr:fn.results=⟨rs⟩) (hnm:(fn.name == "runtime.NumGoroutine")=false) (hl:(decide (ds.length≤n)&&decide (n≤1000000))=true)
  (h:∀C:Cx P,C.ro=none→C.V0.st=[]→WP C n c (retN P n rs d) (qau 0 ds) []):qaa P f ds d:=by
 rw [Bool.and_eq_true,decide_eq_true_iff,decide_eq_true_iff] at hl
 refine⟨qbp hf hb hnm,fun w x vs hx hgd hvl hrr=>?_⟩
 have hsat:Sat (Cx.pure P w x) (Cx.pure P w x).V0 { tmps:=vs.toArray++Array.replicate (fn.ntmps-vs.toArray.size) Go.undef,defers:=[] } n (qau 0 ds):=by
  refine⟨[],⟨rfl,by simp,fun D hD=>by simp at hD⟩,⟨by simp;omega,fun t _=>qde (by omega) hvl hrr t,.out hx hgd,.refl _,.refl _ _,fun b hb=>by have hb:b∈([]:List Nat):=hb;simp at hb,fun b hb=>by have hb:b∈([]:List Nat):=hb;simp at hb,fun _ h=>h,fun h=>h.elim,fun _ h=>.inl h,fun _ h=>h.elim,fun _ h=>h.elim⟩,?_⟩
  rw [qda (by omega)];trivial
 refine qfk (C:=Cx.pure P w x) (RQ:=fun e st=>resL P n e st fn.results.toList d) hf hb rfl hsat ((h _ rfl rfl).mono fun ex e st hq=>?_) ?_
 ·have:fn.results.toList=rs:=by rw [hr]
  cases ex with
  | normal=>show resL P n e st fn.results.toList d;rw [this];exact hq
  | ret=>show resL P n e st fn.results.toList d;rw [this];exact hq
  | _=>exact hq
 ·intro tm V' e' hm _ hq
  obtain⟨v,h1,h2⟩:=qeq hm hq
  exact⟨v,h1,v,rfl,hm.fr.grw,h2.lessOut hm.x0⟩
section
variable {P:Program} {C:Cx P} {ops:Array Oper} {r:List Oper} {st:List Bx} {e:Nat→D} {dst:Option Nat} {o:Oper} {K:(Nat→D)→List Bx→Prop}
theorem OpJ.pickB {st:List Bx} {c x y:Operand} {b:Bool} (ho:o.op=.pick c x y) (hc:evO e c=.a (.v (.bool b))):OpJ P st e o (bif b then evO e x else evO e y):=by
 intro ρ V _ _ hu
 rw [ho] at hu
 have h1:=hu c (by simp only [qaq];split<;>simp)
 rw [hc] at h1
 obtain⟨h1,_⟩:=h1.v_inv
 simp only [execOp,ho,h1,asBool]
 cases b
 ·have h2:=hu y (by simp [qaq,h1])
  exact .val h2
 ·have h2:=hu x (by simp [qaq,h1])
  exact .val h2
theorem RS.pk {c x y:Operand} {b:Bool} {d:D} {ty:TypeId} {pos:String} {after:Array Edge} {guard:Option (Nat×Bool)} (h:RS C ops r (putE e dst d) st K) (hc:evO e c=.a (.v (.bool b)):=by (simp only [go_sem,simprocAttr,fx])<;>rfl) (hd:(bif b then evO e x else evO e y)=d:=by (simp only [go_sem,simprocAttr,fx])<;>rfl):RS C ops (⟨dst,.pick c x y,ty,pos,after,guard⟩::r) e st K:=by
 subst hd
 exact .inl ⟨_,st,.inr ⟨rfl,.of (.pickB rfl hc)⟩,h⟩
theorem RS.gF {j:Nat} {b x:Bool} (h:RS C ops r (putE e o.dst .junk) st K) (hg:o.guard=some (j,b):=by rfl) (hx:(qb7 ops j).map e=some (.a (.v (.bool x))):=by (simp only [go_sem,simprocAttr,qb7,fx])<;>rfl) (hb:(x != b)=true:=by rfl):RS C ops (o::r) e st K:=by
 refine .inl ⟨.junk,st,.inr ⟨rfl,?_⟩,h⟩
 unfold qcb
 rw [hg]
 simp only [hx]
 intro h2
 subst h2
 simp at hb
@[go_sem] theorem pick3_j1 {c y:D}:qjj c .junk y=none:=by unfold qjj;split<;>simp_all
@[go_sem] theorem pick3_j2 {c x:D}:qjj c x .junk=none:=by unfold qjj;split<;>simp_all
@[go_sem] theorem bin2_j1 {b:Bool} {ls:Option (List Nat)} {op:BinOp} {y:D}:bin2 b ls op .junk y=none:=by unfold bin2;split<;>simp_all
@[go_sem] theorem ixD_j1 {n:Option Nat} {ar:Option (Nat×Nat)} {y:D}:ixD n ar .junk y=none:=by unfold ixD;split<;>simp_all
section
variable {P:Program} {st:List Bx} {e:Nat→D} {dst:Option Nat} {ty T T':TypeId} {pos:String} {after:Array Edge} {guard:Option (Nat×Bool)} {x y c i:Operand}
@[go_sem] theorem evG_pick:evG P st e ⟨dst,.pick c x y,ty,pos,after,guard⟩=none:=rfl
@[go_sem] theorem evG_un {op:UnOp}:evG P st e ⟨dst,.unOp op T x,ty,pos,after,guard⟩=none:=rfl
@[go_sem] theorem evG_load:evG P st e ⟨dst,.load T x,ty,pos,after,guard⟩=none:=rfl
@[go_sem] theorem evG_faddr {k:Nat}:evG P st e ⟨dst,.fieldAddr T x k,ty,pos,after,guard⟩=none:=rfl
@[go_sem] theorem evG_iaddr:evG P st e ⟨dst,.indexAddr T x i,ty,pos,after,guard⟩=none:=rfl
@[go_sem] theorem evG_extract {k:Nat}:evG P st e ⟨dst,.extract x k,ty,pos,after,guard⟩=none:=rfl
@[go_sem] theorem evG_nil:evG P st e ⟨dst,.nilCheck x,ty,pos,after,guard⟩=none:=rfl
end
end
section
variable {P:Program} {ops:Array Oper} {r:List Oper} {e:Nat→D} {st:List Bx} {dst:Option Nat} {ty T:TypeId} {pos:String} {after:Array Edge} {x ix:Operand} {ok wd:Bool} {j:Nat} {k:KS} {es2:List (Value×List A)} {kv:Value} {z:List A} {K:(Nat→D)→Prop} {d:D} {guard:Option (Nat×Bool)}
end
@[go_sem] theorem putRow_z {l:List A}:qak l 0 []=l:=by simp [qak]
@[go_sem] theorem putRow_c {a x:A} {l xs:List A}:qak (a::l) 0 (x::xs)=x::qak l 0 xs:=by simp [qak]
@[go_sem] theorem putRow_s {a:A} {l xs:List A} {n:Nat}:qak (a::l) (n+1) xs=a::qak l n xs:=by simp [qak,Nat.add_right_comm]
@[go_sem] theorem ldRow_w0 {a:A} {l:List A} {n:Nat}:qap (some (n+1)) (a::l) 0=if n≤l.length then some (.r (a::l.take n)) else none:=by
 simp only [qap,List.length_cons,List.drop_zero,List.take_succ_cons,Nat.zero_add]
 congr 1
 exact propext (by omega)
@[go_sem] theorem seeA_vv {st:List Bx} {z:Value}:seeA st (.v z)=.v z:=rfl
attribute [go_sem] List.take_succ_cons List.take_zero List.drop_succ_cons List.drop_zero List.drop_nil List.take_nil List.cons_append List.nil_append List.length_cons List.length_nil
section
variable {P:Program} {C:Cx P} {ops:Array Oper} {r:List Oper} {e:Nat→D} {st:List Bx} {dst:Option Nat} {ty T:TypeId} {pos:String} {after:Array Edge} {K:(Nat→D)→List Bx→Prop} {guard:Option (Nat×Bool)} {n bs:Nat} {zr:List A} {rows:List (List A)}
@[go_sem] theorem evQ_litG {len:Nat} {q:Array (Nat×Operand)}:evQ P st e ⟨dst,.buildSlice T len q,ty,pos,after,guard⟩=none:=rfl
@[go_sem] theorem evG_litG {len:Nat} {q:Array (Nat×Operand)}:evG P st e ⟨dst,.buildSlice T len q,ty,pos,after,guard⟩=none:=rfl
theorem RS.ls {len:Nat} {parts:List (Nat×Operand)} (k:RS C ops r (putE e dst (.a (.sl rows))) st K) (hn:es P T=some n:=by (simp only [go_sem])<;>rfl) (hn0:0<n:=by decide) (hlen:0<len:=by decide) (hz:zrT P T=some zr:=by (simp only [go_sem])<;>rfl) (hzl:zr.length=n:=by (simp only [go_sem])<;>rfl) (hcl:zr.all clA=true:=by (simp only [go_sem])<;>rfl) (hby:byt P T=some bs:=by (simp only [go_sem])<;>rfl) (hsm:len*n≤16777216:=by decide)
  (hp:qc5 n (List.replicate len zr) (parts.map fun p=>(p.1,evO e p.2))=some rows:=by (simp only [go_sem,simprocAttr,List.replicate_succ,List.replicate_zero,fx])<;>rfl):RS C ops (⟨dst,.buildSlice T len ⟨parts⟩,ty,pos,after,guard⟩::r) e st K:=RS.litS hn hn0 hlen hz hzl hcl hby hsm hp k
end
section
variable {P:Program} {st:List Bx} {e:Nat→D} {o:Oper}
end
section
variable {P:Program} {C:Cx P} {ops:Array Oper} {r:List Oper} {e:Nat→D} {st:List Bx} {dst:Option Nat} {ty T TI:TypeId} {pos:String} {after:Array Edge} {K:(Nat→D)→List Bx→Prop} {guard:Option (Nat×Bool)} {n len bs:Nat} {zr:List A} {x s hi:Operand} {k:IntKind}
end
section
variable {P:Program} {C:Cx P} {ops:Array Oper} {r:List Oper} {e:Nat→D} {st:List Bx} {dst:Option Nat} {ty:TypeId} {pos:String} {after:Array Edge} {K:(Nat→D)→List Bx→Prop} {f:FuncId} {y:Operand} {xs:List Operand} {tys:Array TypeId} {vs ds:List D} {σ:List Nat} {bs bs' st0 st1 st':List Bx} {d d' g:D}
theorem WS.callvM {caps:List A} (hy:evO e y=.a (.fn f caps)) (hx:xs.map (evO e)++caps.map D.a=vs) (hs:σ.map (fun i=>st.getD i .gone)=bs) (hin:qd8 σ bs vs=true) (hu:vs.map (unD σ)=ds) (hv:bs.map (unB σ)=st0) (hg:e 1000000=g) (hp:DM P f ds st0 d st1) (hne:0<st1.length) (hd:rnD (rnX σ st.length (st1.length-σ.length)) d=d')
  (hst:mrg σ st (st1.map (rnB (rnX σ st.length (st1.length-σ.length))))=st'):WS C g st e ⟨dst,.call ⟨.value y,⟨xs⟩,tys⟩,ty,pos,after,none⟩ d' st':=by
 refine⟨rfl,hg,?_⟩
 intro ρ V Nx hVs hok hsep hnx henv hur
 subst hVs
 rw [hg] at henv
 obtain⟨us,hf,hul,hvr⟩:=fnA_inv (f:=f) (caps:=caps) (by have:=hur y (by simp [qaq,Op.operands,Call.operands]);rwa [hy] at this)
 have hrun:(execOp ρ ⟨dst,.call ⟨.value y,⟨xs⟩,tys⟩,ty,pos,after,none⟩).run P V.w=.ok (.enter f ((⟨xs⟩:Array Operand).map ρ++us.toArray)) V.w:=by
  simp only [execOp,resolve,hf,Deferred.ofValue,Sem.run_bind,Sem.run_pure,Result.andThen_ok,invoke,Array.empty_append,hp.go.1]
 rw [hrun]
 refine⟨rfl,?_⟩
 have harr:(xs.map ρ++us).toArray=(⟨xs⟩:Array Operand).map ρ++us.toArray:=by apply Array.ext';simp
 rw [←harr]
 refine Go.Proofs.YtfbopaaambkfkaaGreatDoor.callM hs hin hu hv hp hne hd hst hok hsep henv (by rw [←hx];simp [hul]) fun k d2 hk=>?_
 rw [←hx,List.getElem?_append] at hk
 rw [List.getD_eq_getElem?_getD,List.getElem?_append]
 simp only [List.length_map] at hk ⊢
 split at hk
 ·rename_i hlt
  rw [if_pos hlt]
  rw [List.getElem?_map,Option.map_eq_some_iff] at hk
  obtain⟨z,hz,rfl⟩:=hk
  have:=hur z (by have:=lm4 hz;simp [qaq,Op.operands,Call.operands];right;simpa using this)
  rw [List.getElem?_map,hz];exact this
 ·rename_i hlt
  rw [if_neg hlt]
  rw [List.getElem?_map,Option.map_eq_some_iff] at hk
  obtain⟨z,hz,rfl⟩:=hk
  have:=hvr _ z hz
  rw [List.getD_eq_getElem?_getD] at this
  exact .a _ _ this
end
section
variable {P:Program} {st:List Bx} {e:Nat→D} {o:Oper}
end
section
variable {P:Program} {C:Cx P} {ops:Array Oper} {r:List Oper} {e:Nat→D} {st:List Bx} {dst:Option Nat} {ty T:TypeId} {pos:String} {after:Array Edge} {K:(Nat→D)→List Bx→Prop} {KQ:(Nat→D)→Prop} {guard:Option (Nat×Bool)} {i off len sz n m:Nat} {x:Operand} {σ:List Nat}
end
end Go.Proofs.YtfbopaaambkfkaaGreatDoor
