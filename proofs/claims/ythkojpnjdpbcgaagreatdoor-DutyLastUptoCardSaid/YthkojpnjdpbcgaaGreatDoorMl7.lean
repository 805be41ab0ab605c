/- Loops over functions on plain data: who ranges, and who is ranged over. No program in sight. Conditions: none. -/
import Derived.Test.YthkojpnjdpbcgaaGreatDoorMl6
set_option linter.unusedVariables false
set_option maxRecDepth 100000
set_option maxHeartbeats 8000000
set_option linter.unusedSimpArgs false
namespace Go.Proofs.YthkojpnjdpbcgaaGreatDoor
open Go.RowKit
def DG {P:Program} (E:Env P) (f:FuncId) (ds:List D) (st0:List Bx) (g:D) (O:D→List Bx→D→Prop):Prop :=
 (∀(args:Array Value) (W:World),(callFunc f args).run P W=.ok (.enter f args) W) ∧
 ∀(V:Vw) (Nx:Nat→Prop) (vs:List Value),V.st=st0→Ok V→(∀b,b∈V.bl→¬V.x b)→NxOk Nx V→EnvE E True Nx g V→vs.length=ds.length→(∀(i:Nat) (d':D),ds[i]? = some d'→RepD V d' (vs.getD i Go.undef)) →
  Calls P f vs.toArray V.w fun en w'=>∃v,en=.returned v∧XR E True Nx V O v w'
def yv (l:Nat):D:=.a (.v (.func (.yield l) #[] #[]))
def DIt (P:Program) (gf:FuncId) (caps:List A) (tl:List (List D)):Prop :=
 ∀E:Env P,E.tl=tl→DG E gf (yv E.l::caps.map D.a) [] (.a (.v (.int .i64 0))) fun _ _ g=>g=.a (.v (.int .i64 (tl.length:Nat)))∨g=.a (.v (.bool true))
/-! ### Views -/
theorem Vw.Le.lessx {V:Vw} {w:World} {x x':Nat→Prop} {bl:List Nat} {st:List Bx} (h:V.Le ⟨w,x,bl,st⟩) (hx:∀b,x' b→x b):V.Le ⟨w,x',bl,st⟩ :=
 ⟨h.len,h.size,fun b hb hm=>⟨(h.blk b hb hm).1,fun h'=>(h.blk b hb hm).2 (h'.imp (hx b) id)⟩,h.cell,h.arr,h.map⟩
theorem Ok.lessx {w:World} {x x':Nat→Prop} {bl:List Nat} {st:List Bx} (h:Ok ⟨w,x,bl,st⟩) (hx:∀b,x' b→x b):Ok ⟨w,x',bl,st⟩:=by
 have hle:(⟨w,x,bl,st⟩:Vw).Le ⟨w,x',bl,st⟩:=(Vw.Le.refl _).lessx hx
 refine⟨h.len,h.lt,fun b hb=>h.xlt b (hx b hb),fun w' hs hb=>h.gd w' hs fun b hlt h1 h2 hi=>hb b hlt h1 (fun h'=>h2 (hx b h')) hi,h.isc,h.inj,fun i row b h1 h2=>?_,fun i ver n rows b h1 h2=>?_,fun i k wd es b h1 h2=>?_⟩
 ·obtain⟨cs,T',k1,k2,k3⟩:=h.cell i row b h1 h2
  exact⟨cs,T',k1,k2,fun j y hj=>(k3 j y hj).mono hle⟩
 ·obtain⟨cs,T',c,k1,k2,k3,k4,k5,k6⟩:=h.arr i ver n rows b h1 h2
  exact⟨cs,T',c,k1,k2,k3,k4,k5,fun k r j y hk hj=>(k6 k r j y hk hj).mono hle.size hle.blk⟩
 ·obtain⟨ms,k1,k2,k3⟩:=h.map i k wd es b h1 h2
  exact⟨ms,k1,k2,fun j y row hj=>by obtain⟨q1,v,q2,q3⟩:=k3 j y row hj;exact⟨q1,v,q2,q3.mono hle⟩⟩
theorem Ok.drop {w:World} {x:Nat→Prop} {bl:List Nat} {st ex:List Bx} (h:Ok ⟨w,x,bl,st++ex⟩) (hs:nrS st.length st=true):Ok ⟨w,x,bl.take st.length,st⟩:=by
 have hlen:=h.len
 simp only [List.length_append] at hlen
 have at1:∀{i:Nat} {b:Nat},(bl.take st.length)[i]? = some b→i<st.length∧bl[i]? = some b:=fun {i b} hb=>by
  have:=(List.getElem?_eq_some_iff.1 hb).1
  simp only [List.length_take] at this
  have hi:i<st.length:=by omega
  exact⟨hi,by rwa [List.getElem?_take_of_lt hi] at hb⟩
 have at2:∀{i:Nat} {y:Bx},i<st.length→st[i]? = some y→(st++ex)[i]? = some y:=fun hi hy=>by rwa [List.getElem?_append_left hi]
 refine⟨by simp;omega,fun i b hb=>h.lt i b (at1 hb).2,h.xlt,fun w' hs hb=>h.gd w' hs fun b hlt hn hnx hc=>hb b hlt (fun hm=>hn (List.mem_of_mem_take hm)) hnx hc,fun i b hb=>h.isc i b (at1 hb).2,fun i j b y z h1 h2 h3 h4 h5 h6=>?_,fun i row b h1 h2=>?_,fun i ver n rows b h1 h2=>?_,fun i k wd es b h1 h2=>?_⟩
 ·exact h.inj i j b y z (at1 h1).2 (at1 h2).2 (at2 (at1 h1).1 h3) (at2 (at1 h2).1 h4) h5 h6
 ·obtain⟨hi,hb⟩:=at1 h2
  obtain⟨cs,T',k1,k2,k3⟩:=h.cell i row b (at2 hi h1) hb
  have hrow:=qee hs h1
  exact⟨cs,T',k1,k2,fun j y hj=>(k3 j y hj).drop (List.all_eq_true.1 hrow y (lm4 hj))⟩
 ·obtain⟨hi,hb⟩:=at1 h2
  obtain⟨cs,T',c,k1,k2,k3,k4,k5,k6⟩:=h.arr i ver n rows b (at2 hi h1) hb
  exact⟨cs,T',c,k1,k2,k3,k4,k5,fun k r j y hk hj=>(k6 k r j y hk hj).mono (Nat.le_refl _) fun b _ hm=>⟨fun _=>rfl,fun hh=>hm (qef hh)⟩⟩
 ·obtain⟨hi,hb⟩:=at1 h2
  obtain⟨ms,k1,k2,k3⟩:=h.map i k wd es b (at2 hi h1) hb
  have hes:=qfp hs h1
  exact⟨ms,k1,k2,fun j y row hj=>by obtain⟨q1,v,q2,q3⟩:=k3 j y row hj;exact⟨q1,v,q2,q3.drop (List.all_eq_true.1 hes _ (lm4 hj))⟩⟩
theorem Vw.Le.drop {V:Vw} {w:World} {x:Nat→Prop} {bl:List Nat} {st ex:List Bx} (h:V.Le ⟨w,x,bl,st++ex⟩) (hV:V.st.length≤st.length):V.Le ⟨w,x,bl.take st.length,st⟩:=by
 have at2:∀{i:Nat} {y:Bx},i<st.length→st[i]? = some y→(st++ex)[i]? = some y:=fun hi hy=>by rwa [List.getElem?_append_left hi]
 refine⟨hV,h.size,fun b hb hm=>⟨(h.blk b hb hm).1,fun hm'=>(h.blk b hb hm).2 (qef hm')⟩,fun i r hi hr=>?_,fun i ver m rows hi hr=>?_,fun i k wd es hi hr=>?_⟩
 ·have hi2:i<st.length:=by omega
  have:=h.cell i r hi (at2 hi2 hr)
  simp only at this ⊢
  rwa [List.getElem?_take_of_lt hi2]
 ·have hi2:i<st.length:=by omega
  obtain⟨v0,n0,r0,q1,q2⟩:=h.arr i ver m rows hi (at2 hi2 hr)
  refine⟨v0,n0,r0,q1,q2.imp id fun ⟨e1,e2,e3,e4,e5⟩=>⟨e1,e2,e3,?_,e5⟩⟩
  simp only at e4 ⊢
  rwa [List.getElem?_take_of_lt hi2]
 ·have hi2:i<st.length:=by omega
  have:=h.map i k wd es hi (at2 hi2 hr)
  simp only at this ⊢
  rwa [List.getElem?_take_of_lt hi2]
theorem Vw.le_off {A B:World} {x x':Nat→Prop} {bl:List Nat} {st:List Bx} (hs:A.heap.size≤B.heap.size) (hb:∀b,b<A.heap.size→¬x b→B.heap[b]? = A.heap[b]?) (hx:∀b,b<A.heap.size→x' b→x b) (hsep:∀b,b∈bl→¬x b) (hlt:∀(i b:Nat),bl[i]? = some b→b<A.heap.size) :
  (⟨A,x,bl,st⟩:Vw).Le ⟨B,x',bl,st⟩ :=
 ⟨Nat.le_refl _,hs,fun b hlt hm=>⟨fun _=>hb b hlt fun h=>hm (.inl h),fun h=>hm (h.imp (hx b hlt) id)⟩,fun _ row _ h=>⟨⟨row,h⟩,rfl⟩,
  fun i ver n rows _ h=>⟨ver,n,rows,h,.inr ⟨rfl,rfl,rfl,rfl,fun b cs _ hi hc=>⟨cs,(hb b (hlt i b hi) (hsep b (lm4 hi))).trans hc,rfl⟩⟩⟩,fun _ k wd es _ h=>⟨⟨k,wd,es,h⟩,rfl⟩⟩
theorem Ok.off {A B:World} {x x':Nat→Prop} {bl:List Nat} {st:List Bx} (h:Ok ⟨A,x,bl,st⟩) (hs:A.heap.size≤B.heap.size) (hb:∀b,b<A.heap.size→¬x b→B.heap[b]? = A.heap[b]?) (hx:∀b,b<A.heap.size→x' b→x b) (hsep:∀b,b∈bl→¬x b) (hxl:∀b,x' b→b<B.heap.size):Ok ⟨B,x',bl,st⟩:=by
 have hle:(⟨A,x,bl,st⟩:Vw).Le ⟨B,x',bl,st⟩:=Vw.le_off hs hb hx hsep h.lt
 have old:∀(i b:Nat),bl[i]? = some b→B.heap[b]? = A.heap[b]?:=fun i b hi=>hb b (h.lt i b hi) (hsep b (lm4 hi))
 refine⟨h.len,fun i b hi=>Nat.lt_of_lt_of_le (h.lt i b hi) hs,hxl,fun w' hs' hw=>h.gd w' (Nat.le_trans hs hs') fun b hlt h1 h2 hi=>?_,fun i b hi=>?_,h.inj,fun i row b h1 h2=>?_,fun i ver n rows b h1 h2=>?_,fun i k wd es b h1 h2=>?_⟩
 ·have hsame:=hb b hlt h2
  obtain⟨q,q1,q2⟩:=hi
  exact (hw b (Nat.lt_of_lt_of_le hlt hs) h1 (fun h'=>h2 (hx b hlt h')) ⟨q,hsame.trans q1,q2⟩).trans hsame
 ·obtain⟨q,q1,q2⟩:=h.isc i b hi
  exact⟨q,(old i b hi).trans q1,q2⟩
 ·obtain⟨cs,T',k1,k2,k3⟩:=h.cell i row b h1 h2
  exact⟨cs,T',(old i b h2).trans k1,k2,fun j y hj=>(k3 j y hj).mono hle⟩
 ·obtain⟨cs,T',c,k1,k2,k3,k4,k5,k6⟩:=h.arr i ver n rows b h1 h2
  exact⟨cs,T',c,(old i b h2).trans k1,k2,k3,k4,k5,fun k r j y hk hj=>(k6 k r j y hk hj).mono hle.size hle.blk⟩
 ·obtain⟨ms,k1,k2,k3⟩:=h.map i k wd es b h1 h2
  exact⟨ms,(old i b h2).trans k1,k2,fun j y row hj=>by obtain⟨q1,v,q2,q3⟩:=k3 j y row hj;exact⟨q1,v,q2,q3.mono hle⟩⟩
def qh3 (e:Nat→D) (ps:List Nat) (xs:List D):Nat→D:=(ps.zip xs).foldl (fun e p=>upd e p.1 p.2) e
theorem qiu {V:Vw} {n:Nat}:∀(ps:List Nat) (xs:List D) (vs:List Value) (e:Nat→D) (tm:Array Value),vs.length=xs.length→(∀(i:Nat) (d:D),xs[i]? = some d→RepD V d (vs.getD i Go.undef))→tm.size=n→(∀t,t<n→RepD V (e t) (tm.getD t Go.undef)) →
  ((ps.zip vs).foldl (fun tm p=>tm.setIfInBounds p.1 p.2) tm).size=n∧∀t,t<n→RepD V (qh3 e ps xs t) (((ps.zip vs).foldl (fun tm p=>tm.setIfInBounds p.1 p.2) tm).getD t Go.undef)
 | [],xs,vs,e,tm,_,_,hs,h=>⟨hs,h⟩
 | p::ps,[],[],e,tm,_,_,hs,h=>⟨hs,h⟩
 | p::ps,[],v::vs,e,tm,hl,_,_,_=>by simp at hl
 | p::ps,x::xs,[],e,tm,hl,_,_,_=>by simp at hl
 | p::ps,x::xs,v::vs,e,tm,hl,hr,hs,h=>by
  have:=qiu ps xs vs (upd e p x) (tm.setIfInBounds p v) (by simpa using hl) (fun i d hd=>hr (i+1) d (by simpa using hd)) (by simpa using hs) (fun t ht=>by
   by_cases htp:t=p
   ·subst htp
    have h1:upd e t x t=x:=if_pos rfl
    rw [h1,Array.getD_eq_getD_getElem?,Array.getElem?_setIfInBounds_self,if_pos (by omega)]
    exact hr 0 x rfl
   ·have h1:upd e p x t=e t:=if_neg htp
    rw [h1,Array.getD_eq_getD_getElem?,Array.getElem?_setIfInBounds_ne (Ne.symm htp),←Array.getD_eq_getD_getElem?]
    exact h t ht)
  exact this
def rngL (fn:FuncId) (tm:Array Value) (ps:Array Tmp) (assign body:Code) (dB:Nat) (s:LoopState) (p:Option Code):Loop :=
 { state:=s,pending:=p,fn:=fn,tmps:=tm,params:=ps,assign:=assign,body:=body,defers:=dB }
def NoQ:Exit→(Nat→D)→List Bx→Prop:=fun _ _ _=>False
def JQ (e:Nat→D) (Q:Exit→(Nat→D)→List Bx→Prop) (c:Code) (st':List Bx):Prop :=
 (c=.ret∧Q .ret e st')∨∃id,c=.exit id∧Q (.exit id) e st'
section
variable {P:Program} {n:Nat} {Vs:Vw} {W1:World} {l:Nat} {ms:List Nat} {tm:Array Value} {e:Nat→D} {ps:Array Tmp} {assign body:Code} {fn dB:Nat} {sto:Nat→List Bx} {Q:Exit→(Nat→D)→List Bx→Prop} {tl:List (List D)}
end
section
variable {P:Program} {n:Nat} {Vs:Vw} {W1:World} {l:Nat} {ms:List Nat} {tm:Array Value} {e eo:Nat→D} {ps:Array Tmp} {assign body:Code} {fn dB:Nat} {sto:Nat→List Bx} {Q:Exit→(Nat→D)→List Bx→Prop} {tl:List (List D)} {Inv:Nat→Prop}
end
def scal1:D→Bool
 | .a (.v _)=>true
 | _=>false
def scal:D→Bool
 | .t ds=>ds.all scal1
 | d=>scal1 d
theorem RepD.scal {V V':Vw} {d:D} {u:Value} (h:RepD V d u) (hc:scal d=true):RepD V' d u:=by
 have one:∀{d:D} {u:Value},RepD V d u→scal1 d=true→RepD V' d u:=by
  intro d u h hc
  cases d with
  | a x =>
   cases x with
   | v z =>
    obtain⟨rfl,hp⟩:=h.v_inv
    exact .v hp
   | _=>cases hc
  | _=>cases hc
 cases d with
 | t ds =>
  cases h with
  | t _ vs hl h=>exact .t ds vs hl fun j d hd=>one (h j d hd) (List.all_eq_true.1 hc d (lm4 hd))
 | a x=>exact one h hc
 | junk=>cases hc
 | undef=>cases hc
 | r _=>cases hc
def retG (P:Program) (n:Nat) (rs:List ResultVar) (O:D→List Bx→D→Prop):Exit→(Nat→D)→List Bx→Prop
 | .normal,e,st|.ret,e,st=>∃d,resL P n e st rs d∧scal d=true∧O d st (e 1000000)
 | _,_,_=>False
theorem DG.introU {P:Program} {E:Env P} {f:FuncId} {fn:Func} {c:Code} {n:Nat} {rs:List ResultVar} {ds:List D} {st0:List Bx} {g:D} {O:D→List Bx→D→Prop} (hf:P.funcs[f]? = some fn) (hb:fn.body=some c) (hn:fn.ntmps=n) (hr:fn.results=⟨rs⟩) (hnm:(fn.name == "runtime.NumGoroutine")=false) (hl:(decide (ds.length≤n)&&decide (n≤1000000))=true)
  (h:∀(V0:Vw) (Kb Nx:Nat→Prop),V0.st=st0→WP (⟨V0,Kb,True,none,E,Nx⟩:Cx P) n c (retG P n rs O) (upd (qaj 0 ds) 1000000 g) st0):DG E f ds st0 g O:=by
 rw [Bool.and_eq_true,decide_eq_true_iff,decide_eq_true_iff] at hl
 refine⟨qbt hf hb hnm,fun V Nx vs hst hok hsep hnx henv hvl hrr=>?_⟩
 subst hst
 have hsat:Sat (⟨V,fun b=>b∈V.bl∨(V.x b∧¬Nx b),True,none,E,Nx⟩:Cx P) V { tmps:=vs.toArray++Array.replicate (fn.ntmps-vs.toArray.size) Go.undef,defers:=[] } n (upd (qaj 0 ds) 1000000 g):=by
  refine⟨[],⟨rfl,by simp,fun D hD=>by simp at hD⟩,⟨by simp;omega,fun t ht=>?_,hok,.refl _,.refl _ _,fun b hb=>.inl (.inl hb),hsep,fun _ h=>h,fun _ b h h'=>.inl (.inr ⟨h,h'⟩),fun _ h=>.inl h,hnx,fun b hb=>(hnx b hb).1⟩,?_⟩
  ·have:upd (qaj 0 ds) 1000000 g t=qaj 0 ds t:=if_neg (by omega)
   rw [this]
   exact qcg (by omega) hvl hrr t
  ·have:upd (qaj 0 ds) 1000000 g 1000000=g:=if_pos rfl
   rw [this]
   exact henv.less fun b (hb:Nx b∨b∈([]:List Nat))=>hb.elim id fun h=>by simp at h
 refine qeg (C:=(⟨V,fun b=>b∈V.bl∨(V.x b∧¬Nx b),True,none,E,Nx⟩:Cx P)) (RQ:=fun e st=>∃d,resL P n e st rs d∧scal d=true∧O d st (e 1000000)) hf hb rfl hsat ((h V _ Nx rfl).mono fun ex e st hq=>?_) ?_
 ·cases ex with
  | normal=>exact hq
  | ret=>exact hq
  | _=>exact hq
 ·rintro tm V' e' hm henv' ⟨d,hres,hsc,hO⟩
  have hres':resL P n e' V'.st fn.results.toList d:=by rw [hr];exact hres
  obtain⟨v,h1,h2⟩:=qeo hm hres'
  refine⟨v,h1,v,rfl,d,V'.st,e' 1000000,V'.x,V'.bl,hO,⟨hm.le,hm.ok,⟨hm.fr.os,hm.fr.tape,hm.fr.output,hm.fr.size,fun b hb hn=>hm.fr.block b hb fun h=>hn (h.imp id fun h=>⟨trivial,h.1,h.2⟩)⟩,fun b hb=>?_,fun _=>hm.sep,hm.x0,hm.xg⟩,henv',h2.scal hsc⟩
  rcases hm.low b hb with (h|h)|h
  ·exact .inl h
  ·exact absurd (hm.x0 b h.1) (hm.sep b hb)
  ·exact .inr h
theorem DG.intro {P:Program} {E:Env P} {f:FuncId} {fn:Func} {c:Code} {n:Nat} {rs:List ResultVar} {ds:List D} {st0:List Bx} {g:D} {O:D→List Bx→D→Prop} (hf:P.funcs[f]? = some fn) (hb:fn.body=some c) (hn:fn.ntmps=n) (hr:fn.results=⟨rs⟩) (hnm:(fn.name == "runtime.NumGoroutine")=false) (hl:(decide (ds.length≤n)&&decide (n≤1000000))=true)
  (h:∀(V0:Vw) (Kb Nx:Nat→Prop),WP (⟨V0,Kb,True,none,E,Nx⟩:Cx P) n c (retG P n rs O) (upd (qaj 0 ds) 1000000 g) st0):DG E f ds st0 g O:=DG.introU hf hb hn hr hnm hl fun V0 Kb Nx _=>h V0 Kb Nx
section
variable {P:Program} {C:Cx P} {ops:Array Oper} {r:List Oper} {e:Nat→D} {st:List Bx} {dst:Option Nat} {ty:TypeId} {pos:String} {after:Array Edge} {guard:Option (Nat×Bool)} {K:(Nat→D)→List Bx→Prop}
theorem yv_inv {V:Vw} {l:Nat} {u:Value} (h:RepD V (yv l) u):u=.func (.yield l) #[] #[]:=h.v_inv.1
theorem RS.yield {y:Operand} {xs:List Operand} {tys:Array TypeId} {k:Nat} {ds:List D} (hy:evO e y=yv C.E.l) (hk:e 1000000=.a (.v (.int .i64 (k:Nat)))) (hx:xs.map (evO e)=ds) (hc:ds.all clD1=true) (ht:C.E.tl[k]? = some ds)
  (h1:RS C ops r (upd (putE e dst (.a (.v (.bool true)))) 1000000 (.a (.v (.int .i64 ((k+1:Nat):Int))))) st K) (h2:RS C ops r (upd (putE e dst (.a (.v (.bool false)))) 1000000 (.a (.v (.bool true)))) st K) (hgd:gOk ops e 8 guard:=by exact trivial) :
  RS C ops (⟨dst,.call ⟨.value y,⟨xs⟩,tys⟩,ty,pos,after,guard⟩::r) e st K:=by
 refine .inr ⟨hgd,fun d st' g=>st'=st∧((d=.a (.v (.bool true))∧g=.a (.v (.int .i64 ((k+1:Nat):Int))))∨(d=.a (.v (.bool false))∧g=.a (.v (.bool true)))),?_,?_⟩
 ·intro ρ V Nx hst hok hsep hnx henv hu
  have hyv:ρ y=.func (.yield C.E.l) #[] #[]:=by
   have:=hu y (by simp [qad,Op.operands,Call.operands])
   rw [hy] at this
   exact yv_inv this
  rw [hk] at henv
  obtain⟨hon,Dp,Mx,hJ,hdis,hMx⟩:=henv
  rw [Int.toNat_natCast] at hJ
  have hlt:=C.E.lt _ _ _ _ hJ
  have hargs:∀(i:Nat) (d:D),ds[i]? = some d→RepD (out V.w fun b=>Mx b∨(V.mine b∨Nx b)∧b<V.w.heap.size) d ((xs.map ρ).getD i Go.undef):=fun i d hd=>by
   rw [←hx,List.getElem?_map,Option.map_eq_some_iff] at hd
   obtain⟨z,hz,rfl⟩:=hd
   have hzr:=hu z (by have:=lm4 hz;simp [qad,Op.operands,Call.operands];right;simpa using this)
   have hget:(xs.map ρ).getD i Go.undef=ρ z:=by
    rw [List.getD_eq_getElem?_getD,List.getElem?_map,hz];rfl
   rw [hget]
   have hcl:clD1 (evO e z)=true:=List.all_eq_true.1 hc _ (by rw [←hx];exact List.mem_map.2 ⟨z,lm4 hz,rfl⟩)
   have hcd:clD (evO e z)=true:=by
    generalize evO e z=q at hcl
    cases q<;>first|exact hcl|cases hcl
   have key:∀{x:A} {u:Value},RepC V.w V.mut x u→RepC V.w (fun b=>Mx b∨(V.mine b∨Nx b)∧b<V.w.heap.size) x u:=by
    intro x u h
    have hcs:∀b,isC V.w b→¬V.mut b→¬(Mx b∨(V.mine b∨Nx b)∧b<V.w.heap.size):=fun b hi hm h=>by
     rcases h with h|⟨h|h,_⟩
     ·exact hm (.inl (hMx b h))
     ·exact hm (.inr h)
     ·rcases (hnx b h).2 with h|⟨h,_,_⟩
      ·exact hm (.inl h)
      ·exact h.noC hi
    induction h with
    | v x hx=>exact .v x hx
    | nl=>exact .nl
    | sl0 a c=>exact .sl0 a c
    | sl rows n b o c val h1 h2 h3 h4 h5 _ ih=>exact .sl rows n b o c val h1 (hcs b h1 h2) h3 h4 h5 ih
    | ref row off b o val h1 h2 h3 _ ih=>exact .ref row off b o val h1 (hcs b h1 h2) h3 ih
    | sk rows a l _ ih=>exact .sk rows a l ih
    | fn f caps vs hl _ ih=>exact .fn f caps vs hl ih
   generalize evO e z=q at hzr hcl
   generalize ρ z=u at hzr
   cases q with
   | a x=>cases hzr with
    | a _ _ h=>exact .a _ _ (key (h.cl1 hcl)).toOut
   | r row=>cases hzr with
    | r _ vs hl h=>exact .r row vs hl fun j x hj=>(key ((h j x hj).cl (List.all_eq_true.1 hcl x (lm4 hj)))).toOut
   | junk=>cases hcl
   | undef=>cases hcl
   | t _=>cases hcl
  obtain⟨fn,tmps,assign,body,hrun,hround⟩:=C.E.yield k Dp Mx (fun b=>(V.mine b∨Nx b)∧b<V.w.heap.size) V.w ds (xs.map ρ) hJ (fun b hb=>⟨hb.2,(hdis b hb.1).1⟩) ht (by rw [←hx];simp) hargs
  have hrun':(execOp ρ ⟨dst,.call ⟨.value y,⟨xs⟩,tys⟩,ty,pos,after,guard⟩).run P V.w=.ok (.round C.E.l fn tmps assign body) V.w:=by
   have harr:(xs.map ρ).toArray=(⟨xs⟩:Array Operand).map ρ:=by apply Array.ext';simp
   rw [harr] at hrun
   simp only [execOp,resolve,hyv,Deferred.ofValue,Sem.run_bind,Sem.run_pure,Result.andThen_ok,invoke,Array.append_empty,Array.empty_append]
   exact hrun
  rw [hrun']
  refine⟨rfl,RoundIn.mono hround ?_⟩
  rintro en w'' ⟨hfr,hres⟩
  have hsame:∀b,b<V.w.heap.size→¬V.x b→w''.heap[b]? = V.w.heap[b]?:=fun b hb hn=>hfr.block b hb fun h=>hn (hMx b h)
  have hX:qbj C.on Nx V ⟨w'',fun b=>V.x b∨(V.w.heap.size≤b∧b<w''.heap.size),V.bl,V.st⟩:=by
   have hxo:∀b,b<V.w.heap.size→(V.x b∨(V.w.heap.size≤b∧b<w''.heap.size))→V.x b:=fun b hb h=>h.resolve_right fun h=>by omega
   refine⟨Vw.le_off (A:=V.w) hfr.size hsame hxo hsep hok.lt,Ok.off (A:=V.w) hok hfr.size hsame hxo hsep (fun b hb=>?_),⟨hfr.os,hfr.tape,hfr.output,hfr.size,fun b hb hn=>?_⟩,fun b hb=>.inl hb,fun hs b hb h=>?_,fun b hb=>.inl hb,fun b hb=>hb.imp id fun h=>h.1⟩
   ·rcases hb with hb|hb
    ·have:=hok.xlt b hb;have:=hfr.size;omega
    ·exact hb.2
   ·refine hfr.block b hb fun h=>hn (.inr ⟨hon,hMx b h,fun h'=>(hdis b (.inr h')).2 h⟩)
   ·rcases h with h|h
    ·exact hs b hb h
    ·obtain⟨i,hi⟩:=List.getElem?_of_mem hb
     have:=hok.lt i b hi;omega
  have hmn:∀b,(⟨w'',fun b=>V.x b∨(V.w.heap.size≤b∧b<w''.heap.size),V.bl,V.st⟩:Vw).mine b∨Nx b→(V.mine b∨Nx b)∧b<V.w.heap.size:=fun b hb=>by
   have h1:V.mine b∨Nx b:=hb
   refine⟨h1,?_⟩
   rcases h1 with h1|h1
   ·obtain⟨i,hi⟩:=List.getElem?_of_mem (Vw.mine_mem h1)
    exact hok.lt i b hi
   ·exact (hnx b h1).1
  rcases hres with ⟨rfl,Dp',Mx',hJ',hd',hm'⟩|⟨rfl,Dp',hJ',hd'⟩
  ·refine⟨.bool true,rfl,.a (.v (.bool true)),V.st,.a (.v (.int .i64 ((k+1:Nat):Int))),_,V.bl,⟨hst,.inl ⟨rfl,rfl⟩⟩,hX,⟨hon,Dp',Mx',?_,fun b hb=>hd' b (hmn b hb),fun b hb=>?_⟩,.v rfl⟩
   ·rw [Int.toNat_natCast];exact hJ'
   ·rcases hm' b hb with h|h
    ·exact .inl (hMx b h)
    ·exact .inr ⟨h,(C.E.lt _ _ _ _ hJ').2 b hb⟩
  ·exact⟨.bool false,rfl,.a (.v (.bool false)),V.st,.a (.v (.bool true)),_,V.bl,⟨hst,.inr ⟨rfl,rfl⟩⟩,hX,⟨hon,Dp',hJ',fun b hb=>hd' b (hmn b hb)⟩,.v rfl⟩
 ·rintro d st' g ⟨rfl,⟨rfl,rfl⟩|⟨rfl,rfl⟩⟩
  ·exact h1
  ·exact h2
end
theorem qfs {cs:Array Value} {j:Nat} (h:j<cs.size):cs[j]? = some (cs.getD j Go.undef):=by
 rw [Array.getD_eq_getD_getElem?,Array.getElem?_eq_getElem h];rfl
theorem Step.pushA {V:Vw} (hok:Ok V) {w':World} (cs:Array Value) (T:TypeId) (n c:Nat) (rows:List (List A)) (hg:Grw V.w w') (hnew:w'.heap[V.w.heap.size]? = some (.cells cs T (0,0))) (hsz:cs.size=c*n) (hn:0<n) (hc:rows.length≤c) (hrl:∀(k:Nat) (row:List A),rows[k]? = some row→row.length=n)
  (hr:∀(k:Nat) (row:List A) (j:Nat) (y:A),rows[k]? = some row→row[j]? = some y→RepC V.w V.mut y (cs.getD (k*n+j) Go.undef)) :
  Step V ⟨w',V.x,V.bl++[V.w.heap.size],V.st++[.arr 0 n rows]⟩:=by
 have hlt:V.w.heap.size<w'.heap.size:=(Array.getElem?_eq_some_iff.1 hnew).1
 have hold:∀b,b<V.w.heap.size→w'.heap[b]? = V.w.heap[b]?:=fun b hb=>hg.below.block b hb
 have hmine:∀b,(⟨w',V.x,V.bl++[V.w.heap.size],V.st++[.arr 0 n rows]⟩:Vw).mine b→b<V.w.heap.size→V.mine b:=by
  rintro b ⟨i,y,h1,h2,h3⟩ hb
  simp only at h1 h2
  rw [List.getElem?_append] at h1 h2
  rw [←hok.len] at h2
  split at h1
  ·rename_i hi
   rw [if_pos hi] at h2
   exact⟨i,y,h1,h2,h3⟩
  ·have:=lm4 h1
   simp at this;omega
 have hle:V.Le ⟨w',V.x,V.bl++[V.w.heap.size],V.st++[.arr 0 n rows]⟩:=by
  refine⟨by simp,by simp only;omega,fun b hb hm=>⟨fun _=>hold b hb,fun h=>hm ?_⟩,fun i r hi h=>?_,fun i ver m rows2 hi h=>?_,fun i kk wd es hi h=>?_⟩
  ·rcases h with h|h
   ·exact .inl h
   ·exact .inr (hmine b h hb)
  ·simp only at h ⊢
   rw [List.getElem?_append_left hi] at h
   exact⟨⟨r,h⟩,List.getElem?_append_left (by rw [hok.len];exact hi)⟩
  ·simp only at h ⊢
   rw [List.getElem?_append_left hi] at h
   exact⟨ver,m,rows2,h,.inr ⟨rfl,rfl,rfl,List.getElem?_append_left (by rw [hok.len];exact hi),fun b cs _ hb hc=>⟨cs,(hold b (hok.lt i b hb)).trans hc,rfl⟩⟩⟩
  ·simp only at h ⊢
   rw [List.getElem?_append_left hi] at h
   exact⟨⟨kk,wd,es,h⟩,List.getElem?_append_left (by rw [hok.len];exact hi)⟩
 have at1:∀i (b:Nat),(V.bl++[V.w.heap.size])[i]? = some b→(i<V.st.length∧V.bl[i]? = some b)∨(i=V.st.length∧b=V.w.heap.size):=by
  intro i b h
  rw [List.getElem?_append] at h
  split at h
  ·rename_i hi;left;rw [hok.len] at hi;exact⟨hi,h⟩
  ·rename_i hi
   right
   have hlt:=(List.getElem?_eq_some_iff.1 h).1
   simp at hlt
   have:i=V.bl.length:=by omega
   subst this
   simp at h
   exact⟨hok.len,h.symm⟩
 have at2:∀i (y:Bx),(V.st++[Bx.arr 0 n rows])[i]? = some y→i<V.st.length→V.st[i]? = some y:=fun i y h hi=>by rwa [List.getElem?_append_left hi] at h
 refine⟨hle,⟨by simp [hok.len],fun i b h=>?_,fun b h=>?_,fun w2 hs hb=>hok.gd w2 (by have hs:w'.heap.size≤w2.heap.size:=hs;omega) (fun b hlt2 hnb hnx hc=>(hb b (by show b<w'.heap.size;omega) (by show ¬b∈V.bl++[V.w.heap.size];simp;exact⟨hnb,by omega⟩) hnx (by obtain⟨o,h1,h2⟩:=hc;exact⟨o,(hold b hlt2).trans h1,h2⟩)).trans (hold b hlt2)),fun i b h=>?_,fun i j b y z h1 h2 h3 h4 h5 h6=>?_,fun i r b h1 h2=>?_,fun i ver m rows2 b h1 h2=>?_,fun i kk wd es b h1 h2=>?_⟩,.of_grwK hg,fun b hb=>?_⟩
 ·rcases at1 i b h with ⟨_,h⟩|⟨_,rfl⟩
  ·have:=hok.lt i b h;show b<w'.heap.size;omega
  ·exact hlt
 ·have:=hok.xlt b h;show b<w'.heap.size;omega
 ·rcases at1 i b h with ⟨_,h⟩|⟨_,rfl⟩
  ·obtain⟨o,q1,q2⟩:=hok.isc i b h
   exact⟨o,(hold b (hok.lt i b h)).trans q1,q2⟩
  ·exact⟨_,hnew,rfl⟩
 ·rcases at1 i b h1 with ⟨hi,h1⟩|⟨rfl,rfl⟩
  ·rcases at1 j b h2 with ⟨hj,h2⟩|⟨rfl,rfl⟩
   ·exact hok.inj i j b y z h1 h2 (at2 i y h3 hi) (at2 j z h4 hj) h5 h6
   ·have:=hok.lt i _ h1;omega
  ·rcases at1 j _ h2 with ⟨hj,h2⟩|⟨rfl,_⟩
   ·have:=hok.lt j _ h2;omega
   ·rfl
 ·rcases at1 i b h2 with ⟨hi,h2⟩|⟨rfl,rfl⟩
  ·obtain⟨cs',T',k1,k2,k3⟩:=hok.cell i r b (at2 i _ h1 hi) h2
   exact⟨cs',T',(hold b (hok.lt i b h2)).trans k1,k2,fun j y hj=>(k3 j y hj).mono hle⟩
  ·simp at h1
 ·rcases at1 i b h2 with ⟨hi,h2⟩|⟨rfl,rfl⟩
  ·obtain⟨cs',T',c',k1,k2,k3,k4,k5,k6⟩:=hok.arr i ver m rows2 b (at2 i _ h1 hi) h2
   exact⟨cs',T',c',(hold b (hok.lt i b h2)).trans k1,k2,k3,k4,k5,fun k r j y hk hj=>(k6 k r j y hk hj).mono hle.size hle.blk⟩
  ·simp at h1
   obtain⟨rfl,rfl,rfl⟩:=h1
   exact⟨cs,T,c,hnew,hsz,hn,hc,hrl,fun k row j y hk hj=>(hr k row j y hk hj).mono hle.size hle.blk⟩
 ·rcases at1 i b h2 with ⟨hi,h2⟩|⟨rfl,rfl⟩
  ·obtain⟨ms,k1,k2,k3⟩:=hok.map i kk wd es b (at2 i _ h1 hi) h2
   exact⟨ms,(hold b (hok.lt i b h2)).trans k1,k2,fun j y row hj=>by obtain⟨q1,v,q2,q3⟩:=k3 j y row hj;exact⟨q1,v,q2,q3.mono hle⟩⟩
  ·simp at h1
 ·simp at hb
  rcases hb with hb|rfl
  ·exact .inl hb
  ·right;exact Nat.le_refl _
theorem qec {V:Vw} {w':World} (hlen:V.bl.length=V.st.length) (cs:Array Value) (T:TypeId) (n c:Nat) (rows:List (List A)) (hnew:w'.heap[V.w.heap.size]? = some (.cells cs T (0,0))) (hsz:cs.size=c*n) (hc:rows.length≤c) :
  RepA ⟨w',V.x,V.bl++[V.w.heap.size],V.st++[.arr 0 n rows]⟩ (.own V.st.length 0) (.slice (some ⟨V.w.heap.size,0,none⟩) rows.length c):=by
 refine .own _ 0 _ _ _ (by simp) fun ver' n' rows' hs=>?_
 simp at hs
 obtain⟨rfl,rfl,rfl⟩:=hs
 exact⟨Nat.le_refl _,fun _=>⟨rfl,_,cs,T,rfl,by simp [←hlen],hnew,hsz,hc⟩⟩
theorem Step.turnA {V:Vw} (hok:Ok V) {i b b':Nat} {ver ver' n:Nat} {rows rows':List (List A)} {w':World} {cs':Array Value} {T':TypeId} {c':Nat} (hs:V.st[i]? = some (.arr ver n rows)) (hb:V.bl[i]? = some b)
  (hf:Fr (fun k=>k=b) V.w w') (hb':b'=b∨V.w.heap.size≤b') (hnew:w'.heap[b']? = some (.cells cs' T' (0,0))) (hkeep:b'≠b→w'.heap[b]? = V.w.heap[b]?)
  (hver:ver<ver'∨(ver=ver'∧rows.length=rows'.length∧b'=b∧∀(cs:Array Value) (T:TypeId),V.w.heap[b]? = some (.cells cs T (0,0))→T=T'∧cs'.size=cs.size)) (hsz:cs'.size=c'*n) (hc:rows'.length≤c') (hrl:∀(k:Nat) (row:List A),rows'[k]? = some row→row.length=n)
  (hr:∀(k:Nat) (row:List A) (j:Nat) (y:A),rows'[k]? = some row→row[j]? = some y→RepC V.w V.mut y (cs'.getD (k*n+j) Go.undef)) :
  Step V ⟨w',V.x,V.bl.set i b',V.st.set i (.arr ver' n rows')⟩:=by
 have hil:i<V.st.length:=(List.getElem?_eq_some_iff.1 hs).1
 have hbl:i<V.bl.length:=(List.getElem?_eq_some_iff.1 hb).1
 have hmb:V.mine b:=⟨i,_,hb,hs,rfl⟩
 have hblt:=hok.lt i b hb
 have hb'lt:b'<w'.heap.size:=(Array.getElem?_eq_some_iff.1 hnew).1
 have hold:∀k,k<V.w.heap.size→k≠b→w'.heap[k]? = V.w.heap[k]?:=fun k hk hn=>hf.block k hk hn
 have hst:∀j,(V.st.set i (.arr ver' n rows'))[j]? = if i=j then some (.arr ver' n rows') else V.st[j]?:=fun j=>by
  rw [List.getElem?_set]
  split
  ·rename_i h;subst h;simp [hil]
  ·rfl
 have hbs:∀j,(V.bl.set i b')[j]? = if i=j then some b' else V.bl[j]?:=fun j=>by
  rw [List.getElem?_set]
  split
  ·rename_i h;subst h;simp [hbl]
  ·rfl
 have hmine:∀k,(⟨w',V.x,V.bl.set i b',V.st.set i (.arr ver' n rows')⟩:Vw).mine k→k<V.w.heap.size→V.mine k:=by
  rintro k ⟨j,y,h1,h2,h3⟩ hk
  simp only at h1 h2
  rw [hbs] at h1
  rw [hst] at h2
  split at h1
  ·injection h1 with h1
   rcases hb' with h|h
   ·rw [←h1,h];exact hmb
   ·omega
  ·rename_i hne
   rw [if_neg hne] at h2
   exact⟨j,y,h1,h2,h3⟩
 have hother:∀j k (y:Bx),i≠j→V.bl[j]? = some k→V.st[j]? = some y→y.live=true→k≠b:=fun j k y hne hk hy hl h=>by
  subst h
  exact hne (hok.inj i j k _ y hb hk hs hy rfl hl)
 have hle:V.Le ⟨w',V.x,V.bl.set i b',V.st.set i (.arr ver' n rows')⟩:=by
  refine⟨by simp,hf.size,fun k hk hm=>⟨fun _=>hold k hk fun h=>hm (h▸.inr hmb),fun h=>hm ?_⟩,fun j r hj h=>?_,fun j v m rows2 hj h=>?_,fun j kk wd es hj h=>?_⟩
  ·rcases h with h|h
   ·exact .inl h
   ·exact .inr (hmine k h hk)
  ·simp only at h ⊢
   rw [hst] at h
   split at h
   ·cases h
   ·rename_i hne
    exact⟨⟨r,h⟩,by rw [hbs,if_neg hne]⟩
  ·simp only at h ⊢
   rw [hst] at h
   split at h
   ·rename_i hij
    subst hij
    injection h with h;injection h with e1 e2 e3
    subst e1;subst e2;subst e3
    refine⟨ver,n,rows,hs,hver.imp id fun ⟨e1,e2,e3,e4⟩=>⟨e1,rfl,e2,?_,fun k cs T hk hh=>?_⟩⟩
    ·rw [hbs,if_pos rfl,hb,e3]
    ·rw [hb] at hk;injection hk with hk;subst hk
     obtain⟨rfl,h2⟩:=e4 cs T hh
     exact⟨cs',by rw [←e3];exact hnew,h2⟩
   ·rename_i hne
    refine⟨v,m,rows2,h,.inr ⟨rfl,rfl,rfl,by rw [hbs,if_neg hne],fun k cs T hk hh=>⟨cs,(hold k (hok.lt j k hk) (hother j k _ hne hk h rfl)).trans hh,rfl⟩⟩⟩
  ·simp only at h ⊢
   rw [hst] at h
   split at h
   ·cases h
   ·rename_i hne
    exact⟨⟨kk,wd,es,h⟩,by rw [hbs,if_neg hne]⟩
 have hnew2:∀k,k∈V.bl.set i b'→k∈V.bl∨V.w.heap.size≤k:=fun k hk=>by
  rcases List.mem_or_eq_of_mem_set hk with h|h
  ·exact .inl h
  ·rcases hb' with h'|h'
   ·left;rw [h,h'];exact lm4 hb
   ·right;omega
 refine⟨hle,⟨by simp [hok.len],fun j k h=>?_,fun k h=>Nat.lt_of_lt_of_le (hok.xlt k h) hf.size,fun w2 hs2 hw=>hok.gd w2 (Nat.le_trans hf.size hs2) (fun k hlt hnb hnx hi=>?_),fun j k h=>?_,fun j j2 k y z h1 h2 h3 h4 h5 h6=>?_,fun j r k h1 h2=>?_,fun j v m rows2 k h1 h2=>?_,fun j kk wd es k h1 h2=>?_⟩,⟨hf.os,hf.tape,hf.output,hf.size,fun k hk hn=>hold k hk fun h=>hn (h▸lm4 hb)⟩,hnew2⟩
 ·simp only at h ⊢
  rw [hbs] at h
  split at h
  ·injection h with h;omega
  ·exact Nat.lt_of_lt_of_le (hok.lt j k h) hf.size
 ·have hkb:k≠b:=fun h=>hnb (h▸lm4 hb)
  have hsame:=hold k hlt hkb
  obtain⟨q,q1,q2⟩:=hi
  refine (hw k (Nat.lt_of_lt_of_le hlt hf.size) (fun h=>?_) hnx ⟨q,hsame.trans q1,q2⟩).trans hsame
  rcases hnew2 k h with h|h
  ·exact hnb h
  ·omega
 ·simp only at h ⊢
  rw [hbs] at h
  split at h
  ·injection h with h;subst h;exact⟨_,hnew,rfl⟩
  ·obtain⟨q,q1,q2⟩:=hok.isc j k h
   by_cases hkb:k=b
   ·by_cases hbb:b'=b
    ·subst hkb;rw [hbb] at hnew;exact⟨_,hnew,rfl⟩
    ·exact⟨q,by rw [hkb,hkeep hbb,←hkb];exact q1,q2⟩
   ·exact⟨q,(hold k (hok.lt j k h) hkb).trans q1,q2⟩
 ·simp only at h1 h2 h3 h4
  rw [hbs] at h1 h2
  rw [hst] at h3 h4
  by_cases e1:i=j
  ·by_cases e2:i=j2
   ·omega
   ·rw [if_pos e1] at h1;rw [if_neg e2] at h2 h4
    injection h1 with h1
    exfalso
    have h7:=hother j2 k z e2 h2 h4 h6
    have h8:=hok.lt j2 k h2
    omega
  ·rw [if_neg e1] at h1 h3
   by_cases e2:i=j2
   ·rw [if_pos e2] at h2
    injection h2 with h2
    exfalso
    have h7:=hother j k y e1 h1 h3 h5
    have h8:=hok.lt j k h1
    omega
   ·rw [if_neg e2] at h2 h4
    exact hok.inj j j2 k y z h1 h2 h3 h4 h5 h6
 ·simp only at h1 h2 ⊢
  rw [hst] at h1
  rw [hbs] at h2
  split at h1
  ·cases h1
  ·rename_i hne
   rw [if_neg hne] at h2
   obtain⟨cs,T,k1,k2,k3⟩:=hok.cell j r k h1 h2
   exact⟨cs,T,(hold k (hok.lt j k h2) (hother j k _ hne h2 h1 rfl)).trans k1,k2,fun q y hq=>(k3 q y hq).mono hle⟩
 ·simp only at h1 h2 ⊢
  rw [hst] at h1
  rw [hbs] at h2
  split at h1
  ·rename_i hij
   subst hij
   rw [if_pos rfl] at h2
   injection h1 with h1;injection h1 with e1 e2 e3
   injection h2 with h2
   subst e1;subst e2;subst e3;subst h2
   obtain⟨cs,T,c,k1,k2,k3,k4,k5,k6⟩:=hok.arr i ver n rows b hs hb
   exact⟨cs',T',c',hnew,hsz,k3,hc,hrl,fun k row q y hk hq=>(hr k row q y hk hq).mono hle.size hle.blk⟩
  ·rename_i hne
   rw [if_neg hne] at h2
   obtain⟨cs,T,c,k1,k2,k3,k4,k5,k6⟩:=hok.arr j v m rows2 k h1 h2
   exact⟨cs,T,c,(hold k (hok.lt j k h2) (hother j k _ hne h2 h1 rfl)).trans k1,k2,k3,k4,k5,fun q row q2 y hk hq=>(k6 q row q2 y hk hq).mono hle.size hle.blk⟩
 ·simp only at h1 h2 ⊢
  rw [hst] at h1
  rw [hbs] at h2
  split at h1
  ·cases h1
  ·rename_i hne
   rw [if_neg hne] at h2
   obtain⟨ms,k1,k2,k3⟩:=hok.map j kk wd es k h1 h2
   exact⟨ms,(hold k (hok.lt j k h2) (hother j k _ hne h2 h1 rfl)).trans k1,k2,fun q y row hj=>by obtain⟨q1,v,q2,q3⟩:=k3 q y row hj;exact⟨q1,v,q2,q3.mono hle⟩⟩
def qb2 (st:List Bx):D→Option (List (List A))
 | .a .nl=>some []
 | .a (.sl rows)=>some rows
 | .a (.own i ver)=>(match st[i]? with
  | some (.arr ver' _ rows)=>if ver=ver' then some rows else none
  | _=>none)
 | _=>none
theorem qhm {q m n:Nat} (h:q<m*n) (hn:0<n):q / n<m∧q % n<n∧q / n*n+q % n=q :=
 ⟨Nat.div_lt_of_lt_mul (by rwa [Nat.mul_comm] at h),Nat.mod_lt _ hn,by have:=Nat.div_add_mod q n;rw [Nat.mul_comm] at this;exact this⟩
theorem qck {V:Vw} (hok:Ok V) {d:D} {u:Value} {rows:List (List A)} {n:Nat} (h:RepD V d u) (hr:qb2 V.st d=some rows) (hn:0<n) (hl:∀(k:Nat) (row:List A),rows[k]? = some row→row.length=n) :
  ∃(ao:Option Addr) (c:Nat) (news:List Value),u=.slice ao rows.length c∧news.length=rows.length*n∧(∀v∈news,v.oneCell'=true)∧(∀(k:Nat) (row:List A) (j:Nat) (y:A),rows[k]? = some row→row[j]? = some y→RepC V.w V.mut y (news.getD (k*n+j) Go.undef)) ∧
   ((ao=none∧rows=[])∨∃a,ao=some a∧∀(q:Nat) (v:Value),news[q]? = some v→V.w.cell? (a.add q)=some v):=by
 have build:∀(val:Nat→Nat→Value),(∀(k:Nat) (row:List A) (j:Nat) (y:A),rows[k]? = some row→row[j]? = some y→RepC V.w V.mut y (val k j)) →
   ((List.range (rows.length*n)).map fun q=>val (q / n) (q % n)).length=rows.length*n∧(∀v∈(List.range (rows.length*n)).map fun q=>val (q / n) (q % n),v.oneCell'=true) ∧
   (∀(k:Nat) (row:List A) (j:Nat) (y:A),rows[k]? = some row→row[j]? = some y→RepC V.w V.mut y (((List.range (rows.length*n)).map fun q=>val (q / n) (q % n)).getD (k*n+j) Go.undef)):=by
  intro val hv
  have at_:∀q,q<rows.length*n→∃row y,rows[q / n]? = some row∧row[q % n]? = some y:=fun q hq=>by
   obtain⟨h1,h2,_⟩:=qhm hq hn
   refine⟨_,_,List.getElem?_eq_getElem h1,List.getElem?_eq_getElem ?_⟩
   rw [hl (q / n) _ (List.getElem?_eq_getElem h1)];exact h2
  refine⟨by simp,fun v hvm=>?_,fun k row j y hk hj=>?_⟩
  ·obtain⟨q,hq,rfl⟩:=List.mem_map.1 hvm
   obtain⟨row,y,h1,h2⟩:=at_ q (by simpa using hq)
   exact (hv _ _ _ _ h1 h2).one
  ·have hk1:=(List.getElem?_eq_some_iff.1 hk).1
   have hj1:j<n:=by have:=(List.getElem?_eq_some_iff.1 hj).1;rw [hl k row hk] at this;exact this
   have hlt:k*n+j<rows.length*n:=by
    have:(k+1)*n≤rows.length*n:=Nat.mul_le_mul_right n (by omega)
    rw [Nat.add_mul,Nat.one_mul] at this;omega
   have e1:(k*n+j) / n=k:=by rw [Nat.mul_comm,Nat.mul_add_div hn,Nat.div_eq_of_lt hj1,Nat.add_zero]
   have e2:(k*n+j) % n=j:=by rw [Nat.mul_comm,Nat.mul_add_mod,Nat.mod_eq_of_lt hj1]
   rw [List.getD_eq_getElem?_getD,List.getElem?_map,List.getElem?_range hlt,Option.map_some,e1,e2]
   exact hv k row j y hk hj
 have nil:∀(ao:Option Addr) (c:Nat),rows=[]→u=.slice ao 0 c→∃(ao:Option Addr) (c:Nat) (news:List Value),u=.slice ao rows.length c∧news.length=rows.length*n∧(∀v∈news,v.oneCell'=true)∧(∀(k:Nat) (row:List A) (j:Nat) (y:A),rows[k]? = some row→row[j]? = some y→RepC V.w V.mut y (news.getD (k*n+j) Go.undef)) ∧
   ((ao=none∧rows=[])∨∃a,ao=some a∧∀(q:Nat) (v:Value),news[q]? = some v→V.w.cell? (a.add q)=some v):=fun ao c hr hu=>by
  subst hr
  refine⟨ao,c,[],hu,by simp,by simp,fun k row j y hk=>by simp at hk,?_⟩
  cases ao with
  | none=>exact .inl ⟨rfl,rfl⟩
  | some a=>exact .inr ⟨a,rfl,fun q v hq=>by simp at hq⟩
 unfold qb2 at hr
 split at hr
 ·injection hr with hr
  cases h.c_inv rfl with
   | nl=>exact nil none 0 hr.symm rfl
 ·injection hr with hr
  subst hr
  cases h.c_inv rfl with
   | sl0 a c=>exact nil a c rfl rfl
   | sl _ n' b o' c val hb hm hc hlen h3 h4 =>
    obtain⟨b1,b2,b3⟩:=build val fun k row j y hk hj=>h4 k row j y hk hj
    refine⟨_,c,_,rfl,b1,b2,b3,.inr ⟨⟨b,o',none⟩,rfl,fun q v hq=>?_⟩⟩
    rw [List.getElem?_map,Option.map_eq_some_iff] at hq
    obtain⟨q',hq',rfl⟩:=hq
    obtain⟨g1,g2⟩:=List.getElem?_eq_some_iff.1 hq'
    rw [List.length_range] at g1
    rw [List.getElem_range] at g2
    subst g2
    obtain⟨h5,h6,h7⟩:=qhm g1 hn
    have hrow:=List.getElem?_eq_getElem h5
    have hnn:n'=n:=(hlen _ _ hrow).symm.trans (hl _ _ hrow)
    subst hnn
    have hj:=List.getElem?_eq_getElem (l:=_) (show q % n'<(_:List A).length by rw [hl _ _ hrow];exact h6)
    have:=h3 _ _ _ _ hrow hj
    rw [Nat.add_assoc,h7] at this
    rw [Addr.add_mid];exact this
 ·rename_i i ver
  split at hr
  ·rename_i ver' n' rows2 hs
   split at hr
   ·rename_i hv
    subst hv
    injection hr with hr
    subst hr
    cases h with
    | a _ _ h=>cases h with
     | c _ _ h=>cases h
     | own _ _ a l c hi hrr =>
      obtain⟨_,hrr⟩:=hrr _ _ _ hs
      obtain⟨rfl,b,cs,T,rfl,hb,hh,hsz,hlc⟩:=hrr rfl
      obtain⟨cs',T',c',k1,k2,k3,k4,k5,k6⟩:=hok.arr i ver n' _ b hs hb
      rw [hh] at k1;injection k1 with k1;injection k1 with e1 e2;subst e1
      obtain⟨b1,b2,b3⟩:=build (fun k j=>cs.getD (k*n'+j) Go.undef) fun k row j y hk hj=>k6 k row j y hk hj
      refine⟨_,c,_,rfl,b1,b2,b3,.inr ⟨⟨b,0,none⟩,rfl,fun q v hq=>?_⟩⟩
      rw [List.getElem?_map,Option.map_eq_some_iff] at hq
      obtain⟨q',hq',rfl⟩:=hq
      obtain⟨g1,g2⟩:=List.getElem?_eq_some_iff.1 hq'
      rw [List.length_range] at g1
      rw [List.getElem_range] at g2
      subst g2
      obtain⟨h5,h6,h7⟩:=qhm g1 hn
      have hrow:=List.getElem?_eq_getElem h5
      have hnn:n'=n:=(k5 _ _ hrow).symm.trans (hl _ _ hrow)
      subst hnn
      have hlt:q<cs.size:=by
       rw [hsz];exact Nat.lt_of_lt_of_le g1 (Nat.mul_le_mul_right _ hlc)
      rw [Addr.add_mid,Nat.zero_add,cell_of_row V.w b q cs T (0,0) hh,qfs hlt,h7]
   ·cases hr
  ·cases hr
 ·cases hr
theorem qf5 {P:Program} (w:World) (t ty e:TypeId) (i:TypeInfo) (ht:P.underlying t=some (.slice e)) (hi:P.info? e=some i)
  (g sLen sCap:Nat) (cur:Array Value) (T:TypeId) (hg:w.heap[g]? = some (.cells cur T (0,0)))
  (ao:Option Addr) (m c:Nat) (news:List Value) (hl:news.length=m*i.size) (hnews:(ao=none∧news=[])∨∃a,ao=some a∧∀j u,news[j]? = some u→w.cell? (a.add j)=some u) (h1:∀u∈news,u.oneCell'=true)
  (hroom:sLen+m≤sCap) (hfit:sLen*i.size+news.length≤cur.size) :
  (Builtin.append_ #[t,t] ty #[.slice (some ⟨g,0,none⟩) sLen sCap,.slice ao m c]).run P w =
   .ok (.slice (some ⟨g,0,none⟩) (sLen+m) sCap) (w.setRow g (putV cur (sLen*i.size) news)):=by
 have hst:(storeCells ⟨g,sLen*i.size,none⟩ news).run P w=.ok () (w.setRow g (putV cur (sLen*i.size) news)):=by
  have h:=qgu (P:=P) g T news (sLen*i.size) cur w hg hfit h1
  rw [show storeCells ⟨g,sLen*i.size,none⟩ news=storeCells ⟨g,sLen*i.size,none⟩ news 0 from rfl,qbm,Nat.add_zero]
  exact h
 rcases hnews with ⟨rfl,rfl⟩|⟨a,rfl,hnews⟩
 ·simp [Builtin.append_,run_underlying ht,sizeOf,typeInfo,hi,Builtin.lenOf,hroom,Builtin.firstCells,Addr.add_lit,hst]
 ·have hf:=run_firstCells_some (P:=P) w i.size m a m c news hl hnews
  simp [Builtin.append_,run_underlying ht,sizeOf,typeInfo,hi,Builtin.lenOf,hroom,hf,Addr.add_lit,hst]
section
variable {P:Program} {st:List Bx} {e:Nat→D} {o:Oper}
theorem GUp.val {V:Vw} {st':List Bx} {d:D} {v:Value} {w':World} {bl':List Nat} (h:Step V ⟨w',V.x,bl',st'⟩) (hr:RepD ⟨w',V.x,bl',st'⟩ d v):GUp P V st' d (.ok (.value v) w'):=⟨bl',h,hr⟩
theorem qi9 {rows rows2:List (List A)} {n:Nat} {R:A→Value→Prop} {olds:Nat→Value} {news:List Value} {f:Nat→Value} (hl:∀(k:Nat) (row:List A),rows[k]? = some row→row.length=n) (hl2:∀(k:Nat) (row:List A),rows2[k]? = some row→row.length=n)
  (h1:∀(k:Nat) (row:List A) (j:Nat) (y:A),rows[k]? = some row→row[j]? = some y→R y (olds (k*n+j))) (h2:∀(k:Nat) (row:List A) (j:Nat) (y:A),rows2[k]? = some row→row[j]? = some y→R y (news.getD (k*n+j) Go.undef))
  (hf1:∀q,q<rows.length*n→f q=olds q) (hf2:∀q,q<rows2.length*n→f (rows.length*n+q)=news.getD q Go.undef) :
  (∀(k:Nat) (row:List A),(rows++rows2)[k]? = some row→row.length=n)∧∀(k:Nat) (row:List A) (j:Nat) (y:A),(rows++rows2)[k]? = some row→row[j]? = some y→R y (f (k*n+j)):=by
 refine⟨fun k row hk=>?_,fun k row j y hk hj=>?_⟩
 ·rw [List.getElem?_append] at hk
  split at hk
  ·exact hl k row hk
  ·exact hl2 _ row hk
 ·rw [List.getElem?_append] at hk
  split at hk
  ·rename_i hlt
   have hj1:j<n:=by have:=(List.getElem?_eq_some_iff.1 hj).1;rw [hl k row hk] at this;exact this
   have:(k+1)*n≤rows.length*n:=Nat.mul_le_mul_right n (by omega)
   rw [Nat.add_mul,Nat.one_mul] at this
   rw [hf1 _ (by omega)]
   exact h1 k row j y hk hj
  ·rename_i hlt
   have hj1:j<n:=by have:=(List.getElem?_eq_some_iff.1 hj).1;rw [hl2 _ row hk] at this;exact this
   have hk2:=(List.getElem?_eq_some_iff.1 hk).1
   have h3:(k-rows.length+1)*n≤rows2.length*n:=Nat.mul_le_mul_right n (by omega)
   rw [Nat.add_mul,Nat.one_mul] at h3
   have e1:k*n+j=rows.length*n+((k-rows.length)*n+j):=by
    have:k=rows.length+(k-rows.length):=by omega
    rw [this,Nat.add_mul,show rows.length+(k-rows.length)-rows.length=k-rows.length by omega,Nat.add_assoc]
   rw [e1,hf2 _ (by omega)]
   exact h2 _ row j y hk hj
theorem slT {T:TypeId} {n bs:Nat} {zr:List A} (hn:es P T=some n) (hz:zrT P T=some zr) (hzl:zr.length=n) (hby:byt P T=some bs):∃el inf z,P.underlying T=some (.slice el)∧P.info? el=some inf∧inf.zero=some z∧inf.size=n∧z.cells.size=n∧inf.bytes=bs∧(∀(V:Vw) (j:Nat) (y:A),zr[j]? = some y→RepA V y (z.cells.getD j Go.undef)):=by
 unfold es at hn
 split at hn
 ·rename_i el hel
  simp only [zrT,hel] at hz
  simp only [byt,hel] at hby
  obtain⟨inf,z,h1,h2,h3,_⟩:=qew (V:=out default fun _=>False) hz
  rw [h1] at hn hby
  simp only [Option.map_some,Option.some.injEq] at hn hby
  refine⟨el,inf,z,hel,h1,h2,hn,by omega,hby,fun V j y hj=>?_⟩
  obtain⟨inf',z',q1,q2,_,q4⟩:=qew (V:=V) hz
  rw [h1] at q1;injection q1 with q1;subst q1
  rw [h2] at q2;injection q2 with q2;subst q2
  exact q4 j y hj
 ·cases hn
theorem qhu {s x:Operand} {T:TypeId} (ho:o.op=.call ⟨.builtin .append,#[s,x],#[T,T]⟩) (ρ:Operand→Value) (w:World):(execOp ρ o).run P w=((Builtin.append_ #[T,T] o.type #[ρ s,ρ x]).run P w).andThen fun v w=>.ok (.value v) w:=by
 simp only [execOp,ho,resolve,invoke,builtin,Sem.run_bind,Sem.run_pure,Result.andThen_ok,List.map_toArray,List.map_cons,List.map_nil]
theorem qd9 {n:Nat} {rows:List (List A)} (h:qay n rows=true) (k:Nat) (row:List A) (hk:rows[k]? = some row):row.length=n:=by
 have:=List.all_eq_true.1 h row (lm4 hk);simpa using this
theorem qc1 (z:Array Value) (n:Nat):(Builtin.zeroCells z n).size=n*z.size:=by simp [Builtin.zeroCells]
theorem OpG.app_own {s x:Operand} {T:TypeId} {i ver n bs:Nat} {rows rows2:List (List A)} {zr:List A} (ho:o.op=.call ⟨.builtin .append,#[s,x],#[T,T]⟩) (hs:evO e s=.a (.own i ver)) (ha:st[i]? = some (.arr ver n rows)) (hx:qb2 st (evO e x)=some rows2) (hn:es P T=some n) (hz:zrT P T=some zr) (hzl:zr.length=n) (hby:byt P T=some bs) (hl2:qay n rows2=true)
  (hb1:(rows.length+rows2.length)*bs≤140737488355328) (hb2:rows.length+rows2.length≤4611686018427387904):OpG P st e o (.a (.own i (ver+1))) (st.set i (.arr (ver+1) n (rows++rows2))):=by
 intro ρ V hst hok hu
 rw [ho] at hu
 have h1:=hu s (by simp [qad,Op.operands,Call.operands])
 have h2:=hu x (by simp [qad,Op.operands,Call.operands])
 rw [hs] at h1
 subst hst
 have hl2':=qd9 hl2
 rw [qhu ho]
 generalize ρ s=us at h1
 generalize ρ x=ux at h2
 obtain⟨el,inf,z,hel,hinfo,hzz,hsz,hzc,hbs,_⟩:=slT hn hz hzl hby
 cases h1 with
 | a _ _ h=>cases h with
  | c _ _ h=>cases h
  | own _ _ a l c hi hr =>
   obtain⟨_,hr⟩:=hr _ _ _ ha
   obtain⟨rfl,b,cs,T',rfl,hb,hh,hcs,hlc⟩:=hr rfl
   obtain⟨cs',T'',c',k1,k2,k3,k4,k5,k6⟩:=hok.arr i ver n rows b ha hb
   rw [hh] at k1;injection k1 with k1;injection k1 with e1 e2;subst e1;subst e2
   obtain⟨ao,c2,news,rfl,n1,n2,n3,n4⟩:=qck hok h2 hx k3 hl2'
   have hlt:=hok.lt i b hb
   have hil:i<V.st.length:=(List.getElem?_eq_some_iff.1 ha).1
   have own:∀(w':World) (b':Nat) (cs1:Array Value) (T1:TypeId) (c1:Nat),w'.heap[b']? = some (.cells cs1 T1 (0,0))→cs1.size=c1*n→rows.length+rows2.length≤c1 →
     RepD ⟨w',V.x,V.bl.set i b',V.st.set i (.arr (ver+1) n (rows++rows2))⟩ (.a (.own i (ver+1))) (.slice (some ⟨b',0,none⟩) (rows.length+rows2.length) c1):=fun w' b' cs1 T1 c1 q1 q2 q3=>by
    refine .a _ _ (.own i (ver+1) _ _ _ (by simpa using hil) fun ver' n' rows' h'=>?_)
    have h':(V.st.set i (.arr (ver+1) n (rows++rows2)))[i]? = some (.arr ver' n' rows'):=h'
    rw [List.getElem?_set_self hil] at h'
    injection h' with h';injection h' with e1 e2 e3
    subst e1;subst e2;subst e3
    refine⟨Nat.le_refl _,fun _=>⟨by simp,b',cs1,T1,rfl,?_,q1,q2,by simpa using q3⟩⟩
    show (V.bl.set i b')[i]? = some b'
    exact List.getElem?_set_self (List.getElem?_eq_some_iff.1 hb).1
   by_cases hroom:rows.length+rows2.length≤c
   ·have hfit:rows.length*inf.size+news.length≤cs.size:=by rw [n1,hcs,hsz,←Nat.add_mul];exact Nat.mul_le_mul_right _ hroom
    rw [qf5 V.w T o.type el inf hel hinfo b rows.length c cs T' hh ao rows2.length c2 news (by rw [n1,hsz]) (n4.imp (fun h=>⟨h.1,by have:=n1;rw [h.2] at this;exact List.eq_nil_of_length_eq_zero (by simpa using this)⟩) id) n2 hroom hfit,Result.andThen_ok]
    rw [hsz] at hfit ⊢
    obtain⟨q1,q2⟩:=qi9 (R:=RepC V.w V.mut) (olds:=fun q=>cs.getD q Go.undef) (f:=fun q=>(putV cs (rows.length*n) news).getD q Go.undef) k5 hl2' k6 n3 (fun q hq=>by rw [qcx _ _ _ _ hfit,if_neg (by omega)]) (fun q hq=>by rw [qcx _ _ _ _ hfit,if_pos ⟨by omega,by rw [n1];omega⟩,show rows.length*n+q-rows.length*n=q by omega])
    have hnewc:=setRow_heap V.w b cs (putV cs (rows.length*n) news) T' (0,0) hh
    have hset:V.bl.set i b=V.bl:=by
     apply List.ext_getElem?
     intro j
     rw [List.getElem?_set]
     split
     ·rename_i h;subst h;rw [hb];simp [(List.getElem?_eq_some_iff.1 hb).1]
     ·rfl
    have hstep:=Step.turnA (V:=V) hok (b':=b) (ver':=ver+1) (rows':=rows++rows2) (w':=V.w.setRow b (putV cs (rows.length*n) news)) ha hb ⟨rfl,rfl,rfl,by simp,fun k _ hk=>setRow_other V.w b k _ hk⟩ (.inl rfl) hnewc (fun h=>absurd rfl h) (.inl (by omega)) (by rw [qbx,hcs]) (by simpa using hroom) q1 q2
    exact .val hstep (own _ b _ T' c hnewc (by rw [qbx,hcs]) hroom)
   ·have holds:∀j u,(cs.toList.take (rows.length*n))[j]? = some u→V.w.cell? ((⟨b,0,none⟩:Addr).add j)=some u:=fun j u hj=>by
     rw [List.getElem?_take] at hj
     split at hj
     ·rw [Addr.add_mid,Nat.zero_add,cell_of_row V.w b j cs T' (0,0) hh];simpa using hj
     ·cases hj
    have hol:(cs.toList.take (rows.length*n)).length=rows.length*inf.size:=by
     have h9:cs.toList.length=c*n:=by simpa using hcs
     rw [hsz,List.length_take,h9,Nat.min_eq_left (Nat.mul_le_mul_right _ hlc)]
    have hne:¬(ao=none∧rows2=[]):=fun h=>by rw [h.2] at hroom;simp at hroom;omega
    obtain⟨a2,rfl,n5⟩:=n4.resolve_left hne
    rw [run_append_grow (P:=P) V.w T o.type el inf z hel hinfo hzz ⟨b,0,none⟩ rows.length c _ hol holds a2 rows2.length c2 news (by rw [n1,hsz]) n5 (by omega) (by omega) (growslice_fits (by omega) (by rw [hbs];exact hb1)),Result.andThen_ok]
    obtain⟨C1,hC1⟩:∃C1,C1=grownCap V.w (rows.length+rows2.length) c el:=⟨_,rfl⟩
    have hge:rows.length+rows2.length≤C1:=by rw [hC1];exact grownCap_ge V.w (rows.length+rows2.length) c el
    rw [←hC1]
    obtain⟨cs2,hcs2⟩:∃cs2,cs2=(cs.toList.take (rows.length*n)).toArray++news.toArray++Builtin.zeroCells z.cells (C1-(rows.length+rows2.length)):=⟨_,rfl⟩
    rw [←hcs2]
    have hl1:(cs.toList.take (rows.length*n)).length=rows.length*n:=by rw [hol,hsz]
    have hs2:cs2.size=C1*n:=by
     rw [hcs2]
     simp only [Array.size_append,List.size_toArray,hl1,n1,qc1,hzc,←Nat.add_mul]
     congr 1;omega
    have get2:∀q,q<(rows.length+rows2.length)*n→cs2.getD q Go.undef=if q<rows.length*n then cs.getD q Go.undef else news.getD (q-rows.length*n) Go.undef:=fun q hq=>by
     rw [Nat.add_mul] at hq
     rw [hcs2,Array.getD_eq_getD_getElem?,Array.getElem?_append,Array.getElem?_append]
     simp only [Array.size_append,List.size_toArray,hl1,n1]
     rw [if_pos hq]
     split
     ·rename_i h
      rw [List.getElem?_toArray,List.getElem?_take_of_lt h,Array.getElem?_toList,←Array.getD_eq_getD_getElem?]
     ·rw [List.getElem?_toArray,←List.getD_eq_getElem?_getD]
    obtain⟨q1,q2⟩:=qi9 (R:=RepC V.w V.mut) (olds:=fun q=>cs.getD q Go.undef) (f:=fun q=>cs2.getD q Go.undef) k5 hl2' k6 n3 (fun q hq=>by rw [get2 q (by rw [Nat.add_mul];omega),if_pos hq]) (fun q hq=>by rw [get2 _ (by rw [Nat.add_mul];omega),if_neg (by omega),show rows.length*n+q-rows.length*n=q by omega])
    have hnewc:(V.w.drew.alloc (.cells cs2 el)).heap[V.w.heap.size]? = some (.cells cs2 el (0,0)):=qbb _ _ _ rfl
    have hold:∀k,k<V.w.heap.size→(V.w.drew.alloc (.cells cs2 el)).heap[k]? = V.w.heap[k]?:=fun k hk=>Below.heap_alloc V.w.drew _ k hk
    have hstep:=Step.turnA (V:=V) hok (b':=V.w.heap.size) (ver':=ver+1) (rows':=rows++rows2) (w':=V.w.drew.alloc (.cells cs2 el)) ha hb ⟨rfl,rfl,rfl,by simp,fun k hk _=>hold k hk⟩ (.inr (Nat.le_refl _)) hnewc (fun _=>hold b hlt) (.inl (by omega)) hs2 (by simpa using hge) q1 q2
    exact .val hstep (own _ _ _ _ C1 hnewc hs2 hge)
theorem OpG.app_nl {s x:Operand} {T:TypeId} {n bs:Nat} {rows2:List (List A)} {zr:List A} (ho:o.op=.call ⟨.builtin .append,#[s,x],#[T,T]⟩) (hs:evO e s=.a .nl) (hx:qb2 st (evO e x)=some rows2) (hn:es P T=some n) (hn0:0<n) (hz:zrT P T=some zr) (hzl:zr.length=n) (hby:byt P T=some bs) (hl2:qay n rows2=true) (hne:0<rows2.length)
  (hb1:rows2.length*bs≤140737488355328) (hb2:rows2.length≤4611686018427387904):OpG P st e o (.a (.own st.length 0)) (st++[.arr 0 n rows2]):=by
 intro ρ V hst hok hu
 rw [ho] at hu
 have h1:=hu s (by simp [qad,Op.operands,Call.operands])
 have h2:=hu x (by simp [qad,Op.operands,Call.operands])
 rw [hs] at h1
 subst hst
 have hl2':=qd9 hl2
 rw [qhu ho]
 generalize ρ s=us at h1
 generalize ρ x=ux at h2
 obtain⟨el,inf,z,hel,hinfo,hzz,hsz,hzc,hbs,_⟩:=slT hn hz hzl hby
 cases h1.c_inv rfl with
 | nl =>
  obtain⟨ao,c2,news,rfl,n1,n2,n3,n4⟩:=qck hok h2 hx hn0 hl2'
  obtain⟨a2,rfl,n5⟩:=n4.resolve_left fun h=>by rw [h.2] at hne;simp at hne
  rw [run_append_nil (P:=P) V.w T o.type el inf z hel hinfo hzz a2 rows2.length c2 news (by rw [n1,hsz]) n5 hne (by omega) (by rw [hbs];omega),Result.andThen_ok]
  obtain⟨C1,hC1⟩:∃C1,C1=grownCap V.w rows2.length 0 el:=⟨_,rfl⟩
  have hge:rows2.length≤C1:=by rw [hC1];exact grownCap_ge V.w rows2.length 0 el
  rw [←hC1]
  obtain⟨cs2,hcs2⟩:∃cs2,cs2=news.toArray++Builtin.zeroCells z.cells (C1-rows2.length):=⟨_,rfl⟩
  rw [←hcs2]
  have hs2:cs2.size=C1*n:=by
   rw [hcs2]
   simp only [Array.size_append,List.size_toArray,n1,qc1,hzc,←Nat.add_mul]
   congr 1;omega
  have hnewc:(V.w.drew.alloc (.cells cs2 el)).heap[V.w.heap.size]? = some (.cells cs2 el (0,0)):=qbb _ _ _ rfl
  refine .val (Step.pushA hok cs2 el n C1 rows2 (((Grw.refl V.w).drew).alloc _) hnewc hs2 hn0 hge hl2' fun k row j y hk hj=>?_) (.a _ _ (qec hok.len cs2 el n C1 rows2 hnewc hs2 hge))
  have hk1:=(List.getElem?_eq_some_iff.1 hk).1
  have hj1:j<n:=by have:=(List.getElem?_eq_some_iff.1 hj).1;rw [hl2' k row hk] at this;exact this
  have h3:(k+1)*n≤rows2.length*n:=Nat.mul_le_mul_right n (by omega)
  rw [Nat.add_mul,Nat.one_mul] at h3
  have:cs2.getD (k*n+j) Go.undef=news.getD (k*n+j) Go.undef:=by
   rw [hcs2,Array.getD_eq_getD_getElem?,Array.getElem?_append_left (by simp [n1];omega),List.getElem?_toArray,←List.getD_eq_getElem?_getD]
  rw [this]
  exact n3 k row j y hk hj
end
theorem qgs {α:Type} {l:List α} {i k:Nat} {a b:α} (h:(l.set i a)[k]? = some b):(i=k∧b=a)∨(i≠k∧l[k]? = some b):=by
 rw [List.getElem?_set] at h
 by_cases hik:i=k
 ·subst hik
  rw [if_pos rfl] at h
  by_cases hl:i<l.length
  ·rw [if_pos hl] at h;injection h with h;exact .inl ⟨rfl,h.symm⟩
  ·rw [if_neg hl] at h;cases h
 ·rw [if_neg hik] at h;exact .inr ⟨hik,h⟩
theorem qfm {α:Type} {n k:Nat} {a b:α} (h:(List.replicate n a)[k]? = some b):k<n∧b=a:=by
 rw [List.getElem?_replicate] at h
 by_cases hl:k<n
 ·rw [if_pos hl] at h;injection h with h;exact⟨hl,h.symm⟩
 ·rw [if_neg hl] at h;cases h
section
variable {P:Program} {st:List Bx} {e:Nat→D} {o:Oper}
theorem OpG.pop {T:TypeId} {x:Operand} {hi:Option Operand} {i ver n h:Nat} {rows:List (List A)} (ho:o.op=.slice T x none hi none) (hx:evO e x=.a (.own i ver)) (ha:st[i]? = some (.arr ver n rows)) (hn:es P T=some n) (h1:bndD e hi rows.length=some h):OpG P st e o (.a (.own i (ver+1))) (st.set i (.arr (ver+1) n (rows.take h))):=by
 intro ρ V hst hok hu
 rw [ho] at hu
 have hx1:=hu x (by simp [qad,Op.operands])
 rw [hx] at hx1
 have hhi:∀z,hi=some z→RepD V (evO e z) (ρ z):=fun z hz=>hu z (by subst hz;simp [qad,Op.operands])
 simp only [execOp,ho]
 generalize ρ x=u at *
 subst hst
 unfold es at hn
 split at hn
 ·rename_i el hel
  cases hinfo:P.info? el with
  | none=>simp [hinfo] at hn
  | some inf =>
   simp only [hinfo,Option.map_some,Option.some.injEq] at hn
   cases hx1 with
   | a _ _ hh=>cases hh with
    | c _ _ hh=>cases hh
    | own _ _ a l c hil hr =>
     obtain⟨_,hr⟩:=hr _ _ _ ha
     obtain⟨rfl,b,cs,T',rfl,hb,hh,hcs,hlc⟩:=hr rfl
     obtain⟨g1,g2,g3⟩:=qea (P:=P) (isS:=true) (w:=V.w) (lo:=none) (fun z hz=>by cases hz) hhi h1 rfl hlc
     have main:(Instr.sliceAt T (.slice (some ⟨b,0,none⟩) rows.length c) ((none:Option Operand).map ρ) (hi.map ρ) none).run P V.w=.ok (.slice (some ⟨b,0,none⟩) h c) V.w:=by
      simp only [Instr.sliceAt,Instr.slice,Sem.run_bind,run_underlying hel,Result.andThen_ok,Option.map_none,sizeOf,typeInfo,run_program,hinfo,Sem.run_pure]
      simp only [Option.map_none] at g1
      rw [g1]
      simp [Addr.add_mid]
     simp only [Option.map_none] at main ⊢
     simp only [Sem.run_bind,main,Result.andThen_ok,Sem.run_pure]
     obtain⟨cs',T'',c',k1,k2,k3,k4,k5,k6⟩:=hok.arr i ver n rows b ha hb
     rw [hh] at k1;injection k1 with k1;injection k1 with e1 e2;subst e1;subst e2
     have hset:V.bl.set i b=V.bl:=by
      apply List.ext_getElem?
      intro j
      rw [List.getElem?_set]
      split
      ·rename_i h;subst h;rw [hb];simp [(List.getElem?_eq_some_iff.1 hb).1]
      ·rfl
     have tk:∀(k:Nat) (row:List A),(rows.take h)[k]? = some row→rows[k]? = some row:=fun k row hk=>by
      rw [List.getElem?_take] at hk
      split at hk
      ·exact hk
      ·cases hk
     have hstep:=Step.turnA (V:=V) hok (b':=b) (ver':=ver+1) (rows':=rows.take h) (w':=V.w) ha hb (.refl _ _) (.inl rfl) hh (fun h=>absurd rfl h) (.inl (by omega)) hcs (by simp;omega) (fun k row hk=>k5 k row (tk k row hk)) fun k row j y hk hj=>k6 k row j y (tk k row hk) hj
     refine .val hstep (.a _ _ (.own i (ver+1) _ _ _ (by simpa using hil) fun ver' n' rows' h'=>?_))
     have h':(V.st.set i (.arr (ver+1) n (rows.take h)))[i]? = some (.arr ver' n' rows'):=h'
     rw [List.getElem?_set_self hil] at h'
     injection h' with h';injection h' with e1 e2 e3
     subst e1;subst e2;subst e3
     refine⟨Nat.le_refl _,fun _=>⟨by simp;omega,b,cs,T',rfl,?_,hh,hcs,by simp;omega⟩⟩
     show (V.bl.set i b)[i]? = some b
     exact List.getElem?_set_self (List.getElem?_eq_some_iff.1 hb).1
 ·cases hn
theorem OpG.store_ep {T:TypeId} {x y:Operand} {i ver n z off:Nat} {rows:List (List A)} {row xs:List A} (ho:o.op=.store T x y) (hx:evO e x=.a (.ep i ver z off)) (ha:st[i]? = some (.arr ver n rows)) (hz:rows[z]? = some row) (hy:qba (evO e y)=some xs) (hc:xs.all clA=true) (hT:szo P T=some xs.length) (hle:off+xs.length≤row.length) :
  OpG P st e o .undef (st.set i (.arr ver n (rows.set z (qah row off xs)))):=by
 intro ρ V hst hok hu
 rw [ho] at hu
 have h:=hu x (by simp [qad,Op.operands])
 have h':=hu y (by simp [qad,Op.operands])
 rw [hx] at h
 obtain⟨k1,k2,k3⟩:=qch h' hy
 simp only [execOp,ho]
 generalize ρ x=u at *
 subst hst
 cases h with
 | a _ _ h=>cases h with
  | c _ _ h=>cases h
  | ep _ _ _ _ b ad hi hb =>
   obtain⟨hb3,had⟩:=(hb _ _ _ ha).2 rfl
   subst had
   obtain⟨cs,T',c,h1,h2,h3,h4,h5,h6⟩:=hok.arr i ver n rows b ha hb3
   have hzl:=(List.getElem?_eq_some_iff.1 hz).1
   have hrl:=h5 z row hz
   have hfit:z*n+off+xs.length≤cs.size:=by
    have:(z+1)*n≤c*n:=Nat.mul_le_mul_right n (by omega)
    rw [Nat.add_mul,Nat.one_mul] at this
    omega
   have hinf:∃inf,P.info? T=some inf∧inf.size=xs.length:=by
    unfold szo at hT
    cases hq:P.info? T with
    | none=>simp [hq] at hT
    | some inf=>exact⟨inf,rfl,by simpa [hq] using hT⟩
   obtain⟨inf,hq,hqs⟩:=hinf
   have hrun:(Instr.storeAt T (.pointer (some ⟨b,z*n+off,none⟩)) (ρ y)).run P V.w=.ok () (V.w.setRow b (putV cs (z*n+off) (ρ y).cells.toList)):=by
    simp only [Instr.storeAt,Instr.sureAddr,storeVar,sizeOf,typeInfo,Sem.run_bind,Sem.run_pure,Result.andThen_ok,run_program,hq,k1,hqs,ne_eq,not_true_eq_false,if_false]
    rw [qbm,Nat.add_zero]
    exact qgu b T' _ (z*n+off) cs V.w h1 (by simp [k1];omega) k3
   simp only [Sem.run_bind,hrun,Result.andThen_ok,Sem.run_pure]
   have hset:V.bl.set i b=V.bl:=by
    apply List.ext_getElem?
    intro j
    rw [List.getElem?_set]
    split
    ·rename_i h;subst h;rw [hb3];simp [(List.getElem?_eq_some_iff.1 hb3).1]
    ·rfl
   have hvl:(ρ y).cells.toList.length=xs.length:=by simpa using k1
   have hstep:=Step.turnA (V:=V) hok (b':=b) (ver':=ver) (rows':=rows.set z (qah row off xs)) (w':=V.w.setRow b (putV cs (z*n+off) (ρ y).cells.toList)) (cs':=putV cs (z*n+off) (ρ y).cells.toList) (T':=T') (c':=c) ha hb3 ⟨rfl,rfl,rfl,by simp,fun k _ hk=>setRow_other V.w b k _ hk⟩ (.inl rfl) (setRow_heap V.w b cs _ T' (0,0) h1) (fun h=>absurd rfl h) (.inr ⟨rfl,by simp,rfl,fun cs1 T1 hh=>by rw [h1] at hh;injection hh with hh;injection hh with e1 e2;subst e1;exact⟨e2.symm,by rw [qbx]⟩⟩) (by rw [qbx,h2]) (by simpa using h4) (fun k rw_ hk=>?_) fun k rw_ j y' hk hj=>?_
   ·rw [hset] at hstep
    exact⟨rfl,V.bl,hstep⟩
   ·rcases qgs hk with ⟨_,rfl⟩|⟨_,hk⟩
    ·simp [qah];omega
    ·exact h5 k rw_ hk
   ·rw [qcx _ cs _ _ (by rw [hvl];exact hfit),hvl]
    rcases qgs hk with ⟨rfl,rfl⟩|⟨hzk,hk⟩
    ·rw [qfn hle] at hj
     have hjl:j<row.length:=by
      split at hj
      ·omega
      ·exact (List.getElem?_eq_some_iff.1 hj).1
     split at hj
     ·rename_i hcc
      rw [if_pos (by omega),show z*n+j-(z*n+off)=j-off by omega]
      have hr:=k2 _ y' hj
      rw [Array.getD_eq_getD_getElem?,←Array.getElem?_toList,←List.getD_eq_getElem?_getD] at hr
      exact hr.cl (List.all_eq_true.1 hc y' (lm4 hj))
     ·rename_i hcc
      rw [if_neg (by omega)]
      exact h6 z row j y' hz hj
    ·have hjl:j<n:=by have:=(List.getElem?_eq_some_iff.1 hj).1;rw [h5 k rw_ hk] at this;exact this
     have:¬(z*n+off≤k*n+j∧k*n+j<z*n+off+xs.length):=by
      rcases Nat.lt_or_gt_of_ne hzk with hlt|hlt
      ·have:(z+1)*n≤k*n:=Nat.mul_le_mul_right n (by omega)
       rw [Nat.add_mul,Nat.one_mul] at this;omega
      ·have:(k+1)*n≤z*n:=Nat.mul_le_mul_right n (by omega)
       rw [Nat.add_mul,Nat.one_mul] at this;omega
     rw [if_neg this]
     exact h6 k rw_ j y' hk hj
def qb7 (n:Nat):List (List A)→List (Nat×D)→Option (List (List A))
 | rows,[]=>some rows
 | rows,(i,d)::r=>(match qba d with
  | some xs=>if (xs.length=n∧i<rows.length)∧xs.all clA=true then qb7 n (rows.set i xs) r else none
  | none=>none)
theorem qg3 {V:Vw} {n:Nat}:∀(parts:List (Nat×D)) (pv:List (Nat×Value)) (cs:Array Value) (rows rows':List (List A)),pv.length=parts.length→(∀(j:Nat) (q:Nat×D),parts[j]? = some q→∃v,pv[j]? = some (q.1,v)∧RepD V q.2 v) →
  cs.size=rows.length*n→(∀(k:Nat) (row:List A),rows[k]? = some row→row.length=n)→(∀(k:Nat) (row:List A) (j:Nat) (y:A),rows[k]? = some row→row[j]? = some y→RepC V.w V.mut y (cs.getD (k*n+j) Go.undef))→qb7 n rows parts=some rows' →
  ∃cs',Instr.fill (fun i=>some (i*n,n)) cs pv=some cs'∧rows'.length=rows.length∧cs'.size=rows'.length*n∧(∀(k:Nat) (row:List A),rows'[k]? = some row→row.length=n)∧∀(k:Nat) (row:List A) (j:Nat) (y:A),rows'[k]? = some row→row[j]? = some y→RepC V.w V.mut y (cs'.getD (k*n+j) Go.undef)
 | [],[],cs,rows,rows',_,_,hs,hl,hr,h=>by injection h with h;subst h;exact⟨cs,rfl,rfl,hs,hl,hr⟩
 | [],_::_,_,_,_,hl,_,_,_,_,_=>by simp at hl
 | _::_,[],_,_,_,hl,_,_,_,_,_=>by simp at hl
 | (i,d)::parts,p::pv,cs,rows,rows',hlp,hp,hs,hl,hr,h=>by
  obtain⟨v,hv,hd⟩:=hp 0 (i,d) rfl
  simp only [List.getElem?_cons_zero,Option.some.injEq] at hv
  subst hv
  unfold qb7 at h
  split at h
  ·rename_i xs h2
   split at h
   ·rename_i hc
    obtain⟨⟨hc1,hc2⟩,hc3⟩:=hc
    obtain⟨k1,k2,_⟩:=qch hd h2
    have hfit:i*n+n≤rows.length*n:=by
     have:(i+1)*n≤rows.length*n:=Nat.mul_le_mul_right n (by omega)
     rwa [Nat.add_mul,Nat.one_mul] at this
    have hvl:v.cells.toList.length=n:=by simpa [hc1] using k1
    have hfold:(v.cells.zipIdx.foldl (fun cs (c,j)=>cs.setIfInBounds (i*n+j) c) cs)=putV cs (i*n) v.cells.toList:=by
     rw [←Array.foldl_toList,Array.toList_zipIdx]
     have:=qgj (i*n) v.cells.toList 0 cs
     simpa using this
    have hstep:Instr.fill (fun i=>some (i*n,n)) cs ((i,v)::pv)=Instr.fill (fun i=>some (i*n,n)) (putV cs (i*n) v.cells.toList) pv:=by
     rw [Instr.fill]
     simp only
     rw [if_neg (by simp;omega),hfold]
    rw [hstep]
    have:=qg3 (V:=V) (n:=n) parts pv (putV cs (i*n) v.cells.toList) (rows.set i xs) rows' (by simpa using hlp) (fun j q hq=>by simpa using hp (j+1) q (by simpa using hq)) (by rw [qbx,hs];simp) (fun k row hk=>?_) (fun k row j y hk hj=>?_) h
    ·obtain⟨cs',g1,g2,g3⟩:=this
     exact⟨cs',g1,by simpa using g2,g3⟩
    ·rcases qgs hk with ⟨_,rfl⟩|⟨_,hk⟩
     ·exact hc1
     ·exact hl k row hk
    ·rw [qcx _ cs _ _ (by rw [hvl,hs];exact hfit),hvl]
     rcases qgs hk with ⟨rfl,rfl⟩|⟨hik,hk⟩
     ·have hjl:=(List.getElem?_eq_some_iff.1 hj).1
      rw [if_pos (by omega),show i*n+j-i*n=j by omega]
      have hq:=k2 _ y hj
      rw [Array.getD_eq_getD_getElem?,←Array.getElem?_toList,←List.getD_eq_getElem?_getD] at hq
      exact hq.cl (List.all_eq_true.1 hc3 y (lm4 hj))
     ·have hjl:j<n:=by have:=(List.getElem?_eq_some_iff.1 hj).1;rw [hl k row hk] at this;exact this
      have:¬(i*n≤k*n+j∧k*n+j<i*n+n):=by
       rcases Nat.lt_or_gt_of_ne hik with hlt|hlt
       ·have:(i+1)*n≤k*n:=Nat.mul_le_mul_right n (by omega)
        rw [Nat.add_mul,Nat.one_mul] at this;omega
       ·have:(k+1)*n≤i*n:=Nat.mul_le_mul_right n (by omega)
        rw [Nat.add_mul,Nat.one_mul] at this;omega
      rw [if_neg this]
      exact hr k row j y hk hj
   ·cases h
  ·cases h
theorem qdl {V:Vw} {zr:List A} {z:Array Value} {n len:Nat} (hzl:zr.length=n) (hzs:z.size=n) (hcl:zr.all clA=true) (hr:∀(j:Nat) (y:A),zr[j]? = some y→RepA V y (z.getD j Go.undef)) (k:Nat) (row:List A) (j:Nat) (y:A) (hk:(List.replicate len zr)[k]? = some row) (hj:row[j]? = some y) :
  RepC V.w V.mut y (((Array.range (len*n)).map (z[· % z.size]!)).getD (k*n+j) Go.undef):=by
 rw [List.getElem?_replicate] at hk
 split at hk
 ·rename_i hkl
  injection hk with hk;subst hk
  have hjl:=(List.getElem?_eq_some_iff.1 hj).1
  have hlt:k*n+j<len*n:=by
   have:(k+1)*n≤len*n:=Nat.mul_le_mul_right n (by omega)
   rw [Nat.add_mul,Nat.one_mul] at this;omega
  have e2:(k*n+j) % z.size=j:=by rw [hzs,Nat.mul_comm,Nat.mul_add_mod,Nat.mod_eq_of_lt (by omega)]
  have h1:=(hr j y hj).cl (List.all_eq_true.1 hcl y (lm4 hj))
  have e3:((Array.range (len*n)).map (z[· % z.size]!)).getD (k*n+j) Go.undef=z.getD j Go.undef:=by
   rw [Array.getD_eq_getD_getElem?,Array.getElem?_map,Array.getElem?_range,if_pos hlt,Option.map_some,Option.getD_some,e2]
   have hjz:j<z.size:=by omega
   rw [getElem!_pos z j hjz,Array.getD_eq_getD_getElem?,Array.getElem?_eq_getElem hjz];rfl
  rw [e3];exact h1
 ·cases hk
theorem qlo {w:World} {t e:TypeId} {len:Nat} {parts:Array (Nat×Value)} {cells:Array Value} {ie:TypeInfo} {z:Value} (hu:P.underlying t=some (.slice e)) (hie:P.info? e=some ie) (hz:ie.zero=some z) (hsmall:¬len*ie.size>2 ^ 24) (hpos:¬len*ie.size=0)
  (h:Instr.fill (fun i=>some (i*ie.size,ie.size)) ((Array.range (len*ie.size)).map (z.cells[· % z.cells.size]!)) parts.toList=some cells) :
  (Instr.buildSlice t len parts).run P w=.ok (.slice (some ⟨w.heap.size,0,none⟩) len len) (w.alloc (.cells cells e)):=by
 simp [Instr.buildSlice,run_underlying hu,sizeOf,typeInfo,zeroValue,hie,hz,hsmall,hpos,h,newRow]
theorem OpG.lit {T:TypeId} {len n:Nat} {parts:List (Nat×Operand)} {rows:List (List A)} {zr:List A} {bs:Nat} (ho:o.op=.buildSlice T len ⟨parts⟩) (hn:es P T=some n) (hn0:0<n) (hlen:0<len) (hz:zrT P T=some zr) (hzl:zr.length=n) (hcl:zr.all clA=true) (hby:byt P T=some bs) (hsm:len*n≤16777216)
  (hp:qb7 n (List.replicate len zr) (parts.map fun p=>(p.1,evO e p.2))=some rows):OpG P st e o (.a (.own st.length 0)) (st++[.arr 0 n rows]):=by
 intro ρ V hst hok hu
 rw [ho] at hu
 subst hst
 obtain⟨el,inf,z,hel,hinfo,hzz,hsz,hzc,hbs,hzr⟩:=slT hn hz hzl hby
 have hpv:∀(j:Nat) (q:Nat×D),(parts.map fun p=>(p.1,evO e p.2))[j]? = some q→∃v,(parts.map fun p=>(p.1,ρ p.2))[j]? = some (q.1,v)∧RepD V q.2 v:=by
  intro j q hq
  rw [List.getElem?_map,Option.map_eq_some_iff] at hq
  obtain⟨p,hp,rfl⟩:=hq
  refine⟨ρ p.2,by rw [List.getElem?_map,hp];rfl,hu p.2 ?_⟩
  simp only [qad,Op.operands,List.mem_map]
  exact⟨p,lm4 hp,rfl⟩
 obtain⟨cs',g1,g2,g3,g4,g5⟩:=qg3 (V:=V) (n:=n) (parts.map fun p=>(p.1,evO e p.2)) (parts.map fun p=>(p.1,ρ p.2)) ((Array.range (len*n)).map (z.cells[· % z.cells.size]!)) (List.replicate len zr) rows (by simp) hpv (by simp) (fun k row hk=>by rw [(qfm hk).2];exact hzl) (fun k row j y hk hj=>qdl hzl hzc hcl (hzr V) k row j y hk hj) hp
 rw [List.length_replicate] at g2
 have hrun:=qlo (P:=P) (w:=V.w) (len:=len) (parts:=(⟨parts⟩:Array (Nat×Operand)).map fun (i,x)=>(i,ρ x)) (cells:=cs') hel hinfo hzz (by rw [hsz];omega) (by rw [hsz];exact Nat.ne_of_gt (Nat.mul_pos hlen hn0)) (by rw [hsz];rw [←g1];congr 1;simp)
 have hexec:(execOp ρ o).run P V.w=((Instr.buildSlice T len ((⟨parts⟩:Array (Nat×Operand)).map fun (i,x)=>(i,ρ x))).run P V.w).andThen fun v w=>.ok (.value v) w:=by
  simp only [execOp,ho,Sem.run_bind,Sem.run_pure]
 rw [hexec,hrun,Result.andThen_ok]
 have hnewc:(V.w.alloc (.cells cs' el)).heap[V.w.heap.size]? = some (.cells cs' el (0,0)):=qbb _ _ _ rfl
 have hown:=qec (V:=V) hok.len cs' el n len rows hnewc (by rw [g3,g2]) (by omega)
 rw [g2] at hown
 exact .val (Step.pushA hok cs' el n len rows ((Grw.refl V.w).alloc _) hnewc (by rw [g3,g2]) hn0 (by omega) g4 g5) (.a _ _ hown)
theorem OpG.mk {T:TypeId} {x y:Operand} {n len:Nat} {kl kc:IntKind} {zr:List A} {bs:Nat} (ho:o.op=.makeSlice T x y) (hx:evO e x=.a (.v (.int kl (len:Nat)))) (hy:evO e y=.a (.v (.int kc (len:Nat)))) (hn:es P T=some n) (hn0:0<n) (hz:zrT P T=some zr) (hzl:zr.length=n) (hcl:zr.all clA=true) (hby:byt P T=some bs) (hb1:len*bs≤281474976710656) (hb2:len≤4611686018427387904) :
  OpG P st e o (.a (.own st.length 0)) (st++[.arr 0 n (List.replicate len zr)]):=by
 intro ρ V hst hok hu
 rw [ho] at hu
 subst hst
 obtain⟨el,inf,z,hel,hinfo,hzz,hsz,hzc,hbs,hzr⟩:=slT hn hz hzl hby
 have h1:=hu x (by simp [qad,Op.operands])
 have h2:=hu y (by simp [qad,Op.operands])
 rw [hx] at h1
 rw [hy] at h2
 have h1:=h1.v_inv.1
 have h2:=h2.v_inv.1
 have hb3:(inf.bytes:Int)*(len:Int)≤281474976710656:=by
  rw [hbs]
  have:((len*bs:Nat):Int)≤281474976710656:=by omega
  rw [Int.natCast_mul,Int.mul_comm] at this;exact this
 have hrun:=run_make (P:=P) V.w T el inf z hel hinfo hzz kl kc len len (by omega) (Int.le_refl _) hb3 (by omega)
 rw [Int.toNat_natCast,hsz] at hrun
 have hexec:(execOp ρ o).run P V.w=((Instr.makeSlice T (ρ x) (ρ y)).run P V.w).andThen fun v w=>.ok (.value v) w:=by
  simp only [execOp,ho,Sem.run_bind,Sem.run_pure]
 rw [hexec,h1,h2,hrun,Result.andThen_ok]
 obtain⟨cs',hcs'⟩:∃cs',cs'=madeCells z.cells (len*n):=⟨_,rfl⟩
 rw [←hcs']
 have hnewc:(V.w.alloc (.cells cs' el)).heap[V.w.heap.size]? = some (.cells cs' el (0,0)):=qbb _ _ _ rfl
 have hs2:cs'.size=len*n:=by rw [hcs',size_madeCells]
 have hown:=qec (V:=V) hok.len cs' el n len (List.replicate len zr) hnewc hs2 (by simp)
 rw [List.length_replicate] at hown
 exact .val (Step.pushA hok cs' el n len (List.replicate len zr) ((Grw.refl V.w).alloc _) hnewc hs2 hn0 (by simp) (fun k row hk=>by rw [(qfm hk).2];exact hzl) fun k row j y' hk hj=>by rw [hcs'];exact qdl hzl hzc hcl (hzr V) k row j y' hk hj) (.a _ _ hown)
end
def fzA (i ver:Nat) (rows:List (List A)):A→A
 | .own j v=>if j=i∧v=ver then .sl rows else .own j v
 | x=>x
def fzD (i ver:Nat) (rows:List (List A)):D→D
 | .a x=>.a (fzA i ver rows x)
 | .r row=>.r (row.map (fzA i ver rows))
 | d=>d
def fzB (i ver:Nat) (rows:List (List A)):Bx→Bx
 | .cell row=>.cell (row.map (fzA i ver rows))
 | b=>b
section
variable {i ver:Nat} {rows:List (List A)}
end
theorem Sat.freezeA {P:Program} {C:Cx P} {w:World} {x:Nat→Prop} {bl:List Nat} {st:List Bx} {a:Act} {m:Nat} {e:Nat→D} {i ver n:Nat} {rows:List (List A)} (h:Sat C ⟨w,x,bl,st⟩ a m e) (hs:st[i]? = some (.arr ver n rows)):Sat C ⟨w,x,bl,(st.map (fzB i ver rows)).set i .gone⟩ a m fun t=>fzD i ver rows (e t):=by
 obtain⟨ms,h1,hm,henv⟩:=h
 obtain⟨st',hst'⟩:∃st',st'=(st.map (fzB i ver rows)).set i .gone:=⟨_,rfl⟩
 rw [←hst']
 have hi:i<st.length:=(List.getElem?_eq_some_iff.1 hs).1
 have hlen':st'.length=st.length:=by rw [hst'];simp
 have at_:∀(j:Nat) (y:Bx),st'[j]? = some y→y.live=true→j≠i∧∃y0,st[j]? = some y0∧y=fzB i ver rows y0∧y0.live=true:=by
  intro j y hj hl
  rw [hst'] at hj
  rcases qgs hj with ⟨rfl,rfl⟩|⟨hne,hj⟩
  ·cases hl
  ·rw [List.getElem?_map,Option.map_eq_some_iff] at hj
   obtain⟨y0,h5,rfl⟩:=hj
   refine⟨Ne.symm hne,y0,h5,rfl,?_⟩
   cases y0<;>first|rfl|(cases hl)
 have hmut:∀b,(⟨w,x,bl,st'⟩:Vw).mut b→(⟨w,x,bl,st⟩:Vw).mut b:=by
  rintro b (h|⟨j,y,h2,h3,h4⟩)
  ·exact .inl h
  ·obtain⟨_,y0,h5,_,h6⟩:=at_ j y h3 h4
   exact .inr ⟨j,y0,h2,h5,h6⟩
 have hle:(⟨w,x,bl,st⟩:Vw).Le ⟨w,x,bl,st'⟩:=by
  refine⟨by rw [hlen'];exact Nat.le_refl _,Nat.le_refl _,fun b _ h=>⟨fun _=>rfl,fun h'=>h (hmut b h')⟩,fun j r hj hr=>?_,fun j v k rs hj hr=>?_,fun j kk wd es hj hr=>?_⟩
  ·obtain⟨_,y0,h5,h6,_⟩:=at_ j _ hr rfl
   cases y0 with
   | cell r0=>exact⟨⟨r0,h5⟩,rfl⟩
   | arr=>cases h6
   | map=>cases h6
   | gone=>cases h6
  ·obtain⟨_,y0,h5,h6,_⟩:=at_ j _ hr rfl
   cases y0 with
   | cell r0=>cases h6
   | map=>cases h6
   | gone=>cases h6
   | arr v0 n0 r0 =>
    injection h6 with e1 e2 e3
    subst e1 e2 e3
    exact⟨_,_,_,h5,.inr ⟨rfl,rfl,rfl,rfl,fun _ cs _ _ hc=>⟨cs,hc,rfl⟩⟩⟩
  ·obtain⟨_,y0,h5,h6,_⟩:=at_ j _ hr rfl
   cases y0 with
   | cell r0=>cases h6
   | gone=>cases h6
   | arr=>cases h6
   | map k0 w0 e0=>exact⟨⟨_,_,_,h5⟩,rfl⟩
 have hA:∀{y:A} {u:Value},RepA ⟨w,x,bl,st⟩ y u→RepA ⟨w,x,bl,st'⟩ (fzA i ver rows y) u:=by
  intro y u hy
  cases y with
  | own j v =>
   unfold fzA
   dsimp only
   split
   ·rename_i hc
    obtain⟨rfl,rfl⟩:=hc
    cases hy with
    | c _ _ hy=>cases hy
    | own _ _ ao l c _ hr =>
     obtain⟨_,hr⟩:=hr _ _ _ hs
     obtain⟨rfl,b,cs,T,rfl,hb,hh,hsz,hlc⟩:=hr rfl
     obtain⟨cs',T',c',k1,k2,k3,k4,k5,k6⟩:=hm.ok.arr j v n rows b hs hb
     have hh:w.heap[b]? = _:=hh
     have k1:w.heap[b]? = _:=k1
     rw [hh] at k1;injection k1 with k1;injection k1 with e1 e2;subst e1
     have hnm:¬(⟨w,x,bl,st'⟩:Vw).mut b:=by
      rintro (hx|⟨q,y,q1,q2,q3⟩)
      ·exact hm.sep b (lm4 hb) hx
      ·obtain⟨q4,y0,q5,_,q6⟩:=at_ q y q2 q3
       exact q4 (hm.ok.inj q j b y0 _ q1 hb q5 hs q6 rfl)
     refine .c _ _ (.sl rows n b 0 c (fun k q=>cs.getD (k*n+q) Go.undef) (hm.ok.isc j b hb) hnm hlc k5 (fun k row q y hk hq=>?_) fun k row q y hk hq=>(k6 k row q y hk hq).less hmut)
     have hklt:=(List.getElem?_eq_some_iff.1 hk).1
     have hjlt:q<n:=by have:=(List.getElem?_eq_some_iff.1 hq).1;rw [k5 k row hk] at this;exact this
     have hlt:k*n+q<cs.size:=by
      rw [hsz]
      have:(k+1)*n≤c*n:=Nat.mul_le_mul_right n (by omega)
      rw [Nat.add_mul,Nat.one_mul] at this;omega
     show w.cell? ⟨b,0+k*n+q,none⟩=_
     rw [Nat.zero_add,cell_of_row w b _ cs T (0,0) hh,qfs hlt]
   ·exact hy.mono hle
  | v z=>exact hy.mono hle
  | nl=>exact hy.mono hle
  | sl z=>exact hy.mono hle
  | sk z=>exact hy.mono hle
  | ref z o=>exact hy.mono hle
  | ptr z o=>exact hy.mono hle
  | ep z o p q=>exact hy.mono hle
  | mp z=>exact hy.mono hle
  | cs z o n=>exact hy.mono hle
  | fn f c=>exact hy.mono hle
  | fm f c=>exact hy.mono hle
 have hD:∀{d:D} {u:Value},RepD ⟨w,x,bl,st⟩ d u→RepD ⟨w,x,bl,st'⟩ (fzD i ver rows d) u:=by
  intro d u hd
  cases hd with
  | junk _=>exact .junk _
  | undef=>exact .undef
  | a y _ h=>exact .a _ _ (hA h)
  | r row vs hl h =>
   refine .r _ vs (by simp [hl]) fun j y hj=>?_
   rw [List.getElem?_map,Option.map_eq_some_iff] at hj
   obtain⟨y0,hj,rfl⟩:=hj
   exact hA (h j y0 hj)
  | t ds vs hl h=>exact .t ds vs hl fun j d hd=>(h j d hd).mono hle
 have okn:Ok ⟨w,x,bl,st'⟩:=by
  refine⟨by show bl.length=st'.length;rw [hlen'];exact hm.ok.len,hm.ok.lt,hm.ok.xlt,hm.ok.gd,hm.ok.isc,fun j k b y z h1 h2 h3 h4 h5 h6=>?_,fun j r b h1 h2=>?_,fun j v k rs b h1 h2=>?_,fun j kk wd es b h1 h2=>?_⟩
  ·obtain⟨_,y0,q1,_,q2⟩:=at_ j y h3 h5
   obtain⟨_,z0,q3,_,q4⟩:=at_ k z h4 h6
   exact hm.ok.inj j k b y0 z0 h1 h2 q1 q3 q2 q4
  ·obtain⟨_,y0,q1,q2,_⟩:=at_ j _ h1 rfl
   cases y0 with
   | arr=>cases q2
   | map=>cases q2
   | gone=>cases q2
   | cell r0 =>
    injection q2 with q2
    subst q2
    obtain⟨cs,T,k1,k2,k3⟩:=hm.ok.cell j r0 b q1 h2
    refine⟨cs,T,k1,by simpa using k2,fun q y hq=>?_⟩
    rw [List.getElem?_map,Option.map_eq_some_iff] at hq
    obtain⟨y0,hq,rfl⟩:=hq
    exact hA (k3 q y0 hq)
  ·obtain⟨_,y0,q1,q2,_⟩:=at_ j _ h1 rfl
   cases y0 with
   | cell=>cases q2
   | map=>cases q2
   | gone=>cases q2
   | arr v0 n0 r0 =>
    injection q2 with e1 e2 e3
    subst e1;subst e2;subst e3
    obtain⟨cs,T,c,k1,k2,k3,k4,k5,k6⟩:=hm.ok.arr j _ _ _ b q1 h2
    exact⟨cs,T,c,k1,k2,k3,k4,k5,fun q row p y hq hp=>(k6 q row p y hq hp).less hmut⟩
  ·obtain⟨_,y0,q1,q2,_⟩:=at_ j _ h1 rfl
   cases y0 with
   | cell=>cases q2
   | gone=>cases q2
   | arr=>cases q2
   | map k0 w0 e0 =>
    injection q2 with e1 e2 e3
    subst e1;subst e2;subst e3
    obtain⟨ms,k1,k2,k3⟩:=hm.ok.map j _ _ _ b q1 h2
    exact⟨ms,k1,k2,fun q y row hj=>by obtain⟨q1,v,q2,q3⟩:=k3 q y row hj;exact⟨q1,v,q2,q3.mono hle⟩⟩
 refine⟨ms,h1,⟨hm.size,fun t ht=>hD (hm.slot t ht),okn,hm.le.trans hle,hm.fr,hm.low,hm.sep,hm.x0,hm.xk,hm.xg,hm.nx,hm.nx0⟩,?_⟩
 have h2:EnvE C.E C.on (C.nxm ms) (e 1000000) ⟨w,x,bl,st'⟩:=henv.frm ⟨rfl,rfl,rfl,Nat.le_refl _,fun _ _ _=>rfl⟩ (fun b hb=>by
  obtain⟨j,y,h2,h3,h4⟩:=hb
  obtain⟨_,y0,q1,_,q2⟩:=at_ j y h3 h4
  exact .inl ⟨j,y0,h2,q1,q2⟩) fun _ hb=>hb
 show EnvE C.E C.on (C.nxm ms) (fzD i ver rows (e 1000000)) _
 generalize e 1000000=g at h2 ⊢
 cases g with
 | a y =>
  cases y with
  | own j v =>
   unfold fzD fzA
   dsimp only
   split<;>trivial
  | _=>exact h2
 | _=>exact h2
section
variable {P:Program} {C:Cx P} {ops:Array Oper} {r:List Oper} {e:Nat→D} {st:List Bx} {dst:Option Nat} {ty:TypeId} {pos:String} {after:Array Edge} {K:(Nat→D)→List Bx→Prop} {T:TypeId} {s x y:Operand} {i ver n bs:Nat} {rows rows2 rows':List (List A)} {zr:List A}
theorem RS.appO (hs:evO e s=.a (.own i ver)) (ha:st[i]? = some (.arr ver n rows)) (hx:qb2 st (evO e x)=some rows2) (hn:es P T=some n) (hz:zrT P T=some zr) (hzl:zr.length=n) (hby:byt P T=some bs) (hl2:qay n rows2=true)
  (hb1:(rows.length+rows2.length)*bs≤140737488355328) (hb2:rows.length+rows2.length≤4611686018427387904) (hr:rows++rows2=rows') (k:RS C ops r (putE e dst (.a (.own i (ver+1)))) (st.set i (.arr (ver+1) n rows')) K):RS C ops (⟨dst,.call ⟨.builtin .append,⟨[s,x]⟩,⟨[T,T]⟩⟩,ty,pos,after,none⟩::r) e st K :=
 .inl ⟨_,_,.inl ⟨rfl,.app_own rfl hs ha hx hn hz hzl hby hl2 hb1 hb2⟩,hr▸k⟩
theorem RS.appN (hs:evO e s=.a .nl) (hx:qb2 st (evO e x)=some rows2) (hn:es P T=some n) (hn0:0<n) (hz:zrT P T=some zr) (hzl:zr.length=n) (hby:byt P T=some bs) (hl2:qay n rows2=true) (hne:0<rows2.length)
  (hb1:rows2.length*bs≤140737488355328) (hb2:rows2.length≤4611686018427387904) (k:RS C ops r (putE e dst (.a (.own st.length 0))) (st++[.arr 0 n rows2]) K):RS C ops (⟨dst,.call ⟨.builtin .append,⟨[s,x]⟩,⟨[T,T]⟩⟩,ty,pos,after,none⟩::r) e st K :=
 .inl ⟨_,_,.inl ⟨rfl,.app_nl rfl hs hx hn hn0 hz hzl hby hl2 hne hb1 hb2⟩,k⟩
theorem RS.pop {hi:Option Operand} {h:Nat} (hx:evO e x=.a (.own i ver)) (ha:st[i]? = some (.arr ver n rows)) (hn:es P T=some n) (h1:bndD e hi rows.length=some h) (hr:rows.take h=rows') (k:RS C ops r (putE e dst (.a (.own i (ver+1)))) (st.set i (.arr (ver+1) n rows')) K):RS C ops (⟨dst,.slice T x none hi none,ty,pos,after,none⟩::r) e st K :=
 .inl ⟨_,_,.inl ⟨rfl,.pop rfl hx ha hn h1⟩,hr▸k⟩
theorem RS.stoE {z off:Nat} {row xs:List A} (hx:evO e x=.a (.ep i ver z off)) (ha:st[i]? = some (.arr ver n rows)) (hz:rows[z]? = some row) (hy:qba (evO e y)=some xs) (hc:xs.all clA=true) (hT:szo P T=some xs.length) (hle:off+xs.length≤row.length) (hr:rows.set z (qah row off xs)=rows') (k:RS C ops r (putE e dst .undef) (st.set i (.arr ver n rows')) K):RS C ops (⟨dst,.store T x y,ty,pos,after,none⟩::r) e st K :=
 .inl ⟨_,_,.inl ⟨rfl,.store_ep rfl hx ha hz hy hc hT hle⟩,hr▸k⟩
theorem RS.lit {len:Nat} {parts:List (Nat×Operand)} (hn:es P T=some n) (hn0:0<n) (hlen:0<len) (hz:zrT P T=some zr) (hzl:zr.length=n) (hcl:zr.all clA=true) (hby:byt P T=some bs) (hsm:len*n≤16777216) (hp:qb7 n (List.replicate len zr) (parts.map fun p=>(p.1,evO e p.2))=some rows)
  (k:RS C ops r (putE e dst (.a (.own st.length 0))) (st++[.arr 0 n rows]) K):RS C ops (⟨dst,.buildSlice T len ⟨parts⟩,ty,pos,after,none⟩::r) e st K :=
 .inl ⟨_,_,.inl ⟨rfl,.lit rfl hn hn0 hlen hz hzl hcl hby hsm hp⟩,k⟩
theorem RS.mk {len:Nat} {kl kc:IntKind} (hx:evO e x=.a (.v (.int kl (len:Nat)))) (hy:evO e y=.a (.v (.int kc (len:Nat)))) (hn:es P T=some n) (hn0:0<n) (hz:zrT P T=some zr) (hzl:zr.length=n) (hcl:zr.all clA=true) (hby:byt P T=some bs) (hb1:len*bs≤281474976710656) (hb2:len≤4611686018427387904)
  (k:RS C ops r (putE e dst (.a (.own st.length 0))) (st++[.arr 0 n (List.replicate len zr)]) K):RS C ops (⟨dst,.makeSlice T x y,ty,pos,after,none⟩::r) e st K :=
 .inl ⟨_,_,.inl ⟨rfl,.mk rfl hx hy hn hn0 hz hzl hcl hby hb1 hb2⟩,k⟩
@[go_sem] theorem rowsOf_sl {q:List (List A)}:qb2 st (.a (.sl q))=some q:=rfl
@[go_sem] theorem evQ_app {q:List TypeId}:evQ P st e ⟨dst,.call ⟨.builtin .append,⟨[s,x]⟩,⟨q⟩⟩,ty,pos,after,none⟩=none:=by
 cases q with
 | nil=>rfl
 | cons a l=>cases l<;>rfl
@[go_sem] theorem evG_app {q:Array TypeId}:evG P st e ⟨dst,.call ⟨.builtin .append,⟨[s,x]⟩,q⟩,ty,pos,after,none⟩=none:=rfl
@[go_sem] theorem evQ_mk:evQ P st e ⟨dst,.makeSlice T x y,ty,pos,after,none⟩=none:=rfl
@[go_sem] theorem evG_mk:evG P st e ⟨dst,.makeSlice T x y,ty,pos,after,none⟩=none:=rfl
@[go_sem] theorem slD_own {lo hi:Option Operand}:slD P T e lo hi (.a (.own i ver))=none:=rfl
@[go_sem] theorem stoD_ep {q:Option Nat} {z off:Nat} {xs:Option (List A)}:stoD st q (.a (.ep i ver z off)) xs=none:=by cases xs<;>rfl
@[go_sem] theorem lenS_own:lenS P st T (.a (.own i ver))=if isSl P T=true then (match st[i]? with|some (.arr ver' _ rows)=>if ver=ver' then some (D.a (.v (.int .i64 (rows.length:Nat)))) else none|_=>none) else none:=by
 show (if isSl P T=true then (lenD st (.a (.own i ver))).map fun (n:Nat)=>D.a (.v (.int .i64 (n:Int))) else none)=_
 split
 ·unfold lenD
  dsimp only
  cases st[i]? with
  | none=>rfl
  | some b =>
   cases b with
   | arr v n rows=>dsimp only;split<;>rfl
   | _=>rfl
 ·rfl
@[go_sem] theorem partsA_n {q:List (List A)}:qb7 n q []=some q:=rfl
@[go_sem] theorem partsA_c {q:List (List A)} {j:Nat} {d:D} {p:List (Nat×D)}:qb7 n q ((j,d)::p)=(match qba d with|some xs=>if (xs.length=n∧j<q.length)∧xs.all clA=true then qb7 n (q.set j xs) p else none|none=>none):=rfl
end
def qd7 (ops:Array Oper) (n m:Nat):Bool :=
 qfl ops n&&(let bs:=qdg ops.toList [];(List.range ops.size).all fun k=>match ops[k]? with
  | none=>true
  | some o=>(o.after.toList.all fun e=>!Region.binds .any e||decide (e.on<k)) &&
   ((o.op.operands.toList.all fun x=>match x with
     | .tmp t=>(match wrt ops t with|some i=>(if m≤k∧i<m then true else if i<k then dep ops k i else if k<i then dep ops i k else true)|none=>true)
     | _=>true)&&(match o.guard with|some (j,_)=>dep ops k j|none=>true)) &&
   (decide (k<m)||(List.range m).all fun i=>(bs.getD k 0).testBit i))
structure qcs (ops:Array Oper) (n m:Nat):Prop where
 seq:SeqOk ops n
 acyc:∀k i,dep ops k i=true→i<k
 opd0:∀(k:Nat) (o:Oper) (t i:Nat),ops[k]? = some o→.tmp t∈o.op.operands→wrt ops t=some i→(m≤k∧i<m)∨((i<k→dep ops k i=true)∧(k<i→dep ops i k=true))
 grd0:∀(k:Nat) (o:Oper) (j:Nat) (b:Bool),ops[k]? = some o→o.guard=some (j,b)→dep ops k j=true
 tail:∀(done:Nat→Bool) (k:Nat),Cl ops done→m≤k→k<ops.size→(∀i,dep ops k i=true→done i=true)→∀i,i<m→done i=true
theorem qcs.opd {ops:Array Oper} {n m:Nat} (h:qcs ops n m) (k:Nat) (o:Oper) (t i:Nat) (hk:k<m) (ho:ops[k]? = some o) (hx:.tmp t∈o.op.operands) (hw:wrt ops t=some i):(i<k→dep ops k i=true)∧(k<i→dep ops i k=true) :=
 (h.opd0 k o t i ho hx hw).resolve_left fun h=>by omega
theorem qcs.grd {ops:Array Oper} {n m:Nat} (h:qcs ops n m) (k:Nat) (o:Oper) (j:Nat) (b:Bool) (_:k<m) (ho:ops[k]? = some o) (hg:o.guard=some (j,b)):dep ops k j=true:=h.grd0 k o j b ho hg
theorem qfg {ops:Array Oper} {n m:Nat} (h:qd7 ops n m=true):qcs ops n m:=by
 unfold qd7 at h
 rw [Bool.and_eq_true] at h
 obtain⟨h1,h2⟩:=h
 have key:∀k o,ops[k]? = some o→_:=fun k o ho=>by
  have hlt:=(Array.getElem?_eq_some_iff.1 ho).1
  have:=(List.all_eq_true.1 h2) k (by simpa using hlt)
  simp only [ho,Bool.and_eq_true] at this
  exact this
 refine⟨qc8 h1,fun k i hd=>?_,fun k o t i ho hx hw=>?_,fun k o j b ho hg=>?_,fun done k hc hk hlt hd i hi=>?_⟩
 ·unfold dep at hd
  split at hd
  ·rename_i o ho
   rw [List.any_eq_true] at hd
   obtain⟨e,he,hb⟩:=hd
   rw [Bool.and_eq_true,beq_iff_eq] at hb
   have:=List.all_eq_true.1 (key k o ho).1.1 e he
   simp only [hb.1,Bool.not_true,Bool.false_or,decide_eq_true_iff] at this
   omega
  ·cases hd
 ·have:=(key k o ho).1.2.1
  have:=List.all_eq_true.1 this (.tmp t) (by simpa using hx)
  simp only [hw] at this
  by_cases hc:m≤k∧i<m
  ·exact .inl hc
  ·right
   rw [if_neg hc] at this
   refine⟨fun hlt=>?_,fun hlt=>?_⟩
   ·rwa [if_pos hlt] at this
   ·rwa [if_neg (by omega),if_pos hlt] at this
 ·have:=(key k o ho).1.2.2
  simpa only [hg] using this
 ·have ho:=Array.getElem?_eq_getElem hlt
  have:=(key k _ ho).2
  rw [Bool.or_eq_true,decide_eq_true_iff] at this
  have:=List.all_eq_true.1 (this.resolve_left (by omega)) i (by simpa using hi)
  exact qdf hc ops.toList [] (fun j=>by simp) (fun k h=>by simp at h) k hd i this
def qkb (ops:Array Oper) (rem:List Nat) (i:Nat):Bool :=
 match ops[i]? with
 | some o=>o.after.toList.all fun ed=>!Region.binds .any ed||!rem.contains ed.on
 | none=>true
def RT {P:Program} (C:Cx P) (ops:Array Oper) (K:(Nat→D)→List Bx→Prop):Nat→List Nat→(Nat→D)→List Bx→Prop
 | 0,rem,e,st=>rem=[]∧K e st
 | f+1,rem,e,st=>(rem=[]→K e st)∧∀i,i∈rem→qkb ops rem i=true→∃o,ops[i]? = some o∧RS C ops [o] e st fun e' st'=>RT C ops K f (rem.erase i) e' st'
def TA {P:Program} (C:Cx P) (ops:Array Oper) (K:(Nat→D)→List Bx→Prop) (f:Nat) (rem:List Nat) (e:Nat→D) (st:List Bx) (l:List Nat):Prop :=
 ∀i,i∈l→qkb ops rem i=true→∃o,ops[i]? = some o∧RS C ops [o] e st fun e' st'=>RT C ops K f (rem.erase i) e' st'
section
variable {P:Program} {C:Cx P} {ops:Array Oper} {K:(Nat→D)→List Bx→Prop} {f:Nat} {rem rem' l:List Nat} {e e':Nat→D} {st:List Bx} {i:Nat} {N:(Nat→D)→List Bx→Prop} {Q:Exit→(Nat→D)→List Bx→Prop} {ks:List Nat}
theorem RT.go (h:TA C ops K f (i::rem) e st (i::rem)):RT C ops K (f+1) (i::rem) e st:=⟨(fun h=>by cases h),h⟩
theorem RT.done (h:K e st):RT C ops K f [] e st:=by
 cases f with
 | zero=>exact⟨rfl,h⟩
 | succ f=>exact⟨fun _=>h,fun i hi _=>by simp at hi⟩
theorem TA.nil:TA C ops K f rem e st []:=fun i hi _=>by simp at hi
theorem TA.no (h:qkb ops rem i=false) (k:TA C ops K f rem e st l):TA C ops K f rem e st (i::l):=fun j hj ht=>by
 rcases List.mem_cons.1 hj with rfl|hj
 ·rw [h] at ht;cases ht
 ·exact k j hj ht
theorem TA.yes {o:Oper} (ho:ops[i]? = some o) (hr:rem.erase i=rem') (h:RS C ops [o] e st fun e' st'=>RT C ops K f rem' e' st') (k:TA C ops K f rem e st l):TA C ops K f rem e st (i::l):=fun j hj ht=>by
 rcases List.mem_cons.1 hj with rfl|hj
 ·subst hr;exact⟨o,ho,h⟩
 ·exact k j hj ht
theorem TA.yesL {lo:List Oper} {o:Oper} (ho:lo[i]? = some o) (hr:rem.erase i=rem') (h:RS C ⟨lo⟩ [o] e st fun e' st'=>RT C ⟨lo⟩ K f rem' e' st') (k:TA C ⟨lo⟩ K f rem e st l):TA C ⟨lo⟩ K f rem e st (i::l):=TA.yes (by rw [←ho];simp) hr h k
theorem RS.run1 {o:Oper} {st':List Bx} {K:(Nat→D)→List Bx→Prop} (h:runS P [o] e st=(e',st',[])) (k:K e' st'):RS C ops [o] e st K:=RS.run' h k
theorem RS.nilT (h:RT C ops K f rem e st):RS C ops [] e st fun e' st'=>RT C ops K f rem e' st':=h
end
section
variable {P:Program} {ops:Array Oper} {n m:Nat} {Q:Exit→Act→World→Prop}
theorem drawTree {C:Cx P} {Nx:Nat→Prop} (hD:qcs ops n m) {K:(Nat→D)→List Bx→Prop}:∀(f:Nat) (rem:List Nat) (fuel:Nat) (listed:Array Bool) (V:Vw) (a:Act) (e:Nat→D),rem.Nodup→(∀i,i∈rem→m≤i∧i<ops.size)→listed.size=ops.size→Cl ops (fun i=>listed.getD i false)→(∀i,i<ops.size→(listed.getD i false=false↔i∈rem))→rem.length≤fuel→rem.length≤f →
  RM ops (fun i=>listed.getD i false) V a.tmps n e→Ok V→(∀b,b∈V.bl→¬V.x b)→NxOk Nx V→EnvE C.E C.on Nx (e 1000000) V→RT C ops K f rem e V.st →
  (∀a' w' x' bl' st' e',qbj C.on Nx V ⟨w',x',bl',st'⟩→RM ops (fun i=>decide (i<ops.size)) ⟨w',x',bl',st'⟩ a'.tmps n e'→EnvE C.E C.on Nx (e' 1000000) ⟨w',x',bl',st'⟩→a'.defers=a.defers→K e' st'→Q .normal a' w')→wpAnyIn (FR C.ro) 0 P .any ops Q fuel listed a V.w:=by
 intro f
 induction f with
 | zero =>
  intro rem fuel listed V a e hnd hin hls hcl hdone hfu hff hm hok hsep hnx hE h hK
  obtain⟨rfl,hk⟩:=h
  have hall:∀i,i<ops.size→listed.getD i false=true:=fun i hi=>by
   cases hh:listed.getD i false with
   | true=>rfl
   | false=>have:=(hdone i hi).1 hh;simp at this
  have hready:Region.ready .any ops listed=[]:=by
   cases hr:Region.ready .any ops listed with
   | nil=>rfl
   | cons i r =>
    obtain⟨h1,h2,_⟩:=qbn (ops:=ops) (listed:=listed) (k:=i) (by rw [hr];simp)
    rw [qa2 (by omega),hall i h2] at h1;cases h1
  refine wpAnyIn_done hready (hK a V.w V.x V.bl V.st e (.refl hok) ⟨hm.size,fun t ht=>?_⟩ hE rfl hk) fuel
  have:=hm.slot t ht
  have hg:gdD ops (fun i=>decide (i<ops.size)) t=gdD ops (fun i=>listed.getD i false) t:=by
   unfold gdD
   cases hw:wrt ops t with
   | none=>rfl
   | some i =>
    obtain⟨o,ho,_⟩:=qa5 hw
    have hi:=(Array.getElem?_eq_some_iff.1 ho).1
    simp only [hall i hi,if_true]
    rw [if_pos (by simpa using hi)]
  rw [hg];exact this
 | succ f ih =>
  intro rem fuel listed V a e hnd hin hls hcl hdone hfu hff hm hok hsep hnx hE h hK
  obtain⟨hk0,hk1⟩:=h
  cases hrem:rem with
  | nil =>
   subst hrem
   exact ih [] fuel listed V a e hnd hin hls hcl hdone hfu (Nat.zero_le _) hm hok hsep hnx hE (RT.done (hk0 rfl)) hK
  | cons r0 rr =>
   cases fuel with
   | zero=>rw [hrem] at hfu;simp at hfu
   | succ fuel =>
    refine⟨fun h0=>?_,fun k hk=>?_⟩
    ·exfalso
     -- the least one that is not done is ready
     have hex:∃k,k∈rem:=⟨r0,by rw [hrem];simp⟩
     obtain⟨k,hk⟩:=hex
     induction k using Nat.strongRecOn with
     | _ k ihk =>
      obtain⟨h1,h2⟩:=hin k hk
      by_cases hlow:∀i,i∈rem→k≤i
      ·have hkr:k∈Region.ready .any ops listed:=qe8 (by rw [qa2 (by omega)];exact (hdone k h2).2 hk) h2 fun i hd=>by
        have hik:=hD.acyc k i hd
        cases hh:listed.getD i false with
        | true=>rfl
        | false=>have:=hlow i ((hdone i (by omega)).1 hh);omega
       rw [h0] at hkr;cases hkr
      ·have:∃i,i∈rem∧i<k:=by
        refine Classical.byContradiction fun h=>hlow fun i hi=>?_
        exact Nat.le_of_not_lt fun hlt=>h ⟨i,hi,hlt⟩
       obtain⟨i,hi,hlt⟩:=this
       exact ihk i hlt hi
    ·obtain⟨h1,h2,h3⟩:=qbn hk
     have h1:listed.getD k false=false:=by rw [qa2 (by omega)] at h1;exact h1
     have hkr:k∈rem:=(hdone k h2).1 h1
     have ho:ops[k]? = some ops[k]:=Array.getElem?_eq_getElem h2
     obtain⟨hmk,_⟩:=hin k hkr
     have htr:qkb ops rem k=true:=by
      unfold qkb
      rw [ho]
      refine List.all_eq_true.2 fun ed hed=>?_
      cases hb:Region.binds .any ed with
      | false=>rfl
      | true =>
       have hdp:dep ops k ed.on=true:=by
        unfold dep
        rw [ho]
        exact List.any_eq_true.2 ⟨ed,hed,by simp [hb]⟩
       have hl:=h3 ed.on hdp
       have:¬ed.on∈rem:=fun hmem=>by
        have:=(hdone ed.on (hin _ hmem).2).2 hmem
        rw [hl] at this;cases this
       simpa using this
     obtain⟨o,ho',hr⟩:=hk1 k hkr htr
     rw [ho] at ho';injection ho' with ho'
     rw [←ho'] at hr
     have hgcl:∀(i j:Nat) (b:Bool),listed.getD i false=true→gd ops i=some (j,b)→listed.getD j false=true:=fun i j b hi hg=>by
      obtain⟨oi,g1,g2⟩:=ql3 hg
      exact hcl i j hi (hD.grd0 i oi j b g1 g2)
     have hopd:∀t i,.tmp t∈ops[k].op.operands→wrt ops t=some i→(listed.getD i false=true↔i<k):=fun t i ht hw=>by
      obtain⟨oi,hoi,_⟩:=qa5 hw
      have hil:=(Array.getElem?_eq_some_iff.1 hoi).1
      rcases hD.opd0 k _ t i ho ht hw with ⟨g1,g2⟩|⟨g1,g2⟩
      ·refine⟨fun _=>by omega,fun _=>?_⟩
       cases hh:listed.getD i false with
       | true=>rfl
       | false=>have:=(hin i ((hdone i hil).1 hh)).1;omega
      ·refine⟨fun hi=>?_,fun hlt=>h3 i (g1 hlt)⟩
       rcases Nat.lt_trichotomy i k with h|h|h
       ·exact h
       ·subst h;rw [h1] at hi;cases hi
       ·have h9:listed.getD k false=true:=hcl i k hi (g2 h)
        rw [h1] at h9;cases h9
     have hset:=qe7 (listed:=listed) (k:=k) (by omega)
     have hlen:(rem.erase k).length=rem.length-1:=List.length_erase_of_mem hkr
     have hpos:0<rem.length:=List.length_pos_of_mem hkr
     have hcl':Cl ops (fun i=>(listed.setIfInBounds k true).getD i false):=by
      rw [hset]
      intro i j hi hd
      simp only [upB,Bool.or_eq_true,beq_iff_eq] at hi ⊢
      rcases hi with hi|rfl
      ·exact .inl (hcl i j hi hd)
      ·exact .inl (h3 j hd)
     have hdone':∀i,i<ops.size→((listed.setIfInBounds k true).getD i false=false↔i∈rem.erase k):=fun i hi=>by
      have h9:(listed.setIfInBounds k true).getD i false=upB (fun i=>listed.getD i false) k i:=congrFun hset i
      rw [h9,List.Nodup.mem_erase_iff hnd]
      simp only [upB,Bool.or_eq_false_iff,beq_eq_false_iff_ne]
      rw [hdone i hi]
      exact and_comm
     rcases hr with ⟨d,st',hs,hrr⟩|⟨hgu,O,hs,hrr⟩
     ·refine qen hD.seq.one ho hm hok h1 hgcl (fun j b hg=>h3 j (hD.grd0 k _ j b ho hg)) (hD.seq.use k _ ho) hopd (fun t ht=>hD.seq.tmp k _ t ho ht) (fun j b t hg ht=>hD.seq.gs k _ j b t ho hg ht) (hD.seq.nd k _ ho) hs ?_
      intro a' w' bl' hstep hm' hdef
      rw [←hset] at hm'
      have hX:=hstep.toX (on:=C.on) (Nx:=Nx) hok
      refine ih (rem.erase k) fuel _ ⟨w',V.x,bl',st'⟩ a' _ (hnd.erase k) (fun i hi=>hin i (List.mem_of_mem_erase hi)) (by simpa using hls) hcl' hdone' (by omega) (by omega) hm' hstep.ok (hX.sep hsep) (hnx.step hX) (by rw [qfo (hD.seq.ng k _ ho)];exact hE.step hstep hok hsep fun _ h=>h) hrr ?_
      intro a'' w'' x'' bl'' st'' e'' hs2 hm2 hE2 hd2 hk2
      exact hK a'' w'' x'' bl'' st'' e'' (hX.trans hs2) hm2 hE2 (hd2.trans hdef) hk2
     ·refine qe6 hD.seq.one ho hm hok hsep hnx hE h1 hgcl hgu (fun j b hg=>h3 j (hD.grd0 k _ j b ho hg)) (fun i oi j b t hi hg ht=>hD.seq.gs i oi j b t hi hg ht) (hD.seq.use k _ ho) hopd (fun t ht=>hD.seq.tmp k _ t ho ht) (hD.seq.nd k _ ho) hs ?_
      intro a' w' d st' g x' bl' hO hX hm' hEg hdef
      rw [←hset] at hm'
      refine ih (rem.erase k) fuel _ ⟨w',x',bl',st'⟩ a' _ (hnd.erase k) (fun i hi=>hin i (List.mem_of_mem_erase hi)) (by simpa using hls) hcl' hdone' (by omega) (by omega) (hm'.ghost hD.seq.nle g) hX.ok (hX.sep hsep) (hnx.step hX) (by simpa [upd] using hEg) (hrr d st' g hO) ?_
      intro a'' w'' x'' bl'' st'' e'' hs2 hm2 hE2 hd2 hk2
      exact hK a'' w'' x'' bl'' st'' e'' (hX.trans hs2) hm2 hE2 (hd2.trans hdef) hk2
theorem drawAT {C:Cx P} {Nx:Nat→Prop} (hD:qcs ops n m) (hms:m≤ops.size) {K:(Nat→D)→List Bx→Prop} {ds:List D} {e0:Nat→D} {st:List Bx} (hds:ds.length=m)
  (hJ:∀(k:Nat) (o:Oper),k<m→ops[k]? = some o→qa8 ops (eat (ops.toList.take m) ds e0 k) o (OpJ P st (eat (ops.toList.take m) ds e0 k) o (ds.getD k .junk))) (hEnd:∀(fuel:Nat) (listed:Array Bool) (V:Vw) (a:Act),listed.size=ops.size→(∀i,i<ops.size→listed.getD i false=decide (i<m))→ops.size-m≤fuel→RM ops (fun i=>listed.getD i false) V a.tmps n (eat (ops.toList.take m) ds e0 m)→Ok V→(∀b,b∈V.bl→¬V.x b)→NxOk Nx V→EnvE C.E C.on Nx (eat (ops.toList.take m) ds e0 m 1000000) V→V.st=st →
   (∀a' w' x' bl' st' e',qbj C.on Nx V ⟨w',x',bl',st'⟩→RM ops (fun i=>decide (i<ops.size)) ⟨w',x',bl',st'⟩ a'.tmps n e'→EnvE C.E C.on Nx (e' 1000000) ⟨w',x',bl',st'⟩→a'.defers=a.defers→K e' st'→Q .normal a' w')→wpAnyIn (FR C.ro) 0 P .any ops Q fuel listed a V.w) :
  ∀(fuel:Nat) (listed:Array Bool) (V:Vw) (a:Act) (un:List Nat),un.length≤fuel→(∀i,i<ops.size→listed.getD i false=false→i∈un)→listed.size=ops.size→Cl ops (fun i=>listed.getD i false)→(∀i,m≤i→listed.getD i false=false) →
  RM ops (fun i=>listed.getD i false) V a.tmps n (eD ops ds e0 fun i=>listed.getD i false)→Ok V→(∀b,b∈V.bl→¬V.x b)→NxOk Nx V→EnvE C.E C.on Nx (e0 1000000) V→V.st=st →
  (∀a' w' x' bl' st' e',qbj C.on Nx V ⟨w',x',bl',st'⟩→RM ops (fun i=>decide (i<ops.size)) ⟨w',x',bl',st'⟩ a'.tmps n e'→EnvE C.E C.on Nx (e' 1000000) ⟨w',x',bl',st'⟩→a'.defers=a.defers→K e' st'→Q .normal a' w')→wpAnyIn (FR C.ro) 0 P .any ops Q fuel listed a V.w:=by
 have hlen:(ops.toList.take m).length=m:=by simp;omega
 have hget:∀j,j<(ops.toList.take m).length→(ops.toList.take m)[j]? = ops[j]?:=fun j hj=>by rw [List.getElem?_take_of_lt (by omega),Array.getElem?_toList]
 have hge:eat (ops.toList.take m) ds e0 m 1000000=e0 1000000:=qdc _ _ _ _ _ fun i o hi ho=>hD.seq.ng i o (by rw [←hget i (by omega)];exact ho)
 intro fuel
 induction fuel with
 | zero =>
  intro listed V a un hun hin hls hcl htl hm hok hsep hnx hE hst hK
  have hun0:un=[]:=List.eq_nil_of_length_eq_zero (by omega)
  subst hun0
  have hall:∀i,i<ops.size→listed.getD i false=true:=fun i hi=>by
   cases h:listed.getD i false with
   | true=>rfl
   | false=>have:=hin i hi h;simp at this
  have hm0:m=ops.size:=by
   rcases Nat.lt_or_ge m ops.size with h|h
   ·have:=hall m h;rw [htl m (Nat.le_refl _)] at this;cases this
   ·omega
  subst hst
  have hE':EnvE C.E C.on Nx (eat (ops.toList.take m) ds e0 m 1000000) V:=by rw [hge];exact hE
  refine hEnd 0 listed V a hls (fun i hi=>by rw [hall i hi];simp;omega) (by omega) ?_ hok hsep hnx hE' rfl hK
  refine⟨hm.size,fun t ht=>?_⟩
  have hs:=hm.slot t ht
  rw [qdh hD.seq.one hget (by omega) (k:=m) (by omega) (fun i hw=>by
   obtain⟨o,ho,_⟩:=qa5 hw
   have:=(Array.getElem?_eq_some_iff.1 ho).1
   simp only [hall i this,true_iff];omega)] at hs
  exact hs
 | succ fuel ih =>
  intro listed V a un hun hin hls hcl htl hm hok hsep hnx hE hst hK
  by_cases hall:∀i,i<m→listed.getD i false=true
  ·subst hst
   have hE':EnvE C.E C.on Nx (eat (ops.toList.take m) ds e0 m 1000000) V:=by rw [hge];exact hE
   have hdone:∀i,listed.getD i false=decide (i<m):=fun i=>by
    by_cases hi:i<m
    ·rw [hall i hi];simp [hi]
    ·rw [htl i (by omega)];simp [hi]
   refine hEnd (fuel+1) listed V a hls (fun i _=>hdone i) ?_ ?_ hok hsep hnx hE' rfl hK
   ·have:(List.range' m (ops.size-m)).length≤un.length:=List.Nodup.length_le_of_subset (List.nodup_range' ..) fun i hi=>by
     rw [List.mem_range'] at hi
     obtain⟨j,hj,rfl⟩:=hi
     exact hin _ (by omega) (htl _ (by omega))
    simp at this ⊢;omega
   ·refine⟨hm.size,fun t ht=>?_⟩
    have hs:=hm.slot t ht
    have hfun:(fun i=>listed.getD i false)=fun i=>decide (i<m):=funext hdone
    rw [qdh hD.seq.one hget (by omega) (k:=m) (by omega) (fun i _=>by simp only [hdone i];simp)] at hs
    exact hs
  ·have hex:∃k,k<m∧listed.getD k false=false∧∀i,i<k→listed.getD i false=true:=by
    have:∃k,k<m∧listed.getD k false=false:=by
     refine Classical.byContradiction fun h=>hall fun i hi=>?_
     cases hh:listed.getD i false with
     | true=>rfl
     | false=>exact absurd ⟨i,hi,hh⟩ h
    obtain⟨k,hk⟩:=this
    induction k using Nat.strongRecOn with
    | _ k ihk =>
     by_cases hlow:∀i,i<k→listed.getD i false=true
     ·exact⟨k,hk.1,hk.2,hlow⟩
     ·have:∃i,i<k∧listed.getD i false=false:=by
       refine Classical.byContradiction fun h=>hlow fun i hi=>?_
       cases hh:listed.getD i false with
       | true=>rfl
       | false=>exact absurd ⟨i,hi,hh⟩ h
      obtain⟨i,h1,h2⟩:=this
      exact ihk i h1 ⟨by omega,h2⟩
   obtain⟨k0,hk1,hk2,hk3⟩:=hex
   have hk0r:k0∈Region.ready .any ops listed:=qe8 (by rw [qa2 (by omega)];exact hk2) (by omega) fun i hd=>hk3 i (hD.acyc k0 i hd)
   refine⟨fun h0=>(by rw [h0] at hk0r;cases hk0r),fun k hk=>?_⟩
   obtain⟨h1,h2,h3⟩:=qbn hk
   have h1:listed.getD k false=false:=by rw [qa2 (by omega)] at h1;exact h1
   have hkm:k<m:=by
    rcases Nat.lt_or_ge k m with h|h
    ·exact h
    ·have:=hD.tail _ k hcl h h2 h3 k0 (by omega)
     rw [hk2] at this;cases this
   have ho:ops[k]? = some ops[k]:=Array.getElem?_eq_getElem h2
   have hagree:∀t,.tmp t∈ops[k].op.operands→∀i,wrt ops t=some i→(listed.getD i false=true↔i<k):=fun t ht i hw=>by
    obtain⟨g1,g2⟩:=hD.opd k _ t i hkm ho ht hw
    refine⟨fun hdi=>?_,fun hlt=>h3 i (g1 hlt)⟩
    rcases Nat.lt_trichotomy i k with h|h|h
    ·exact h
    ·subst h;rw [h1] at hdi;cases hdi
    ·have h9:listed.getD k false=true:=hcl i k hdi (g2 h)
     rw [h1] at h9;cases h9
   have hgagree:∀j b t,ops[k].guard=some (j,b)→qbr ops j=some t→∀i,wrt ops t=some i→(listed.getD i false=true↔i<k):=fun j b t hg hs i hw=>by
    have hjk:=hD.seq.glt k _ j b ho hg
    have hij:i=j:=by
     unfold qbr at hs
     cases hoj:ops[j]? with
     | none=>simp [hoj] at hs
     | some oj =>
      simp only [hoj,Option.bind_some] at hs
      have:=qdn hD.seq.one hoj hs
      rw [hw] at this;injection this
    subst hij
    have:=h3 i (hD.grd k _ i b hkm ho hg)
    simp only [this,true_iff];exact hjk
   have hJk:=hJ k _ hkm ho
   subst hst
   have hstep:DStep P ops V.st (eD ops ds e0 fun i=>listed.getD i false) ops[k] (ds.getD k .junk) V.st :=
    .inr ⟨rfl,hJk.congr (fun hp=>hp.congr fun t ht=>(qdh hD.seq.one hget (by omega) (by omega) (hagree t ht)).symm) fun j b t hg hs=>(qdh hD.seq.one hget (by omega) (by omega) (hgagree j b t hg hs)).symm⟩
   refine qen hD.seq.one ho hm hok h1 (fun i j b hi hg=>?_) (fun j b hg=>h3 j (hD.grd k _ j b hkm ho hg)) (hD.seq.use k _ ho) (fun t i ht hw=>hagree t ht i hw) (fun t ht=>hD.seq.tmp k _ t ho ht) (fun j b t hg ht=>hD.seq.gs k _ j b t ho hg ht) (hD.seq.nd k _ ho) hstep ?_
   ·obtain⟨oi,g1,g2⟩:=ql3 hg
    have hil:=(Array.getElem?_eq_some_iff.1 g1).1
    rcases Nat.lt_or_ge i m with h|h
    ·exact hcl i j hi (hD.grd i oi j b h g1 g2)
    ·have h9:listed.getD i false=true:=hi
     rw [htl i h] at h9;cases h9
   ·intro a' w' bl' hstep' hm' hdef
    have hset:=qe7 (listed:=listed) (k:=k) (by omega)
    have hX:=hstep'.toX (on:=C.on) (Nx:=Nx) hok
    have henv:putE (eD ops ds e0 fun i=>listed.getD i false) ops[k].dst (ds.getD k .junk)=eD ops ds e0 (upB (fun i=>listed.getD i false) k):=by
     funext t
     cases hd:ops[k].dst with
     | none =>
      simp only [putE]
      unfold eD
      cases hw:wrt ops t with
      | none=>rfl
      | some i =>
       have hik:i≠k:=fun h=>by subst h;obtain⟨o',g1,g2⟩:=qa5 hw;rw [ho] at g1;injection g1 with g1;rw [←g1,hd] at g2;cases g2
       simp only [qe2 hik]
     | some t' =>
      simp only [putE,upd]
      by_cases htt:t=t'
      ·subst htt
       rw [if_pos rfl]
       unfold eD
       rw [qdn hD.seq.one ho hd]
       simp [upB]
      ·rw [if_neg htt]
       unfold eD
       cases hw:wrt ops t with
       | none=>rfl
       | some i =>
        have hik:i≠k:=fun h=>by subst h;obtain⟨o',g1,g2⟩:=qa5 hw;rw [ho] at g1;injection g1 with g1;rw [←g1,hd] at g2;injection g2 with g2;exact htt g2.symm
        simp only [qe2 hik]
    rw [henv,←hset] at hm'
    refine ih _ ⟨w',V.x,bl',V.st⟩ a' (un.erase k) ?_ (fun i hi hu=>?_) (by simpa using hls) ?_ (fun i hi=>?_) hm' hstep'.ok (hX.sep hsep) (hnx.step hX) (hE.step hstep' hok hsep fun _ h=>h) rfl ?_
    ·have hmem:=hin k h2 h1
     rw [List.length_erase_of_mem hmem];omega
    ·have h9:(listed.setIfInBounds k true).getD i false=upB (fun i=>listed.getD i false) k i:=congrFun hset i
     rw [h9] at hu
     simp only [upB,Bool.or_eq_false_iff,beq_eq_false_iff_ne] at hu
     exact (List.mem_erase_of_ne hu.2).2 (hin i hi hu.1)
    ·rw [hset]
     intro i j hi hd
     simp only [upB,Bool.or_eq_true,beq_iff_eq] at hi ⊢
     rcases hi with hi|rfl
     ·exact .inl (hcl i j hi hd)
     ·exact .inl (h3 j hd)
    ·have h9:(listed.setIfInBounds k true).getD i false=upB (fun i=>listed.getD i false) k i:=congrFun hset i
     rw [h9]
     simp only [upB,htl i hi,Bool.false_or,beq_eq_false_iff_ne];omega
    ·intro a'' w'' x'' bl'' st'' e'' hs2 hm2 hE2 hd2 hk2
     exact hK a'' w'' x'' bl'' st'' e'' (hX.trans hs2) hm2 hE2 (hd2.trans hdef) hk2
end
theorem WP.drawT {P:Program} {C:Cx P} {n:Nat} {Q:Exit→(Nat→D)→List Bx→Prop} {e:Nat→D} {st:List Bx} {id:Nat} {ops:Array Oper} (m:Nat) (ks:List Nat) (hd:qd7 ops n m=true) (hms:m≤ops.size) (hk:ksOk ops ks=true) (hmix:P.follows .mixedOrders=true)
  (h:RQ P ops st (ops.toList.take m) e fun e'=>RT C ops (fun e'' st''=>Q .normal (qa7 e'' ks) st'') (ops.size-m) (List.range' m (ops.size-m)) e' st):WP C n (.region id ops true) Q e st:=by
 rintro a w x bl ⟨ms,hmk,hm,henv⟩
 have hD:=qfg hd
 obtain⟨ds,h1,h2,h3⟩:=h.data
 have hlen:(ops.toList.take m).length=m:=by simp;omega
 rw [hlen] at h1 h3
 have hg:Grw w { w with drawn:=w.drawn+1 }:=(Grw.refl w).drew
 have hok':=hm.ok.grw (w:={ w with drawn:=w.drawn+1 }) hg
 have hle:=Vw.le_grw hm.ok (w:={ w with drawn:=w.drawn+1 }) hg
 have hX:qbj C.on (C.nxm ms) ⟨w,x,bl,st⟩ ⟨{ w with drawn:=w.drawn+1 },x,bl,st⟩:=Step.toX (V:=⟨w,x,bl,st⟩) (.grw hm.ok hg) hm.ok
 refine wpIn_region_any hmix ?_
 have hfalse:(fun i=>(Array.replicate ops.size false).getD i false)=fun _=>false:=by
  funext i
  rw [Array.getD_eq_getD_getElem?,Array.getElem?_replicate];split<;>rfl
 refine drawAT (C:=C) (Nx:=C.nxm ms) (K:=fun e'' st''=>Q .normal (qa7 e'' ks) st'') hD hms h1 (fun k o hk ho=>h2 k o (by rw [List.getElem?_take_of_lt hk,Array.getElem?_toList];exact ho)) ?_ ops.size (Array.replicate ops.size false) ⟨{ w with drawn:=w.drawn+1 },x,bl,st⟩ a (List.range ops.size) (by simp) (fun i hi _=>by simpa using hi) (by simp) (fun i j hi _=>by have:=congrFun hfalse i;simp only at this hi;rw [this] at hi;cases hi) (fun i _=>congrFun hfalse i) ?_ hok' hm.sep ((hmk.nx hm.nx).step hX) (henv.frm ⟨rfl,rfl,rfl,Nat.le_refl _,fun _ _ _=>rfl⟩ (fun b hb=>.inl hb) fun _ hb=>hb) rfl ?_
 ·intro fuel listed V a hls hdone hfu hRM hok hsep hnx hE hst hK
  subst hst
  refine drawTree hD (ops.size-m) (List.range' m (ops.size-m)) fuel listed V a _ (List.nodup_range' ..) (fun i hi=>?_) hls (fun i j hi hd=>?_) (fun i hi=>?_) (by simpa using hfu) (by simp) hRM hok hsep hnx hE h3 hK
  ·rw [List.mem_range'] at hi
   obtain⟨j,hj,rfl⟩:=hi
   omega
  ·have hji:=hD.acyc i j hd
   have hi:listed.getD i false=true:=hi
   have hil:i<ops.size:=by
    rcases Nat.lt_or_ge i listed.size with h|h
    ·omega
    ·simp [h] at hi
   rw [hdone i hil] at hi
   show listed.getD j false=true
   rw [hdone j (by omega)]
   simp at hi ⊢;omega
  ·rw [hdone i hi,List.mem_range']
   simp only [decide_eq_false_iff_not,Nat.not_lt]
   exact⟨fun h=>⟨i-m,by omega,by omega⟩,fun ⟨j,hj,h⟩=>by omega⟩
 ·refine⟨hm.size,fun t ht=>?_⟩
  have hgd:gdD ops (fun i=>(Array.replicate ops.size false).getD i false) t=none:=by
   rw [hfalse];unfold gdD;split<;>simp
  have he:eD ops ds e (fun i=>(Array.replicate ops.size false).getD i false) t=e t:=by
   rw [hfalse];unfold eD;split<;>simp
  rw [hgd,he]
  exact (hm.slot t ht).mono hle
 ·intro a' w' x' bl' st' e' hstep hm' hE hdf hK
  have hst:=hX.trans hstep
  exact⟨x',bl',_,st',⟨ms,hdf▸hmk.step hst,hm.step (fun b hb=>.inl hb) hst hm'.size fun t ht=>hm'.keep hk t ht,hE.keep ks⟩,hK⟩
theorem WP.drwT {P:Program} {C:Cx P} {n:Nat} {Q:Exit→(Nat→D)→List Bx→Prop} {e:Nat→D} {st:List Bx} {id:Nat} {l:List Oper} (m:Nat) (rem:List Nat) (ks:List Nat) (hd:qd7 ⟨l⟩ n m=true) (hms:decide (m≤l.length)=true) (hrem:(List.range' m (l.length-m)==rem)=true) (hk:ksOk ⟨l⟩ ks=true) (hmix:P.follows .mixedOrders=true)
  (h:RQ P ⟨l⟩ st (l.take m) e fun e'=>RT C ⟨l⟩ (fun e'' st''=>Q .normal (qa7 e'' ks) st'') rem.length rem e' st):WP C n (.region id ⟨l⟩ true) Q e st:=by
 have hr:List.range' m (l.length-m)=rem:=by simpa using hrem
 have hl:rem.length=l.length-m:=by rw [←hr];simp
 rw [hl,←hr] at h
 exact WP.drawT m ks hd (of_decide_eq_true hms) hk hmix h
def wkA:A→A
 | .sk rows=>.sl rows
 | x=>x
def wkD:D→D
 | .a x=>.a (wkA x)
 | d=>d
theorem RepD.sk_inv {V:Vw} {rows:List (List A)} {u:Value} (h:RepD V (.a (.sk rows)) u):∃a:Option Addr,u=.slice a rows.length rows.length∧RepD V (.a (.sl rows)) u:=by
 have hc:=h.c_inv rfl
 clear h
 cases hc with
 | sk _ a l k =>
  have hl:l=rows.length:=by
   cases k with
   | sl0=>rfl
   | sl=>rfl
  subst hl
  exact⟨a,rfl,.a _ _ (.c _ _ k)⟩
theorem OpJ.litD {d:D} {P:Program} {st:List Bx} {e:Nat→D} {o:Oper} {T:TypeId} {len n:Nat} {parts:List (Nat×Operand)} {rows:List (List A)} {zr:List A} {bs:Nat} (ho:o.op=.buildSlice T len ⟨parts⟩) (hn:es P T=some n) (hn0:0<n) (hlen:0<len) (hz:zrT P T=some zr) (hzl:zr.length=n) (hcl:zr.all clA=true) (hby:byt P T=some bs) (hsm:len*n≤16777216)
  (hp:qb7 n (List.replicate len zr) (parts.map fun p=>(p.1,evO e p.2))=some rows)  (hd:∀(V:Vw) (u:Value),RepD V (.a (.sk rows)) u→RepD V d u):OpJ P st e o d:=by
 intro ρ V hst hok hu
 obtain⟨el,inf,z,hel,hinfo,hzz,hsz,hzc,hbs,hzr⟩:=slT hn hz hzl hby
 have hu':=hu
 rw [ho] at hu
 have hpv:∀(j:Nat) (q:Nat×D),(parts.map fun p=>(p.1,evO e p.2))[j]? = some q→∃v,(parts.map fun p=>(p.1,ρ p.2))[j]? = some (q.1,v)∧RepD V q.2 v:=by
  intro j q hq
  rw [List.getElem?_map,Option.map_eq_some_iff] at hq
  obtain⟨p,hp,rfl⟩:=hq
  refine⟨ρ p.2,by rw [List.getElem?_map,hp];rfl,hu p.2 ?_⟩
  simp only [qad,Op.operands,List.mem_map]
  exact⟨p,lm4 hp,rfl⟩
 obtain⟨cs',g1,g2,g3,g4,g5⟩:=qg3 (V:=V) (n:=n) (parts.map fun p=>(p.1,evO e p.2)) (parts.map fun p=>(p.1,ρ p.2)) ((Array.range (len*n)).map (z.cells[· % z.cells.size]!)) (List.replicate len zr) rows (by simp) hpv (by simp) (fun k row hk=>by rw [(qfm hk).2];exact hzl) (fun k row j y hk hj=>qdl hzl hzc hcl (hzr V) k row j y hk hj) hp
 rw [List.length_replicate] at g2
 have hrun:=qlo (P:=P) (w:=V.w) (len:=len) (parts:=(⟨parts⟩:Array (Nat×Operand)).map fun (i,x)=>(i,ρ x)) (cells:=cs') hel hinfo hzz (by rw [hsz];omega) (by rw [hsz];exact Nat.ne_of_gt (Nat.mul_pos hlen hn0)) (by rw [hsz];rw [←g1];congr 1;simp)
 have hexec:(execOp ρ o).run P V.w=((Instr.buildSlice T len ((⟨parts⟩:Array (Nat×Operand)).map fun (i,x)=>(i,ρ x))).run P V.w).andThen fun v w=>.ok (.value v) w:=by
  simp only [execOp,ho,Sem.run_bind,Sem.run_pure]
 rw [hexec,hrun,Result.andThen_ok]
 have hg:Grw V.w (V.w.alloc (.cells cs' el)):=(Grw.refl V.w).alloc _
 have hnewc:(V.w.alloc (.cells cs' el)).heap[V.w.heap.size]? = some (.cells cs' el (0,0)):=qbb _ _ _ rfl
 have hle:=Vw.le_grw hok hg
 refine⟨hg,hd _ _ (.a _ _ (.c _ _ (.sk _ _ _ ?_)))⟩
 have:=RepC.sl (w:=V.w.alloc (.cells cs' el)) (mu:=(V.to (V.w.alloc (.cells cs' el))).mut) rows n V.w.heap.size 0 len (fun k j=>cs'.getD (k*n+j) Go.undef) ⟨_,hnewc,rfl⟩ (fun hm=>?_) (by omega) g4 (fun k row j y hk hj=>?_) fun k row j y hk hj=>(g5 k row j y hk hj).mono hle.size hle.blk
 ·rw [g2] at this;exact this
 ·rcases hm with hm|hm
  ·have:=hok.xlt _ hm;omega
  ·obtain⟨i,hi⟩:=List.getElem?_of_mem (Vw.mine_mem hm)
   have:=hok.lt i _ hi;omega
 ·have hk1:=(List.getElem?_eq_some_iff.1 hk).1
  have hj1:j<n:=by have:=(List.getElem?_eq_some_iff.1 hj).1;rw [g4 k row hk] at this;exact this
  have:(k+1)*n≤rows.length*n:=Nat.mul_le_mul_right n (by omega)
  rw [Nat.add_mul,Nat.one_mul] at this
  rw [Nat.zero_add,cell_of_row _ _ _ cs' el (0,0) hnewc,qfs (by omega)]
theorem OpJ.litK {P:Program} {st:List Bx} {e:Nat→D} {o:Oper} {T:TypeId} {len n:Nat} {parts:List (Nat×Operand)} {rows:List (List A)} {zr:List A} {bs:Nat} (ho:o.op=.buildSlice T len ⟨parts⟩) (hn:es P T=some n) (hn0:0<n) (hlen:0<len) (hz:zrT P T=some zr) (hzl:zr.length=n) (hcl:zr.all clA=true) (hby:byt P T=some bs) (hsm:len*n≤16777216)
  (hp:qb7 n (List.replicate len zr) (parts.map fun p=>(p.1,evO e p.2))=some rows)  : OpJ P st e o (.a (.sk rows)):=OpJ.litD ho hn hn0 hlen hz hzl hcl hby hsm hp fun _ _ h=>h
theorem OpJ.lit {P:Program} {st:List Bx} {e:Nat→D} {o:Oper} {T:TypeId} {len n:Nat} {parts:List (Nat×Operand)} {rows:List (List A)} {zr:List A} {bs:Nat} (ho:o.op=.buildSlice T len ⟨parts⟩) (hn:es P T=some n) (hn0:0<n) (hlen:0<len) (hz:zrT P T=some zr) (hzl:zr.length=n) (hcl:zr.all clA=true) (hby:byt P T=some bs) (hsm:len*n≤16777216)
  (hp:qb7 n (List.replicate len zr) (parts.map fun p=>(p.1,evO e p.2))=some rows)  : OpJ P st e o (.a (.sl rows)):=OpJ.litD ho hn hn0 hlen hz hzl hcl hby hsm hp fun _ _ h=>h.sk_inv.choose_spec.2
@[go_sem] theorem seeD1_fn {st:List Bx} {f:FuncId} {l:List A}:qc9 st (.a (.fn f l))=.a (.fn f l):=rfl
@[go_sem] theorem clA_v1 {x:Value}:clA (.v x)=true:=rfl
@[go_sem] theorem clA_r1 {l:List A} {o:Nat}:clA (.ref l o)=true:=rfl
@[go_sem] theorem clA_s1 {l:List (List A)}:clA (.sl l)=true:=rfl
@[go_sem] theorem ldRow_c0 {y:A} {l:List A}:qae none (y::l) 0=some (.a y):=rfl
@[go_sem] theorem ldRow_c2 {y z u:A} {l:List A}:qae none (y::z::u::l) 2=some (.a u):=rfl
attribute [go_sem] List.all_cons List.all_nil Bool.and_true Bool.true_and Bool.and_self
theorem nr_cl {m:Nat} {y:A} (h:clA y=true):nrA m y=true:=by
 cases y with
 | ptr=>cases h
 | own=>cases h
 | ep=>cases h
 | mp=>cases h
 | cs=>cases h
 | fm=>cases h
 | fn f c=>cases c with
  | nil=>rfl
  | cons=>cases h
 | _=>rfl
theorem qda {m:Nat} {row:List A} (h:row.all clA=true):row.all (nrA m)=true:=List.all_eq_true.2 fun y hy=>nr_cl (List.all_eq_true.1 h y hy)
@[go_sem] theorem nrS_n {m:Nat}:nrS m []=true:=rfl
@[go_sem] theorem nrS_c {m:Nat} {row:List A} {r:List Bx}:nrS m (.cell row::r)=(row.all (nrA m)&&nrS m r):=rfl
@[go_sem] theorem nrS_a {m v n:Nat} {rows:List (List A)} {r:List Bx}:nrS m (.arr v n rows::r)=nrS m r:=rfl
@[go_sem] theorem nrA_own {m i v:Nat}:nrA m (.own i v)=decide (i<m):=rfl
@[go_sem] theorem nrA_ptr {m i v:Nat}:nrA m (.ptr i v)=decide (i<m):=rfl
@[go_sem] theorem nrA_v {m:Nat} {x:Value}:nrA m (.v x)=true:=rfl
@[go_sem] theorem nrA_sl {m:Nat} {x:List (List A)}:nrA m (.sl x)=true:=rfl
@[go_sem] theorem bindE_2 {e:Nat→D} {p q:Nat} {x y:D}:qh3 e [p,q] [x,y]=upd (upd e p x) q y:=rfl
@[go_sem] theorem qma {e:Nat→D} {p:Nat} {x:D}:qh3 e [p] [x]=upd e p x:=rfl
@[go_sem] theorem evO_nf {e:Nat→D}:evO e (.const .nilFunc)=.a (.v .nilFunc):=rfl
section
variable {P:Program} {C:Cx P} {ops:Array Oper} {r:List Oper} {e:Nat→D} {st:List Bx} {dst:Option Nat} {ty:TypeId} {pos:String} {after:Array Edge} {guard:Option (Nat×Bool)} {T:TypeId} {n len bs:Nat} {rows:List (List A)} {zr:List A} {parts:List (Nat×Operand)}
theorem RQ.lit {K:(Nat→D)→Prop} (hn:es P T=some n) (hn0:0<n) (hlen:0<len) (hz:zrT P T=some zr) (hzl:zr.length=n) (hcl:zr.all clA=true) (hby:byt P T=some bs) (hsm:len*n≤16777216) (hp:qb7 n (List.replicate len zr) (parts.map fun p=>(p.1,evO e p.2))=some rows)
  (k:RQ P ops st r (putE e dst (.a (.sl rows))) K):RQ P ops st (⟨dst,.buildSlice T len ⟨parts⟩,ty,pos,after,guard⟩::r) e K :=
 ⟨_,.of (.lit rfl hn hn0 hlen hz hzl hcl hby hsm hp),k⟩
theorem RS.litS {K:(Nat→D)→List Bx→Prop} (hn:es P T=some n) (hn0:0<n) (hlen:0<len) (hz:zrT P T=some zr) (hzl:zr.length=n) (hcl:zr.all clA=true) (hby:byt P T=some bs) (hsm:len*n≤16777216) (hp:qb7 n (List.replicate len zr) (parts.map fun p=>(p.1,evO e p.2))=some rows)
  (k:RS C ops r (putE e dst (.a (.sl rows))) st K):RS C ops (⟨dst,.buildSlice T len ⟨parts⟩,ty,pos,after,guard⟩::r) e st K :=
 .inl ⟨_,_,.inr ⟨rfl,.of (.lit rfl hn hn0 hlen hz hzl hcl hby hsm hp)⟩,k⟩
end
end Go.Proofs.YthkojpnjdpbcgaaGreatDoor
