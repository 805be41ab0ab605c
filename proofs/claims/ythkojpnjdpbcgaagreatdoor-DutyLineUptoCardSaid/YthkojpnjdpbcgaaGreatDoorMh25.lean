/- Loops whose boxes are seen by other numbers from round to round. No program in sight. Conditions: none. -/
import Derived.Test.YthkojpnjdpbcgaaGreatDoorMh24
import Derived.Test.YthkojpnjdpbcgaaGreatDoorMh22
set_option linter.unusedVariables false
set_option maxRecDepth 100000
set_option maxHeartbeats 8000000
set_option linter.unusedSimpArgs false
namespace Go.Proofs.YthkojpnjdpbcgaaGreatDoor
open Go.RowKit
def useV (V:Vw) (σ:List Nat) (st0:List Bx):Vw:=⟨V.w,V.x,lb V σ,st0⟩
section
variable {V:Vw} {σ:List Nat} {st0:List Bx}
theorem qg2 (hok:Ok V) (h:LOk V.st σ st0) {b:Nat} (hb:(useV V σ st0).mine b):V.mine b:=by
 obtain⟨j,y,h1,_,_⟩:=hb
 exact qca hok h (lm4 h1)
theorem qj2 (hok:Ok V) (h:LOk V.st σ st0) (b:Nat) (hb:(useV V σ st0).mut b):V.mut b:=by
 rcases hb with hb|hb
 ·exact .inl hb
 ·exact .inr (qg2 hok h hb)
theorem qj1 (hok:Ok V) (h:LOk V.st σ st0):∀x u,RepA V x u→∀a,x=rnA σ a→nrA σ.length a=true→RepA (useV V σ st0) a u :=
 fun _ _ hx=>RepA.lendM (V:=V) (U:=useV V σ st0) rfl (qj2 hok h) h.len (fun j i hj=>h.at_ j i hj) (fun _ _ hj=>qks hok h hj) hx
theorem qd6 (hok:Ok V) (h:LOk V.st σ st0) {b:Nat} (hb:b∈lb V σ):b∈V.bl:=Vw.mine_mem (qca hok h hb)
theorem use_ok (hok:Ok V) (h:LOk V.st σ st0):Ok (useV V σ st0):=by
 have hA:=qj1 hok h
 have hC:∀x u,RepC V.w V.mut x u→RepC (useV V σ st0).w (useV V σ st0).mut x u:=fun x u hx=>hx.mono (Nat.le_refl _) fun b _ hb=>⟨fun _=>rfl,fun h2=>hb (qj2 hok h b h2)⟩
 refine⟨by show (lb V σ).length=st0.length;rw [lb,List.length_map,h.len],fun j b hb=>?_,hok.xlt,fun w' hs hw=>hok.gd w' hs fun c hlt h1 h2 hic=>hw c hlt (fun hc=>h1 (qd6 hok h hc)) h2 hic,fun j b hb=>?_,fun i j b y z h1 h2 h3 h4 h5 h6=>?_,fun i row b h1 h2=>?_,fun i ver n rows b h1 h2=>?_,fun i k wd es b h1 h2=>?_⟩
 ·obtain⟨i,_,h2⟩:=qcg hok h hb;exact hok.lt i b h2
 ·obtain⟨i,_,h2⟩:=qcg hok h hb;exact hok.isc i b h2
 ·obtain⟨p,p1,p2⟩:=qcg hok h h1
  obtain⟨q,q1,q2⟩:=qcg hok h h2
  obtain⟨y',_,p4,p5⟩:=h.get p1
  obtain⟨z',_,q4,q5⟩:=h.get q1
  have hpq:=hok.inj p q b _ _ p2 q2 p4 q4 (by rw [qb6];exact p5) (by rw [qb6];exact q5)
  subst hpq
  exact (List.getElem?_inj (List.getElem?_eq_some_iff.1 p1).1 h.nd).1 (p1.trans q1.symm)
 ·obtain⟨p,p1,p2⟩:=qcg hok h h2
  have hp:V.st[p]? = some (.cell (row.map (rnA σ))):=by rw [h.at_ i p p1];have h1:st0[i]? = some (.cell row):=h1;rw [h1];rfl
  obtain⟨cs,T,k1,k2,k3⟩:=hok.cell p _ b hp p2
  have hn:=qet h.nr h1
  rw [List.all_eq_true] at hn
  exact⟨cs,T,k1,by rw [k2,List.length_map],fun j x hj=>hA _ _ (k3 j (rnA σ x) (by rw [List.getElem?_map,hj];rfl)) x rfl (hn x (lm4 hj))⟩
 ·obtain⟨p,p1,p2⟩:=qcg hok h h2
  have hp:V.st[p]? = some (.arr ver n rows):=by rw [h.at_ i p p1];have h1:st0[i]? = some (.arr ver n rows):=h1;rw [h1];rfl
  obtain⟨cs,T,c,k1,k2,k3,k4,k5,k6⟩:=hok.arr p ver n rows b hp p2
  exact⟨cs,T,c,k1,k2,k3,k4,k5,fun k row j x hk hj=>hC _ _ (k6 k row j x hk hj)⟩
 ·obtain⟨p,p1,p2⟩:=qcg hok h h2
  have hp:V.st[p]? = some (.map k wd (es.map fun e=>(e.1,e.2.map (rnA σ)))):=by rw [h.at_ i p p1];have h1:st0[i]? = some (.map k wd es):=h1;rw [h1];rfl
  obtain⟨ms,k1,k2,k3⟩:=hok.map p k wd _ b hp p2
  rw [List.length_map] at k1 k2
  have hn:=qgf h.nr h1
  rw [List.all_eq_true] at hn
  refine⟨ms,k1,k2,fun j y row hj=>?_⟩
  obtain⟨q1,v,q2,q3⟩:=k3 j y (row.map (rnA σ)) (by rw [List.getElem?_map,hj];rfl)
  exact⟨q1,v,q2,q3.lendM hA (hn _ (lm4 hj))⟩
end
def rnE (σ:List Nat) (l:EL):EL:=l.map fun p=>(p.1,rnD σ p.2)
theorem qhm (σ:List Nat):∀(l:EL) (t:Nat),envL (rnE σ l) t=rnD σ (envL l t)
 | [],_=>rfl
 | (t',d)::r,t=>by
  show upd (envL (rnE σ r)) t' (rnD σ d) t=rnD σ (upd (envL r) t' d t)
  unfold upd
  split
  ·rfl
  ·exact qhm σ r t
structure qf6 (st:List Bx) (σ:List Nat) (l:EL) (st0:List Bx):Prop where
 nd:σ.Nodup
 at_:σ.map (fun i=>st[i]?)=st0.map fun b=>some (rnB σ b)
 live:st0.all Bx.live=true
 nr:nrS σ.length st0=true
 nl:(l.all fun p=>nrM σ.length p.2)=true
theorem qf6.lok {st:List Bx} {σ:List Nat} {l:EL} {st0:List Bx} (h:qf6 st σ l st0):LOk st σ st0:=by
 refine⟨h.nd,by have:=congrArg List.length h.at_;simpa using this,fun j i hj=>?_,fun j y hy=>List.all_eq_true.1 h.live y (lm4 hy),h.nr⟩
 have:=congrArg (fun l=>l[j]?) h.at_
 simp only [List.getElem?_map,hj,Option.map_some] at this
 cases hs:st0[j]? with
 | none=>rw [hs] at this;cases this
 | some y=>rw [hs] at this;simpa using this
theorem qf6.env {st:List Bx} {σ:List Nat} {st0:List Bx}:∀{l:EL},(l.all fun p=>nrM σ.length p.2)=true→∀t,nrM σ.length (envL l t)=true
 | [],_,_=>rfl
 | (t',d)::r,h,t=>by
  simp only [List.all_cons,Bool.and_eq_true] at h
  show nrM σ.length (upd (envL r) t' d t)=true
  unfold upd
  split
  ·exact h.1
  ·exact qf6.env (st:=st) (st0:=st0) h.2 t
section
variable {P:Program} {C:Cx P} {n:Nat} {ks:List Nat} {c:Code}
theorem EnvE.rn {E:Env P} {on:Prop} {Nx:Nat→Prop} {σ:List Nat} {d:D} {V U:Vw} (h:EnvE E on Nx (rnD σ d) V) (hw:U.w=V.w) (hm:∀b,U.mine b→V.mine b) (hx:∀b,V.x b→U.x b):EnvE E on Nx d U:=by
 have key:EnvE E on Nx d V:=by
  cases d with
  | a x=>cases x<;>first|exact h|trivial
  | _=>trivial
 refine key.frm ⟨by rw [hw],by rw [hw],by rw [hw],by rw [hw];exact Nat.le_refl _,fun _ _ _=>by rw [hw]⟩ (fun b hb=>.inl (hm b hb)) hx
theorem Sat.use {w:World} {x:Nat→Prop} {bl:List Nat} {st:List Bx} {σ:List Nat} {st0:List Bx} {a:Act} {l:EL} (h:Sat C ⟨w,x,bl,st⟩ a n (envL (rnE σ l))) (hu:qf6 st σ l st0) (hV0:C.V0.st=[]):Sat C ⟨w,x,lb ⟨w,x,bl,st⟩ σ,st0⟩ a n (envL l):=by
 obtain⟨ms,⟨h1,h2,h3⟩,hm,henv⟩:=h
 have hL:LOk (⟨w,x,bl,st⟩:Vw).st σ st0:=hu.lok
 have hA:=qj1 hm.ok hL
 have hV:C.V0.st.length=0:=by rw [hV0];rfl
 refine⟨ms,⟨h1,h2,fun D hD=>?_⟩,⟨hm.size,fun t ht=>?_,use_ok hm.ok hL,⟨by rw [hV];exact Nat.zero_le _,hm.le.size,fun b hb hn=>⟨(hm.le.blk b hb hn).1,fun hn'=>(hm.le.blk b hb hn).2 (qj2 hm.ok hL b hn')⟩,fun i r hi _=>by omega,fun i v m r hi _=>by omega,fun i k wd es hi _=>by omega⟩,hm.fr,fun b hb=>hm.low b (qd6 hm.ok hL hb),fun b hb=>hm.sep b (qd6 hm.ok hL hb),hm.x0,hm.xk,hm.xg,fun b hb=>⟨(hm.nx b hb).1,(hm.nx b hb).2.imp id fun ⟨q2,q3,q4⟩=>⟨q2,fun hh=>q3 (qd6 hm.ok hL hh),q4⟩⟩,hm.nx0⟩,?_⟩
 ·obtain⟨q1,q2,q3,q4⟩:=h3 D hD
  exact⟨q1,q2,fun h=>q3 (qd6 hm.ok hL h),q4⟩
 ·have:=hm.slot t ht
  rw [qhm] at this
  exact RepD.lendM hA this _ rfl (qf6.env (st:=st) (st0:=st0) hu.nl t)
 ·rw [qhm] at henv
  exact henv.rn rfl (fun b hb=>qg2 hm.ok hL hb) fun _ h=>h
theorem Wk.use {e:Nat→D} {l:EL} {st st0:List Bx} (σ:List Nat) (hag:qag e (rnE σ l)) (hu:qf6 st σ l st0) (hV0:C.V0.st=[]):Wk C n e st (envL l) st0:=fun _ _ _ _ hs=>⟨_,(hs.weaken hag).use hu hV0⟩
theorem VL.gW {α:Type} {l:EL} {st:List Bx} {K:Exit→EL→List Bx→Prop} (env:α→EL) (sto:α→List Bx) (μ:α→Nat) (y:α) (h0:Wk C n (envL l) st (envL (env y)) (sto y)) (round:∀y,vx P C n ks c (env y) (sto y) fun ex l' st'=>match ex with
  | .normal=>∃z,μ z<μ y∧Wk C n (envL l') st' (envL (env z)) (sto z)
  | ex=>K ex l' st'):VL C n ks c l st K:=by
 refine .wp (h0.wp (WP.loopW env sto μ y fun y=>qdl c _ _ _ _ (fun ex l st hk=>?_) (round y)))
 cases ex with
 | normal=>exact hk
 | _=>exact⟨_,rfl,hk⟩
end
end Go.Proofs.YthkojpnjdpbcgaaGreatDoor
namespace Go.Proofs.YthkojpnjdpbcgaaGreatDoor
open Go.RowKit
def hNs:List Nat→(List Nat→Prop)→Prop
 | [],k=>k []
 | x::r,k=>hN x fun x=>hNs r fun r=>k (x::r)
theorem qop:∀(l:List Nat) (k:List Nat→Prop),hNs l k=k l
 | [],_=>rfl
 | x::r,k=>by rw [hNs,hN_eq,qop r]
def hbQ (bs:List Nat) (k i:Nat):Bool:=Nat.beq (Nat.mod (Nat.div (bs.getD k 0) (Nat.pow 2 i)) 2) 1
theorem hbQ_eq (bs:List Nat) (k i:Nat):hbQ bs k i=qaz bs k i:=by
 unfold hbQ qaz
 rw [Nat.testBit_eq_decide_div_mod_eq,Bool.eq_iff_iff,Nat.beq_eq,decide_eq_true_iff]
 rfl
def chnQ (bs:List Nat):List Nat→Bool
 | []=>true
 | [_]=>true
 | a::b::r=>bif Nat.blt a b then (bif hbQ bs b a then chnQ bs (b::r) else false) else false
theorem chnQ_eq (bs:List Nat):∀l:List Nat,chnQ bs l=true→chnW bs l=true
 | [],_=>rfl
 | [_],_=>rfl
 | a::b::r,h=>by
  rw [chnQ] at h
  cases h1:Nat.blt a b with
  | false=>rw [h1] at h;cases h
  | true =>
   rw [h1,cond_true,hbQ_eq] at h
   cases h2:qaz bs b a with
   | false=>rw [h2] at h;cases h
   | true =>
    rw [h2,cond_true] at h
    rw [chnW,chnQ_eq bs (b::r) h,h2,decide_eq_true (by simpa [Nat.blt_eq] using h1)]
    rfl
def isWr (fs:List FuncId) (o:Oper):Bool:=match o.op with
 | .call ⟨.value (.func f),_,_⟩=>fs.any fun g=>Nat.beq f g
 | op=>!quietO op
def qlk (sw:Option Nat) (k:Nat):Bool:=match sw with
 | some q=>Nat.beq q k
 | none=>false
def isAl (o:Oper):Option TypeId:=match o.op,o.guard with
 | .alloc T,none=>some T
 | _,_=>none
def qc3 (fs:List FuncId):Option Nat→List Oper→Nat→List Nat
 | _,[],_=>[]
 | sw,o::r,k=>(match isWr fs o with
  | true=>(match qlk sw k with
   | true=>(match r with
    | _::r'=>(k+1)::k::qc3 fs none r' (k+2)
    | []=>[])
   | false=>k::qc3 fs sw r (k+1))
  | false=>qc3 fs sw r (k+1))
structure Pd where
 k:Nat
 op:Op
 l:EL
 d:D
section
variable (P:Program)
inductive VCc (G:Prop) (f:FuncId) (vs:List D) (k:D→Prop):Prop
 | cl (d:D) (hp:G→qaa P f vs d) (hc:vs.all clD=true) (h:k d)
def memR (op:Op) (e:Nat→D):Bool:=match op with
 | .load _ x=>(match evO e x with
  | .a (.ref _ _)=>false
  | _=>true)
 | .indexAddr _ x _=>(match evO e x with
  | .a (.sl _)=>false
  | _=>true)
 | .call ⟨.builtin .len,⟨[x]⟩,_⟩=>(match evO e x with
  | .a (.sl _)=>false
  | .a .nl=>false
  | _=>true)
 | _=>false
def vrd (op:Op) (e:Nat→D) (G:Prop) (K:D→Prop):Prop :=
 match op with
 | .indexAddr T x i=>(match evO e x,evO e i with
  | .a (.sl rows),.a (.v (.int _ z))=>VI G rows z (es P T) fun row=>K (.a (.ref row 0))
  | _,_=>False)
 | .pick c x y=>(match evO e c,evO e x,evO e y with
  | .a (.v (.bool b)),.a (.v (.bool p)),.a (.v (.bool q))=>K (.a (.v (.bool (bif b then p else q))))
  | .a (.v (.bool b)),dx,dy=>VB b (K dx) (K dy)
  | _,_,_=>False)
 | .load T x=>(match evO e x with
  | .a (.ref row off)=>(match ldk P T with
   | some (some n)=>if (Nat.beq off 0&&Nat.beq n row.length)=true then K (.r row) else (match qaf (some n) row off with
    | some (.r row)=>hR row fun row=>K (.r row)
    | some d=>hD d K
    | none=>False)
   | some none=>(match qaf none row off with
    | some d=>hD d K
    | none=>False)
   | none=>False)
  | _=>False)
 | .binOp q T x y T'=>(match evO e x,evO e y with
  | .r r1,.r r2=>VQ (fun d=>bin2 (qch P T) (eqOk P T) q (.r r1) (.r r2)=some d) K
  | _,_=>(match xqS P (.binOp q T x y T') e [] with
   | .fr d=>hD d K
   | _=>False))
 | .build T parts=>VZ (match buD P T (parts.toList.map fun p=>(p.1,evO e p.2)) with
  | some (.r row)=>hR row fun row=>K (.r row)
  | _=>False) (match buN P T (parts.toList.map fun p=>(p.1,evO e p.2)) with
  | some (.r row)=>hR row fun row=>K (.r row)
  | _=>False)
 | .buildSlice T len parts=>(match xqS P (.buildSlice T len parts) e [] with
  | .fr (.a (.sl rows))=>VY (hS rows fun rows=>K (.a (.sl rows))) (hS rows fun rows=>K (.a (.sk rows))) False
  | _=>False)
 | .call ⟨.value y,⟨xs⟩,_⟩=>(match evO e y with
  | .a (.fn f caps)=>VCc P G f (xs.map (evO e)++caps.map D.a) K
  | _=>False)
 | .call ⟨.builtin .len,⟨[x]⟩,⟨[T]⟩⟩=>(match evO e x with
  | .a (.sl rows)=>VG (isSl P T=true) (K (.a (.v (.int .i64 (rows.length:Nat)))))
  | .a .nl=>VG (isSl P T=true) (K (.a (.v (.int .i64 (0:Nat)))))
  | _=>False)
 | op=>(match xqS P op e [] with
  | .fr (.r row)=>hR row fun row=>K (.r row)
  | .fr d=>hD d K
  | _=>False)
abbrev rdAt (op:Op) (l:EL) (s:List Bx) (d:D):Prop:=xqS P op (getL l) s=.rd d
def qlw (bs:List Nat) (w:Nat) (s':List Bx):List Pd→(List Pd→Prop)→Prop
 | [],K=>K []
 | ⟨k,op,l,d⟩::r,K=>bif hbQ bs w k then qlw bs w s' r K else VG (rdAt P op l s' d) (qlw bs w s' r fun r=>K (⟨k,op,l,d⟩::r))
def qne (bs:List Nat) (k:Nat) (op:Op) (l:EL) (d:D):List (Nat×List Bx)→Prop→Prop
 | [],K=>K
 | (w,sb)::r,K=>bif hbQ bs k w then qne bs k op l d r K else VG (rdAt P op l sb d) (qne bs k op l d r K)
def vdl (fs:List FuncId) (ops:Array Oper) (bs:List Nat):Option Nat→List Oper→Nat→EL→List Bx→List (Nat×List Bx)→List Pd→(EL→List Bx→Prop)→Prop
 | _,[],_,l,s,_,_,K=>K l s
 | sw,o::r,k,l,s,hs,pd,K=>(match isWr fs o with
  | true=>(match qlk sw k with
   | true=>(match r with
    | o'::r'=>(match isAl o,isAl o' with
     | some T,some T'=>(match qha P T,qha P T' with
      | some r1,some r2=>hR r1 fun r1=>hR r2 fun r2=>hB (s++[.cell r2]) fun s'=>hB (s'++[.cell r1]) fun s''=>hNq s.length fun i=>qlw P bs (k+1) s' pd fun pd=>qlw P bs k s'' pd fun pd =>
       vdl fs ops bs none r' (k+2) (putL (putL l o.dst (.a (.ptr (i+1) 0))) o'.dst (.a (.ptr i 0))) s'' ((k,s')::(k+1,s)::hs) pd K
      | _,_=>False)
     | _,_=>False)
    | []=>False)
   | false=>(match o.guard with
    | none=>vop P o.op (getL l) s True true (o.dst≠some 1000000) fun d s'=>qlw P bs k s' pd fun pd=>vdl fs ops bs sw r (k+1) (putL l o.dst d) s' ((k,s)::hs) pd K
    | some _=>False))
  | false=>(match memR o.op (getL l) with
   | true=>(match o.guard with
    | none=>(match xqS P o.op (getL l) s with
     | .rd (.r row)=>hR row fun row=>qne P bs k o.op l (.r row) hs (vdl fs ops bs sw r (k+1) (putL l o.dst (.r row)) s hs (⟨k,o.op,l,.r row⟩::pd) K)
     | .rd d=>hD d fun d=>qne P bs k o.op l d hs (vdl fs ops bs sw r (k+1) (putL l o.dst d) s hs (⟨k,o.op,l,d⟩::pd) K)
     | _=>False)
    | some _=>False)
   | false=>(match o.guard with
    | none=>vrd P o.op (getL l) True fun d=>vdl fs ops bs sw r (k+1) (putL l o.dst d) s hs pd K
    | some (j,b)=>(match (qb0 ops j).map (getL l) with
     | some (.a (.v (.bool x)))=>vrd P o.op (getL l) (x=b) fun d=>vdl fs ops bs sw r (k+1) (putL l o.dst d) s hs pd K
     | some .undef=>vdl fs ops bs sw r (k+1) (putL l o.dst .undef) s hs pd K
     | _=>False))))
end
section
variable {P:Program}
theorem qle {o:Oper} {e:Nat→D} {G:Prop} {K:D→Prop} (h:vrd P o.op e G K):∃d,(∀s:List Bx,G→OpJ P s e o d)∧K d:=by
 unfold vrd at h
 split at h
 ·rename_i T x i ho
  split at h
  ·rename_i rows q z hx hi
   obtain⟨j,row,hz,hr,hl,hk⟩:=h
   refine⟨_,fun st g=>qc1 ho ?_,hk⟩
   show ixS st (es P T) (ar P T) (evO e x) (evO e i)=_
   rw [hx,hi,hl g]
   exact qaq (q:=q) (q2:=ar P T) (hz g) (hr g) rfl
  ·exact h.elim
 ·rename_i c x y ho
  split at h
  ·rename_i b p q hc hx hy
   refine⟨_,fun st g=>?_,h⟩
   have:=OpJ.pickB (P:=P) (st:=st) ho hc
   rw [hx,hy] at this
   cases b<;>exact this
  ·rename_i b hc _
   cases b with
   | true=>exact⟨_,fun st g=>OpJ.pickB (P:=P) (st:=st) ho hc,h.t rfl⟩
   | false=>exact⟨_,fun st g=>OpJ.pickB (P:=P) (st:=st) ho hc,h.f rfl⟩
  ·exact h.elim
 ·rename_i T x ho
  split at h
  ·rename_i row off hx
   have key:∀d,(match ldk P T with|some k=>qaf k row off|none=>none)=some d→∀s:List Bx,OpJ P s e o d:=fun d hd s=>qc1 ho (by
    show ldD s (ldk P T) (evO e x)=_
    rw [hx]
    revert hd
    cases ldk P T<;>intro hd
    ·cases hd
    ·exact hd)
   split at h
   ·rename_i n hk
    split at h
    ·rename_i hc
     rw [Bool.and_eq_true] at hc
     have e1:=Nat.eq_of_beq_eq_true hc.1
     have e2:=Nat.eq_of_beq_eq_true hc.2
     subst e1;subst e2
     exact⟨_,fun s _=>key _ (by rw [hk];simp [qaf]) s,h⟩
    ·split at h
     ·rename_i row' hd
      rw [qfe] at h
      exact⟨_,fun s _=>key _ (by rw [hk];exact hd) s,h⟩
     ·rename_i d _ hd
      rw [qgi] at h
      exact⟨_,fun s _=>key _ (by rw [hk];exact hd) s,h⟩
     ·exact h.elim
   ·rename_i hk
    split at h
    ·rename_i d hd
     rw [qgi] at h
     exact⟨_,fun s _=>key _ (by rw [hk];exact hd) s,h⟩
    ·exact h.elim
   ·exact h.elim
  ·exact h.elim
 ·rename_i q T x y T' ho
  split at h
  ·rename_i r1 r2 hx hy
   obtain⟨d,hc,h⟩:=h
   refine⟨d,fun _ _=>qc1 ho ?_,h⟩
   show bin2 (qch P T) (eqOk P T) q (evO e x) (evO e y)=_
   rw [hx,hy];exact hc
  ·split at h
   ·rename_i d hd
    rw [qgi] at h
    exact⟨_,fun st _=>qfj (by rw [ho];exact hd) st,h⟩
   ·exact h.elim
 ·rename_i T parts ho
  obtain⟨parts⟩:=parts
  rcases h with h|h
  ·split at h
   ·rename_i row hd
    rw [qfe] at h
    exact⟨_,fun _ _=>qc1 ho hd,h⟩
   ·exact h.elim
  ·split at h
   ·rename_i row hd
    rw [qfe] at h
    exact⟨_,fun _ _=>qmi ho hd,h⟩
   ·exact h.elim
 ·rename_i T len parts ho
  split at h
  ·rename_i rows hd
   rcases h with h|h|h
   ·rw [qnf] at h
    exact⟨_,fun st _=>qfj (by rw [ho];exact hd) st,h⟩
   ·rw [qnf] at h
    obtain⟨parts⟩:=parts
    exact⟨_,fun st _=>qhb ho (qcp hd),h⟩
   ·exact h.elim
  ·exact h.elim
 ·rename_i y xs tys ho
  split at h
  ·rename_i f caps hy
   obtain⟨d,hp,hc,h⟩:=h
   exact⟨d,fun s g=>.callv ho hy rfl hc (hp g),h⟩
  ·exact h.elim
 ·rename_i x T ho
  split at h
  ·rename_i rows hx
   obtain⟨h1,h⟩:=h
   refine⟨_,fun s _=>qc1 ho ?_,h⟩
   show lenS P s T (evO e x)=_
   rw [hx]
   simp [lenS,lenD,h1]
  ·rename_i hx
   obtain⟨h1,h⟩:=h
   refine⟨_,fun s _=>qc1 ho ?_,h⟩
   show lenS P s T (evO e x)=_
   rw [hx]
   simp [lenS,lenD,h1]
  ·exact h.elim
 ·split at h
  ·rename_i row hd
   rw [qfe] at h
   exact⟨_,fun st _=>qfj hd st,h⟩
  ·rename_i d _ hd
   rw [qgi] at h
   exact⟨_,fun st _=>qfj hd st,h⟩
  ·exact h.elim
def PdOk (P:Program) (ops:Array Oper) (bs:List Nat) (s:List Bx) (ws:List (Nat×List Bx)) (p:Pd):Prop:=∀o:Oper,o.op=p.op→o.guard=none→OpJ P s (envL p.l) o p.d→RdL P ops bs p.k (envL p.l) o p.d s ws
theorem qfd {bs:List Nat} {k:Nat} {op:Op} {l:EL} {d:D}:∀{hs:List (Nat×List Bx)} {K:Prop},qne P bs k op l d hs K→(∀w sb,(w,sb)∈hs→qaz bs k w=true∨rdAt P op l sb d)∧K
 | [],K,h=>⟨fun _ _ h=>(by cases h),h⟩
 | (w,sb)::r,K,h=>by
  rw [qne,hbQ_eq] at h
  cases hb:qaz bs k w with
  | true =>
   rw [hb,cond_true] at h
   obtain⟨h1,h2⟩:=qfd h
   refine⟨fun w' sb' hm=>?_,h2⟩
   rcases List.mem_cons.1 hm with hm|hm
   ·injection hm with e1 e2;subst e1;exact .inl hb
   ·exact h1 _ _ hm
  | false =>
   rw [hb,cond_false] at h
   obtain⟨h1,h2⟩:=qfd h.k
   refine⟨fun w' sb' hm=>?_,h2⟩
   rcases List.mem_cons.1 hm with hm|hm
   ·injection hm with e1 e2;subst e1;subst e2;exact .inr h.c
   ·exact h1 _ _ hm
theorem qcy {bs:List Nat} {w:Nat} {s':List Bx}:∀{pd:List Pd} {K:List Pd→Prop},qlw P bs w s' pd K→∃pd',(∀p∈pd,qaz bs w p.k=true∨(rdAt P p.op p.l s' p.d∧p∈pd'))∧K pd'
 | [],K,h=>⟨[],fun _ h=>(by cases h),h⟩
 | ⟨pk,pop,pl,pd⟩::r,K,h=>by
  rw [qlw,hbQ_eq] at h
  generalize hp:Pd.mk pk pop pl pd=p at *
  obtain rfl:p.k=pk:=by rw [←hp]
  obtain rfl:p.op=pop:=by rw [←hp]
  obtain rfl:p.l=pl:=by rw [←hp]
  obtain rfl:p.d=pd:=by rw [←hp]
  cases hb:qaz bs w p.k with
  | true =>
   rw [hb,cond_true] at h
   obtain⟨pd',h1,h2⟩:=qcy h
   refine⟨pd',fun q hq=>?_,h2⟩
   rcases List.mem_cons.1 hq with rfl|hq
   ·exact .inl hb
   ·exact h1 q hq
  | false =>
   rw [hb,cond_false] at h
   obtain⟨hc,h⟩:=h
   obtain⟨pd',h1,h2⟩:=qcy h
   refine⟨p::pd',fun q hq=>?_,h2⟩
   rcases List.mem_cons.1 hq with rfl|hq
   ·exact .inr ⟨hc,List.mem_cons_self ..⟩
   ·exact (h1 q hq).imp id fun h=>⟨h.1,List.mem_cons_of_mem _ h.2⟩
theorem qkb {op:Op} {l:EL} {s:List Bx} {d:D} (h:rdAt P op l s d) {o:Oper} (ho:o.op=op):OpJ P s (envL l) o d:=by
 subst ho
 unfold rdAt at h
 rw [qbh] at h
 exact qiz h
theorem qbe.none {ops:Array Oper} {e:Nat→D} {o:Oper} {p:Prop} (hg:o.guard=none) (h:p):qbe ops e o p:=by unfold qbe;rw [hg];exact h
inductive Hst (s0:List Bx):List (Nat×List Bx)→List (Nat×List Bx)→List Bx→Prop
 | nil:Hst s0 [] [] s0
 | snoc {acc hs:List (Nat×List Bx)} {s:List Bx} (w:Nat) (s':List Bx):Hst s0 acc hs s→Hst s0 (acc++[(w,s')]) ((w,s)::hs) s'
theorem Hst.rd {ops:Array Oper} {bs:List Nat} {k:Nat} {e:Nat→D} {o:Oper} {d:D} {s0:List Bx} {acc hs:List (Nat×List Bx)} {s:List Bx} (h:Hst s0 acc hs s) (hh:∀w sb,(w,sb)∈hs→qaz bs k w=true∨qbe ops e o (OpJ P sb e o d)):∀(ws:List (Nat×List Bx)),RdL P ops bs k e o d s ws→RdL P ops bs k e o d s0 (acc++ws):=by
 induction h with
 | nil=>exact fun ws h=>h
 | snoc w s' h ih =>
  intro ws hr
  rw [List.append_assoc]
  exact ih (fun w2 sb hm=>hh w2 sb (List.mem_cons_of_mem _ hm)) _ ⟨hh w _ (List.mem_cons_self ..),.inr hr⟩
theorem Hst.wr {s0:List Bx} {acc hs:List (Nat×List Bx)} {s:List Bx} (h:Hst s0 acc hs s) {k:Nat} (hlt:∀w s',(w,s')∈acc→w<k) (ws:List (Nat×List Bx)):wrSt s0 (acc++ws) k=wrSt s ws k:=by
 induction h generalizing ws with
 | nil=>rfl
 | snoc w s' h ih =>
  rw [List.append_assoc,ih (fun w2 s2 hm=>hlt w2 s2 (List.mem_append_left _ hm))]
  have:=hlt w s' (List.mem_append_right _ (List.mem_singleton.2 rfl))
  show (if k=w then _ else _)=_
  rw [if_neg (by omega)];rfl
theorem qla {k:Nat}:∀(ws:List (Nat×List Bx)) (s:List Bx),(∀w∈ws.map (·.1),k<w)→wrSt s ws k=none
 | [],_,_=>rfl
 | (w,s')::r,s,h=>by
  have:=h w (List.mem_cons_self ..)
  show (if k=w then _ else _)=_
  rw [if_neg (by omega)]
  exact qla r s' fun w hw=>h w (List.mem_cons_of_mem _ hw)
theorem qg0 (fs:List FuncId):∀(sw:Option Nat) (r:List Oper) (k w:Nat),w∈qc3 fs sw r k→k≤w
 | _,[],_,_,h=>by cases h
 | sw,o::r,k,w,h=>by
  rw [qc3.eq_def] at h
  dsimp only at h
  cases hw:isWr fs o with
  | true =>
   rw [hw] at h
   dsimp only at h
   cases hs:qlk sw k with
   | true =>
    rw [hs] at h
    dsimp only at h
    cases r with
    | nil=>cases h
    | cons o' r' =>
     dsimp only at h
     rcases List.mem_cons.1 h with rfl|h
     ·omega
     ·rcases List.mem_cons.1 h with rfl|h
      ·omega
      ·have:=qg0 fs none r' (k+2) w h;omega
   | false =>
    rw [hs] at h
    dsimp only at h
    rcases List.mem_cons.1 h with rfl|h
    ·exact Nat.le_refl _
    ·have:=qg0 fs sw r (k+1) w h;omega
  | false =>
   rw [hw] at h
   dsimp only at h
   have:=qg0 fs sw r (k+1) w h;omega
theorem isAl_op {o:Oper} {T:TypeId} (h:isAl o=some T):o.op=.alloc T∧o.guard=none:=by
 unfold isAl at h
 split at h
 ·rename_i h1 h2
  injection h with h;subst h
  exact⟨h1,h2⟩
 ·cases h
theorem al_G {o:Oper} {T:TypeId} {row:List A} {s:List Bx} {e:Nat→D} (ho:o.op=.alloc T) (hz:qha P T=some row):OpG P s e o (.a (.ptr s.length 0)) (s++[.cell row]):=by
 refine qdh ?_
 unfold evG
 rw [ho]
 show boxD s (qha P T)=_
 rw [hz];rfl
theorem qcv {C:Cx P} {fs:List FuncId} {ops:Array Oper} {bs:List Nat} {s0:List Bx} {g:D} {K:EL→List Bx→Prop}:∀(sw:Option Nat) (r:List Oper) (k:Nat) (l:EL) (s:List Bx) (acc hs:List (Nat×List Bx)) (pd:List Pd),(∀o∈r,o.dst≠some 1000000)→envL l 1000000=g→Hst s0 acc hs s→(∀w s',(w,s')∈acc→w<k) →
  vdl P fs ops bs sw r k l s hs pd K→∃ws:List (Nat×List Bx),ws.map (·.1)=qc3 fs sw r k∧(∀p∈pd,PdOk P ops bs s ws p)∧RWL C g ops bs s0 (acc++ws) r k (envL l) (fun e=>∃l',e=envL l'∧∃s',K l' s'∧(∃acc2 hs2,acc2=acc++ws∧Hst s0 acc2 hs2 s'))
 | sw,[],k,l,s,acc,hs,pd,_,_,hst,_,h=>⟨[],rfl,fun p _ o ho hg hj=>.none hg hj,l,rfl,s,h,acc,hs,by simp,hst⟩
 | sw,o::r,k,l,s,acc,hs,pd,hd,hg,hst,hlt,h=>by
  have hd0:=hd o (List.mem_cons_self ..)
  have hdr:∀o∈r,o.dst≠some 1000000:=fun o ho=>hd o (List.mem_cons_of_mem _ ho)
  have hg':∀d,envL (putL l o.dst d) 1000000=g:=fun d=>by
   rw [qa0]
   cases hq:o.dst with
   | none=>exact hg
   | some t =>
    show upd (envL l) t d 1000000=g
    unfold upd
    rw [if_neg (fun he=>hd0 (by rw [hq,he]))];exact hg
  have hlt':∀w s',(w,s')∈acc→w<k+1:=fun w s' hm=>by have:=hlt w s' hm;omega
  rw [vdl.eq_def] at h
  dsimp only at h
  rw [qbh] at h
  cases hw:isWr fs o with
  | true =>
   rw [hw] at h
   dsimp only at h
   cases hsw:qlk sw k with
   | true =>
    rw [hsw] at h
    dsimp only at h
    split at h
    ·rename_i o' r'
     split at h
     ·rename_i T T' hT hT'
      split at h
      ·rename_i r1 r2 hz1 hz2
       rw [qfe,qfe,qf0,qf0,qjp] at h
       obtain⟨ho1,hg1⟩:=isAl_op hT
       obtain⟨ho2,hg2⟩:=isAl_op hT'
       obtain⟨pd1,h3,h4⟩:=qcy h
       obtain⟨pd2,h5,h6⟩:=qcy h4
       have hd1:=hdr o' (List.mem_cons_self ..)
       have hg2':envL (putL (putL l o.dst (.a (.ptr (s.length+1) 0))) o'.dst (.a (.ptr s.length 0))) 1000000=g:=by
        rw [qa0]
        cases hq:o'.dst with
        | none=>exact hg' _
        | some t =>
         show upd (envL (putL l o.dst _)) t _ 1000000=g
         unfold upd
         rw [if_neg (fun he=>hd1 (by rw [hq,he]))];exact hg' _
       obtain⟨ws,h7,h8,h9⟩:=qcv none r' (k+2) _ (s++[.cell r2]++[.cell r1]) (acc++[(k+1,s++[.cell r2])]++[(k,s++[.cell r2]++[.cell r1])]) ((k,s++[.cell r2])::(k+1,s)::hs) pd2 (fun o ho=>hdr o (List.mem_cons_of_mem _ ho)) hg2' ((hst.snoc (k+1) _).snoc k _) (fun w s2 hm=>by
        rcases List.mem_append.1 hm with hm|hm
        ·rcases List.mem_append.1 hm with hm|hm
         ·have:=hlt w s2 hm;omega
         ·rw [List.mem_singleton] at hm;injection hm with e1 e2;omega
        ·rw [List.mem_singleton] at hm;injection hm with e1 e2;omega) h6
       have ea:acc++[(k+1,s++[.cell r2])]++[(k,s++[.cell r2]++[.cell r1])]++ws=acc++((k+1,s++[.cell r2])::(k,s++[.cell r2]++[.cell r1])::ws):=by simp
       have hl1:(s++[Bx.cell r2]).length=s.length+1:=by simp
       refine⟨(k+1,s++[.cell r2])::(k,s++[.cell r2]++[.cell r1])::ws,by rw [qc3.eq_def];dsimp only;rw [hw,hsw];exact congrArg (fun z=>(k+1)::k::z) h7,fun p hp o2 ho2 hgp hj=>?_,.a (.ptr (s.length+1) 0),?_,.a (.ptr s.length 0),?_,?_⟩
       ·refine⟨.inr (.none hgp hj),?_⟩
        rcases h3 p hp with hb|⟨hb,hm⟩
        ·exact .inl hb
        ·have hj2:=qkb hb ho2
         refine .inr ⟨.inr (.none hgp hj2),?_⟩
         rcases h5 p hm with hb3|⟨hb3,hm3⟩
         ·exact .inl hb3
         ·exact .inr (h8 p hm3 o2 ho2 hgp (qkb hb3 ho2))
       ·unfold RWL1
        rw [hst.wr (fun w s2 hm=>hlt w s2 hm)]
        rw [show wrSt s ((k+1,s++[.cell r2])::(k,s++[.cell r2]++[.cell r1])::ws) k=some (s++[.cell r2],s++[.cell r2]++[.cell r1]) by
         show (if k=k+1 then _ else if k=k then _ else _)=_
         rw [if_neg (by omega),if_pos rfl]]
        refine .inr (.inl ⟨hg1,?_⟩)
        have:=al_G (P:=P) (s:=s++[.cell r2]) (e:=envL l) ho1 hz1
        rw [hl1] at this
        exact this
       ·unfold RWL1
        rw [hst.wr (fun w s2 hm=>hlt' w s2 hm)]
        rw [show wrSt s ((k+1,s++[.cell r2])::(k,s++[.cell r2]++[.cell r1])::ws) (k+1)=some (s,s++[.cell r2]) from if_pos rfl]
        exact .inr (.inl ⟨hg2,al_G ho2 hz2⟩)
       ·rw [ea] at h9
        rw [qa0,qa0] at h9
        exact h9
      ·exact h.elim
     ·exact h.elim
    ·exact h.elim
   | false =>
   rw [hsw] at h
   dsimp only at h
   split at h
   ·rename_i hgu
    have hv:=qd5 (C:=C) (fun _=>hgu) h
    obtain⟨d,s',h1,h2⟩:∃d s',(∀acc',RWL1 C g ops bs s ((k,s')::acc') k (envL l) o d)∧qlw P bs k s' pd fun pd=>vdl P fs ops bs sw r (k+1) (putL l o.dst d) s' ((k,s)::hs) pd K:=by
     rcases hv with ⟨d,s',h1,h2⟩|⟨_,_,d,s',h1,h2⟩
     ·refine⟨d,s',fun acc'=>?_,h2⟩
      unfold RWL1
      rw [show wrSt s ((k,s')::acc') k=some (s,s') from if_pos rfl]
      refine .inr (.inl ⟨hgu,?_⟩)
      rcases h1 with ⟨_,h1⟩|⟨rfl,h1⟩
      ·exact h1
      ·exact (h1 trivial).toG
     ·refine⟨d,s',fun acc'=>?_,h2⟩
      unfold RWL1
      rw [show wrSt s ((k,s')::acc') k=some (s,s') from if_pos rfl]
      exact .inl ⟨hgu,hg,by rw [hg] at h1;exact h1⟩
    obtain⟨pd',h3,h4⟩:=qcy h2
    obtain⟨ws,h5,h6,h7⟩:=qcv sw r (k+1) _ s' (acc++[(k,s')]) ((k,s)::hs) pd' hdr (hg' d) (hst.snoc k s') (fun w s2 hm=>by
     rcases List.mem_append.1 hm with hm|hm
     ·exact hlt' w s2 hm
     ·rw [List.mem_singleton] at hm;injection hm with e1 e2;omega) h4
    refine⟨(k,s')::ws,by rw [qc3.eq_def];dsimp only;rw [hw,hsw];exact congrArg (fun z=>k::z) h5,fun p hp o2 ho2 hg2 hj=>?_,d,?_,?_⟩
    ·refine⟨.inr (.none hg2 hj),?_⟩
     rcases h3 p hp with hb|⟨hb,hm⟩
     ·exact .inl hb
     ·exact .inr (h6 p hm o2 ho2 hg2 (qkb hb ho2))
    ·have:=h1 ws
     unfold RWL1 at this ⊢
     rw [hst.wr (fun w s2 hm=>hlt w s2 hm)]
     rw [show wrSt s ((k,s')::ws) k=some (s,s') from if_pos rfl] at this ⊢
     exact this
    ·rw [qa0] at h7
     rw [List.append_assoc] at h7
     exact h7
   ·exact h.elim
  | false =>
   rw [hw] at h
   dsimp only at h
   have hwp:qc3 fs sw (o::r) k=qc3 fs sw r (k+1):=by rw [qc3.eq_def];dsimp only;rw [hw]
   have none_:∀ws:List (Nat×List Bx),ws.map (·.1)=qc3 fs sw r (k+1)→wrSt s0 (acc++ws) k=none:=fun ws hws=>by
    rw [hst.wr (fun w s2 hm=>hlt w s2 hm)]
    refine qla _ _ fun w hm=>?_
    rw [hws] at hm
    have:=qg0 fs sw r (k+1) w hm;omega
   have free:∀d,(∀st:List Bx,qbe ops (envL l) o (OpJ P st (envL l) o d))→vdl P fs ops bs sw r (k+1) (putL l o.dst d) s hs pd K→∃ws:List (Nat×List Bx),ws.map (·.1)=qc3 fs sw (o::r) k∧(∀p∈pd,PdOk P ops bs s ws p)∧RWL C g ops bs s0 (acc++ws) (o::r) k (envL l) (fun e=>∃l',e=envL l'∧∃s',K l' s'∧(∃acc2 hs2,acc2=acc++ws∧Hst s0 acc2 hs2 s')):=fun d hd h2=>by
    obtain⟨ws,h5,h6,h7⟩:=qcv sw r (k+1) _ s acc hs pd hdr (hg' d) hst hlt' h2
    refine⟨ws,by rw [hwp];exact h5,h6,d,?_,by rw [qa0] at h7;exact h7⟩
    unfold RWL1
    rw [none_ ws h5]
    exact RdL.all hd _ _
   split at h
   ·rename_i hm
    split at h
    ·rename_i hgu
     have mem:∀d,xqS P o.op (envL l) s=.rd d→qne P bs k o.op l d hs (vdl P fs ops bs sw r (k+1) (putL l o.dst d) s hs (⟨k,o.op,l,d⟩::pd) K)→∃ws:List (Nat×List Bx),ws.map (·.1)=qc3 fs sw (o::r) k∧(∀p∈pd,PdOk P ops bs s ws p)∧RWL C g ops bs s0 (acc++ws) (o::r) k (envL l) (fun e=>∃l',e=envL l'∧∃s',K l' s'∧(∃acc2 hs2,acc2=acc++ws∧Hst s0 acc2 hs2 s')):=fun d hd h2=>by
      obtain⟨h3,h4⟩:=qfd h2
      obtain⟨ws,h5,h6,h7⟩:=qcv sw r (k+1) _ s acc hs _ hdr (hg' d) hst hlt' h4
      refine⟨ws,by rw [hwp];exact h5,fun p hp=>h6 p (List.mem_cons_of_mem _ hp),d,?_,by rw [qa0] at h7;exact h7⟩
      unfold RWL1
      rw [none_ ws h5]
      refine hst.rd (fun w sb hm=>(h3 w sb hm).imp id fun h=>.none hgu (qkb h rfl)) ws ?_
      exact h6 ⟨k,o.op,l,d⟩ (List.mem_cons_self ..) o rfl hgu (qiz hd)
     split at h
     ·rename_i row hd
      rw [qfe] at h
      exact mem _ hd h
     ·rename_i d _ hd
      rw [qgi] at h
      exact mem _ hd h
     ·exact h.elim
    ·exact h.elim
   ·split at h
    ·rename_i hgu
     obtain⟨d,h1,h2⟩:=qle h
     exact free d (fun st=>.none hgu (h1 st trivial)) h2
    ·rename_i j b hgu
     split at h
     ·rename_i x hx
      obtain⟨d,h1,h2⟩:=qle h
      exact free d (fun st=>by unfold qbe;rw [hgu];simp only [hx];exact h1 st) h2
     ·rename_i hx
      exact free _ (fun st=>by unfold qbe;rw [hgu];simp only [hx]) h
     ·exact h.elim
theorem Hst.at_ {s0:List Bx} {acc hs:List (Nat×List Bx)} {s:List Bx} (h:Hst s0 acc hs s) {m:Nat} (hlt:∀w s',(w,s')∈acc→w<m):∀ws,stAt s0 (acc++ws) m=stAt s ws m:=by
 induction h with
 | nil=>exact fun ws=>rfl
 | snoc w s' h ih =>
  intro ws
  rw [List.append_assoc,ih (fun w2 s2 hm=>hlt w2 s2 (List.mem_append_left _ hm))]
  show (if w<m then _ else _)=_
  rw [if_pos (hlt w s' (List.mem_append_right _ (List.mem_singleton.2 rfl)))];rfl
theorem qfl (fs:List FuncId):∀(sw:Option Nat) (r:List Oper) (k w:Nat),w∈qc3 fs sw r k→w<k+r.length
 | _,[],_,_,h=>by cases h
 | sw,o::r,k,w,h=>by
  rw [qc3.eq_def] at h
  dsimp only at h
  rw [List.length_cons]
  cases hw:isWr fs o with
  | true =>
   rw [hw] at h
   dsimp only at h
   cases hs:qlk sw k with
   | true =>
    rw [hs] at h
    dsimp only at h
    cases r with
    | nil=>cases h
    | cons o' r' =>
     dsimp only at h
     rw [List.length_cons]
     rcases List.mem_cons.1 h with rfl|h
     ·omega
     ·rcases List.mem_cons.1 h with rfl|h
      ·omega
      ·have:=qfl fs none r' (k+2) w h;omega
   | false =>
    rw [hs] at h
    dsimp only at h
    rcases List.mem_cons.1 h with rfl|h
    ·omega
    ·have:=qfl fs sw r (k+1) w h;omega
  | false =>
   rw [hw] at h
   dsimp only at h
   have:=qfl fs sw r (k+1) w h;omega
theorem VD.dl {C:Cx P} {n:Nat} {ks:List Nat} {ops:List Oper} {l:EL} {st:List Bx} {K:EL→List Bx→Prop} (fs:List FuncId) (h:VK ((qdc ⟨ops⟩ n ops.length&&ksOk ⟨ops⟩ ks&&P.follows .mixedOrders&&ops.all (fun o=>match o.dst with|some t=>!Nat.beq t 1000000|none=>true))=true)
  (hNs (qb3 ops []) fun bs=>vdl P fs ⟨ops⟩ bs none ops 0 l st [] [] fun l' st'=>hK l' ks fun l'=>K l' st')) (hq:chnQ (qb3 ops []) (qc3 fs none ops 0)=true:=by rfl):VD C n ks ops l st K:=by
 obtain⟨hc,h⟩:=h
 have c1:=chnQ_eq _ _ hq
 rw [qop] at h
 simp only [Bool.and_eq_true,List.all_eq_true] at hc
 obtain⟨⟨⟨c2,c3⟩,c4⟩,c5⟩:=hc
 refine .wp fun id=>?_
 obtain⟨ws,h1,_,h3⟩:=qcv (C:=C) (ops:=⟨ops⟩) (s0:=st) (g:=envL l 1000000) none ops 0 l st [] [] [] (fun o ho he=>by
  have:=c5 o ho
  rw [he] at this
  simp at this) rfl .nil (fun w s' hm=>by cases hm) h
 rw [List.nil_append] at h3
 refine WP.drwA (qb3 ops []) ks ws (by simp) (qnm _ (by rw [h1];exact c1)) c2 c3 c4 (h3.mono fun e he=>?_)
 obtain⟨l',rfl,s',hk,acc2,hs2,hq,hh⟩:=he
 subst hq
 rw [qph] at hk
 have hs:=hh.at_ (m:=ops.length) (fun w s2 hm=>by
  have:=qfl fs none ops 0 w (by rw [←h1];exact List.mem_map.2 ⟨_,hm,rfl⟩)
  omega) []
 rw [List.append_nil] at hs
 refine⟨rfl,qkt l' ks,(qcb l' ks).symm,?_⟩
 rw [hs];exact hk
end
theorem xO {P:Program} {G:Prop} {f:FuncId} {vs:List D} {k:D→Prop} {d:D} (hp:G→qaa P f vs d) (h:k d) (hc:vs.all clD=true:=by first|rfl|simp only [go_sem]):VCc P G f vs k:=.cl d hp hc h
/-! ### Each order that may be -/
structure VT (a b:Prop):Prop where
 a:a
 b:b
section
variable (P:Program)
end
section
variable {P:Program} {C:Cx P}
end
/-! ### Two blocks that are laid in either order -/
theorem RWL.of_data {P:Program} {C:Cx P} {g:D} {ops:Array Oper} {bs:List Nat} {s0:List Bx} {ws:List (Nat×List Bx)} {K:(Nat→D)→Prop}:∀{l:List Oper} {k0:Nat} {e:Nat→D} (ds:List D),ds.length=l.length→(∀(k:Nat) (o:Oper),l[k]? = some o→RWL1 C g ops bs s0 ws (k0+k) (eat l ds e k) o (ds.getD k .junk))→K (eat l ds e l.length)→RWL C g ops bs s0 ws l k0 e K
 | [],k0,e,ds,hl,_,hK=>by
  cases ds with
  | nil=>exact hK
  | cons d ds=>cases hl
 | o::l,k0,e,ds,hl,h,hK=>by
  cases ds with
  | nil=>cases hl
  | cons d ds =>
   refine⟨d,h 0 o rfl,RWL.of_data ds (by simpa using hl) (fun k o' ho=>?_) hK⟩
   have:=h (k+1) o' ho
   rw [show k0+(k+1)=k0+1+k by omega] at this
   exact this
def addB (bs:List Nat) (i v:Nat):List Nat:=bs.set i (bs.getD i 0+v)
def dstL (ops:List Oper) (q:Nat):List Nat:=(ops.take q).filterMap fun o=>o.dst
def dHok (P:Program) (fs:List FuncId) (ops:List Oper) (n:Nat) (ks:List Nat) (q:Nat):Bool :=
 let bf:=qb3 ops []
 let b1:=addB bf (q+1) (2 ^ q)
 let b2:=addB bf q (2 ^ (q+1))
 qdc ⟨ops⟩ n ops.length&&ksOk ⟨ops⟩ ks&&P.follows .mixedOrders&&ops.all (fun o=>match o.dst with|some t=>!Nat.beq t 1000000|none=>true) &&
 (b1.length==ops.length&&b2.length==ops.length&&b1.all (fun b=>decide (b<2 ^ ops.length))&&b2.all (fun b=>decide (b<2 ^ ops.length))) &&
 chnX b1 (qc3 fs none ops 0)&&chnX b2 (qc3 fs (some q) ops 0)&&((qc3 fs none ops 0).head?==some q)&&((qc3 fs (some q) ops 0).head?==some (q+1)) &&
 (exB bf b1 q (q+1) ops.length&&exB bf b2 (q+1) q ops.length)&&(q != q+1&&decide (q<ops.length)&&decide (q+1<ops.length))&&qsB bf ⟨ops⟩ (dstL ops q) q (q+1)
section
variable {P:Program} {C:Cx P}
theorem run_swl {fs:List FuncId} {sw:Option Nat} {ops:List Oper} {st s:List Bx} {ws hs:List (Nat×List Bx)} (h:Hst st ws hs s) (hw:ws.map (·.1)=qc3 fs sw ops 0):SWL st ws (fun i=>decide (i<ops.length))=s:=by
 rw [SWL_at]
 have:=h.at_ (m:=ops.length) (fun w s2 hm=>by
  have:=qfl fs sw ops 0 w (by rw [←hw];exact List.mem_map.2 ⟨_,hm,rfl⟩)
  omega) []
 rw [List.append_nil] at this
 exact this
theorem VD.dH {n:Nat} {ks:List Nat} {ops:List Oper} {l:EL} {st:List Bx} {K:EL→List Bx→Prop} (fs:List FuncId) (q:Nat) (h:VK (dHok P fs ops n ks q=true)
  (hNs (addB (qb3 ops []) (q+1) (2 ^ q)) fun b1=>vdl P fs ⟨ops⟩ b1 none ops 0 l st [] [] fun l1 s1=>hNs (addB (qb3 ops []) q (2 ^ (q+1))) fun b2=>vdl P fs ⟨ops⟩ b2 (some q) ops 0 l st [] [] fun l2 s2 =>
   VG ((dstL ops q).map (getL l1)=(dstL ops q).map (getL l2)) (VT (hK l1 ks fun l'=>K l' s1) (hK l2 ks fun l'=>K l' s2)))):VD C n ks ops l st K:=by
 obtain⟨hc,h⟩:=h
 unfold dHok at hc
 simp only [Bool.and_eq_true] at hc
 obtain⟨⟨⟨⟨⟨⟨⟨⟨⟨⟨⟨c2,c3⟩,c4⟩,c5⟩,c6⟩,c7⟩,c8⟩,c9⟩,c10⟩,c11⟩,c12⟩,c13⟩:=hc
 rw [qop] at h
 have hdst:∀o∈ops,o.dst≠some 1000000:=fun o ho he=>by
  have:=List.all_eq_true.1 c5 o ho
  rw [he] at this
  simp at this
 refine .wp fun id=>?_
 obtain⟨ws1,p1,_,r1⟩:=qcv (C:=C) (ops:=⟨ops⟩) (s0:=st) (g:=envL l 1000000) none ops 0 l st [] [] [] hdst rfl .nil (fun w s' hm=>by cases hm) h
 rw [List.nil_append] at r1
 obtain⟨ds1,a1,a2,l1,e1,s1,hin,acc1,hs1,hq1,hh1⟩:=r1.data
 subst hq1
 rw [qop] at hin
 obtain⟨ws2,p2,_,r2⟩:=qcv (C:=C) (ops:=⟨ops⟩) (s0:=st) (g:=envL l 1000000) (some q) ops 0 l st [] [] [] hdst rfl .nil (fun w s' hm=>by cases hm) hin
 rw [List.nil_append] at r2
 obtain⟨ds2,b1,b2,l2,e2,s2,⟨heq,hk1,hk2⟩,acc2,hs2,hq2,hh2⟩:=r2.data
 subst hq2
 rw [qph] at hk1 hk2
 have hsl1:=run_swl hh1 p1
 have hsl2:=run_swl hh2 p2
 cases acc1 with
 | nil=>rw [List.map_nil] at p1;rw [←p1] at c9;cases c9
 | cons x1 t1 =>
  cases acc2 with
  | nil=>rw [List.map_nil] at p2;rw [←p2] at c10;cases c10
  | cons x2 t2 =>
   obtain⟨y1,z1⟩:=x1
   obtain⟨y2,z2⟩:=x2
   rw [←p1] at c7 c9
   rw [←p2] at c8 c10
   obtain rfl:y1=q:=by simpa using c9
   obtain rfl:y2=y1+1:=by simpa using c10
   have hag:∀t,t∈dstL ops y1→envL l2 t=envL l1 t:=fun t ht=>by
    obtain⟨i,hi⟩:=List.getElem?_of_mem ht
    have:=congrArg (fun z=>z[i]?) heq
    simp only [List.getElem?_map,hi,Option.map_some,Option.some.injEq] at this
    rw [qbh,qbh] at this
    exact this.symm
   refine WP.dH y1 (y1+1) (qb3 ops []) (addB (qb3 ops []) (y1+1) (2 ^ y1)) (addB (qb3 ops []) y1 (2 ^ (y1+1))) ks (dstL ops y1) (envL l1) z1 z2 t1 t2 (by simp) (by simpa only [Bool.and_eq_true] using c6) c7 c8 (by simpa only [Bool.and_eq_true] using c11) (by simpa only [Bool.and_eq_true] using c12) c13 c2 c3 c4 (RWL.of_data ds1 a1 a2 ?_) (RWL.of_data ds2 b1 b2 ?_)
   ·rw [e1,hsl1]
    exact⟨fun _ _=>rfl,rfl,qkt l1 ks,(qcb l1 ks).symm,hk1⟩
   ·rw [e2,hsl2]
    exact⟨hag,rfl,qkt l2 ks,(qcb l2 ks).symm,hk2⟩
end
end Go.Proofs.YthkojpnjdpbcgaaGreatDoor
namespace Go.Proofs.YthkojpnjdpbcgaaGreatDoor
open Go.RowKit
section
variable {P:Program}
theorem raw1_resM {n:Nat} {e:Nat→D} {st:List Bx} {r:ResultVar} {d:D} (hd:raw1 P n e st r=some d):qiq P n e st r=some d:=by
 unfold raw1 at hd
 unfold qiq
 split at hd<;>dsimp only
 ·exact hd
 ·split at hd
  ·rename_i ht
   rw [if_pos ht]
   split at hd
   ·rename_i i off he
    rw [he]
    dsimp only
    split at hd
    ·rename_i row k hs hk
     rw [hs,hk]
     dsimp only
     split at hd
     ·rename_i m
      split at hd
      ·rename_i hc
       rw [Bool.and_eq_true] at hc
       have e1:=Nat.eq_of_beq_eq_true hc.1
       have e2:=Nat.eq_of_beq_eq_true hc.2
       subst e1;subst e2
       injection hd with hd;subst hd
       simp [qaf]
      ·exact hd
     ·exact hd
    ·cases hd
   ·cases hd
  ·cases hd
/-! ### Nil slices stay nil -/
/-! ### A nil slice is a slice with nothing in it -/
end
end Go.Proofs.YthkojpnjdpbcgaaGreatDoor
namespace Go.Proofs.YthkojpnjdpbcgaaGreatDoor
open Go.RowKit
section
variable {w:World} {x:Nat→Prop} {bl:List Nat} {st st':List Bx}
end
variable {P:Program}
end Go.Proofs.YthkojpnjdpbcgaaGreatDoor
