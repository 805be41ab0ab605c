/- Regions whose order is drawn, their writers one behind the other, each reader reckoned wherever it may stand. No program in sight. Conditions: none. -/
import Derived.Test.YthkojpnjdpbcgaaGreatDoorMl23
import Derived.Test.YthkojpnjdpbcgaaGreatDoorMl24
set_option linter.unusedVariables false
set_option maxRecDepth 100000
set_option maxHeartbeats 8000000
set_option linter.unusedSimpArgs false
namespace Go.Proofs.YthkojpnjdpbcgaaGreatDoor
open Go.RowKit
def hNs:List Nat→(List Nat→Prop)→Prop
 | [],k=>k []
 | x::r,k=>hN x fun x=>hNs r fun r=>k (x::r)
theorem hNs_eq:∀(l:List Nat) (k:List Nat→Prop),hNs l k=k l
 | [],_=>rfl
 | x::r,k=>by rw [hNs,hN_eq,hNs_eq r]
def hbQ (bs:List Nat) (k i:Nat):Bool:=Nat.beq (Nat.mod (Nat.div (bs.getD k 0) (Nat.pow 2 i)) 2) 1
theorem hbQ_eq (bs:List Nat) (k i:Nat):hbQ bs k i=qa9 bs k i:=by
 unfold hbQ qa9
 rw [Nat.testBit_eq_decide_div_mod_eq,Bool.eq_iff_iff,Nat.beq_eq,decide_eq_true_iff]
 rfl
def chnQ (bs:List Nat):List Nat→Bool
 | []=>true
 | [_]=>true
 | a::b::r=>bif Nat.blt a b then (bif hbQ bs b a then chnQ bs (b::r) else false) else false
theorem chnQ_eq (bs:List Nat):∀l:List Nat,chnQ bs l=true→chnW bs l=true
 | [],_=>rfl
 | [_],_=>rfl
 | a::b::r,h=>by
  rw [chnQ] at h
  cases h1:Nat.blt a b with
  | false=>rw [h1] at h;cases h
  | true =>
   rw [h1,cond_true,hbQ_eq] at h
   cases h2:qa9 bs b a with
   | false=>rw [h2] at h;cases h
   | true =>
    rw [h2,cond_true] at h
    rw [chnW,chnQ_eq bs (b::r) h,h2,decide_eq_true (by simpa [Nat.blt_eq] using h1)]
    rfl
def isWr (fs:List FuncId) (o:Oper):Bool:=match o.op with
 | .call ⟨.value (.func f),_,_⟩=>fs.any fun g=>Nat.beq f g
 | op=>!quietO op
def qkd (sw:Option Nat) (k:Nat):Bool:=match sw with
 | some q=>Nat.beq q k
 | none=>false
def isAl (o:Oper):Option TypeId:=match o.op,o.guard with
 | .alloc T,none=>some T
 | _,_=>none
def qdo (fs:List FuncId):Option Nat→List Oper→Nat→List Nat
 | _,[],_=>[]
 | sw,o::r,k=>(match isWr fs o with
  | true=>(match qkd sw k with
   | true=>(match r with
    | _::r'=>(k+1)::k::qdo fs none r' (k+2)
    | []=>[])
   | false=>k::qdo fs sw r (k+1))
  | false=>qdo fs sw r (k+1))
structure Pd where
 k:Nat
 op:Op
 l:EL
 d:D
section
variable (P:Program)
inductive VCc (G:Prop) (f:FuncId) (vs:List D) (k:D→Prop):Prop
 | cl (d:D) (hp:G→qaa P f vs d) (hc:vs.all clD=true) (h:k d)
def memR (op:Op) (e:Nat→D):Bool:=match op with
 | .load _ x=>(match evO e x with
  | .a (.ref _ _)=>false
  | _=>true)
 | .indexAddr _ x _=>(match evO e x with
  | .a (.sl _)=>false
  | _=>true)
 | .call ⟨.builtin .len,⟨[x]⟩,_⟩=>(match evO e x with
  | .a (.sl _)=>false
  | .a .nl=>false
  | _=>true)
 | _=>false
def vrd (op:Op) (e:Nat→D) (G:Prop) (K:D→Prop):Prop :=
 match op with
 | .indexAddr T x i=>(match evO e x,evO e i with
  | .a (.sl rows),.a (.v (.int _ z))=>VI G rows z (es P T) fun row=>K (.a (.ref row 0))
  | _,_=>False)
 | .pick c x y=>(match evO e c,evO e x,evO e y with
  | .a (.v (.bool b)),.a (.v (.bool p)),.a (.v (.bool q))=>K (.a (.v (.bool (bif b then p else q))))
  | .a (.v (.bool b)),dx,dy=>VB b (K dx) (K dy)
  | _,_,_=>False)
 | .load T x=>(match evO e x with
  | .a (.ref row off)=>(match ldk P T with
   | some (some n)=>if (Nat.beq off 0&&Nat.beq n row.length)=true then K (.r row) else (match qae (some n) row off with
    | some (.r row)=>hR row fun row=>K (.r row)
    | some d=>hD d K
    | none=>False)
   | some none=>(match qae none row off with
    | some d=>hD d K
    | none=>False)
   | none=>False)
  | _=>False)
 | .binOp q T x y T'=>(match evO e x,evO e y with
  | .r r1,.r r2=>VQ (fun d=>bin2 (qbq P T) (eqOk P T) q (.r r1) (.r r2)=some d) K
  | _,_=>(match xqS P (.binOp q T x y T') e [] with
   | .fr d=>hD d K
   | _=>False))
 | .build T parts=>VZ (match buD P T (parts.toList.map fun p=>(p.1,evO e p.2)) with
  | some (.r row)=>hR row fun row=>K (.r row)
  | _=>False) (match buN P T (parts.toList.map fun p=>(p.1,evO e p.2)) with
  | some (.r row)=>hR row fun row=>K (.r row)
  | _=>False)
 | .buildSlice T len parts=>(match xqS P (.buildSlice T len parts) e [] with
  | .fr (.a (.sl rows))=>VY (hS rows fun rows=>K (.a (.sl rows))) (hS rows fun rows=>K (.a (.sk rows))) False
  | _=>False)
 | .call ⟨.value y,⟨xs⟩,_⟩=>(match evO e y with
  | .a (.fn f caps)=>VCc P G f (xs.map (evO e)++caps.map D.a) K
  | _=>False)
 | .call ⟨.builtin .len,⟨[x]⟩,⟨[T]⟩⟩=>(match evO e x with
  | .a (.sl rows)=>VG (isSl P T=true) (K (.a (.v (.int .i64 (rows.length:Nat)))))
  | .a .nl=>VG (isSl P T=true) (K (.a (.v (.int .i64 (0:Nat)))))
  | _=>False)
 | op=>(match xqS P op e [] with
  | .fr (.r row)=>hR row fun row=>K (.r row)
  | .fr d=>hD d K
  | _=>False)
abbrev rdAt (op:Op) (l:EL) (s:List Bx) (d:D):Prop:=xqS P op (getL l) s=.rd d
def qkr (bs:List Nat) (w:Nat) (s':List Bx):List Pd→(List Pd→Prop)→Prop
 | [],K=>K []
 | ⟨k,op,l,d⟩::r,K=>bif hbQ bs w k then qkr bs w s' r K else VG (rdAt P op l s' d) (qkr bs w s' r fun r=>K (⟨k,op,l,d⟩::r))
def ql0 (bs:List Nat) (k:Nat) (op:Op) (l:EL) (d:D):List (Nat×List Bx)→Prop→Prop
 | [],K=>K
 | (w,sb)::r,K=>bif hbQ bs k w then ql0 bs k op l d r K else VG (rdAt P op l sb d) (ql0 bs k op l d r K)
def vdl (fs:List FuncId) (ops:Array Oper) (bs:List Nat):Option Nat→List Oper→Nat→EL→List Bx→List (Nat×List Bx)→List Pd→(EL→List Bx→Prop)→Prop
 | _,[],_,l,s,_,_,K=>K l s
 | sw,o::r,k,l,s,hs,pd,K=>(match isWr fs o with
  | true=>(match qkd sw k with
   | true=>(match r with
    | o'::r'=>(match isAl o,isAl o' with
     | some T,some T'=>(match qgl P T,qgl P T' with
      | some r1,some r2=>hR r1 fun r1=>hR r2 fun r2=>hB (s++[.cell r2]) fun s'=>hB (s'++[.cell r1]) fun s''=>hNq s.length fun i=>qkr P bs (k+1) s' pd fun pd=>qkr P bs k s'' pd fun pd =>
       vdl fs ops bs none r' (k+2) (putL (putL l o.dst (.a (.ptr (i+1) 0))) o'.dst (.a (.ptr i 0))) s'' ((k,s')::(k+1,s)::hs) pd K
      | _,_=>False)
     | _,_=>False)
    | []=>False)
   | false=>(match o.guard with
    | none=>vop P o.op (getL l) s True true (o.dst≠some 1000000) fun d s'=>qkr P bs k s' pd fun pd=>vdl fs ops bs sw r (k+1) (putL l o.dst d) s' ((k,s)::hs) pd K
    | some _=>False))
  | false=>(match memR o.op (getL l) with
   | true=>(match o.guard with
    | none=>(match xqS P o.op (getL l) s with
     | .rd (.r row)=>hR row fun row=>ql0 P bs k o.op l (.r row) hs (vdl fs ops bs sw r (k+1) (putL l o.dst (.r row)) s hs (⟨k,o.op,l,.r row⟩::pd) K)
     | .rd d=>hD d fun d=>ql0 P bs k o.op l d hs (vdl fs ops bs sw r (k+1) (putL l o.dst d) s hs (⟨k,o.op,l,d⟩::pd) K)
     | _=>False)
    | some _=>False)
   | false=>(match o.guard with
    | none=>vrd P o.op (getL l) True fun d=>vdl fs ops bs sw r (k+1) (putL l o.dst d) s hs pd K
    | some (j,b)=>(match (qbr ops j).map (getL l) with
     | some (.a (.v (.bool x)))=>vrd P o.op (getL l) (x=b) fun d=>vdl fs ops bs sw r (k+1) (putL l o.dst d) s hs pd K
     | some .undef=>vdl fs ops bs sw r (k+1) (putL l o.dst .undef) s hs pd K
     | _=>False))))
end
section
variable {P:Program}
theorem qj8 {o:Oper} {e:Nat→D} {G:Prop} {K:D→Prop} (h:vrd P o.op e G K):∃d,(∀s:List Bx,G→OpJ P s e o d)∧K d:=by
 unfold vrd at h
 split at h
 ·rename_i T x i ho
  split at h
  ·rename_i rows q z hx hi
   obtain⟨j,row,hz,hr,hl,hk⟩:=h
   refine⟨_,fun st g=>qcp ho ?_,hk⟩
   show ixS st (es P T) (ar P T) (evO e x) (evO e i)=_
   rw [hx,hi,hl g]
   exact qaq (q:=q) (q2:=ar P T) (hz g) (hr g) rfl
  ·exact h.elim
 ·rename_i c x y ho
  split at h
  ·rename_i b p q hc hx hy
   refine⟨_,fun st g=>?_,h⟩
   have:=OpJ.pickB (P:=P) (st:=st) ho hc
   rw [hx,hy] at this
   cases b<;>exact this
  ·rename_i b hc _
   cases b with
   | true=>exact⟨_,fun st g=>OpJ.pickB (P:=P) (st:=st) ho hc,h.t rfl⟩
   | false=>exact⟨_,fun st g=>OpJ.pickB (P:=P) (st:=st) ho hc,h.f rfl⟩
  ·exact h.elim
 ·rename_i T x ho
  split at h
  ·rename_i row off hx
   have key:∀d,(match ldk P T with|some k=>qae k row off|none=>none)=some d→∀s:List Bx,OpJ P s e o d:=fun d hd s=>qcp ho (by
    show ldD s (ldk P T) (evO e x)=_
    rw [hx]
    revert hd
    cases ldk P T<;>intro hd
    ·cases hd
    ·exact hd)
   split at h
   ·rename_i n hk
    split at h
    ·rename_i hc
     rw [Bool.and_eq_true] at hc
     have e1:=Nat.eq_of_beq_eq_true hc.1
     have e2:=Nat.eq_of_beq_eq_true hc.2
     subst e1;subst e2
     exact⟨_,fun s _=>key _ (by rw [hk];simp [qae]) s,h⟩
    ·split at h
     ·rename_i row' hd
      rw [qeu] at h
      exact⟨_,fun s _=>key _ (by rw [hk];exact hd) s,h⟩
     ·rename_i d _ hd
      rw [qfr] at h
      exact⟨_,fun s _=>key _ (by rw [hk];exact hd) s,h⟩
     ·exact h.elim
   ·rename_i hk
    split at h
    ·rename_i d hd
     rw [qfr] at h
     exact⟨_,fun s _=>key _ (by rw [hk];exact hd) s,h⟩
    ·exact h.elim
   ·exact h.elim
  ·exact h.elim
 ·rename_i q T x y T' ho
  split at h
  ·rename_i r1 r2 hx hy
   obtain⟨d,hc,h⟩:=h
   refine⟨d,fun _ _=>qcp ho ?_,h⟩
   show bin2 (qbq P T) (eqOk P T) q (evO e x) (evO e y)=_
   rw [hx,hy];exact hc
  ·split at h
   ·rename_i d hd
    rw [qfr] at h
    exact⟨_,fun st _=>qex (by rw [ho];exact hd) st,h⟩
   ·exact h.elim
 ·rename_i T parts ho
  obtain⟨parts⟩:=parts
  rcases h with h|h
  ·split at h
   ·rename_i row hd
    rw [qeu] at h
    exact⟨_,fun _ _=>qcp ho hd,h⟩
   ·exact h.elim
  ·split at h
   ·rename_i row hd
    rw [qeu] at h
    exact⟨_,fun _ _=>qlc ho hd,h⟩
   ·exact h.elim
 ·rename_i T len parts ho
  split at h
  ·rename_i rows hd
   rcases h with h|h|h
   ·rw [ql1] at h
    exact⟨_,fun st _=>qex (by rw [ho];exact hd) st,h⟩
   ·rw [ql1] at h
    obtain⟨parts⟩:=parts
    exact⟨_,fun st _=>qgm ho (qcc hd),h⟩
   ·exact h.elim
  ·exact h.elim
 ·rename_i y xs tys ho
  split at h
  ·rename_i f caps hy
   obtain⟨d,hp,hc,h⟩:=h
   exact⟨d,fun s g=>.callv ho hy rfl hc (hp g),h⟩
  ·exact h.elim
 ·rename_i x T ho
  split at h
  ·rename_i rows hx
   obtain⟨h1,h⟩:=h
   refine⟨_,fun s _=>qcp ho ?_,h⟩
   show lenS P s T (evO e x)=_
   rw [hx]
   simp [lenS,lenD,h1]
  ·rename_i hx
   obtain⟨h1,h⟩:=h
   refine⟨_,fun s _=>qcp ho ?_,h⟩
   show lenS P s T (evO e x)=_
   rw [hx]
   simp [lenS,lenD,h1]
  ·exact h.elim
 ·split at h
  ·rename_i row hd
   rw [qeu] at h
   exact⟨_,fun st _=>qex hd st,h⟩
  ·rename_i d _ hd
   rw [qfr] at h
   exact⟨_,fun st _=>qex hd st,h⟩
  ·exact h.elim
def PdOk (P:Program) (ops:Array Oper) (bs:List Nat) (s:List Bx) (ws:List (Nat×List Bx)) (p:Pd):Prop:=∀o:Oper,o.op=p.op→o.guard=none→OpJ P s (envL p.l) o p.d→RdL P ops bs p.k (envL p.l) o p.d s ws
theorem qet {bs:List Nat} {k:Nat} {op:Op} {l:EL} {d:D}:∀{hs:List (Nat×List Bx)} {K:Prop},ql0 P bs k op l d hs K→(∀w sb,(w,sb)∈hs→qa9 bs k w=true∨rdAt P op l sb d)∧K
 | [],K,h=>⟨fun _ _ h=>(by cases h),h⟩
 | (w,sb)::r,K,h=>by
  rw [ql0,hbQ_eq] at h
  cases hb:qa9 bs k w with
  | true =>
   rw [hb,cond_true] at h
   obtain⟨h1,h2⟩:=qet h
   refine⟨fun w' sb' hm=>?_,h2⟩
   rcases List.mem_cons.1 hm with hm|hm
   ·injection hm with e1 e2;subst e1;exact .inl hb
   ·exact h1 _ _ hm
  | false =>
   rw [hb,cond_false] at h
   obtain⟨h1,h2⟩:=qet h.k
   refine⟨fun w' sb' hm=>?_,h2⟩
   rcases List.mem_cons.1 hm with hm|hm
   ·injection hm with e1 e2;subst e1;subst e2;exact .inr h.c
   ·exact h1 _ _ hm
theorem qcl {bs:List Nat} {w:Nat} {s':List Bx}:∀{pd:List Pd} {K:List Pd→Prop},qkr P bs w s' pd K→∃pd',(∀p∈pd,qa9 bs w p.k=true∨(rdAt P p.op p.l s' p.d∧p∈pd'))∧K pd'
 | [],K,h=>⟨[],fun _ h=>(by cases h),h⟩
 | ⟨pk,pop,pl,pd⟩::r,K,h=>by
  rw [qkr,hbQ_eq] at h
  generalize hp:Pd.mk pk pop pl pd=p at *
  obtain rfl:p.k=pk:=by rw [←hp]
  obtain rfl:p.op=pop:=by rw [←hp]
  obtain rfl:p.l=pl:=by rw [←hp]
  obtain rfl:p.d=pd:=by rw [←hp]
  cases hb:qa9 bs w p.k with
  | true =>
   rw [hb,cond_true] at h
   obtain⟨pd',h1,h2⟩:=qcl h
   refine⟨pd',fun q hq=>?_,h2⟩
   rcases List.mem_cons.1 hq with rfl|hq
   ·exact .inl hb
   ·exact h1 q hq
  | false =>
   rw [hb,cond_false] at h
   obtain⟨hc,h⟩:=h
   obtain⟨pd',h1,h2⟩:=qcl h
   refine⟨p::pd',fun q hq=>?_,h2⟩
   rcases List.mem_cons.1 hq with rfl|hq
   ·exact .inr ⟨hc,List.mem_cons_self ..⟩
   ·exact (h1 q hq).imp id fun h=>⟨h.1,List.mem_cons_of_mem _ h.2⟩
theorem qjb {op:Op} {l:EL} {s:List Bx} {d:D} (h:rdAt P op l s d) {o:Oper} (ho:o.op=op):OpJ P s (envL l) o d:=by
 subst ho
 unfold rdAt at h
 rw [qbi] at h
 exact qh5 h
theorem qa8.none {ops:Array Oper} {e:Nat→D} {o:Oper} {p:Prop} (hg:o.guard=none) (h:p):qa8 ops e o p:=by unfold qa8;rw [hg];exact h
inductive Hst (s0:List Bx):List (Nat×List Bx)→List (Nat×List Bx)→List Bx→Prop
 | nil:Hst s0 [] [] s0
 | snoc {acc hs:List (Nat×List Bx)} {s:List Bx} (w:Nat) (s':List Bx):Hst s0 acc hs s→Hst s0 (acc++[(w,s')]) ((w,s)::hs) s'
theorem Hst.rd {ops:Array Oper} {bs:List Nat} {k:Nat} {e:Nat→D} {o:Oper} {d:D} {s0:List Bx} {acc hs:List (Nat×List Bx)} {s:List Bx} (h:Hst s0 acc hs s) (hh:∀w sb,(w,sb)∈hs→qa9 bs k w=true∨qa8 ops e o (OpJ P sb e o d)):∀(ws:List (Nat×List Bx)),RdL P ops bs k e o d s ws→RdL P ops bs k e o d s0 (acc++ws):=by
 induction h with
 | nil=>exact fun ws h=>h
 | snoc w s' h ih =>
  intro ws hr
  rw [List.append_assoc]
  exact ih (fun w2 sb hm=>hh w2 sb (List.mem_cons_of_mem _ hm)) _ ⟨hh w _ (List.mem_cons_self ..),.inr hr⟩
theorem Hst.wr {s0:List Bx} {acc hs:List (Nat×List Bx)} {s:List Bx} (h:Hst s0 acc hs s) {k:Nat} (hlt:∀w s',(w,s')∈acc→w<k) (ws:List (Nat×List Bx)):wrSt s0 (acc++ws) k=wrSt s ws k:=by
 induction h generalizing ws with
 | nil=>rfl
 | snoc w s' h ih =>
  rw [List.append_assoc,ih (fun w2 s2 hm=>hlt w2 s2 (List.mem_append_left _ hm))]
  have:=hlt w s' (List.mem_append_right _ (List.mem_singleton.2 rfl))
  show (if k=w then _ else _)=_
  rw [if_neg (by omega)];rfl
theorem qj4 {k:Nat}:∀(ws:List (Nat×List Bx)) (s:List Bx),(∀w∈ws.map (·.1),k<w)→wrSt s ws k=none
 | [],_,_=>rfl
 | (w,s')::r,s,h=>by
  have:=h w (List.mem_cons_self ..)
  show (if k=w then _ else _)=_
  rw [if_neg (by omega)]
  exact qj4 r s' fun w hw=>h w (List.mem_cons_of_mem _ hw)
theorem qgb (fs:List FuncId):∀(sw:Option Nat) (r:List Oper) (k w:Nat),w∈qdo fs sw r k→k≤w
 | _,[],_,_,h=>by cases h
 | sw,o::r,k,w,h=>by
  rw [qdo.eq_def] at h
  dsimp only at h
  cases hw:isWr fs o with
  | true =>
   rw [hw] at h
   dsimp only at h
   cases hs:qkd sw k with
   | true =>
    rw [hs] at h
    dsimp only at h
    cases r with
    | nil=>cases h
    | cons o' r' =>
     dsimp only at h
     rcases List.mem_cons.1 h with rfl|h
     ·omega
     ·rcases List.mem_cons.1 h with rfl|h
      ·omega
      ·have:=qgb fs none r' (k+2) w h;omega
   | false =>
    rw [hs] at h
    dsimp only at h
    rcases List.mem_cons.1 h with rfl|h
    ·exact Nat.le_refl _
    ·have:=qgb fs sw r (k+1) w h;omega
  | false =>
   rw [hw] at h
   dsimp only at h
   have:=qgb fs sw r (k+1) w h;omega
theorem isAl_op {o:Oper} {T:TypeId} (h:isAl o=some T):o.op=.alloc T∧o.guard=none:=by
 unfold isAl at h
 split at h
 ·rename_i h1 h2
  injection h with h;subst h
  exact⟨h1,h2⟩
 ·cases h
theorem al_G {o:Oper} {T:TypeId} {row:List A} {s:List Bx} {e:Nat→D} (ho:o.op=.alloc T) (hz:qgl P T=some row):OpG P s e o (.a (.ptr s.length 0)) (s++[.cell row]):=by
 refine qc4 ?_
 unfold evG
 rw [ho]
 show boxD s (qgl P T)=_
 rw [hz];rfl
theorem qdq {C:Cx P} {fs:List FuncId} {ops:Array Oper} {bs:List Nat} {s0:List Bx} {g:D} {K:EL→List Bx→Prop}:∀(sw:Option Nat) (r:List Oper) (k:Nat) (l:EL) (s:List Bx) (acc hs:List (Nat×List Bx)) (pd:List Pd),(∀o∈r,o.dst≠some 1000000)→envL l 1000000=g→Hst s0 acc hs s→(∀w s',(w,s')∈acc→w<k) →
  vdl P fs ops bs sw r k l s hs pd K→∃ws:List (Nat×List Bx),ws.map (·.1)=qdo fs sw r k∧(∀p∈pd,PdOk P ops bs s ws p)∧RWL C g ops bs s0 (acc++ws) r k (envL l) (fun e=>∃l',e=envL l'∧∃s',K l' s'∧(∃acc2 hs2,acc2=acc++ws∧Hst s0 acc2 hs2 s'))
 | sw,[],k,l,s,acc,hs,pd,_,_,hst,_,h=>⟨[],rfl,fun p _ o ho hg hj=>.none hg hj,l,rfl,s,h,acc,hs,by simp,hst⟩
 | sw,o::r,k,l,s,acc,hs,pd,hd,hg,hst,hlt,h=>by
  have hd0:=hd o (List.mem_cons_self ..)
  have hdr:∀o∈r,o.dst≠some 1000000:=fun o ho=>hd o (List.mem_cons_of_mem _ ho)
  have hg':∀d,envL (putL l o.dst d) 1000000=g:=fun d=>by
   rw [qat]
   cases hq:o.dst with
   | none=>exact hg
   | some t =>
    show upd (envL l) t d 1000000=g
    unfold upd
    rw [if_neg (fun he=>hd0 (by rw [hq,he]))];exact hg
  have hlt':∀w s',(w,s')∈acc→w<k+1:=fun w s' hm=>by have:=hlt w s' hm;omega
  rw [vdl.eq_def] at h
  dsimp only at h
  rw [qbi] at h
  cases hw:isWr fs o with
  | true =>
   rw [hw] at h
   dsimp only at h
   cases hsw:qkd sw k with
   | true =>
    rw [hsw] at h
    dsimp only at h
    split at h
    ·rename_i o' r'
     split at h
     ·rename_i T T' hT hT'
      split at h
      ·rename_i r1 r2 hz1 hz2
       rw [qeu,qeu,qfd,qfd,qiq] at h
       obtain⟨ho1,hg1⟩:=isAl_op hT
       obtain⟨ho2,hg2⟩:=isAl_op hT'
       obtain⟨pd1,h3,h4⟩:=qcl h
       obtain⟨pd2,h5,h6⟩:=qcl h4
       have hd1:=hdr o' (List.mem_cons_self ..)
       have hg2':envL (putL (putL l o.dst (.a (.ptr (s.length+1) 0))) o'.dst (.a (.ptr s.length 0))) 1000000=g:=by
        rw [qat]
        cases hq:o'.dst with
        | none=>exact hg' _
        | some t =>
         show upd (envL (putL l o.dst _)) t _ 1000000=g
         unfold upd
         rw [if_neg (fun he=>hd1 (by rw [hq,he]))];exact hg' _
       obtain⟨ws,h7,h8,h9⟩:=qdq none r' (k+2) _ (s++[.cell r2]++[.cell r1]) (acc++[(k+1,s++[.cell r2])]++[(k,s++[.cell r2]++[.cell r1])]) ((k,s++[.cell r2])::(k+1,s)::hs) pd2 (fun o ho=>hdr o (List.mem_cons_of_mem _ ho)) hg2' ((hst.snoc (k+1) _).snoc k _) (fun w s2 hm=>by
        rcases List.mem_append.1 hm with hm|hm
        ·rcases List.mem_append.1 hm with hm|hm
         ·have:=hlt w s2 hm;omega
         ·rw [List.mem_singleton] at hm;injection hm with e1 e2;omega
        ·rw [List.mem_singleton] at hm;injection hm with e1 e2;omega) h6
       have ea:acc++[(k+1,s++[.cell r2])]++[(k,s++[.cell r2]++[.cell r1])]++ws=acc++((k+1,s++[.cell r2])::(k,s++[.cell r2]++[.cell r1])::ws):=by simp
       have hl1:(s++[Bx.cell r2]).length=s.length+1:=by simp
       refine⟨(k+1,s++[.cell r2])::(k,s++[.cell r2]++[.cell r1])::ws,by rw [qdo.eq_def];dsimp only;rw [hw,hsw];exact congrArg (fun z=>(k+1)::k::z) h7,fun p hp o2 ho2 hgp hj=>?_,.a (.ptr (s.length+1) 0),?_,.a (.ptr s.length 0),?_,?_⟩
       ·refine⟨.inr (.none hgp hj),?_⟩
        rcases h3 p hp with hb|⟨hb,hm⟩
        ·exact .inl hb
        ·have hj2:=qjb hb ho2
         refine .inr ⟨.inr (.none hgp hj2),?_⟩
         rcases h5 p hm with hb3|⟨hb3,hm3⟩
         ·exact .inl hb3
         ·exact .inr (h8 p hm3 o2 ho2 hgp (qjb hb3 ho2))
       ·unfold RWL1
        rw [hst.wr (fun w s2 hm=>hlt w s2 hm)]
        rw [show wrSt s ((k+1,s++[.cell r2])::(k,s++[.cell r2]++[.cell r1])::ws) k=some (s++[.cell r2],s++[.cell r2]++[.cell r1]) by
         show (if k=k+1 then _ else if k=k then _ else _)=_
         rw [if_neg (by omega),if_pos rfl]]
        refine .inr (.inl ⟨hg1,?_⟩)
        have:=al_G (P:=P) (s:=s++[.cell r2]) (e:=envL l) ho1 hz1
        rw [hl1] at this
        exact this
       ·unfold RWL1
        rw [hst.wr (fun w s2 hm=>hlt' w s2 hm)]
        rw [show wrSt s ((k+1,s++[.cell r2])::(k,s++[.cell r2]++[.cell r1])::ws) (k+1)=some (s,s++[.cell r2]) from if_pos rfl]
        exact .inr (.inl ⟨hg2,al_G ho2 hz2⟩)
       ·rw [ea] at h9
        rw [qat,qat] at h9
        exact h9
      ·exact h.elim
     ·exact h.elim
    ·exact h.elim
   | false =>
   rw [hsw] at h
   dsimp only at h
   split at h
   ·rename_i hgu
    have hv:=qdp (C:=C) (fun _=>hgu) h
    obtain⟨d,s',h1,h2⟩:∃d s',(∀acc',RWL1 C g ops bs s ((k,s')::acc') k (envL l) o d)∧qkr P bs k s' pd fun pd=>vdl P fs ops bs sw r (k+1) (putL l o.dst d) s' ((k,s)::hs) pd K:=by
     rcases hv with ⟨d,s',h1,h2⟩|⟨_,_,d,s',h1,h2⟩
     ·refine⟨d,s',fun acc'=>?_,h2⟩
      unfold RWL1
      rw [show wrSt s ((k,s')::acc') k=some (s,s') from if_pos rfl]
      refine .inr (.inl ⟨hgu,?_⟩)
      rcases h1 with ⟨_,h1⟩|⟨rfl,h1⟩
      ·exact h1
      ·exact (h1 trivial).toG
     ·refine⟨d,s',fun acc'=>?_,h2⟩
      unfold RWL1
      rw [show wrSt s ((k,s')::acc') k=some (s,s') from if_pos rfl]
      exact .inl ⟨hgu,hg,by rw [hg] at h1;exact h1⟩
    obtain⟨pd',h3,h4⟩:=qcl h2
    obtain⟨ws,h5,h6,h7⟩:=qdq sw r (k+1) _ s' (acc++[(k,s')]) ((k,s)::hs) pd' hdr (hg' d) (hst.snoc k s') (fun w s2 hm=>by
     rcases List.mem_append.1 hm with hm|hm
     ·exact hlt' w s2 hm
     ·rw [List.mem_singleton] at hm;injection hm with e1 e2;omega) h4
    refine⟨(k,s')::ws,by rw [qdo.eq_def];dsimp only;rw [hw,hsw];exact congrArg (fun z=>k::z) h5,fun p hp o2 ho2 hg2 hj=>?_,d,?_,?_⟩
    ·refine⟨.inr (.none hg2 hj),?_⟩
     rcases h3 p hp with hb|⟨hb,hm⟩
     ·exact .inl hb
     ·exact .inr (h6 p hm o2 ho2 hg2 (qjb hb ho2))
    ·have:=h1 ws
     unfold RWL1 at this ⊢
     rw [hst.wr (fun w s2 hm=>hlt w s2 hm)]
     rw [show wrSt s ((k,s')::ws) k=some (s,s') from if_pos rfl] at this ⊢
     exact this
    ·rw [qat] at h7
     rw [List.append_assoc] at h7
     exact h7
   ·exact h.elim
  | false =>
   rw [hw] at h
   dsimp only at h
   have hwp:qdo fs sw (o::r) k=qdo fs sw r (k+1):=by rw [qdo.eq_def];dsimp only;rw [hw]
   have none_:∀ws:List (Nat×List Bx),ws.map (·.1)=qdo fs sw r (k+1)→wrSt s0 (acc++ws) k=none:=fun ws hws=>by
    rw [hst.wr (fun w s2 hm=>hlt w s2 hm)]
    refine qj4 _ _ fun w hm=>?_
    rw [hws] at hm
    have:=qgb fs sw r (k+1) w hm;omega
   have free:∀d,(∀st:List Bx,qa8 ops (envL l) o (OpJ P st (envL l) o d))→vdl P fs ops bs sw r (k+1) (putL l o.dst d) s hs pd K→∃ws:List (Nat×List Bx),ws.map (·.1)=qdo fs sw (o::r) k∧(∀p∈pd,PdOk P ops bs s ws p)∧RWL C g ops bs s0 (acc++ws) (o::r) k (envL l) (fun e=>∃l',e=envL l'∧∃s',K l' s'∧(∃acc2 hs2,acc2=acc++ws∧Hst s0 acc2 hs2 s')):=fun d hd h2=>by
    obtain⟨ws,h5,h6,h7⟩:=qdq sw r (k+1) _ s acc hs pd hdr (hg' d) hst hlt' h2
    refine⟨ws,by rw [hwp];exact h5,h6,d,?_,by rw [qat] at h7;exact h7⟩
    unfold RWL1
    rw [none_ ws h5]
    exact RdL.all hd _ _
   split at h
   ·rename_i hm
    split at h
    ·rename_i hgu
     have mem:∀d,xqS P o.op (envL l) s=.rd d→ql0 P bs k o.op l d hs (vdl P fs ops bs sw r (k+1) (putL l o.dst d) s hs (⟨k,o.op,l,d⟩::pd) K)→∃ws:List (Nat×List Bx),ws.map (·.1)=qdo fs sw (o::r) k∧(∀p∈pd,PdOk P ops bs s ws p)∧RWL C g ops bs s0 (acc++ws) (o::r) k (envL l) (fun e=>∃l',e=envL l'∧∃s',K l' s'∧(∃acc2 hs2,acc2=acc++ws∧Hst s0 acc2 hs2 s')):=fun d hd h2=>by
      obtain⟨h3,h4⟩:=qet h2
      obtain⟨ws,h5,h6,h7⟩:=qdq sw r (k+1) _ s acc hs _ hdr (hg' d) hst hlt' h4
      refine⟨ws,by rw [hwp];exact h5,fun p hp=>h6 p (List.mem_cons_of_mem _ hp),d,?_,by rw [qat] at h7;exact h7⟩
      unfold RWL1
      rw [none_ ws h5]
      refine hst.rd (fun w sb hm=>(h3 w sb hm).imp id fun h=>.none hgu (qjb h rfl)) ws ?_
      exact h6 ⟨k,o.op,l,d⟩ (List.mem_cons_self ..) o rfl hgu (qh5 hd)
     split at h
     ·rename_i row hd
      rw [qeu] at h
      exact mem _ hd h
     ·rename_i d _ hd
      rw [qfr] at h
      exact mem _ hd h
     ·exact h.elim
    ·exact h.elim
   ·split at h
    ·rename_i hgu
     obtain⟨d,h1,h2⟩:=qj8 h
     exact free d (fun st=>.none hgu (h1 st trivial)) h2
    ·rename_i j b hgu
     split at h
     ·rename_i x hx
      obtain⟨d,h1,h2⟩:=qj8 h
      exact free d (fun st=>by unfold qa8;rw [hgu];simp only [hx];exact h1 st) h2
     ·rename_i hx
      exact free _ (fun st=>by unfold qa8;rw [hgu];simp only [hx]) h
     ·exact h.elim
theorem Hst.at_ {s0:List Bx} {acc hs:List (Nat×List Bx)} {s:List Bx} (h:Hst s0 acc hs s) {m:Nat} (hlt:∀w s',(w,s')∈acc→w<m):∀ws,stAt s0 (acc++ws) m=stAt s ws m:=by
 induction h with
 | nil=>exact fun ws=>rfl
 | snoc w s' h ih =>
  intro ws
  rw [List.append_assoc,ih (fun w2 s2 hm=>hlt w2 s2 (List.mem_append_left _ hm))]
  show (if w<m then _ else _)=_
  rw [if_pos (hlt w s' (List.mem_append_right _ (List.mem_singleton.2 rfl)))];rfl
theorem qga (fs:List FuncId):∀(sw:Option Nat) (r:List Oper) (k w:Nat),w∈qdo fs sw r k→w<k+r.length
 | _,[],_,_,h=>by cases h
 | sw,o::r,k,w,h=>by
  rw [qdo.eq_def] at h
  dsimp only at h
  rw [List.length_cons]
  cases hw:isWr fs o with
  | true =>
   rw [hw] at h
   dsimp only at h
   cases hs:qkd sw k with
   | true =>
    rw [hs] at h
    dsimp only at h
    cases r with
    | nil=>cases h
    | cons o' r' =>
     dsimp only at h
     rw [List.length_cons]
     rcases List.mem_cons.1 h with rfl|h
     ·omega
     ·rcases List.mem_cons.1 h with rfl|h
      ·omega
      ·have:=qga fs none r' (k+2) w h;omega
   | false =>
    rw [hs] at h
    dsimp only at h
    rcases List.mem_cons.1 h with rfl|h
    ·omega
    ·have:=qga fs sw r (k+1) w h;omega
  | false =>
   rw [hw] at h
   dsimp only at h
   have:=qga fs sw r (k+1) w h;omega
theorem VD.dl {C:Cx P} {n:Nat} {ks:List Nat} {ops:List Oper} {l:EL} {st:List Bx} {K:EL→List Bx→Prop} (fs:List FuncId) (h:VK ((qd7 ⟨ops⟩ n ops.length&&ksOk ⟨ops⟩ ks&&P.follows .mixedOrders&&ops.all (fun o=>match o.dst with|some t=>!Nat.beq t 1000000|none=>true))=true)
  (hNs (qdg ops []) fun bs=>vdl P fs ⟨ops⟩ bs none ops 0 l st [] [] fun l' st'=>hK l' ks fun l'=>K l' st')) (hq:chnQ (qdg ops []) (qdo fs none ops 0)=true:=by rfl):VD C n ks ops l st K:=by
 obtain⟨hc,h⟩:=h
 have c1:=chnQ_eq _ _ hq
 rw [hNs_eq] at h
 simp only [Bool.and_eq_true,List.all_eq_true] at hc
 obtain⟨⟨⟨c2,c3⟩,c4⟩,c5⟩:=hc
 refine .wp fun id=>?_
 obtain⟨ws,h1,_,h3⟩:=qdq (C:=C) (ops:=⟨ops⟩) (s0:=st) (g:=envL l 1000000) none ops 0 l st [] [] [] (fun o ho he=>by
  have:=c5 o ho
  rw [he] at this
  simp at this) rfl .nil (fun w s' hm=>by cases hm) h
 rw [List.nil_append] at h3
 refine WP.drwA (qdg ops []) ks ws (by simp) (ql8 _ (by rw [h1];exact c1)) c2 c3 c4 (h3.mono fun e he=>?_)
 obtain⟨l',rfl,s',hk,acc2,hs2,hq,hh⟩:=he
 subst hq
 rw [hK_eq] at hk
 have hs:=hh.at_ (m:=ops.length) (fun w s2 hm=>by
  have:=qga fs none ops 0 w (by rw [←h1];exact List.mem_map.2 ⟨_,hm,rfl⟩)
  omega) []
 rw [List.append_nil] at hs
 refine⟨rfl,qlx l' ks,(qcn l' ks).symm,?_⟩
 rw [hs];exact hk
end
theorem xO {P:Program} {G:Prop} {f:FuncId} {vs:List D} {k:D→Prop} {d:D} (hp:G→qaa P f vs d) (h:k d) (hc:vs.all clD=true:=by first|rfl|simp only [go_sem]):VCc P G f vs k:=.cl d hp hc h
/-! ### Each order that may be -/
section
variable (P:Program)
end
section
variable {P:Program} {C:Cx P}
end
/-! ### Two blocks that are laid in either order -/
section
variable {P:Program} {C:Cx P}
end
end Go.Proofs.YthkojpnjdpbcgaaGreatDoor
