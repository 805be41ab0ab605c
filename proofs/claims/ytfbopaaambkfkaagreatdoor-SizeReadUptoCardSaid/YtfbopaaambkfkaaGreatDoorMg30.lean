/- A reckoner that runs whole functions on plain data, for the kernel to reckon with. No program in sight. Conditions: none. -/
import Derived.Test.YtfbopaaambkfkaaGreatDoorMg23
set_option linter.unusedVariables false
set_option maxRecDepth 100000
set_option maxHeartbeats 8000000
set_option linter.unusedSimpArgs false
namespace Go.Proofs.YtfbopaaambkfkaaGreatDoor
open Go.RowKit
/-! ### Slots -/
abbrev EL:=List (Nat×D)
def getL:EL→Nat→D
 | [],_=>.junk
 | (t,d)::r,k=>bif Nat.beq k t then d else getL r k
theorem qc7:∀l:EL,getL l=envL l
 | []=>by funext k;rfl
 | (t,d)::r=>by
  funext k
  rw [getL,qc7 r,envL]
  show (bif Nat.beq k t then d else envL r k)=if k=t then d else envL r k
  cases h:Nat.beq k t with
  | true=>rw [if_pos (Nat.eq_of_beq_eq_true h)];rfl
  | false=>rw [if_neg (Nat.ne_of_beq_eq_false h)];rfl
def putL (l:EL):Option Nat→D→EL
 | none,_=>l
 | some t,d=>(t,d)::l
theorem qfb (l:EL) (t:Option Nat) (d:D):envL (putL l t d)=putE (envL l) t d:=by cases t<;>rfl
def qmw (l:EL):List Nat→EL
 | []=>[]
 | k::r=>(k,getL l k)::qmw l r
theorem qd9 (l:EL):∀ks,envL (qmw l ks)=qbd (envL l) ks
 | []=>rfl
 | k::r=>by rw [qmw,envL,qbd,qd9 l r,qc7]
/-! ### Reckoned at once -/
/-! ### What comes of it -/
inductive XM (α:Type) where
 | ok (a:α)
 | no (m:List Nat)
 | up
/-! ### One operation -/
section
variable (P:Program) (pc:FuncId→List D→XM D)
def xlit (T:TypeId) (len:Nat) (parts:List (Nat×D)):Option D :=
 match es P T,zrT P T,byt P T with
 | some n,some zr,some _=>if (Nat.blt 0 n&&Nat.blt 0 len&&Nat.beq zr.length n&&zr.all clA&&Nat.ble (len*n) 16777216)=true then (qc5 n (List.replicate len zr) parts).map fun rows=>.a (.sl rows) else none
 | _,_,_=>none
inductive Rs where
 | fr (d:D)
 | rd (d:D)
 | no
def toF:Option D→Rs
 | some d=>.fr d
 | none=>.no
def toR:Option D→Rs
 | some d=>.rd d
 | none=>.no
variable {P pc}
theorem qmm {o:Oper} {e:Nat→D} {st:List Bx} {d:D} {T:TypeId} {len:Nat} {parts:List (Nat×Operand)} (ho:o.op=.buildSlice T len ⟨parts⟩) (h:xlit P T len (parts.map fun p=>(p.1,evO e p.2))=some d):OpJ P st e o d:=by
 unfold xlit at h
 split at h
 ·rename_i n zr bt h1 h2 h3
  split at h
  ·rename_i hc
   simp only [Bool.and_eq_true,Nat.blt_eq,Nat.ble_eq] at hc
   rw [Option.map_eq_some_iff] at h
   obtain⟨rows,h4,rfl⟩:=h
   exact .lit ho h1 hc.1.1.1.1 hc.1.1.1.2 h2 (Nat.eq_of_beq_eq_true hc.1.1.2) hc.1.2 h3 hc.2 h4
  ·cases h
 ·cases h
theorem qe6 {o:Option D} {d:D} (h:toF o=.fr d):o=some d:=by cases o<;>cases h;rfl
theorem toF_rd {o:Option D} {d:D} (h:toF o=.rd d):False:=by cases o<;>cases h
theorem toR_fr {o:Option D} {d:D} (h:toR o=.fr d):False:=by cases o<;>cases h
theorem toR_rd {o:Option D} {d:D} (h:toR o=.rd d):o=some d:=by cases o<;>cases h;rfl
theorem qel {o:Oper} {op:Op} {e:Nat→D} {st:List Bx} {d:D} (ho:o.op=op) (h:evQ P st e { o with op:=op }=some d):OpJ P st e o d:=by
 subst ho;exact qdg h
variable (P)
variable {P}
end
/-! ### A region -/
section
variable {P:Program} {C:Cx P} {ops:Array Oper} {r:List Oper} {e:Nat→D} {st st1:List Bx} {dst:Option Nat} {ty:TypeId} {pos:String} {after:Array Edge} {f:FuncId} {y:Operand} {xs:List Operand} {tys:Array TypeId} {vs:List D} {d g:D} {caps:List A}
end
section
variable (P:Program) (pc:FuncId→List D→XM D) (mc:FuncId→List D→List Bx→XM (D×List Bx))
variable {P pc mc}
variable (P pc mc)
variable {P pc mc}
end
/-! ### The same plain data -/
/-! ### A region of drawn order -/
section
variable (P:Program) (pc:FuncId→List D→XM D) (mc:FuncId→List D→List Bx→XM (D×List Bx))
variable {P pc mc}
end
/-! ### Code -/
section
variable (P:Program) (pc:FuncId→List D→XM D) (mc:FuncId→List D→List Bx→XM (D×List Bx)) (F n:Nat) (ks:List Nat)
variable (kI:FuncId→List A→List Bx→Option (List (List D))) (n0:Nat)
variable {P pc mc F n ks kI n0}
end
/-! ### Functions -/
def argL:Nat→List D→EL
 | _,[]=>[]
 | i,d::r=>(i,d)::argL (i+1) r
theorem qf0:∀(ds:List D) (i:Nat) (e:Nat→D),(∀t,i≤t→t<i+ds.length→e t=ds.getD (t-i) .undef)→qal e (argL i ds)
 | [],_,_,_=>trivial
 | d::r,i,e,h=>by
  refine⟨?_,qf0 r (i+1) e fun t h1 h2=>?_⟩
  ·have:=h i (Nat.le_refl _) (by simp)
   simpa using this
  ·have:=h t (by omega) (by simp at h2 ⊢;omega)
   rw [this,show t-i=(t-(i+1))+1 by omega];rfl
theorem qh3 (ds:List D):qal (qau 0 ds) (argL 0 ds) :=
 qf0 ds 0 _ fun t _ _=>by rw [qc0,if_pos (Nat.zero_le _)]
theorem qk7 (ds:List D) (h:ds.length≤1000000) (g:D):qal (upd (qau 0 ds) 1000000 g) (argL 0 ds) :=
 qf0 ds 0 _ fun t _ ht=>by
  show (if t=1000000 then g else qau 0 ds t)=_
  rw [if_neg (by omega),qc0,if_pos (Nat.zero_le _)]
theorem WP.weaken {P:Program} {C:Cx P} {n:Nat} {c:Code} {Q:Exit→(Nat→D)→List Bx→Prop} {e:Nat→D} {l:EL} {st:List Bx} (ha:qal e l) (h:WP C n c Q (envL l) st):WP C n c Q e st:=fun a w x bl hm=>h a w x bl (hm.weaken ha)
section
variable (P:Program)
structure XF where
 fn:Func
 ks:List Nat
 mem:Bool:=false
 own:Bool:=false
variable (tb:FuncId→Option XF) (F:Nat) (known:FuncId→List D→Option D) (kI:FuncId→List A→List Bx→Option (List (List D)))
variable {P tb F known kI}
end
/-! ### A table of functions -/
section
variable (P:Program)
def xqS (op:Op) (e:Nat→D) (st:List Bx):Rs :=
 match op with
 | .move x=>.fr (evO e x)
 | .assign x=>.fr (evO e x)
 | .load T x=>toR (ldD st (ldk P T) (evO e x))
 | .binOp op T x y _=>toF (bin2 (qcn P T) (eqOk P T) op (evO e x) (evO e y))
 | .unOp op _ x=>toF (un1 op (evO e x))
 | .fieldAddr T x k=>toF (faD (fo P T k) (evO e x))
 | .indexAddr T x i=>toR (ixS st (es P T) (ar P T) (evO e x) (evO e i))
 | .extract x k=>toF (exD k (evO e x))
 | .nilCheck x=>toF (nilD (evO e x))
 | .call ⟨.builtin .len,⟨[x]⟩,⟨[T]⟩⟩=>toR (lenS P st T (evO e x))
 | .call ⟨.builtin .max,⟨[x,y]⟩,_⟩=>toF (mxD true (evO e x) (evO e y))
 | .field T x k=>toF (fdD (fo2 P T k) (evO e x))
 | .build T parts=>toF (buN P T (parts.toList.map fun p=>(p.1,evO e p.2)))
 | .buildSlice T len parts=>toF (xlit P T len (parts.toList.map fun p=>(p.1,evO e p.2)))
 | _=>.no
def xeffS (op:Op) (e:Nat→D) (st:List Bx):Option (D×List Bx) :=
 match op with
 | .box _ x=>boxD st (qbn (evO e x))
 | .alloc T=>boxD st (zrowN P T)
 | .store T x y=>stoD st (szo P T) (evO e x) (qbn (evO e y))
 | _=>none
variable {P}
theorem qk9 {o:Oper} {e:Nat→D} {s:List Bx} {d:D} (h:xqS P o.op e s=.fr d) (st:List Bx):OpJ P st e o d:=by
 unfold xqS at h
 split at h
 ·rename_i x ho;injection h with h;subst h;exact .move ho
 ·rename_i x ho;injection h with h;subst h;exact .assign ho
 ·exact (toR_fr h).elim
 ·rename_i ho;exact qel ho (qe6 h)
 ·rename_i ho;exact qel ho (qe6 h)
 ·rename_i ho;exact qel ho (qe6 h)
 ·exact (toR_fr h).elim
 ·rename_i ho;exact qel ho (qe6 h)
 ·rename_i ho;exact qel ho (qe6 h)
 ·exact (toR_fr h).elim
 ·rename_i ho;exact qel ho (qe6 h)
 ·rename_i ho;exact qel ho (qe6 h)
 ·rename_i T parts ho;obtain⟨parts⟩:=parts;exact buN_sound ho (qe6 h)
 ·rename_i T len parts ho;obtain⟨parts⟩:=parts;exact qmm ho (qe6 h)
 ·cases h
theorem xqS_rd {o:Oper} {e:Nat→D} {st:List Bx} {d:D} (h:xqS P o.op e st=.rd d):OpJ P st e o d:=by
 unfold xqS at h
 split at h<;>first|(rename_i ho;exact qel ho (toR_rd h))|exact (toF_rd h).elim|cases h
theorem qj5 {o:Oper} {e:Nat→D} {st st':List Bx} {d:D} (h:xeffS P o.op e st=some (d,st')):OpG P st e o d st':=by
 unfold xeffS at h
 split at h
 ·rename_i T x ho
  unfold boxD at h
  split at h
  ·rename_i xs hx
   injection h with h;injection h with h1 h2;subst h1;subst h2
   exact .box ho hx
  ·cases h
 ·rename_i T ho
  unfold boxD at h
  split at h
  ·rename_i xs hx
   injection h with h;injection h with h1 h2;subst h1;subst h2
   exact .allocZ ho fun V=>qi0 (V:=V) hx
  ·cases h
 ·rename_i T x y ho
  refine qcy ?_
  unfold evG
  rw [ho];exact h
 ·cases h
end
structure VB (v:Bool) (a b:Prop):Prop where
 t:v=true→a
 f:v=false→b
structure VG (c k:Prop):Prop where
 c:c
 k:k
structure VK (c k:Prop):Prop where
 c:c
 k:k
inductive VZ (a b:Prop):Prop
 | s (h:a)
 | n (h:b)
structure VA (c k:Prop):Prop where
 c:c
 k:k
structure VE (d' d:D):Prop where
 h:d'=d
inductive VI (G:Prop) (rows:List (List A)) (z:Int) (n:Option Nat) (k:List A→Prop):Prop
 | mk (j:Nat) (row:List A) (hz:G→z=j) (hr:G→rows[j]? = some row) (hn:G→n=some row.length) (h:k row)
inductive VC (P:Program) (G:Prop) (gn:Bool) (bd:Bool) (N:Prop) (f:FuncId) (vs:List D) (st:List Bx) (k:D→List Bx→Prop):Prop
 | cl (d:D) (hb:bd=false) (hp:G→qaa P f vs d) (hc:vs.all clD=true) (h:k d st)
 | cL (z:Value) (hb:bd=false) (hp:G→qaa P f (vs.map (qfu st)) (.a (.v z))) (hc:vs.all (qfv st)=true) (h:k (.a (.v z)) st)
 | cM (σ:List Nat) (bs:List Bx) (ds:List D) (st0 st1 st':List Bx) (d d':D) (hg:gn=true) (hN:N) (hs:σ.map (fun i=>st.getD i .gone)=bs) (hin:qd8 σ bs vs=true) (hu:vs.map (unD σ)=ds) (hv:bs.map (unB σ)=st0) (hp:DM P f ds st0 d st1) (hne:0<st1.length) (hd:rnD (rnX σ st.length (st1.length-σ.length)) d=d') (hst:mrg σ st (st1.map (rnB (rnX σ st.length (st1.length-σ.length))))=st') (h:k d' st')
theorem VI.lit {G:Prop} {rows:List (List A)} {z:Int} {n:Option Nat} {k:List A→Prop} (row:List A) (hz:G→(Int.toNat z:Int)=z) (hr:G→rows[Int.toNat z]? = some row) (hn:G→n=some row.length) (h:k row):VI G rows z n k:=⟨Int.toNat z,row,fun g=>(hz g).symm,hr,hn,h⟩
theorem VB.tt {v:Bool} {a b:Prop} (h:v=true) (k:a):VB v a b:=⟨fun _=>k,fun h2=>by rw [h] at h2;cases h2⟩
theorem VB.ff {v:Bool} {a b:Prop} (h:v=false) (k:b):VB v a b:=⟨fun h2=>(by rw [h] at h2;cases h2),fun _=>k⟩
def hA (x:A) (k:A→Prop):Prop :=
 match x with
 | .v (.int q z)=>k (.v (.int q z))
 | .v (.bool b)=>k (.v (.bool b))
 | .v (.string s)=>k (.v (.string s))
 | .v v=>k (.v v)
 | .nl=>k .nl
 | .sl rows=>k (.sl rows)
 | .ref r o=>k (.ref r o)
 | .ptr i o=>k (.ptr i o)
 | .own i o=>k (.own i o)
 | .ep b v z o=>k (.ep b v z o)
 | .fn f c=>k (.fn f c)
 | .fm f c=>k (.fm f c)
 | .mp b=>k (.mp b)
 | .cs b o n=>k (.cs b o n)
def hD (d:D) (k:D→Prop):Prop :=
 match d with
 | .a x=>hA x fun x=>k (.a x)
 | .r row=>k (.r row)
 | .junk=>k .junk
 | .undef=>k .undef
 | .t ds=>k (.t ds)
theorem hA_eq (x:A) (k:A→Prop):hA x k=k x:=by
 unfold hA;split<;>rfl
theorem qmy (d:D) (k:D→Prop):hD d k=k d:=by
 unfold hD;split<;>first|rfl|exact hA_eq _ _
def hB:List Bx→(List Bx→Prop)→Prop
 | [],k=>k []
 | .cell row::r,k=>hB r fun r=>k (.cell row::r)
 | .arr v n rows::r,k=>hB r fun r=>k (.arr v n rows::r)
 | .gone::r,k=>hB r fun r=>k (.gone::r)
 | .map q w es::r,k=>hB r fun r=>k (.map q w es::r)
theorem qhj:∀(l:List Bx) (k:List Bx→Prop),hB l k=k l
 | [],_=>rfl
 | .cell _::r,k=>qhj r _
 | .arr _ _ _::r,k=>qhj r _
 | .gone::r,k=>qhj r _
 | .map _ _ _::r,k=>qhj r _
def hR:List A→(List A→Prop)→Prop
 | [],k=>k []
 | x::r,k=>hA x fun x=>hR r fun r=>k (x::r)
theorem qkz:∀(l:List A) (k:List A→Prop),hR l k=k l
 | [],_=>rfl
 | x::r,k=>by rw [hR,hA_eq,qkz r]
def hS:List (List A)→(List (List A)→Prop)→Prop
 | [],k=>k []
 | x::r,k=>hR x fun x=>hS r fun r=>k (x::r)
theorem hS_eq:∀(l:List (List A)) (k:List (List A)→Prop),hS l k=k l
 | [],_=>rfl
 | x::r,k=>by rw [hS,qkz,hS_eq r]
def hN (n:Nat) (k:Nat→Prop):Prop :=
 match n with
 | 0=>k 0
 | m+1=>k (m+1)
theorem hN_eq (n:Nat) (k:Nat→Prop):hN n k=k n:=by cases n<;>rfl
def hK (l:EL):List Nat→(EL→Prop)→Prop
 | [],k=>k []
 | t::r,k=>hD (getL l t) fun d=>hK l r fun l'=>k ((t,d)::l')
theorem hK_eq (l:EL):∀(r:List Nat) (k:EL→Prop),hK l r k=k (qmw l r)
 | [],_=>rfl
 | t::r,k=>by rw [hK,qmy,hK_eq l r];rfl
section
variable (P:Program)
def vdef (op:Op) (e:Nat→D) (st:List Bx) (gn:Bool) (K:D→List Bx→Prop):Prop :=
 match xqS P op e st with
 | .fr d=>hD d fun d=>K d st
 | .rd d=>hD d fun d=>K d st
 | .no=>match gn,xeffS P op e st with
  | true,some (d,st')=>hD d fun d=>hB st' fun st'=>K d st'
  | _,_=>False
def qj8 (op:Op) (e:Nat→D) (st:List Bx) (gn:Bool) (K:D→List Bx→Prop):Prop :=
 match xqS P op e st with
 | .fr (.r row)=>hR row fun row=>K (.r row) st
 | .rd (.r row)=>hR row fun row=>K (.r row) st
 | .fr d=>hD d fun d=>K d st
 | .rd d=>hD d fun d=>K d st
 | .no=>False
def vapp (s x:D) (T T':TypeId) (st:List Bx) (gn:Bool) (K:D→List Bx→Prop):Prop :=
 match es P T,zrT P T,byt P T,qf2 st x with
 | some n,some zr,some bt,some rows2=>(match s with
  | .a (.own i ver)=>(match st[i]? with
   | some (.arr ver' n' rows)=>hN bt fun bt=>VA (gn=true∧T=T'∧zr.length=n∧n=n'∧ver=ver'∧qc1 n rows2=true∧(rows.length+rows2.length)*bt≤140737488355328∧rows.length+rows2.length≤4611686018427387904) (hB (st.set i (.arr (ver+1) n (rows++rows2))) fun st'=>K (.a (.own i (ver+1))) st')
   | _=>False)
  | .a .nl=>hN bt fun bt=>VA (gn=true∧T=T'∧zr.length=n∧0<n∧0<rows2.length∧qc1 n rows2=true∧rows2.length*bt≤140737488355328∧rows2.length≤4611686018427387904) (hB (st++[.arr 0 n rows2]) fun st'=>K (.a (.own st.length 0)) st')
  | _=>False)
 | _,_,_,_=>False
def vop (op:Op) (e:Nat→D) (st:List Bx) (G:Prop) (gn:Bool) (N:Prop) (K:D→List Bx→Prop):Prop :=
 match op with
 | .indexAddr T x i=>(match evO e x,evO e i with
  | .a (.sl rows),.a (.v (.int _ z))=>VI G rows z (es P T) fun row=>K (.a (.ref row 0)) st
  | _,_=>vdef P (.indexAddr T x i) e st gn K)
 | .pick c x y=>(match evO e c,evO e x,evO e y with
  | .a (.v (.bool b)),.a (.v (.bool p)),.a (.v (.bool q))=>K (.a (.v (.bool (bif b then p else q)))) st
  | .a (.v (.bool b)),dx,dy=>VB b (K dx st) (K dy st)
  | _,_,_=>False)
 | .load T x=>(match evO e x,ldk P T with
  | .a (.ptr i off),some (some n)=>(match st[i]? with
   | some (.cell row)=>if (Nat.beq off 0&&Nat.beq n row.length)=true then K (.r row) st else qj8 P (.load T x) e st gn K
   | _=>qj8 P (.load T x) e st gn K)
  | .a (.ref row off),some (some n)=>if (Nat.beq off 0&&Nat.beq n row.length)=true then K (.r row) st else qj8 P (.load T x) e st gn K
  | _,_=>qj8 P (.load T x) e st gn K)
 | .build T parts=>VZ (match buD P T (parts.toList.map fun p=>(p.1,evO e p.2)) with
  | some (.r row)=>hR row fun row=>K (.r row) st
  | _=>False) (qj8 P (.build T parts) e st gn K)
 | .alloc T=>VZ (match gn,qh6 P T with
  | true,some row=>hR row fun row=>hB (st++[.cell row]) fun st'=>K (.a (.ptr st.length 0)) st'
  | _,_=>False) (vdef P (.alloc T) e st gn K)
 | .buildSlice T len parts=>(match xqS P (.buildSlice T len parts) e st with
  | .fr (.a (.sl rows))=>hS rows fun rows=>K (.a (.sl rows)) st
  | _=>vdef P (.buildSlice T len parts) e st gn K)
 | .store T x y=>(match evO e x,qbn (evO e y) with
  | .a (.ptr i off),some xs=>(match gn,st[i]? with
   | true,some (.cell row)=>if (Nat.beq off 0&&Nat.beq xs.length row.length&&(szo P T==some xs.length))=true then hB (st.set i (.cell xs)) fun st'=>K .undef st'
    else if (szo P T==some xs.length&&Nat.ble (off+xs.length) row.length)=true then hR (qak row off xs) fun row=>hB (st.set i (.cell row)) fun st'=>K .undef st' else False
   | _,_=>False)
  | _,_=>vdef P (.store T x y) e st gn K)
 | .call ⟨.value y,⟨xs⟩,tys⟩=>(match evO e y with
  | .a (.fn f caps)=>VC P G gn false N f (xs.map (evO e)++caps.map D.a) st K
  | .a (.fm f caps)=>VC P G gn true N f (caps.map D.a++xs.map (evO e)) st K
  | _=>False)
 | .call ⟨.builtin .len,⟨[x]⟩,⟨[T]⟩⟩=>(match evO e x with
  | .a (.own i ver)=>(match st[i]? with
   | some (.arr ver' _ rows)=>VG (ver=ver'∧isSl P T=true) (K (.a (.v (.int .i64 (rows.length:Nat)))) st)
   | _=>False)
  | _=>vdef P (.call ⟨.builtin .len,⟨[x]⟩,⟨[T]⟩⟩) e st gn K)
 | .call ⟨.builtin .append,⟨[s,x]⟩,⟨[T,T']⟩⟩=>vapp P (evO e s) (evO e x) T T' st gn K
 | op=>vdef P op e st gn K
def vops (ops:Array Oper):List Oper→EL→List Bx→(EL→List Bx→Prop)→Prop
 | [],l,st,K=>K l st
 | o::r,l,st,K=>(match o.guard with
  | none=>vop P o.op (getL l) st True true (o.dst≠some 1000000) fun d st'=>vops ops r (putL l o.dst d) st' K
  | some (j,b)=>(match (qb7 ops j).map (getL l) with
   | some (.a (.v (.bool x)))=>vop P o.op (getL l) st (x=b) false False fun d st'=>vops ops r (putL l o.dst d) st' K
   | some .undef=>vops ops r (putL l o.dst .undef) st K
   | _=>False))
def vqs (ops:Array Oper) (st:List Bx):List Oper→EL→(EL→Prop)→Prop
 | [],l,K=>K l
 | o::r,l,K=>(match o.guard with
  | none=>vop P o.op (getL l) st True false False fun d _=>vqs ops st r (putL l o.dst d) K
  | some (j,b)=>(match (qb7 ops j).map (getL l) with
   | some (.a (.v (.bool x)))=>vop P o.op (getL l) st (x=b) false False fun d _=>vqs ops st r (putL l o.dst d) K
   | some .undef=>vqs ops st r (putL l o.dst .undef) K
   | _=>False))
def quietO:Op→Bool
 | .box ..|.alloc ..|.store ..|.makeSlice ..|.mapEntry ..|.entryStore ..|.mapUpdate ..|.makeMap ..=>false
 | .call ⟨.builtin .append,_,_⟩=>false
 | .call ⟨.builtin .copy,_,_⟩=>false
 | .buildSlice _ 0 _=>false
 | _=>true
def qhn:List Oper→Nat
 | []=>0
 | o::r=>if quietO o.op=true then qhn r+1 else 0
def QL (K:Exit→EL→List Bx→Prop):Exit→(Nat→D)→List Bx→Prop:=fun ex e st=>∃l,e=envL l∧K ex l st
inductive VL {P:Program} (C:Cx P) (n:Nat) (ks:List Nat) (c:Code) (l:EL) (st:List Bx) (K:Exit→EL→List Bx→Prop):Prop
 | wp (h:WP C n (.loop c) (QL K) (envL l) st)
 | wi (h:WPIn C n c (QL K) (envL l) st)
structure VLI {P:Program} (C:Cx P) (n:Nat) (ks:List Nat) (c:Code) (l:EL) (st:List Bx) (K:Exit→EL→List Bx→Prop):Prop where
 h:WPIn C n c (QL K) (envL l) st
inductive VD {P:Program} (C:Cx P) (n:Nat) (ks:List Nat) (ops:List Oper) (l:EL) (st:List Bx) (K:EL→List Bx→Prop):Prop
 | q (h:VK ((qhx ⟨ops⟩ n (qhn ops)&&decide (qhn ops≤ops.length)&&ksOk ⟨ops⟩ ks&&P.follows .mixedOrders)=true) (vqs P ⟨ops⟩ st (ops.take (qhn ops)) l fun l=>vops P ⟨ops⟩ (ops.drop (qhn ops)) l st fun l' st'=>hK l' ks fun l'=>K l' st'))
 | wp (h:∀id,WP C n (.region id ⟨ops⟩ true) (fun ex e st=>ex=.normal∧∃l,e=envL l∧K l st) (envL l) st)
inductive Fm where
 | seq (c:Code)
 | blk (id:Nat)
inductive Ct where
 | run (c:Code)
 | pop (ex:Exit)
def vm (C:Cx P) (n:Nat) (ks:List Nat):Nat→Ct→List Fm→EL→List Bx→(Exit→EL→List Bx→Prop)→Prop
 | 0,_,_,_,_,_=>False
 | f+1,.run c,S,l,st,K=>(match c with
  | .skip=>vm C n ks f (.pop .normal) S l st K
  | .region _ ⟨ops⟩ false=>VK ((qhi ⟨ops⟩ n&&ksOk ⟨ops⟩ ks)=true) (vops P ⟨ops⟩ ops l st fun l' st'=>hK l' ks fun l'=>vm C n ks f (.pop .normal) S l' st' K)
  | .region _ ⟨ops⟩ true=>VD C n ks ops l st fun l' st'=>vm C n ks f (.pop .normal) S l' st' K
  | .seq a b=>vm C n ks f (.run a) (.seq b::S) l st K
  | .cond c a b=>(match opLt n c,evO (getL l) c with
   | true,.a (.v (.bool v))=>VB v (vm C n ks f (.run a) S l st K) (vm C n ks f (.run b) S l st K)
   | _,_=>False)
  | .block id c=>vm C n ks f (.run c) (.blk id::S) l st K
  | .loop c=>VL C n ks c l st fun ex l' st'=>vm C n ks f (.pop ex) S l' st' K
  | .exit id=>vm C n ks f (.pop (.exit id)) S l st K
  | .ret=>vm C n ks f (.pop .ret) S l st K
  | _=>False)
 | _+1,.pop ex,[],l,st,K=>K ex l st
 | f+1,.pop ex,.seq b::S,l,st,K=>(match ex with
  | .normal=>vm C n ks f (.run b) S l st K
  | ex=>vm C n ks f (.pop ex) S l st K)
 | f+1,.pop ex,.blk id::S,l,st,K=>(match ex with
  | .exit id'=>if Nat.beq id' id=true then vm C n ks f (.pop .normal) S l st K else vm C n ks f (.pop (.exit id')) S l st K
  | ex=>vm C n ks f (.pop ex) S l st K)
def vx (C:Cx P) (n:Nat) (ks:List Nat) (c:Code) (l:EL) (st:List Bx) (K:Exit→EL→List Bx→Prop):Prop:=vm P C n ks 1000 (.run c) [] l st K
def hSa (st:List Bx) (x:A) (k:A→Prop):Prop :=
 match x with
 | .own i v=>(match st[i]? with
  | some (.arr v' _ rows)=>VG (v=v') (k (.sl rows))
  | _=>k (.own i v))
 | .nl=>k (.sl [])
 | .v x=>k (.v x)
 | .sl rows=>k (.sl rows)
 | x=>k (seeA st x)
def hSr (st:List Bx):List A→(List A→Prop)→Prop
 | [],k=>k []
 | x::r,k=>hSa st x fun x=>hSr st r fun r=>k (x::r)
def hSd (st:List Bx) (d:D) (k:D→Prop):Prop :=
 match d with
 | .a x=>hSa st x fun x=>k (.a x)
 | .r row=>hSr st row fun row=>k (.r row)
 | d=>k (qd3 st d)
def raw1 (n:Nat) (e:Nat→D) (st:List Bx):ResultVar→Option D
 | .tmp t=>if t<n then some (e t) else none
 | .cell t T=>if t<n then (match e t with
  | .a (.ptr i off)=>(match st[i]?,ldk P T with
   | some (.cell row),some k=>(match k with
    | some m=>if (Nat.beq off 0&&Nat.beq m row.length)=true then some (.r row) else qap k row off
    | none=>qap k row off)
   | _,_=>none)
  | _=>none) else none
def vres1 (n:Nat) (e:Nat→D) (st:List Bx) (r:ResultVar) (k:D→Prop):Prop :=
 match raw1 P n e st r with
 | some d=>hSd st d fun d=>VG (clD1 d=true) (k d)
 | none=>False
def vresL (n:Nat) (e:Nat→D) (st:List Bx):List ResultVar→(List D→Prop)→Prop
 | [],k=>k []
 | r::l,k=>vres1 P n e st r fun d=>vresL n e st l fun ds=>k (d::ds)
def vres (n:Nat) (rs:List ResultVar) (d:D) (l:EL) (st:List Bx):Prop :=
 match rs with
 | [r]=>vres1 P n (getL l) st r fun d'=>VE d' d
 | rs=>vresL P n (getL l) st rs fun ds=>VE (.t ds) d
def vret (n:Nat) (rs:List ResultVar) (d:D):Exit→EL→List Bx→Prop
 | .normal,l,st=>vres P n rs d l st
 | .ret,l,st=>vres P n rs d l st
 | _,_,_=>False
end
/-! ### That it is enough -/
section
variable {P:Program}
def VS (C:Cx P) (o:Oper) (e:Nat→D) (st:List Bx) (G:Prop) (gn:Bool) (N:Prop) (K:D→List Bx→Prop):Prop :=
 (∃d st',((gn=true∧OpG P st e o d st')∨(st'=st∧(G→OpJ P st e o d)))∧K d st')∨(gn=true∧N∧∃d st',OpX C st e o (fun d1 st1 g1=>d1=d∧st1=st'∧g1=e 1000000)∧K d st')
theorem qcs {C:Cx P} {o:Oper} {op:Op} (ho:o.op=op) {e:Nat→D} {st:List Bx} {G:Prop} {gn:Bool} {N:Prop} {K:D→List Bx→Prop} (h:vdef P op e st gn K):VS C o e st G gn N K:=by
 subst ho
 unfold vdef at h
 split at h
 ·rename_i d hd
  rw [qmy] at h
  exact .inl ⟨d,st,.inr ⟨rfl,fun _=>qk9 hd st⟩,h⟩
 ·rename_i d hd
  rw [qmy] at h
  exact .inl ⟨d,st,.inr ⟨rfl,fun _=>xqS_rd hd⟩,h⟩
 ·split at h
  ·rename_i d st' he
   rw [qmy,qhj] at h
   exact .inl ⟨d,st',.inl ⟨rfl,qj5 he⟩,h⟩
  ·exact h.elim
theorem qcu {C:Cx P} {o:Oper} {op:Op} (ho:o.op=op) {e:Nat→D} {st:List Bx} {G:Prop} {gn:Bool} {N:Prop} {K:D→List Bx→Prop} (h:qj8 P op e st gn K):VS C o e st G gn N K:=by
 subst ho
 unfold qj8 at h
 split at h
 ·rename_i row hd
  rw [qkz] at h
  exact .inl ⟨_,st,.inr ⟨rfl,fun _=>qk9 hd st⟩,h⟩
 ·rename_i row hd
  rw [qkz] at h
  exact .inl ⟨_,st,.inr ⟨rfl,fun _=>xqS_rd hd⟩,h⟩
 ·rename_i d _ hd
  rw [qmy] at h
  exact .inl ⟨d,st,.inr ⟨rfl,fun _=>qk9 hd st⟩,h⟩
 ·rename_i d _ hd
  rw [qmy] at h
  exact .inl ⟨d,st,.inr ⟨rfl,fun _=>xqS_rd hd⟩,h⟩
 ·exact h.elim
theorem qe2 {C:Cx P} {o:Oper} {e:Nat→D} {st:List Bx} {G:Prop} {gn:Bool} {N:Prop} {K:D→List Bx→Prop} (hn:gn=true→o.guard=none) (h:vop P o.op e st G gn N K):VS C o e st G gn N K:=by
 unfold vop at h
 split at h
 ·rename_i T x i ho
  split at h
  ·rename_i rows q z hx hi
   obtain⟨j,row,hz,hr,hl,hk⟩:=h
   refine .inl ⟨_,st,.inr ⟨rfl,fun g=>qel ho ?_⟩,hk⟩
   show ixS st (es P T) (ar P T) (evO e x) (evO e i)=_
   rw [hx,hi,hl g]
   exact qar (q:=q) (q2:=ar P T) (hz g) (hr g) rfl
  ·exact qcs ho h
 ·rename_i c x y ho
  split at h
  ·rename_i b p q hc hx hy
   refine .inl ⟨_,st,.inr ⟨rfl,fun g=>?_⟩,h⟩
   have:=OpJ.pickB (P:=P) (st:=st) ho hc
   rw [hx,hy] at this
   cases b<;>exact this
  ·rename_i b hc _
   cases b with
   | true =>
    refine .inl ⟨_,st,.inr ⟨rfl,fun g=>?_⟩,h.t rfl⟩
    exact OpJ.pickB (P:=P) (st:=st) ho hc
   | false =>
    refine .inl ⟨_,st,.inr ⟨rfl,fun g=>?_⟩,h.f rfl⟩
    exact OpJ.pickB (P:=P) (st:=st) ho hc
  ·exact h.elim
 ·rename_i T x ho
  split at h
  ·rename_i i off n hx hk
   split at h
   ·rename_i row hs
    split at h
    ·rename_i hc
     rw [Bool.and_eq_true] at hc
     have e1:=Nat.eq_of_beq_eq_true hc.1
     have e2:=Nat.eq_of_beq_eq_true hc.2
     subst e1;subst e2
     refine .inl ⟨_,st,.inr ⟨rfl,fun g=>qel ho ?_⟩,h⟩
     show ldD st (ldk P T) (evO e x)=_
     rw [hx,hk]
     simp [ldD,hs,qap]
    ·exact qcu ho h
   ·exact qcu ho h
  ·rename_i row off n hx hk
   split at h
   ·rename_i hc
    rw [Bool.and_eq_true] at hc
    have e1:=Nat.eq_of_beq_eq_true hc.1
    have e2:=Nat.eq_of_beq_eq_true hc.2
    subst e1;subst e2
    refine .inl ⟨_,st,.inr ⟨rfl,fun g=>qel ho ?_⟩,h⟩
    show ldD st (ldk P T) (evO e x)=_
    rw [hx,hk]
    simp [ldD,qap]
   ·exact qcu ho h
  ·exact qcu ho h
 ·rename_i T parts ho
  obtain⟨parts⟩:=parts
  rcases h with h|h
  ·split at h
   ·rename_i row hd
    rw [qkz] at h
    exact .inl ⟨_,st,.inr ⟨rfl,fun _=>qel ho hd⟩,h⟩
   ·exact h.elim
  ·exact qcu ho h
 ·rename_i T ho
  rcases h with h|h
  ·split at h
   ·rename_i row hz
    rw [qkz,qhj] at h
    refine .inl ⟨_,_,.inl ⟨rfl,qcy ?_⟩,h⟩
    unfold evG
    rw [ho]
    show boxD st (qh6 P T)=_
    rw [hz];rfl
   ·exact h.elim
  ·exact qcs ho h
 ·rename_i T len parts ho
  split at h
  ·rename_i rows hd
   rw [hS_eq] at h
   exact .inl ⟨_,st,.inr ⟨rfl,fun _=>qk9 (by rw [ho];exact hd) st⟩,h⟩
  ·exact qcs ho h
 ·rename_i T x y ho
  split at h
  ·rename_i i off xs hx hy
   split at h
   ·rename_i row hs
    have key:∀row',(szo P T=some xs.length∧off+xs.length≤row.length)→qak row off xs=row'→K .undef (st.set i (.cell row'))→VS C o e st G true N K:=fun row' hc hr hk=>by
     subst hr
     refine .inl ⟨.undef,_,.inl ⟨rfl,qcy ?_⟩,hk⟩
     unfold evG
     rw [ho]
     show stoD st (szo P T) (evO e x) (qbn (evO e y))=_
     rw [hx,hy,hc.1]
     show (match st[i]? with|some (.cell row)=>if some xs.length=some xs.length∧off+xs.length≤row.length then some (D.undef,st.set i (.cell (qak row off xs))) else none|_=>none)=_
     rw [hs]
     show (if _ then _ else _)=_
     rw [if_pos ⟨rfl,hc.2⟩]
    split at h
    ·rename_i hc
     simp only [Bool.and_eq_true,beq_iff_eq] at hc
     have e1:=Nat.eq_of_beq_eq_true hc.1.1
     have e2:=Nat.eq_of_beq_eq_true hc.1.2
     subst e1
     rw [qhj] at h
     exact key xs ⟨hc.2,by omega⟩ (qbf e2) h
    ·split at h
     ·rename_i hc
      simp only [Bool.and_eq_true,beq_iff_eq] at hc
      rw [qkz,qhj] at h
      exact key _ ⟨hc.1,Nat.le_of_ble_eq_true hc.2⟩ rfl h
     ·exact h.elim
   ·exact h.elim
  ·exact qcs ho h
 ·rename_i y xs tys ho
  have key:∀(f:FuncId) (caps:List A),evO e y=.a (.fn f caps)→VC P G gn false N f (xs.map (evO e)++caps.map D.a) st K→VS C o e st G gn N K:=by
   intro f caps hy h
   cases h with
   | cl d hb hp hc h=>exact .inl ⟨d,st,.inr ⟨rfl,fun g=>.callv ho hy rfl hc (hp g)⟩,h⟩
   | cL z hb hp hc h=>exact .inl ⟨_,st,.inr ⟨rfl,fun g=>.callvL ho hy rfl hc (hp g)⟩,h⟩
   | cM σ bs ds st0 st1 st' d d' hg hN hs hin hu hv hp hne hd hst h =>
    refine .inr ⟨hg,hN,d',st',?_,h⟩
    obtain⟨dst,op,ty,pos,after,guard⟩:=o
    dsimp only at ho hn
    subst ho
    have q:WS C (e 1000000) st e ⟨dst,.call ⟨.value y,⟨xs⟩,tys⟩,ty,pos,after,none⟩ d' st':=WS.callvM hy rfl hs hin hu hv rfl hp hne hd hst
    exact q.2.2
  split at h
  ·rename_i f caps hy
   exact key f caps hy h
  ·rename_i f caps hy
   cases h with
   | cl d hb hp hc h=>cases hb
   | cL z hb hp hc h=>cases hb
   | cM σ bs ds st0 st1 st' d d' hg hN hs hin hu hv hp hne hd hst h =>
    refine .inr ⟨hg,hN,d',st',?_,h⟩
    obtain⟨dst,op,ty,pos,after,guard⟩:=o
    dsimp only at ho hn
    subst ho
    have q:WS C (e 1000000) st e ⟨dst,.call ⟨.value y,⟨xs⟩,tys⟩,ty,pos,after,none⟩ d' st':=WS.callbM hy rfl hs hin hu hv rfl hp hne hd hst
    exact q.2.2
  ·exact h.elim
 ·rename_i x T ho
  split at h
  ·rename_i i ver hx
   split at h
   ·rename_i ver' n' rows hs
    obtain⟨⟨rfl,h1⟩,hk⟩:=h
    refine .inl ⟨_,st,.inr ⟨rfl,fun g=>qel ho ?_⟩,hk⟩
    show lenS P st T (evO e x)=_
    rw [hx]
    simp [lenS,lenD,hs,h1]
   ·exact h.elim
  ·exact qcs ho h
 ·rename_i s x T T' ho
  unfold vapp at h
  split at h
  ·rename_i n zr bt rows2 h1 h2 h3 h4
   split at h
   ·rename_i i ver hs
    split at h
    ·rename_i ver' n' rows ha
     rw [hN_eq] at h
     obtain⟨⟨g1,rfl,g3,rfl,rfl,g6,g7,g8⟩,hk⟩:=h
     rw [qhj] at hk
     exact .inl ⟨_,_,.inl ⟨g1,.app_own ho hs ha h4 h1 h2 g3 h3 g6 g7 g8⟩,hk⟩
    ·exact h.elim
   ·rename_i hs
    rw [hN_eq] at h
    obtain⟨⟨g1,rfl,g3,g4,g5,g6,g7,g8⟩,hk⟩:=h
    rw [qhj] at hk
    exact .inl ⟨_,_,.inl ⟨g1,.app_nl ho hs h4 h1 g4 h2 g3 h3 g6 g5 g7 g8⟩,hk⟩
   ·exact h.elim
  ·exact h.elim
 ·exact qcs rfl h
theorem VS.rs {C:Cx P} {ops:Array Oper} {K:(Nat→D)→List Bx→Prop} {o:Oper} {r:List Oper} {e:Nat→D} {st:List Bx} {G:Prop} {gn:Bool} {N:Prop} (hn:gn=true→o.guard=none) (hN:N→o.dst≠some 1000000) (hG:∀p:Prop,(G→p)→qcb ops e o p) (h:VS C o e st G gn N fun d st'=>RS C ops r (putE e o.dst d) st' K):RS C ops (o::r) e st K:=by
 rcases h with ⟨d,st',h1,h2⟩|⟨h1,h0,d,st',h2,h3⟩
 ·rcases h1 with ⟨h1,h3⟩|⟨rfl,h3⟩
  ·exact .inl ⟨d,st',.inl ⟨hn h1,h3⟩,h2⟩
  ·exact .inl ⟨d,st',.inr ⟨rfl,hG _ h3⟩,h2⟩
 ·refine .inr ⟨by rw [hn h1];trivial,_,h2,?_⟩
  rintro d1 s1 g1 ⟨rfl,rfl,rfl⟩
  have:upd (putE e o.dst d1) 1000000 (e 1000000)=putE e o.dst d1:=by
   funext t
   unfold upd
   split
   ·rename_i ht;subst ht
    cases hd:o.dst with
    | none=>rfl
    | some q =>
     show _=(if 1000000=q then d1 else e 1000000)
     rw [if_neg fun hq=>hN h0 (by rw [hd,hq])]
   ·rfl
  rw [this];exact h3
theorem VS.mono {C:Cx P} {o:Oper} {e:Nat→D} {st:List Bx} {G:Prop} {gn:Bool} {N:Prop} {K K':D→List Bx→Prop} (hk:∀d st',K d st'→K' d st') (h:VS C o e st G gn N K):VS C o e st G gn N K':=by
 rcases h with ⟨d,st',h1,h2⟩|⟨h1,h0,d,st',h2,h3⟩
 ·exact .inl ⟨d,st',h1,hk _ _ h2⟩
 ·exact .inr ⟨h1,h0,d,st',h2,hk _ _ h3⟩
theorem qdb {C:Cx P} {ops:Array Oper} {K:EL→List Bx→Prop} {Q:(Nat→D)→List Bx→Prop} (hK:∀l st,K l st→Q (envL l) st):∀(r:List Oper) (l:EL) (st:List Bx),vops P ops r l st K→RS C ops r (envL l) st Q
 | [],l,st,h=>hK l st h
 | o::r,l,st,h=>by
  rw [vops,qc7] at h
  split at h
  ·rename_i hg
   refine VS.rs (fun _=>hg) (fun h=>h) (fun p hp=>by unfold qcb;rw [hg];exact hp trivial) (VS.mono (fun d st' hk=>?_) (qe2 (fun _=>hg) h))
   have:=qdb (C:=C) hK r _ _ hk
   rwa [qfb] at this
  ·rename_i j b hg
   split at h
   ·rename_i x hx
    refine VS.rs (N:=False) (fun h=>by cases h) (fun h=>h.elim) (fun p hp=>by unfold qcb;rw [hg];simp only [hx];exact hp) (VS.mono (fun d st' hk=>?_) (qe2 (fun h=>by cases h) h))
    have:=qdb (C:=C) hK r _ _ hk
    rwa [qfb] at this
   ·rename_i hx
    have:=qdb (C:=C) hK r _ _ h
    rw [qfb] at this
    exact .inl ⟨.undef,st,.inr ⟨rfl,by unfold qcb;rw [hg];simp only [hx]⟩,this⟩
   ·exact h.elim
theorem qgh {ops:Array Oper} {st:List Bx} {K:EL→Prop} {Q:(Nat→D)→Prop} (C:Cx P) (hK:∀l,K l→Q (envL l)):∀(r:List Oper) (l:EL),vqs P ops st r l K→RQ P ops st r (envL l) Q
 | [],l,h=>hK l h
 | o::r,l,h=>by
  rw [vqs,qc7] at h
  have fin:∀{G:Prop},(∀p:Prop,(G→p)→qcb ops (envL l) o p)→VS C o (envL l) st G false False (fun d _=>vqs P ops st r (putL l o.dst d) K)→RQ P ops st (o::r) (envL l) Q:=by
   intro G hG hv
   rcases hv with ⟨d,st',h1,h2⟩|⟨h1,_⟩
   ·rcases h1 with ⟨h1,_⟩|⟨_,h3⟩
    ·cases h1
    ·have:=qgh C hK r _ h2
     rw [qfb] at this
     exact⟨d,hG _ h3,this⟩
   ·cases h1
  split at h
  ·rename_i hg
   exact fin (fun p hp=>by unfold qcb;rw [hg];exact hp trivial) (qe2 (fun h=>by cases h) h)
  ·rename_i j b hg
   split at h
   ·rename_i x hx
    exact fin (fun p hp=>by unfold qcb;rw [hg];simp only [hx];exact hp) (qe2 (fun h=>by cases h) h)
   ·rename_i hx
    have:=qgh C hK r _ h
    rw [qfb] at this
    exact⟨.undef,by unfold qcb;rw [hg];simp only [hx],this⟩
   ·exact h.elim
def SQ (C:Cx P) (n:Nat) (Q:Exit→(Nat→D)→List Bx→Prop):List Fm→Exit→(Nat→D)→List Bx→Prop
 | []=>Q
 | .seq b::S=>qej (WP C n b (SQ C n Q S)) (SQ C n Q S)
 | .blk id::S=>qhd id (SQ C n Q S)
theorem qle {C:Cx P} {n:Nat} {ks:List Nat} {K:Exit→EL→List Bx→Prop} {Q:Exit→(Nat→D)→List Bx→Prop} (hQ:∀ex l st,K ex l st→Q ex (envL l) st):∀(f:Nat) (S:List Fm) (l:EL) (st:List Bx),(∀c,vm P C n ks f (.run c) S l st K→WP C n c (SQ C n Q S) (envL l) st)∧(∀ex,vm P C n ks f (.pop ex) S l st K→SQ C n Q S ex (envL l) st)
 | 0,_,_,_=>⟨fun _ h=>h.elim,fun _ h=>h.elim⟩
 | f+1,S,l,st=>by
  have IH:=qle (C:=C) (n:=n) (ks:=ks) hQ f
  refine⟨fun c h=>?_,fun ex h=>?_⟩
  ·cases c with
   | skip=>exact WP.skip ((IH S l st).2 _ h)
   | region id ops draw =>
    obtain⟨ops⟩:=ops
    cases draw with
    | false =>
     have h:VK ((qhi ⟨ops⟩ n&&ksOk ⟨ops⟩ ks)=true) (vops P ⟨ops⟩ ops l st fun l' st'=>hK l' ks fun l'=>vm P C n ks f (.pop .normal) S l' st' K):=h
     obtain⟨hc,h⟩:=h
     rw [Bool.and_eq_true] at hc
     refine WP.reg ks hc.1 hc.2 (qdb (fun l st hk=>?_) ops l st h)
     rw [hK_eq] at hk
     have:=(IH S _ _).2 _ hk
     rwa [qd9] at this
    | true =>
     have h:VD C n ks ops l st fun l' st'=>vm P C n ks f (.pop .normal) S l' st' K:=h
     cases h with
     | q h =>
     obtain⟨hc,h⟩:=h
     simp only [Bool.and_eq_true] at hc
     refine WP.drw (qhn ops) ks hc.1.1.1 hc.1.1.2 hc.1.2 hc.2 (qgh C (fun l h=>qdb (fun l st hk=>?_) _ _ _ h) _ l h)
     rw [hK_eq] at hk
     have:=(IH S _ _).2 _ hk
     rwa [qd9] at this
     | wp h =>
     refine (h id).mono fun ex e st hq=>?_
     obtain⟨rfl,l',rfl,hk⟩:=hq
     exact (IH S _ _).2 _ hk
   | seq a b=>exact WP.seq ((IH (.seq b::S) l st).1 a h)
   | cond c a b =>
    have h:(match opLt n c,evO (getL l) c with
     | true,.a (.v (.bool v))=>VB v (vm P C n ks f (.run a) S l st K) (vm P C n ks f (.run b) S l st K)
     | _,_=>False):=h
    rw [qc7] at h
    split at h
    ·rename_i v hl hc
     exact WP.cond hl hc (fun hv=>(IH S l st).1 a (h.t hv)) (fun hv=>(IH S l st).1 b (h.f hv))
    ·exact h.elim
   | block id c=>exact WP.block ((IH (.blk id::S) l st).1 c h)
   | loop c =>
    have h:VL C n ks c l st fun ex l' st'=>vm P C n ks f (.pop ex) S l' st' K:=h
    have h2:WP C n (.loop c) (QL fun ex l' st'=>vm P C n ks f (.pop ex) S l' st' K) (envL l) st:=by
     cases h with
     | wp h=>exact h
     | wi h=>exact WP.loop_in h
    exact h2.mono fun ex e st ⟨l,he,hk⟩=>by subst he;exact (IH S l st).2 _ hk
   | exit id=>exact WP.exit ((IH S l st).2 _ h)
   | ret=>exact WP.ret ((IH S l st).2 _ h)
   | _=>exact h.elim
  ·cases S with
   | nil=>exact hQ _ _ _ h
   | cons m S =>
    cases m with
    | seq b =>
     cases ex with
     | normal=>exact (IH S l st).1 b h
     | _=>exact (IH S l st).2 _ h
    | blk id =>
     cases ex with
     | exit id' =>
      show (if id'=id then SQ C n Q S .normal else SQ C n Q S (.exit id')) _ _
      have h:(if Nat.beq id' id=true then vm P C n ks f (.pop .normal) S l st K else vm P C n ks f (.pop (.exit id')) S l st K):=h
      split at h
      ·rename_i he
       rw [if_pos (Nat.eq_of_beq_eq_true he)];exact (IH S l st).2 _ h
      ·rename_i he
       rw [if_neg (fun e=>he (by subst e;exact Nat.beq_refl _))];exact (IH S l st).2 _ h
     | _=>exact (IH S l st).2 _ h
theorem qc3 {C:Cx P} {n:Nat} {ks:List Nat} (c:Code) (K:Exit→EL→List Bx→Prop) (Q:Exit→(Nat→D)→List Bx→Prop) (l:EL) (st:List Bx) (hK:∀ex l st,K ex l st→Q ex (envL l) st) (h:vx P C n ks c l st K):WP C n c Q (envL l) st:=(qle hK 1000 [] l st).1 c h
theorem qky {st:List Bx} {x:A} {k:A→Prop} (h:hSa st x k):k (seeA st x):=by
 unfold hSa at h
 split at h
 ·rename_i i v
  split at h
  ·rename_i v' n rows hs
   obtain⟨rfl,h⟩:=h
   have:seeA st (.own i v)=.sl rows:=by simp [seeA,hs]
   rw [this];exact h
  ·rename_i hne
   have:seeA st (.own i v)=.own i v:=by
    unfold seeA
    dsimp only
    split
    ·rename_i a b c hs;exact absurd hs (hne _ _ _)
    ·rfl
   rw [this];exact h
 ·exact h
 ·exact h
 ·exact h
 ·exact h
theorem hSr_see {st:List Bx}:∀{row:List A} {k:List A→Prop},hSr st row k→k (row.map (seeA st))
 | [],_,h=>h
 | x::r,k,h=>by
  have h1:hSa st x fun x=>hSr st r fun r=>k (x::r):=h
  exact hSr_see (k:=fun r'=>k (seeA st x::r')) (qky h1)
theorem hSd_see {st:List Bx} {d:D} {k:D→Prop} (h:hSd st d k):k (qd3 st d):=by
 unfold hSd at h
 split at h
 ·exact qky h
 ·exact hSr_see h
 ·exact h
theorem qi4 {n:Nat} {e:Nat→D} {st:List Bx} {r:ResultVar} {k:D→Prop} (h:vres1 P n e st r k):∃d,res1 P n e st r=some d∧clD1 d=true∧k d:=by
 unfold vres1 at h
 split at h
 ·rename_i d hd
  obtain⟨hc,hk⟩:=hSd_see h
  refine⟨_,?_,hc,hk⟩
  unfold raw1 at hd
  unfold res1
  split at hd<;>dsimp only
  ·split at hd
   ·rename_i ht;rw [if_pos ht];injection hd with hd;subst hd;rfl
   ·cases hd
  ·split at hd
   ·rename_i ht
    rw [if_pos ht]
    split at hd
    ·rename_i i off he
     rw [he]
     dsimp only
     split at hd
     ·rename_i row k hs hk
      rw [hs,hk]
      dsimp only
      split at hd
      ·rename_i m
       split at hd
       ·rename_i hc
        rw [Bool.and_eq_true] at hc
        have e1:=Nat.eq_of_beq_eq_true hc.1
        have e2:=Nat.eq_of_beq_eq_true hc.2
        subst e1;subst e2
        injection hd with hd;subst hd
        simp [qap]
       ·rw [hd];rfl
      ·rw [hd];rfl
     ·cases hd
    ·cases hd
   ·cases hd
 ·exact h.elim
theorem qi3 {n:Nat} {e:Nat→D} {st:List Bx}:∀{l:List ResultVar} {k:List D→Prop},vresL P n e st l k→∃ds,l.map (res1 P n e st)=ds.map some∧ds.all clD1=true∧k ds
 | [],_,h=>⟨[],rfl,rfl,h⟩
 | r::l,k,h=>by
  obtain⟨d,h1,h2,h3⟩:=qi4 h
  obtain⟨ds,h4,h5,h6⟩:=qi3 h3
  exact⟨d::ds,by rw [List.map_cons,List.map_cons,h1,h4],by rw [List.all_cons,h2,h5];rfl,h6⟩
theorem qmn {n:Nat} {rs:List ResultVar} {d:D} {ex:Exit} {l:EL} {st:List Bx} (h:vret P n rs d ex l st):retN P n rs d ex (envL l) st:=by
 have key:vres P n rs d l st→resL P n (envL l) st rs d:=by
  intro h2
  unfold vres at h2
  rw [qc7] at h2
  unfold resL
  split at h2
  ·obtain⟨d',h1,hc,⟨rfl⟩⟩:=qi4 h2
   exact⟨h1,hc⟩
  ·rename_i hne
   obtain⟨ds,h1,hc,⟨rfl⟩⟩:=qi3 h2
   split
   ·exact absurd rfl (hne _)
   ·exact⟨ds,rfl,h1,hc⟩
 cases ex with
 | normal=>exact key h
 | ret=>exact key h
 | _=>exact h.elim
theorem VLI.un {C:Cx P} {n:Nat} {ks:List Nat} {c:Code} {l:EL} {st:List Bx} {K:Exit→EL→List Bx→Prop} (h:vx P C n ks c l st fun ex l' st'=>match ex with
  | .normal=>VLI C n ks c l' st' K
  | ex=>K ex l' st'):VLI C n ks c l st K:=by
 refine⟨WPIn.unroll (qc3 c _ _ _ _ (fun ex l st hk=>?_) h)⟩
 cases ex with
 | normal=>exact hk.h
 | _=>exact⟨_,rfl,hk⟩
theorem VL.un {C:Cx P} {n:Nat} {ks:List Nat} {c:Code} {l:EL} {st:List Bx} {K:Exit→EL→List Bx→Prop} (h:vx P C n ks c l st fun ex l' st'=>match ex with
  | .normal=>VLI C n ks c l' st' K
  | ex=>K ex l' st'):VL C n ks c l st K:=.wi (VLI.un h).h
def VR {α:Type} (env:α→EL) (sto:α→List Bx) (μ:α→Nat) (y:α) (l:EL) (st:List Bx):Prop :=
 ∃z ex,μ z<μ y∧(sto y).length≤(sto z).length∧qal (envL l) (env z)∧st=sto z++ex∧nrE (sto z).length (env z)=true∧nrS (sto z).length (sto z)=true
theorem VL.g {α:Type} {C:Cx P} {n:Nat} {ks:List Nat} {c:Code} {l:EL} {st:List Bx} {K:Exit→EL→List Bx→Prop} (env:α→EL) (sto:α→List Bx) (μ:α→Nat) (y:α) (h0:qal (envL l) (env y)) (hs:st=sto y) (round:∀y,vx P C n ks c (env y) (sto y) fun ex l' st'=>match ex with
  | .normal=>VR env sto μ y l' st'
  | ex=>K ex l' st'):VL C n ks c l st K:=by
 refine .wp (WP.loopG env sto μ y h0 hs fun y=>qc3 c _ _ _ _ (fun ex l st hk=>?_) (round y))
 cases ex with
 | normal=>exact hk
 | _=>exact⟨_,rfl,hk⟩
def VN (env:Nat→EL) (sto:Nat→List Bx) (I:Nat→Prop) (k:Nat) (l:EL) (st:List Bx):Prop :=
 I (k+1)∧∃ex,qal (envL l) (env (k+1))∧st=sto (k+1)++ex∧nrE (sto (k+1)).length (env (k+1))=true∧nrS (sto (k+1)).length (sto (k+1))=true
theorem VL.each {α:Type} {C:Cx P} {n:Nat} {ks:List Nat} {c:Code} {l:EL} {st:List Bx} {K:Exit→EL→List Bx→Prop} (xs:List α) (enc:α→List A) (env:Nat→EL) (sto:Nat→List Bx) (I:Nat→Prop) (h0:qal (envL l) (env 0)) (hs:st=sto 0) (hI:I 0) (hn:xs.length≤4194304) (round:∀k z,xs[k]? = some z→xs.drop k=z::xs.drop (k+1)→xs.take (k+1)=xs.take k++[z]→k<xs.length→I k→decide ((k:Int)<(((xs.map enc).length:Nat):Int))=true→(xs.map enc)[k]? = some (enc z)→IntKind.i64.wrap ((k:Int)+1)=((k+1:Nat):Int)→vx P C n ks c (env k) (sto k) fun ex l' st'=>match ex with
  | .normal=>VN env sto I k l' st'
  | ex=>K ex l' st') (last:I xs.length→decide ((xs.length:Int)<(((xs.map enc).length:Nat):Int))=false→vx P C n ks c (env xs.length) (sto xs.length) fun ex l' st'=>match ex with
  | .normal=>False
  | ex=>K ex l' st') (hle:∀k,(sto k).length≤(sto (k+1)).length:=by intros;exact Nat.le_refl _):VL C n ks c l st K:=by
 refine .wp (WP.loopG (α:={ k:Nat // k≤xs.length∧I k }) (fun y=>env y.1) (fun y=>sto y.1) (fun y=>xs.length-y.1) ⟨0,Nat.zero_le _,hI⟩ h0 hs ?_)
 rintro⟨k,hk,hi⟩
 dsimp only
 by_cases hlt:k<xs.length
 ·obtain⟨z,hz⟩:∃z,xs[k]? = some z:=⟨_,List.getElem?_eq_getElem hlt⟩
  refine qc3 c _ _ _ _ (fun ex l st hq=>?_) (round k z hz (by rw [List.drop_eq_getElem_cons hlt];congr 1;exact (List.getElem?_eq_some_iff.1 hz).2) (by rw [List.take_add_one,hz];rfl) hlt hi (decide_eq_true (by rw [List.length_map];omega)) (by rw [List.getElem?_map,hz];rfl) (qa8 (by omega)))
  cases ex with
  | normal =>
   obtain⟨h1,ex,h2,h3,h4,h5⟩:=hq
   exact⟨⟨k+1,by omega,h1⟩,ex,by dsimp only;omega,hle k,h2,h3,h4,h5⟩
  | _=>exact⟨_,rfl,hq⟩
 ·obtain rfl:k=xs.length:=by omega
  refine qc3 c _ _ _ _ (fun ex l st hq=>?_) (last hi (decide_eq_false (by rw [List.length_map];omega)))
  cases ex with
  | normal=>exact hq.elim
  | _=>exact⟨_,rfl,hq⟩
theorem qaa.vx {P:Program} {f:FuncId} {fn:Func} {c:Code} {n:Nat} {rs:List ResultVar} {ds:List D} {d:D} (ks:List Nat) (hf:P.funcs[f]? = some fn) (hb:fn.body=some c) (hn:fn.ntmps=n) (hr:fn.results=⟨rs⟩) (hnm:(fn.name == "runtime.NumGoroutine")=false) (hl:(decide (ds.length≤n)&&decide (n≤1000000))=true)
  (h:∀C:Cx P,C.ro=none→C.V0.st=[]→vx P C n ks c (argL 0 ds) [] (vret P n rs d)):qaa P f ds d :=
 qaa.goV hf hb hn hr hnm hl fun C h1 h2=>WP.weaken (qh3 ds) (qc3 c _ _ _ _ (fun _ _ _=>qmn) (h C h1 h2))
end
/-! ### Steps, with what is to be seen beside them -/
section
variable {P:Program} {c k a b G:Prop}
theorem xK (h:k) (hc:c:=by kernel_rfl):VK c k:=⟨hc,h⟩
theorem xG (h:k) (hc:c:=by first|rfl|exact⟨rfl,rfl⟩|(simp only [go_sem];done)):VG c k:=⟨hc,h⟩
theorem xA (h:k) (hc:c:=by first|exact⟨rfl,rfl,rfl,Nat.le_of_ble_eq_true rfl,Nat.le_of_ble_eq_true rfl,rfl,Nat.le_of_ble_eq_true rfl,Nat.le_of_ble_eq_true rfl⟩|exact⟨rfl,rfl,rfl,rfl,rfl,rfl,by (try simp only [List.length_map,List.length_append,List.length_cons,List.length_nil]);omega,by (try simp only [List.length_map,List.length_append,List.length_cons,List.length_nil]);omega⟩):VA c k:=⟨hc,h⟩
theorem xC {gn:Bool} {N:Prop} {f:FuncId} {vs:List D} {st:List Bx} {k:D→List Bx→Prop} {d:D} (hp:G→qaa P f vs d) (h:k d st) (hc:vs.all clD=true:=by first|rfl|simp only [go_sem]):VC P G gn false N f vs st k:=.cl d rfl hp hc h
theorem xI {rows:List (List A)} {z:Int} {n:Option Nat} {k:List A→Prop} {j:Nat} {row:List A} (hr:G→rows[j]? = some row) (h:k row) (hz:G→z=j:=by exact fun _=>rfl) (hn:G→n=some row.length:=by first|exact fun _=>rfl|(intro _;simp only [go_sem]<;>rfl)):VI G rows z n k:=⟨j,row,hz,hr,hn,h⟩
theorem xJ {rows:List (List A)} {z:Int} {n:Option Nat} {k:List A→Prop} {row:List A} (h:k row) (hz:G→(Int.toNat z:Int)=z:=by exact fun _=>rfl) (hr:G→rows[Int.toNat z]? = some row:=by exact fun _=>rfl) (hn:G→n=some row.length:=by exact fun _=>rfl):VI G rows z n k:=VI.lit row hz hr hn h
end
end Go.Proofs.YtfbopaaambkfkaaGreatDoor
