/- Slices whose room is their length: made by a full slice, and appended to. No program in sight. Conditions: none. -/
import Derived.Test.YthkojpnjdpbcgaaGreatDoorMl7
import Derived.Test.YthkojpnjdpbcgaaGreatDoorMl22
set_option linter.unusedVariables false
set_option maxRecDepth 100000
set_option maxHeartbeats 8000000
set_option linter.unusedSimpArgs false
namespace Go.Proofs.YthkojpnjdpbcgaaGreatDoor
open Go.RowKit
section
variable {P:Program} {st:List Bx} {e:Nat→D} {o:Oper}
theorem bnd_int {V:Vw} {ρ:Operand→Value} {x:Operand} {n m:Nat} (hu:RepD V (evO e x) (ρ x)) (h:bndD e (some x) n=some m):∃q:IntKind,ρ x=.int q m∧m≤n:=by
 unfold bndD at h
 simp only at h
 split at h
 ·rename_i k i hz
  split at h
  ·rename_i hc
   injection h with h;subst h
   rw [hz] at hu
   obtain⟨hv,_⟩:=hu.v_inv
   exact⟨k,by rw [hv,show ((i.toNat:Nat):Int)=i by omega],by omega⟩
  ·cases h
 ·cases h
theorem qkk {q:IntKind} {m y:Nat} {c:BoundsCode} (h:m≤y) {w:World}:(Instr.sliceBound (.int q m) y c).run P w=.ok m w:=by
 have h2:((m:Nat):Int)≤(y:Int):=by omega
 simp [Instr.sliceBound,asIntOf,Sem.run_bind,h2]
theorem OpJ.slice3 {T:TypeId} {x hi mx:Operand} {rows:List (List A)} {h n:Nat} (ho:o.op=.slice T x none (some hi) (some mx)) (hx:evO e x=.a (.sl rows)) (hn:es P T=some n)
  (h1:bndD e (some hi) rows.length=some h) (h2:bndD e (some mx) rows.length=some h):OpJ P st e o (.a (.sk (rows.take h))):=by
 intro ρ V _ _ hu
 rw [ho] at hu
 have hx1:=hu x (by simp [qad,Op.operands])
 rw [hx] at hx1
 obtain⟨q1,a1,hle⟩:=bnd_int (hu hi (by simp [qad,Op.operands])) h1
 obtain⟨q2,a2,_⟩:=bnd_int (hu mx (by simp [qad,Op.operands])) h2
 simp only [execOp,ho]
 generalize ρ x=u at *
 unfold es at hn
 split at hn
 ·rename_i el hel
  cases hinfo:P.info? el with
  | none=>simp [hinfo] at hn
  | some inf =>
   have main:∀(ad:Option Addr) (c:Nat),rows.length≤c→(Instr.sliceAt T (.slice ad rows.length c) none (some (.int q1 h)) (some (.int q2 h))).run P V.w=.ok (.slice (if h=0 then ad else ad.map (·.add (0*inf.size))) h h) V.w:=by
    intro ad c hc
    simp only [Instr.sliceAt,Instr.slice,Sem.run_bind,run_underlying hel,Result.andThen_ok,Instr.sliceBounds,qkk (P:=P) (q:=q2) (show h≤c by omega),qkk (P:=P) (q:=q1) (Nat.le_refl h),Sem.run_pure,sizeOf,typeInfo,run_program,hinfo,Nat.sub_zero]
   have add0:∀(b o':Nat),(⟨b,o',none⟩:Addr).add (0*inf.size)=⟨b,o',none⟩:=fun b o'=>by rw [Nat.zero_mul,Addr.add_mid,Nat.add_zero]
   cases hx1.c_inv rfl with
   | sl0 a c =>
    have g1:=main a c (Nat.zero_le _)
    have hz:h=0:=by simpa using hle
    subst hz
    have g1:(Instr.sliceAt T (.slice a 0 c) none (some (.int q1 (0:Nat))) (some (.int q2 (0:Nat)))).run P V.w=.ok (.slice a 0 0) V.w:=g1
    simp only [Option.map_none,Option.map_some,a1,a2,Sem.run_bind,g1,Result.andThen_ok,Sem.run_pure]
    exact .val (.a _ _ (.c _ _ (.sk _ _ _ (.sl0 _ _))))
   | sl _ n' b o' c val hb hm hc hlen h3 h4 =>
    have g1:=main (some ⟨b,o',none⟩) c hc
    have e1:(if h=0 then (some ⟨b,o',none⟩:Option Addr) else (some ⟨b,o',none⟩:Option Addr).map (·.add (0*inf.size)))=some ⟨b,o',none⟩:=by
     split
     ·rfl
     ·rw [Option.map_some,add0]
    rw [e1] at g1
    simp only [Option.map_none,Option.map_some,a1,a2,Sem.run_bind,g1,Result.andThen_ok,Sem.run_pure]
    have hlen2:(rows.take h).length=h:=by simp;omega
    have hget:∀i row,(rows.take h)[i]? = some row→rows[i]? = some row:=fun i row hi=>by
     rw [List.getElem?_take] at hi
     split at hi
     ·exact hi
     ·cases hi
    have:=RepC.sl (w:=V.w) (mu:=V.mut) (rows.take h) n' b o' h val hb hm (by rw [hlen2];exact Nat.le_refl _) (fun i row hi=>hlen _ _ (hget i row hi)) (fun i row j y hi hj=>h3 _ row j y (hget i row hi) hj) (fun i row j y hi hj=>h4 _ row j y (hget i row hi) hj)
    rw [hlen2] at this
    exact .val (.a _ _ (.c _ _ (.sk _ _ _ this)))
   | _=>skip
 ·cases hn
theorem qf1 (w:World) (t ty el:TypeId) (i:TypeInfo) (ht:P.underlying t=some (.slice el)) (hi:P.info? el=some i) (a ao:Option Addr) (l c:Nat):(Builtin.append_ #[t,t] ty #[.slice a l l,.slice ao 0 c]).run P w=.ok (.slice a l l) w:=by
 cases a<;>cases ao<;>simp [Builtin.append_,run_underlying ht,sizeOf,typeInfo,hi,Builtin.lenOf,Builtin.firstCells,loadCells,loadCellsFrom,storeCells]
theorem OpJ.app_sk0 {s x:Operand} {T:TypeId} {n:Nat} {rows:List (List A)} (ho:o.op=.call ⟨.builtin .append,#[s,x],#[T,T]⟩) (hs:evO e s=.a (.sk rows)) (hx:qb2 st (evO e x)=some []) (hn:es P T=some n) (hn0:0<n):OpJ P st e o (.a (.sk rows)):=by
 intro ρ V hst hok hu
 rw [ho] at hu
 have h1:=hu s (by simp [qad,Op.operands,Call.operands])
 have h2:=hu x (by simp [qad,Op.operands,Call.operands])
 rw [hs] at h1
 subst hst
 rw [qhu ho]
 generalize ρ s=us at h1
 generalize ρ x=ux at h2
 obtain⟨a0,hus,_⟩:=h1.sk_inv
 obtain⟨ao,c2,news,rfl,_,_,_,_⟩:=qck hok h2 hx hn0 (fun k row hk=>by simp at hk)
 unfold es at hn
 split at hn
 ·rename_i el hel
  cases hinfo:P.info? el with
  | none=>simp [hinfo] at hn
  | some inf =>
   subst hus
   rw [List.length_nil,qf1 V.w T o.type el inf hel hinfo,Result.andThen_ok]
   exact .val h1
 ·cases hn
theorem OpJ.app_nl0 {s x:Operand} {T:TypeId} {n:Nat} (ho:o.op=.call ⟨.builtin .append,#[s,x],#[T,T]⟩) (hs:evO e s=.a .nl) (hx:qb2 st (evO e x)=some []) (hn:es P T=some n) (hn0:0<n):OpJ P st e o (.a .nl):=by
 intro ρ V hst hok hu
 rw [ho] at hu
 have h1:=hu s (by simp [qad,Op.operands,Call.operands])
 have h2:=hu x (by simp [qad,Op.operands,Call.operands])
 rw [hs] at h1
 subst hst
 rw [qhu ho]
 generalize ρ s=us at h1
 generalize ρ x=ux at h2
 obtain⟨ao,c2,news,rfl,_,_,_,_⟩:=qck hok h2 hx hn0 (fun k row hk=>by simp at hk)
 have hus:us=.slice none 0 0:=by cases h1.c_inv rfl;rfl
 unfold es at hn
 split at hn
 ·rename_i el hel
  cases hinfo:P.info? el with
  | none=>simp [hinfo] at hn
  | some inf =>
   subst hus
   rw [List.length_nil,qf1 V.w T o.type el inf hel hinfo,Result.andThen_ok]
   exact .val h1
 ·cases hn
theorem OpG.app_sk {s x:Operand} {T:TypeId} {n bs:Nat} {rows rows2:List (List A)} {zr:List A} (ho:o.op=.call ⟨.builtin .append,#[s,x],#[T,T]⟩) (hs:evO e s=.a (.sk rows)) (hx:qb2 st (evO e x)=some rows2) (hn:es P T=some n) (hn0:0<n) (hz:zrT P T=some zr) (hzl:zr.length=n) (hby:byt P T=some bs) (hl1:qay n rows=true) (hl2:qay n rows2=true) (hne1:0<rows.length) (hne:0<rows2.length)
  (hb1:(rows.length+rows2.length)*bs≤140737488355328) (hb2:rows.length+rows2.length≤4611686018427387904):OpG P st e o (.a (.own st.length 0)) (st++[.arr 0 n (rows++rows2)]):=by
 intro ρ V hst hok hu
 rw [ho] at hu
 have h1:=hu s (by simp [qad,Op.operands,Call.operands])
 have h2:=hu x (by simp [qad,Op.operands,Call.operands])
 rw [hs] at h1
 subst hst
 have hl1':=qd9 hl1
 have hl2':=qd9 hl2
 rw [qhu ho]
 generalize ρ s=us at h1
 generalize ρ x=ux at h2
 obtain⟨el,inf,z,hel,hinfo,hzz,hsz,hzc,hbs,_⟩:=slT hn hz hzl hby
 obtain⟨a0,hus,h1⟩:=h1.sk_inv
 obtain⟨ao1,c1,olds,hus2,m1,m2,m3,m4⟩:=qck hok h1 (rows:=rows) rfl hn0 hl1'
 obtain⟨b1,rfl,m5⟩:=m4.resolve_left fun h=>by rw [h.2] at hne1;simp at hne1
 obtain⟨ao,c2,news,rfl,n1,n2,n3,n4⟩:=qck hok h2 hx hn0 hl2'
 obtain⟨a2,rfl,n5⟩:=n4.resolve_left fun h=>by rw [h.2] at hne;simp at hne
 rw [hus] at hus2
 injection hus2 with hus3 _ _
 subst hus3
 rw [hus,run_append_grow (P:=P) V.w T o.type el inf z hel hinfo hzz b1 rows.length rows.length olds (by rw [m1,hsz]) m5 a2 rows2.length c2 news (by rw [n1,hsz]) n5 (by omega) (by omega) (growslice_fits (by omega) (by rw [hbs];exact hb1)),Result.andThen_ok]
 obtain⟨C1,hC1⟩:∃C1,C1=grownCap V.w (rows.length+rows2.length) rows.length el:=⟨_,rfl⟩
 have hge:rows.length+rows2.length≤C1:=by rw [hC1];exact grownCap_ge V.w (rows.length+rows2.length) rows.length el
 rw [←hC1]
 obtain⟨cs2,hcs2⟩:∃cs2,cs2=olds.toArray++news.toArray++Builtin.zeroCells z.cells (C1-(rows.length+rows2.length)):=⟨_,rfl⟩
 rw [←hcs2]
 have hs2:cs2.size=C1*n:=by
  rw [hcs2]
  simp only [Array.size_append,List.size_toArray,m1,n1,qc1,hzc,←Nat.add_mul]
  congr 1;omega
 have get2:∀q,q<(rows.length+rows2.length)*n→cs2.getD q Go.undef=if q<rows.length*n then olds.getD q Go.undef else news.getD (q-rows.length*n) Go.undef:=fun q hq=>by
  rw [Nat.add_mul] at hq
  rw [hcs2,Array.getD_eq_getD_getElem?,Array.getElem?_append,Array.getElem?_append]
  simp only [Array.size_append,List.size_toArray,m1,n1]
  rw [if_pos hq]
  split
  ·rw [List.getElem?_toArray,←List.getD_eq_getElem?_getD]
  ·rw [List.getElem?_toArray,←List.getD_eq_getElem?_getD]
 obtain⟨q1,q2⟩:=qi9 (R:=RepC V.w V.mut) (olds:=fun q=>olds.getD q Go.undef) (f:=fun q=>cs2.getD q Go.undef) hl1' hl2' m3 n3 (fun q hq=>by rw [get2 q (by rw [Nat.add_mul];omega),if_pos hq]) (fun q hq=>by rw [get2 _ (by rw [Nat.add_mul];omega),if_neg (by omega),show rows.length*n+q-rows.length*n=q by omega])
 have hlen:(rows++rows2).length=rows.length+rows2.length:=List.length_append
 have hnewc:(V.w.drew.alloc (.cells cs2 el)).heap[V.w.heap.size]? = some (.cells cs2 el (0,0)):=qbb _ _ _ rfl
 have hpush:=qec hok.len cs2 el n C1 (rows++rows2) hnewc hs2 (by rw [hlen];exact hge)
 rw [hlen] at hpush
 exact .val (Step.pushA hok cs2 el n C1 (rows++rows2) (((Grw.refl V.w).drew).alloc _) hnewc hs2 hn0 (by rw [hlen];exact hge) q1 q2) (.a _ _ hpush)
end
theorem RepD.wk {V:Vw} {d:D} {u:Value} (h:RepD V d u):RepD V (wkD d) u:=by
 cases d with
 | a x =>
  cases x with
  | sk rows=>obtain⟨_,_,h2⟩:=h.sk_inv;exact h2
  | _=>exact h
 | _=>exact h
theorem Sat.wk {P:Program} {C:Cx P} {V:Vw} {a:Act} {m:Nat} {e:Nat→D} (h:Sat C V a m e):Sat C V a m fun t=>wkD (e t):=by
 obtain⟨ms,h1,hm,henv⟩:=h
 refine⟨ms,h1,⟨hm.size,fun t ht=>(hm.slot t ht).wk,hm.ok,hm.le,hm.fr,hm.low,hm.sep,hm.x0,hm.xk,hm.xg,hm.nx,hm.nx0⟩,?_⟩
 show EnvE C.E C.on (C.nxm ms) (wkD (e 1000000)) _
 generalize e 1000000=g at henv ⊢
 cases g with
 | a y=>cases y<;>first|exact henv|trivial
 | _=>exact henv
def Wk {P:Program} (C:Cx P) (m:Nat) (e:Nat→D) (st:List Bx) (e':Nat→D) (st':List Bx):Prop:=∀a w x bl,Sat C ⟨w,x,bl,st⟩ a m e→∃bl',Sat C ⟨w,x,bl',st'⟩ a m e'
section
variable {P:Program} {C:Cx P} {m:Nat} {e e' e'':Nat→D} {st st' st'':List Bx}
theorem Wk.trans (h:Wk C m e st e' st') (g:Wk C m e' st' e'' st''):Wk C m e st e'' st'':=fun a w x bl hs=>by
 obtain⟨bl',h1⟩:=h a w x bl hs
 exact g a w x bl' h1
theorem Wk.agree {l:List (Nat×D)} (h:qal e l):Wk C m e st (envL l) st:=fun _ _ _ bl hs=>⟨bl,hs.weaken h⟩
theorem Wk.sk:Wk C m e st (fun t=>wkD (e t)) st:=fun _ _ _ bl hs=>⟨bl,hs.wk⟩
theorem Wk.freeze {i ver n:Nat} {rows:List (List A)} (hs:st[i]? = some (.arr ver n rows)):Wk C m e st (fun t=>fzD i ver rows (e t)) ((st.map (fzB i ver rows)).set i .gone):=fun _ _ _ bl h=>⟨bl,h.freezeA hs⟩
theorem Wk.frz {l:List (Nat×D)} (i:Nat) {row:List A} (hs:st[i]? = some (.cell row)) (hc:row.all clA=true) (hag:qal (fun t=>frzD i row (e t)) l):Wk C m e st (envL l) (st.set i .gone):=fun _ _ _ bl h=>⟨bl,(h.freeze hs hc).weaken hag⟩
theorem Wk.wp {c:Code} {Q:Exit→(Nat→D)→List Bx→Prop} (h:Wk C m e st e' st') (k:WP C m c Q e' st'):WP C m c Q e st:=fun a w x bl hs=>by
 obtain⟨bl',h1⟩:=h a w x bl hs
 exact k a w x bl' h1
theorem WP.loopW {c:Code} {n:Nat} {α:Type} {Q:Exit→(Nat→D)→List Bx→Prop} (env:α→List (Nat×D)) (sto:α→List Bx) (μ:α→Nat) (y:α)
  (round:∀y,WP C n c (qdi (fun e' st'=>∃z,μ z<μ y∧Wk C n e' st' (envL (env z)) (sto z)) Q) (envL (env y)) (sto y)):WP C n (.loop c) Q (envL (env y)) (sto y):=by
 refine WP.loopS (fun y e st=>e=envL (env y)∧st=sto y) μ y ⟨rfl,rfl⟩ ?_
 rintro y2 _ _ ⟨rfl,rfl⟩
 refine (round y2).mono ?_
 intro ex e' st' hq
 cases ex with
 | normal =>
  obtain⟨z,hlt,hw⟩:=hq
  intro a w x bl hm
  obtain⟨bl',h1⟩:=hw a w x bl hm
  exact⟨z,x,bl',_,_,hlt,⟨rfl,rfl⟩,h1⟩
 | _=>exact hq
end
structure VB (v:Bool) (a b:Prop):Prop where
 t:v=true→a
 f:v=false→b
structure VG (c k:Prop):Prop where
 c:c
 k:k
structure VK (c k:Prop):Prop where
 c:c
 k:k
inductive VZ (a b:Prop):Prop
 | s (h:a)
 | n (h:b)
inductive VY (a b c:Prop):Prop
 | s (h:a)
 | k (h:b)
 | o (h:c)
inductive VW (c a d b:Prop):Prop
 | e (hc:c) (h:a)
 | o (hd:d) (h:b)
inductive VU (c a d b:Prop):Prop
 | e (hc:c) (h:a)
 | o (hd:d) (h:b)
inductive VQ (c:D→Prop) (k:D→Prop):Prop
 | mk (d:D) (hc:c d) (h:k d)
structure VA (c k:Prop):Prop where
 c:c
 k:k
structure VE (d' d:D):Prop where
 h:d'=d
inductive VI (G:Prop) (rows:List (List A)) (z:Int) (n:Option Nat) (k:List A→Prop):Prop
 | mk (j:Nat) (row:List A) (hz:G→z=j) (hr:G→rows[j]? = some row) (hn:G→n=some row.length) (h:k row)
theorem VI.lit {G:Prop} {rows:List (List A)} {z:Int} {n:Option Nat} {k:List A→Prop} (row:List A) (hz:G→(Int.toNat z:Int)=z) (hr:G→rows[Int.toNat z]? = some row) (hn:G→n=some row.length) (h:k row):VI G rows z n k:=⟨Int.toNat z,row,fun g=>(hz g).symm,hr,hn,h⟩
theorem VB.tt {v:Bool} {a b:Prop} (h:v=true) (k:a):VB v a b:=⟨fun _=>k,fun h2=>by rw [h] at h2;cases h2⟩
theorem VB.ff {v:Bool} {a b:Prop} (h:v=false) (k:b):VB v a b:=⟨fun h2=>(by rw [h] at h2;cases h2),fun _=>k⟩
def hA (x:A) (k:A→Prop):Prop :=
 match x with
 | .v (.int q z)=>k (.v (.int q z))
 | .v (.bool b)=>k (.v (.bool b))
 | .v (.string s)=>k (.v (.string s))
 | .v v=>k (.v v)
 | .nl=>k .nl
 | .sl rows=>k (.sl rows)
 | .sk rows=>k (.sk rows)
 | .ref r o=>k (.ref r o)
 | .ptr i o=>k (.ptr i o)
 | .own i o=>k (.own i o)
 | .ep b v z o=>k (.ep b v z o)
 | .fn f c=>k (.fn f c)
 | .fm f c=>k (.fm f c)
 | .mp b=>k (.mp b)
 | .cs b o n=>k (.cs b o n)
def hD (d:D) (k:D→Prop):Prop :=
 match d with
 | .a x=>hA x fun x=>k (.a x)
 | .r row=>k (.r row)
 | .junk=>k .junk
 | .undef=>k .undef
 | .t ds=>k (.t ds)
theorem hA_eq (x:A) (k:A→Prop):hA x k=k x:=by
 unfold hA;split<;>rfl
theorem qfr (d:D) (k:D→Prop):hD d k=k d:=by
 unfold hD;split<;>first|rfl|exact hA_eq _ _
def hB:List Bx→(List Bx→Prop)→Prop
 | [],k=>k []
 | .cell row::r,k=>hB r fun r=>k (.cell row::r)
 | .arr v n rows::r,k=>hB r fun r=>k (.arr v n rows::r)
 | .gone::r,k=>hB r fun r=>k (.gone::r)
 | .map q w es::r,k=>hB r fun r=>k (.map q w es::r)
theorem qfd:∀(l:List Bx) (k:List Bx→Prop),hB l k=k l
 | [],_=>rfl
 | .cell _::r,k=>qfd r _
 | .arr _ _ _::r,k=>qfd r _
 | .gone::r,k=>qfd r _
 | .map _ _ _::r,k=>qfd r _
def hR:List A→(List A→Prop)→Prop
 | [],k=>k []
 | x::r,k=>hA x fun x=>hR r fun r=>k (x::r)
theorem qeu:∀(l:List A) (k:List A→Prop),hR l k=k l
 | [],_=>rfl
 | x::r,k=>by rw [hR,hA_eq,qeu r]
def hS:List (List A)→(List (List A)→Prop)→Prop
 | [],k=>k []
 | x::r,k=>hR x fun x=>hS r fun r=>k (x::r)
theorem ql1:∀(l:List (List A)) (k:List (List A)→Prop),hS l k=k l
 | [],_=>rfl
 | x::r,k=>by rw [hS,qeu,ql1 r]
def hN (n:Nat) (k:Nat→Prop):Prop :=
 match n with
 | 0=>k 0
 | m+1=>k (m+1)
theorem hN_eq (n:Nat) (k:Nat→Prop):hN n k=k n:=by cases n<;>rfl
def hNq:Nat→(Nat→Prop)→Prop
 | 0,k=>k 0
 | m+1,k=>hNq m fun m=>k (m+1)
theorem qiq:∀(n:Nat) (k:Nat→Prop),hNq n k=k n
 | 0,_=>rfl
 | m+1,k=>by rw [hNq,qiq m]
def hK (l:EL):List Nat→(EL→Prop)→Prop
 | [],k=>k []
 | t::r,k=>hD (getL l t) fun d=>hK l r fun l'=>k ((t,d)::l')
theorem hK_eq (l:EL):∀(r:List Nat) (k:EL→Prop),hK l r k=k (qlx l r)
 | [],_=>rfl
 | t::r,k=>by rw [hK,qfr,hK_eq l r];rfl
theorem qgm {P:Program} {o:Oper} {e:Nat→D} {st:List Bx} {T:TypeId} {len:Nat} {parts:List (Nat×Operand)} {rows:List (List A)} (ho:o.op=.buildSlice T len ⟨parts⟩) (h:xlit P T len (parts.map fun p=>(p.1,evO e p.2))=some (.a (.sl rows))):OpJ P st e o (.a (.sk rows)):=by
 unfold xlit at h
 split at h
 ·rename_i n zr bt h1 h2 h3
  split at h
  ·rename_i hc
   simp only [Bool.and_eq_true,Nat.blt_eq,Nat.ble_eq] at hc
   rw [Option.map_eq_some_iff] at h
   obtain⟨rows,h4,h5⟩:=h
   injection h5 with h5;injection h5 with h5;subst h5
   exact .litK ho h1 hc.1.1.1.1 hc.1.1.1.2 h2 (Nat.eq_of_beq_eq_true hc.1.1.2) hc.1.2 h3 hc.2 h4
  ·cases h
 ·cases h
theorem qlg {P:Program} {o:Oper} {e:Nat→D} {st:List Bx} {T:TypeId} {len n:Nat} {parts:List (Nat×Operand)} {rows:List (List A)} (ho:o.op=.buildSlice T len ⟨parts⟩) (hn:es P T=some n) (h:xlit P T len (parts.map fun p=>(p.1,evO e p.2))=some (.a (.sl rows))):OpG P st e o (.a (.own st.length 0)) (st++[.arr 0 n rows]):=by
 unfold xlit at h
 split at h
 ·rename_i n2 zr bt h1 h2 h3
  rw [hn] at h1;injection h1 with h1;subst h1
  split at h
  ·rename_i hc
   simp only [Bool.and_eq_true,Nat.blt_eq,Nat.ble_eq] at hc
   rw [Option.map_eq_some_iff] at h
   obtain⟨rows,h4,h5⟩:=h
   injection h5 with h5;injection h5 with h5;subst h5
   exact .lit ho hn hc.1.1.1.1 hc.1.1.1.2 h2 (Nat.eq_of_beq_eq_true hc.1.1.2) hc.1.2 h3 hc.2 h4
  ·cases h
 ·cases h
def hBR:List Bx→(List Bx→Prop)→Prop
 | [],k=>k []
 | .cell row::r,k=>hR row fun row=>hBR r fun r=>k (.cell row::r)
 | .arr v n rows::r,k=>hBR r fun r=>k (.arr v n rows::r)
 | .gone::r,k=>hBR r fun r=>k (.gone::r)
 | .map q w es::r,k=>hBR r fun r=>k (.map q w es::r)
theorem qir:∀(l:List Bx) (k:List Bx→Prop),hBR l k=k l
 | [],_=>rfl
 | .cell _::r,k=>by rw [hBR,qeu,qir r]
 | .arr _ _ _::r,k=>qir r _
 | .gone::r,k=>qir r _
 | .map _ _ _::r,k=>qir r _
inductive VC (P:Program) (G:Prop) (gn:Bool) (bd:Bool) (N:Prop) (f:FuncId) (vs:List D) (st:List Bx) (k:D→List Bx→Prop):Prop
 | cl (d:D) (hb:bd=false) (hp:G→qaa P f vs d) (hc:vs.all clD=true) (h:k d st)
 | cL (z:Value) (hb:bd=false) (hp:G→qaa P f (vs.map (qf7 st)) (.a (.v z))) (hc:vs.all (qf8 st)=true) (h:k (.a (.v z)) st)
 | cM (σ:List Nat) (bs:List Bx) (ds:List D) (st0 st1 st':List Bx) (d d':D) (hg:gn=true) (hN:N) (hs:σ.map (fun i=>st.getD i .gone)=bs) (hin:qbz σ bs vs=true) (hu:vs.map (unD σ)=ds) (hv:bs.map (unB σ)=st0) (hp:DM P f ds st0 d st1) (hne:0<st1.length) (hd:rnD (rnX σ st.length (st1.length-σ.length)) d=d') (hst:mrg σ st (st1.map (rnB (rnX σ st.length (st1.length-σ.length))))=st') (h:hD d' fun d'=>hBR st' fun st'=>k d' st')
section
variable (P:Program)
def vdef (op:Op) (e:Nat→D) (st:List Bx) (gn:Bool) (K:D→List Bx→Prop):Prop :=
 match xqS P op e st with
 | .fr d=>hD d fun d=>K d st
 | .rd d=>hD d fun d=>K d st
 | .no=>match gn,xeffS P op e st with
  | true,some (d,st')=>hD d fun d=>hB st' fun st'=>K d st'
  | _,_=>False
def qlk (op:Op) (e:Nat→D) (st:List Bx) (gn:Bool) (K:D→List Bx→Prop):Prop :=
 match xqS P op e st with
 | .fr (.r row)=>hR row fun row=>K (.r row) st
 | .rd (.r row)=>hR row fun row=>K (.r row) st
 | .fr d=>hD d fun d=>K d st
 | .rd d=>hD d fun d=>K d st
 | .no=>False
def vapp (s x:D) (T T':TypeId) (st:List Bx) (gn:Bool) (K:D→List Bx→Prop):Prop :=
 match es P T,zrT P T,byt P T,qb2 st x with
 | some n,some zr,some bt,some rows2=>(match s with
  | .a (.own i ver)=>(match st[i]? with
   | some (.arr ver' n' rows)=>hN bt fun bt=>VA (gn=true∧T=T'∧zr.length=n∧n=n'∧ver=ver'∧qay n rows2=true∧(rows.length+rows2.length)*bt≤140737488355328∧rows.length+rows2.length≤4611686018427387904) (hB (st.set i (.arr (ver+1) n (rows++rows2))) fun st'=>K (.a (.own i (ver+1))) st')
   | _=>False)
  | .a .nl=>hN bt fun bt=>VU (0<n∧T=T'∧rows2=[]) (K (.a .nl) st) (gn=true∧T=T'∧zr.length=n∧0<n∧0<rows2.length∧qay n rows2=true∧rows2.length*bt≤140737488355328∧rows2.length≤4611686018427387904) (hB (st++[.arr 0 n rows2]) fun st'=>hNq st.length fun i=>K (.a (.own i 0)) st')
  | .a (.sk rows)=>hN bt fun bt=>VW (0<n∧T=T'∧rows2=[]) (K (.a (.sk rows)) st) (gn=true∧T=T'∧zr.length=n∧0<n∧0<rows.length∧0<rows2.length∧qay n rows=true∧qay n rows2=true∧(rows.length+rows2.length)*bt≤140737488355328∧rows.length+rows2.length≤4611686018427387904) (hB (st++[.arr 0 n (rows++rows2)]) fun st'=>hNq st.length fun i=>K (.a (.own i 0)) st')
  | _=>False)
 | _,_,_,_=>False
def vop (op:Op) (e:Nat→D) (st:List Bx) (G:Prop) (gn:Bool) (N:Prop) (K:D→List Bx→Prop):Prop :=
 match op with
 | .indexAddr T x i=>(match evO e x,evO e i with
  | .a (.sl rows),.a (.v (.int _ z))=>VI G rows z (es P T) fun row=>K (.a (.ref row 0)) st
  | _,_=>vdef P (.indexAddr T x i) e st gn K)
 | .pick c x y=>(match evO e c,evO e x,evO e y with
  | .a (.v (.bool b)),.a (.v (.bool p)),.a (.v (.bool q))=>K (.a (.v (.bool (bif b then p else q)))) st
  | .a (.v (.bool b)),dx,dy=>VB b (K dx st) (K dy st)
  | _,_,_=>False)
 | .load T x=>(match evO e x,ldk P T with
  | .a (.ptr i off),some (some n)=>(match st[i]? with
   | some (.cell row)=>if (Nat.beq off 0&&Nat.beq n row.length)=true then K (.r row) st else qlk P (.load T x) e st gn K
   | _=>qlk P (.load T x) e st gn K)
  | .a (.ref row off),some (some n)=>if (Nat.beq off 0&&Nat.beq n row.length)=true then K (.r row) st else qlk P (.load T x) e st gn K
  | _,_=>qlk P (.load T x) e st gn K)
 | .binOp q T x y T'=>(match evO e x,evO e y with
  | .r r1,.r r2=>VQ (fun d=>bin2 (qbq P T) (eqOk P T) q (.r r1) (.r r2)=some d) fun d=>K d st
  | _,_=>vdef P (.binOp q T x y T') e st gn K)
 | .build T parts=>VZ (match buD P T (parts.toList.map fun p=>(p.1,evO e p.2)) with
  | some (.r row)=>hR row fun row=>K (.r row) st
  | _=>False) (qlk P (.build T parts) e st gn K)
 | .alloc T=>VZ (match gn,qgl P T with
  | true,some row=>hR row fun row=>hB (st++[.cell row]) fun st'=>hNq st.length fun i=>K (.a (.ptr i 0)) st'
  | _,_=>False) (vdef P (.alloc T) e st gn K)
 | .buildSlice T len parts=>(match xqS P (.buildSlice T len parts) e st with
  | .fr (.a (.sl rows))=>VY (hS rows fun rows=>K (.a (.sl rows)) st) (hS rows fun rows=>K (.a (.sk rows)) st) (match gn,es P T with
   | true,some n=>hS rows fun rows=>hB (st++[.arr 0 n rows]) fun st'=>hNq st.length fun i=>K (.a (.own i 0)) st'
   | _,_=>False)
  | _=>vdef P (.buildSlice T len parts) e st gn K)
 | .slice T x none (some y) (some z)=>(match evO e x,evO e y,evO e z with
  | .a (.sl rows),.a (.v (.int _ i)),.a (.v (.int _ i'))=>hN i.toNat fun h=>VG (i=i'∧i=h∧h≤rows.length∧(es P T).isSome=true) (hS (rows.take h) fun rows=>K (.a (.sk rows)) st)
  | _,_,_=>vdef P (.slice T x none (some y) (some z)) e st gn K)
 | .store T x y=>(match evO e x,qba (evO e y) with
  | .a (.ptr i off),some xs=>(match gn,st[i]? with
   | true,some (.cell row)=>if (Nat.beq off 0&&Nat.beq xs.length row.length&&(szo P T==some xs.length))=true then hB (st.set i (.cell xs)) fun st'=>K .undef st'
    else if (szo P T==some xs.length&&Nat.ble (off+xs.length) row.length)=true then hR (qah row off xs) fun row=>hB (st.set i (.cell row)) fun st'=>K .undef st' else False
   | _,_=>False)
  | _,_=>vdef P (.store T x y) e st gn K)
 | .call ⟨.value y,⟨xs⟩,tys⟩=>(match evO e y with
  | .a (.fn f caps)=>VC P G gn false N f (xs.map (evO e)++caps.map D.a) st K
  | .a (.fm f caps)=>VC P G gn true N f (caps.map D.a++xs.map (evO e)) st K
  | _=>False)
 | .call ⟨.builtin .len,⟨[x]⟩,⟨[T]⟩⟩=>(match evO e x with
  | .a (.own i ver)=>(match st[i]? with
   | some (.arr ver' _ rows)=>VG (ver=ver'∧isSl P T=true) (K (.a (.v (.int .i64 (rows.length:Nat)))) st)
   | _=>False)
  | _=>vdef P (.call ⟨.builtin .len,⟨[x]⟩,⟨[T]⟩⟩) e st gn K)
 | .call ⟨.builtin .append,⟨[s,x]⟩,⟨[T,T']⟩⟩=>vapp P (evO e s) (evO e x) T T' st gn K
 | op=>vdef P op e st gn K
def vops (ops:Array Oper):List Oper→EL→List Bx→(EL→List Bx→Prop)→Prop
 | [],l,st,K=>K l st
 | o::r,l,st,K=>(match o.guard with
  | none=>vop P o.op (getL l) st True true (o.dst≠some 1000000) fun d st'=>vops ops r (putL l o.dst d) st' K
  | some (j,b)=>(match (qbr ops j).map (getL l) with
   | some (.a (.v (.bool x)))=>vop P o.op (getL l) st (x=b) false False fun d st'=>vops ops r (putL l o.dst d) st' K
   | some .undef=>vops ops r (putL l o.dst .undef) st K
   | _=>False))
def vqs (ops:Array Oper) (st:List Bx):List Oper→EL→(EL→Prop)→Prop
 | [],l,K=>K l
 | o::r,l,K=>(match o.guard with
  | none=>vop P o.op (getL l) st True false False fun d _=>vqs ops st r (putL l o.dst d) K
  | some (j,b)=>(match (qbr ops j).map (getL l) with
   | some (.a (.v (.bool x)))=>vop P o.op (getL l) st (x=b) false False fun d _=>vqs ops st r (putL l o.dst d) K
   | some .undef=>vqs ops st r (putL l o.dst .undef) K
   | _=>False))
def quietO:Op→Bool
 | .box ..|.alloc ..|.store ..|.makeSlice ..|.mapEntry ..|.entryStore ..|.mapUpdate ..|.makeMap ..=>false
 | .call ⟨.builtin .append,_,_⟩=>false
 | .call ⟨.builtin .copy,_,_⟩=>false
 | .buildSlice _ 0 _=>false
 | _=>true
def qie:List Oper→Nat
 | []=>0
 | o::r=>if quietO o.op=true then qie r+1 else 0
def QL (K:Exit→EL→List Bx→Prop):Exit→(Nat→D)→List Bx→Prop:=fun ex e st=>∃l,e=envL l∧K ex l st
inductive VL {P:Program} (C:Cx P) (n:Nat) (ks:List Nat) (c:Code) (l:EL) (st:List Bx) (K:Exit→EL→List Bx→Prop):Prop
 | wp (h:WP C n (.loop c) (QL K) (envL l) st)
 | wi (h:WPIn C n c (QL K) (envL l) st)
inductive VD {P:Program} (C:Cx P) (n:Nat) (ks:List Nat) (ops:List Oper) (l:EL) (st:List Bx) (K:EL→List Bx→Prop):Prop
 | q (h:VK ((qhk ⟨ops⟩ n (qie ops)&&decide (qie ops≤ops.length)&&ksOk ⟨ops⟩ ks&&P.follows .mixedOrders)=true) (vqs P ⟨ops⟩ st (ops.take (qie ops)) l fun l=>vops P ⟨ops⟩ (ops.drop (qie ops)) l st fun l' st'=>hK l' ks fun l'=>K l' st'))
 | qm (q:List Oper→Nat) (h:VK ((qhk ⟨ops⟩ n (q ops)&&decide (q ops≤ops.length)&&ksOk ⟨ops⟩ ks&&P.follows .mixedOrders)=true) (vqs P ⟨ops⟩ st (ops.take (q ops)) l fun l=>vops P ⟨ops⟩ (ops.drop (q ops)) l st fun l' st'=>hK l' ks fun l'=>K l' st'))
 | wp (h:∀id,WP C n (.region id ⟨ops⟩ true) (fun ex e st=>ex=.normal∧∃l,e=envL l∧K l st) (envL l) st)
inductive VH {P:Program} (C:Cx P) (n:Nat) (l:EL) (st:List Bx) (k:EL→List Bx→Prop):Prop
 | go (h:k l st)
 | wk (l':EL) (st':List Bx) (hw:Wk C n (envL l) st (envL l') st') (h:k l' st')
inductive Fm where
 | seq (c:Code)
 | blk (id:Nat)
inductive Ct where
 | run (c:Code)
 | pop (ex:Exit)
def vm (C:Cx P) (n:Nat) (ks:List Nat):Nat→Ct→List Fm→EL→List Bx→(Exit→EL→List Bx→Prop)→Prop
 | 0,_,_,_,_,_=>False
 | f+1,.run c,S,l,st,K=>(match c with
  | .skip=>vm C n ks f (.pop .normal) S l st K
  | .region _ ⟨ops⟩ false=>VH C n l st fun l st=>VK ((qfl ⟨ops⟩ n&&ksOk ⟨ops⟩ ks)=true) (vops P ⟨ops⟩ ops l st fun l' st'=>hK l' ks fun l'=>vm C n ks f (.pop .normal) S l' st' K)
  | .region _ ⟨ops⟩ true=>VH C n l st fun l st=>VD C n ks ops l st fun l' st'=>vm C n ks f (.pop .normal) S l' st' K
  | .seq a b=>vm C n ks f (.run a) (.seq b::S) l st K
  | .cond c a b=>(match opLt n c,evO (getL l) c with
   | true,.a (.v (.bool v))=>VB v (vm C n ks f (.run a) S l st K) (vm C n ks f (.run b) S l st K)
   | _,_=>False)
  | .block id c=>vm C n ks f (.run c) (.blk id::S) l st K
  | .loop c=>VL C n ks c l st fun ex l' st'=>vm C n ks f (.pop ex) S l' st' K
  | .exit id=>vm C n ks f (.pop (.exit id)) S l st K
  | .ret=>vm C n ks f (.pop .ret) S l st K
  | _=>False)
 | _+1,.pop ex,[],l,st,K=>K ex l st
 | f+1,.pop ex,.seq b::S,l,st,K=>(match ex with
  | .normal=>vm C n ks f (.run b) S l st K
  | ex=>vm C n ks f (.pop ex) S l st K)
 | f+1,.pop ex,.blk id::S,l,st,K=>(match ex with
  | .exit id'=>if Nat.beq id' id=true then vm C n ks f (.pop .normal) S l st K else vm C n ks f (.pop (.exit id')) S l st K
  | ex=>vm C n ks f (.pop ex) S l st K)
def vx (C:Cx P) (n:Nat) (ks:List Nat) (c:Code) (l:EL) (st:List Bx) (K:Exit→EL→List Bx→Prop):Prop:=vm P C n ks 1000 (.run c) [] l st K
def hSa (st:List Bx) (x:A) (k:A→Prop):Prop :=
 match x with
 | .own i v=>(match st[i]? with
  | some (.arr v' _ rows)=>VG (v=v') (k (.sl rows))
  | _=>k (.own i v))
 | .nl=>k (.sl [])
 | .v x=>k (.v x)
 | .sl rows=>k (.sl rows)
 | x=>k (seeA st x)
def hSr (st:List Bx):List A→(List A→Prop)→Prop
 | [],k=>k []
 | x::r,k=>hSa st x fun x=>hSr st r fun r=>k (x::r)
def hSd (st:List Bx) (d:D) (k:D→Prop):Prop :=
 match d with
 | .a x=>hSa st x fun x=>k (.a x)
 | .r row=>hSr st row fun row=>k (.r row)
 | d=>k (qc9 st d)
def raw1 (n:Nat) (e:Nat→D) (st:List Bx):ResultVar→Option D
 | .tmp t=>if t<n then some (e t) else none
 | .cell t T=>if t<n then (match e t with
  | .a (.ptr i off)=>(match st[i]?,ldk P T with
   | some (.cell row),some k=>(match k with
    | some m=>if (Nat.beq off 0&&Nat.beq m row.length)=true then some (.r row) else qae k row off
    | none=>qae k row off)
   | _,_=>none)
  | _=>none) else none
def vres1 (n:Nat) (e:Nat→D) (st:List Bx) (r:ResultVar) (k:D→Prop):Prop :=
 match raw1 P n e st r with
 | some d=>hSd st d fun d=>VG (clD1 d=true) (k d)
 | none=>False
def vresL (n:Nat) (e:Nat→D) (st:List Bx):List ResultVar→(List D→Prop)→Prop
 | [],k=>k []
 | r::l,k=>vres1 P n e st r fun d=>vresL n e st l fun ds=>k (d::ds)
def vres (n:Nat) (rs:List ResultVar) (d:D) (l:EL) (st:List Bx):Prop :=
 match rs with
 | [r]=>vres1 P n (getL l) st r fun d'=>VE d' d
 | rs=>vresL P n (getL l) st rs fun ds=>VE (.t ds) d
def vret (n:Nat) (rs:List ResultVar) (d:D):Exit→EL→List Bx→Prop
 | .normal,l,st=>vres P n rs d l st
 | .ret,l,st=>vres P n rs d l st
 | _,_,_=>False
end
/-! ### That it is enough -/
section
variable {P:Program}
def VS (C:Cx P) (o:Oper) (e:Nat→D) (st:List Bx) (G:Prop) (gn:Bool) (N:Prop) (K:D→List Bx→Prop):Prop :=
 (∃d st',((gn=true∧OpG P st e o d st')∨(st'=st∧(G→OpJ P st e o d)))∧K d st')∨(gn=true∧N∧∃d st',OpX C st e o (fun d1 st1 g1=>d1=d∧st1=st'∧g1=e 1000000)∧K d st')
theorem qbu {C:Cx P} {o:Oper} {op:Op} (ho:o.op=op) {e:Nat→D} {st:List Bx} {G:Prop} {gn:Bool} {N:Prop} {K:D→List Bx→Prop} (h:vdef P op e st gn K):VS C o e st G gn N K:=by
 subst ho
 unfold vdef at h
 split at h
 ·rename_i d hd
  rw [qfr] at h
  exact .inl ⟨d,st,.inr ⟨rfl,fun _=>qex hd st⟩,h⟩
 ·rename_i d hd
  rw [qfr] at h
  exact .inl ⟨d,st,.inr ⟨rfl,fun _=>qh5 hd⟩,h⟩
 ·split at h
  ·rename_i d st' he
   rw [qfr,qfd] at h
   exact .inl ⟨d,st',.inl ⟨rfl,qgn he⟩,h⟩
  ·exact h.elim
theorem qcj {C:Cx P} {o:Oper} {op:Op} (ho:o.op=op) {e:Nat→D} {st:List Bx} {G:Prop} {gn:Bool} {N:Prop} {K:D→List Bx→Prop} (h:qlk P op e st gn K):VS C o e st G gn N K:=by
 subst ho
 unfold qlk at h
 split at h
 ·rename_i row hd
  rw [qeu] at h
  exact .inl ⟨_,st,.inr ⟨rfl,fun _=>qex hd st⟩,h⟩
 ·rename_i row hd
  rw [qeu] at h
  exact .inl ⟨_,st,.inr ⟨rfl,fun _=>qh5 hd⟩,h⟩
 ·rename_i d _ hd
  rw [qfr] at h
  exact .inl ⟨d,st,.inr ⟨rfl,fun _=>qex hd st⟩,h⟩
 ·rename_i d _ hd
  rw [qfr] at h
  exact .inl ⟨d,st,.inr ⟨rfl,fun _=>qh5 hd⟩,h⟩
 ·exact h.elim
theorem qdp {C:Cx P} {o:Oper} {e:Nat→D} {st:List Bx} {G:Prop} {gn:Bool} {N:Prop} {K:D→List Bx→Prop} (hn:gn=true→o.guard=none) (h:vop P o.op e st G gn N K):VS C o e st G gn N K:=by
 unfold vop at h
 split at h
 ·rename_i T x i ho
  split at h
  ·rename_i rows q z hx hi
   obtain⟨j,row,hz,hr,hl,hk⟩:=h
   refine .inl ⟨_,st,.inr ⟨rfl,fun g=>qcp ho ?_⟩,hk⟩
   show ixS st (es P T) (ar P T) (evO e x) (evO e i)=_
   rw [hx,hi,hl g]
   exact qaq (q:=q) (q2:=ar P T) (hz g) (hr g) rfl
  ·exact qbu ho h
 ·rename_i c x y ho
  split at h
  ·rename_i b p q hc hx hy
   refine .inl ⟨_,st,.inr ⟨rfl,fun g=>?_⟩,h⟩
   have:=OpJ.pickB (P:=P) (st:=st) ho hc
   rw [hx,hy] at this
   cases b<;>exact this
  ·rename_i b hc _
   cases b with
   | true =>
    refine .inl ⟨_,st,.inr ⟨rfl,fun g=>?_⟩,h.t rfl⟩
    exact OpJ.pickB (P:=P) (st:=st) ho hc
   | false =>
    refine .inl ⟨_,st,.inr ⟨rfl,fun g=>?_⟩,h.f rfl⟩
    exact OpJ.pickB (P:=P) (st:=st) ho hc
  ·exact h.elim
 ·rename_i T x ho
  split at h
  ·rename_i i off n hx hk
   split at h
   ·rename_i row hs
    split at h
    ·rename_i hc
     rw [Bool.and_eq_true] at hc
     have e1:=Nat.eq_of_beq_eq_true hc.1
     have e2:=Nat.eq_of_beq_eq_true hc.2
     subst e1;subst e2
     refine .inl ⟨_,st,.inr ⟨rfl,fun g=>qcp ho ?_⟩,h⟩
     show ldD st (ldk P T) (evO e x)=_
     rw [hx,hk]
     simp [ldD,hs,qae]
    ·exact qcj ho h
   ·exact qcj ho h
  ·rename_i row off n hx hk
   split at h
   ·rename_i hc
    rw [Bool.and_eq_true] at hc
    have e1:=Nat.eq_of_beq_eq_true hc.1
    have e2:=Nat.eq_of_beq_eq_true hc.2
    subst e1;subst e2
    refine .inl ⟨_,st,.inr ⟨rfl,fun g=>qcp ho ?_⟩,h⟩
    show ldD st (ldk P T) (evO e x)=_
    rw [hx,hk]
    simp [ldD,qae]
   ·exact qcj ho h
  ·exact qcj ho h
 ·rename_i q T x y T' ho
  split at h
  ·rename_i r1 r2 hx hy
   obtain⟨d,hc,h⟩:=h
   refine .inl ⟨d,st,.inr ⟨rfl,fun _=>qcp ho ?_⟩,h⟩
   show bin2 (qbq P T) (eqOk P T) q (evO e x) (evO e y)=_
   rw [hx,hy];exact hc
  ·exact qbu ho h
 ·rename_i T parts ho
  obtain⟨parts⟩:=parts
  rcases h with h|h
  ·split at h
   ·rename_i row hd
    rw [qeu] at h
    exact .inl ⟨_,st,.inr ⟨rfl,fun _=>qcp ho hd⟩,h⟩
   ·exact h.elim
  ·exact qcj ho h
 ·rename_i T ho
  rcases h with h|h
  ·split at h
   ·rename_i row hz
    rw [qeu,qfd,qiq] at h
    refine .inl ⟨_,_,.inl ⟨rfl,qc4 ?_⟩,h⟩
    unfold evG
    rw [ho]
    show boxD st (qgl P T)=_
    rw [hz];rfl
   ·exact h.elim
  ·exact qbu ho h
 ·rename_i T len parts ho
  split at h
  ·rename_i rows hd
   rcases h with h|h|h
   ·rw [ql1] at h
    exact .inl ⟨_,st,.inr ⟨rfl,fun _=>qex (by rw [ho];exact hd) st⟩,h⟩
   ·rw [ql1] at h
    obtain⟨parts⟩:=parts
    exact .inl ⟨_,st,.inr ⟨rfl,fun _=>qgm ho (qcc hd)⟩,h⟩
   ·split at h
    ·rename_i n hes
     rw [ql1,qfd,qiq] at h
     obtain⟨parts⟩:=parts
     exact .inl ⟨_,_,.inl ⟨rfl,qlg ho hes (qcc hd)⟩,h⟩
    ·exact h.elim
  ·exact qbu ho h
 ·rename_i T x y z ho
  split at h
  ·rename_i rows q i q' i' hx hy hz
   rw [hN_eq] at h
   obtain⟨⟨rfl,h1,h2,h3⟩,h⟩:=h
   rw [ql1] at h
   obtain⟨n,h4⟩:=Option.isSome_iff_exists.1 h3
   have h5:0≤i∧i≤(rows.length:Int):=by omega
   exact .inl ⟨_,st,.inr ⟨rfl,fun _=>OpJ.slice3 ho hx h4 (by simp only [bndD,hy];rw [if_pos h5]) (by simp only [bndD,hz];rw [if_pos h5])⟩,h⟩
  ·exact qbu ho h
 ·rename_i T x y ho
  split at h
  ·rename_i i off xs hx hy
   split at h
   ·rename_i row hs
    have key:∀row',(szo P T=some xs.length∧off+xs.length≤row.length)→qah row off xs=row'→K .undef (st.set i (.cell row'))→VS C o e st G true N K:=fun row' hc hr hk=>by
     subst hr
     refine .inl ⟨.undef,_,.inl ⟨rfl,qc4 ?_⟩,hk⟩
     unfold evG
     rw [ho]
     show stoD st (szo P T) (evO e x) (qba (evO e y))=_
     rw [hx,hy,hc.1]
     show (match st[i]? with|some (.cell row)=>if some xs.length=some xs.length∧off+xs.length≤row.length then some (D.undef,st.set i (.cell (qah row off xs))) else none|_=>none)=_
     rw [hs]
     show (if _ then _ else _)=_
     rw [if_pos ⟨rfl,hc.2⟩]
    split at h
    ·rename_i hc
     simp only [Bool.and_eq_true,beq_iff_eq] at hc
     have e1:=Nat.eq_of_beq_eq_true hc.1.1
     have e2:=Nat.eq_of_beq_eq_true hc.1.2
     subst e1
     rw [qfd] at h
     exact key xs ⟨hc.2,by omega⟩ (qbv e2) h
    ·split at h
     ·rename_i hc
      simp only [Bool.and_eq_true,beq_iff_eq] at hc
      rw [qeu,qfd] at h
      exact key _ ⟨hc.1,Nat.le_of_ble_eq_true hc.2⟩ rfl h
     ·exact h.elim
   ·exact h.elim
  ·exact qbu ho h
 ·rename_i y xs tys ho
  have key:∀(f:FuncId) (caps:List A),evO e y=.a (.fn f caps)→VC P G gn false N f (xs.map (evO e)++caps.map D.a) st K→VS C o e st G gn N K:=by
   intro f caps hy h
   cases h with
   | cl d hb hp hc h=>exact .inl ⟨d,st,.inr ⟨rfl,fun g=>.callv ho hy rfl hc (hp g)⟩,h⟩
   | cL z hb hp hc h=>exact .inl ⟨_,st,.inr ⟨rfl,fun g=>.callvL ho hy rfl hc (hp g)⟩,h⟩
   | cM σ bs ds st0 st1 st' d d' hg hN hs hin hu hv hp hne hd hst h =>
    rw [qfr,qir] at h
    refine .inr ⟨hg,hN,d',st',?_,h⟩
    obtain⟨dst,op,ty,pos,after,guard⟩:=o
    dsimp only at ho hn
    subst ho
    have q:WS C (e 1000000) st e ⟨dst,.call ⟨.value y,⟨xs⟩,tys⟩,ty,pos,after,none⟩ d' st':=WS.callvM hy rfl hs hin hu hv rfl hp hne hd hst
    exact q.2.2
  split at h
  ·rename_i f caps hy
   exact key f caps hy h
  ·rename_i f caps hy
   cases h with
   | cl d hb hp hc h=>cases hb
   | cL z hb hp hc h=>cases hb
   | cM σ bs ds st0 st1 st' d d' hg hN hs hin hu hv hp hne hd hst h =>
    rw [qfr,qir] at h
    refine .inr ⟨hg,hN,d',st',?_,h⟩
    obtain⟨dst,op,ty,pos,after,guard⟩:=o
    dsimp only at ho hn
    subst ho
    have q:WS C (e 1000000) st e ⟨dst,.call ⟨.value y,⟨xs⟩,tys⟩,ty,pos,after,none⟩ d' st':=WS.callbM hy rfl hs hin hu hv rfl hp hne hd hst
    exact q.2.2
  ·exact h.elim
 ·rename_i x T ho
  split at h
  ·rename_i i ver hx
   split at h
   ·rename_i ver' n' rows hs
    obtain⟨⟨rfl,h1⟩,hk⟩:=h
    refine .inl ⟨_,st,.inr ⟨rfl,fun g=>qcp ho ?_⟩,hk⟩
    show lenS P st T (evO e x)=_
    rw [hx]
    simp [lenS,lenD,hs,h1]
   ·exact h.elim
  ·exact qbu ho h
 ·rename_i s x T T' ho
  unfold vapp at h
  split at h
  ·rename_i n zr bt rows2 h1 h2 h3 h4
   split at h
   ·rename_i i ver hs
    split at h
    ·rename_i ver' n' rows ha
     rw [hN_eq] at h
     obtain⟨⟨g1,rfl,g3,rfl,rfl,g6,g7,g8⟩,hk⟩:=h
     rw [qfd] at hk
     exact .inl ⟨_,_,.inl ⟨g1,.app_own ho hs ha h4 h1 h2 g3 h3 g6 g7 g8⟩,hk⟩
    ·exact h.elim
   ·rename_i hs
    rw [hN_eq] at h
    rcases h with ⟨⟨g4,rfl,rfl⟩,hk⟩|⟨⟨g1,rfl,g3,g4,g5,g6,g7,g8⟩,hk⟩
    ·exact .inl ⟨_,st,.inr ⟨rfl,fun _=>.app_nl0 ho hs h4 h1 g4⟩,hk⟩
    rw [qfd] at hk
    rw [qiq] at hk
    exact .inl ⟨_,_,.inl ⟨g1,.app_nl ho hs h4 h1 g4 h2 g3 h3 g6 g5 g7 g8⟩,hk⟩
   ·rename_i rows hs
    rw [hN_eq] at h
    rcases h with ⟨⟨g4,rfl,rfl⟩,hk⟩|⟨⟨g1,rfl,g3,g4,g5,g6,g7,g8,g9,g10⟩,hk⟩
    ·exact .inl ⟨_,st,.inr ⟨rfl,fun _=>.app_sk0 ho hs h4 h1 g4⟩,hk⟩
    ·rw [qfd] at hk
     rw [qiq] at hk
     exact .inl ⟨_,_,.inl ⟨g1,.app_sk ho hs h4 h1 g4 h2 g3 h3 g7 g8 g5 g6 g9 g10⟩,hk⟩
   ·exact h.elim
  ·exact h.elim
 ·exact qbu rfl h
theorem VS.rs {C:Cx P} {ops:Array Oper} {K:(Nat→D)→List Bx→Prop} {o:Oper} {r:List Oper} {e:Nat→D} {st:List Bx} {G:Prop} {gn:Bool} {N:Prop} (hn:gn=true→o.guard=none) (hN:N→o.dst≠some 1000000) (hG:∀p:Prop,(G→p)→qa8 ops e o p) (h:VS C o e st G gn N fun d st'=>RS C ops r (putE e o.dst d) st' K):RS C ops (o::r) e st K:=by
 rcases h with ⟨d,st',h1,h2⟩|⟨h1,h0,d,st',h2,h3⟩
 ·rcases h1 with ⟨h1,h3⟩|⟨rfl,h3⟩
  ·exact .inl ⟨d,st',.inl ⟨hn h1,h3⟩,h2⟩
  ·exact .inl ⟨d,st',.inr ⟨rfl,hG _ h3⟩,h2⟩
 ·refine .inr ⟨by rw [hn h1];trivial,_,h2,?_⟩
  rintro d1 s1 g1 ⟨rfl,rfl,rfl⟩
  have:upd (putE e o.dst d1) 1000000 (e 1000000)=putE e o.dst d1:=by
   funext t
   unfold upd
   split
   ·rename_i ht;subst ht
    cases hd:o.dst with
    | none=>rfl
    | some q =>
     show _=(if 1000000=q then d1 else e 1000000)
     rw [if_neg fun hq=>hN h0 (by rw [hd,hq])]
   ·rfl
  rw [this];exact h3
theorem VS.mono {C:Cx P} {o:Oper} {e:Nat→D} {st:List Bx} {G:Prop} {gn:Bool} {N:Prop} {K K':D→List Bx→Prop} (hk:∀d st',K d st'→K' d st') (h:VS C o e st G gn N K):VS C o e st G gn N K':=by
 rcases h with ⟨d,st',h1,h2⟩|⟨h1,h0,d,st',h2,h3⟩
 ·exact .inl ⟨d,st',h1,hk _ _ h2⟩
 ·exact .inr ⟨h1,h0,d,st',h2,hk _ _ h3⟩
theorem qce {C:Cx P} {ops:Array Oper} {K:EL→List Bx→Prop} {Q:(Nat→D)→List Bx→Prop} (hK:∀l st,K l st→Q (envL l) st):∀(r:List Oper) (l:EL) (st:List Bx),vops P ops r l st K→RS C ops r (envL l) st Q
 | [],l,st,h=>hK l st h
 | o::r,l,st,h=>by
  rw [vops,qbi] at h
  split at h
  ·rename_i hg
   refine VS.rs (fun _=>hg) (fun h=>h) (fun p hp=>by unfold qa8;rw [hg];exact hp trivial) (VS.mono (fun d st' hk=>?_) (qdp (fun _=>hg) h))
   have:=qce (C:=C) hK r _ _ hk
   rwa [qat] at this
  ·rename_i j b hg
   split at h
   ·rename_i x hx
    refine VS.rs (N:=False) (fun h=>by cases h) (fun h=>h.elim) (fun p hp=>by unfold qa8;rw [hg];simp only [hx];exact hp) (VS.mono (fun d st' hk=>?_) (qdp (fun h=>by cases h) h))
    have:=qce (C:=C) hK r _ _ hk
    rwa [qat] at this
   ·rename_i hx
    have:=qce (C:=C) hK r _ _ h
    rw [qat] at this
    exact .inl ⟨.undef,st,.inr ⟨rfl,by unfold qa8;rw [hg];simp only [hx]⟩,this⟩
   ·exact h.elim
theorem qe1 {ops:Array Oper} {st:List Bx} {K:EL→Prop} {Q:(Nat→D)→Prop} (C:Cx P) (hK:∀l,K l→Q (envL l)):∀(r:List Oper) (l:EL),vqs P ops st r l K→RQ P ops st r (envL l) Q
 | [],l,h=>hK l h
 | o::r,l,h=>by
  rw [vqs,qbi] at h
  have fin:∀{G:Prop},(∀p:Prop,(G→p)→qa8 ops (envL l) o p)→VS C o (envL l) st G false False (fun d _=>vqs P ops st r (putL l o.dst d) K)→RQ P ops st (o::r) (envL l) Q:=by
   intro G hG hv
   rcases hv with ⟨d,st',h1,h2⟩|⟨h1,_⟩
   ·rcases h1 with ⟨h1,_⟩|⟨_,h3⟩
    ·cases h1
    ·have:=qe1 C hK r _ h2
     rw [qat] at this
     exact⟨d,hG _ h3,this⟩
   ·cases h1
  split at h
  ·rename_i hg
   exact fin (fun p hp=>by unfold qa8;rw [hg];exact hp trivial) (qdp (fun h=>by cases h) h)
  ·rename_i j b hg
   split at h
   ·rename_i x hx
    exact fin (fun p hp=>by unfold qa8;rw [hg];simp only [hx];exact hp) (qdp (fun h=>by cases h) h)
   ·rename_i hx
    have:=qe1 C hK r _ h
    rw [qat] at this
    exact⟨.undef,by unfold qa8;rw [hg];simp only [hx],this⟩
   ·exact h.elim
theorem VH.wp {C:Cx P} {n:Nat} {l:EL} {st:List Bx} {k:EL→List Bx→Prop} {c:Code} {Q:Exit→(Nat→D)→List Bx→Prop} (h:VH C n l st k) (hk:∀l st,k l st→WP C n c Q (envL l) st):WP C n c Q (envL l) st:=by
 cases h with
 | go h=>exact hk _ _ h
 | wk l' st' hw h=>exact hw.wp (hk _ _ h)
def SQ (C:Cx P) (n:Nat) (Q:Exit→(Nat→D)→List Bx→Prop):List Fm→Exit→(Nat→D)→List Bx→Prop
 | []=>Q
 | .seq b::S=>qdi (WP C n b (SQ C n Q S)) (SQ C n Q S)
 | .blk id::S=>qhs id (SQ C n Q S)
theorem qgc {C:Cx P} {n:Nat} {ks:List Nat} {K:Exit→EL→List Bx→Prop} {Q:Exit→(Nat→D)→List Bx→Prop} (hQ:∀ex l st,K ex l st→Q ex (envL l) st):∀(f:Nat) (S:List Fm) (l:EL) (st:List Bx),(∀c,vm P C n ks f (.run c) S l st K→WP C n c (SQ C n Q S) (envL l) st)∧(∀ex,vm P C n ks f (.pop ex) S l st K→SQ C n Q S ex (envL l) st)
 | 0,_,_,_=>⟨fun _ h=>h.elim,fun _ h=>h.elim⟩
 | f+1,S,l,st=>by
  have IH:=qgc (C:=C) (n:=n) (ks:=ks) hQ f
  refine⟨fun c h=>?_,fun ex h=>?_⟩
  ·cases c with
   | skip=>exact WP.skip ((IH S l st).2 _ h)
   | region id ops draw =>
    obtain⟨ops⟩:=ops
    cases draw with
    | false =>
     have h:VH C n l st fun l st=>VK ((qfl ⟨ops⟩ n&&ksOk ⟨ops⟩ ks)=true) (vops P ⟨ops⟩ ops l st fun l' st'=>hK l' ks fun l'=>vm P C n ks f (.pop .normal) S l' st' K):=h
     refine h.wp fun l st h=>?_
     have IH:=qgc (C:=C) (n:=n) (ks:=ks) hQ f
     obtain⟨hc,h⟩:=h
     rw [Bool.and_eq_true] at hc
     refine WP.reg ks hc.1 hc.2 (qce (fun l st hk=>?_) ops l st h)
     rw [hK_eq] at hk
     have:=(IH S _ _).2 _ hk
     rwa [qcn] at this
    | true =>
     have h:VH C n l st fun l st=>VD C n ks ops l st fun l' st'=>vm P C n ks f (.pop .normal) S l' st' K:=h
     refine h.wp fun l st h=>?_
     have IH:=qgc (C:=C) (n:=n) (ks:=ks) hQ f
     cases h with
     | q h =>
     obtain⟨hc,h⟩:=h
     simp only [Bool.and_eq_true] at hc
     refine WP.drw (qie ops) ks hc.1.1.1 hc.1.1.2 hc.1.2 hc.2 (qe1 C (fun l h=>qce (fun l st hk=>?_) _ _ _ h) _ l h)
     rw [hK_eq] at hk
     have:=(IH S _ _).2 _ hk
     rwa [qcn] at this
     | qm q h =>
     obtain⟨hc,h⟩:=h
     simp only [Bool.and_eq_true] at hc
     refine WP.drw (q ops) ks hc.1.1.1 hc.1.1.2 hc.1.2 hc.2 (qe1 C (fun l h=>qce (fun l st hk=>?_) _ _ _ h) _ l h)
     rw [hK_eq] at hk
     have:=(IH S _ _).2 _ hk
     rwa [qcn] at this
     | wp h =>
     refine (h id).mono fun ex e st hq=>?_
     obtain⟨rfl,l',rfl,hk⟩:=hq
     exact (IH S _ _).2 _ hk
   | seq a b=>exact WP.seq ((IH (.seq b::S) l st).1 a h)
   | cond c a b =>
    have h:(match opLt n c,evO (getL l) c with
     | true,.a (.v (.bool v))=>VB v (vm P C n ks f (.run a) S l st K) (vm P C n ks f (.run b) S l st K)
     | _,_=>False):=h
    rw [qbi] at h
    split at h
    ·rename_i v hl hc
     exact WP.cond hl hc (fun hv=>(IH S l st).1 a (h.t hv)) (fun hv=>(IH S l st).1 b (h.f hv))
    ·exact h.elim
   | block id c=>exact WP.block ((IH (.blk id::S) l st).1 c h)
   | loop c =>
    have h:VL C n ks c l st fun ex l' st'=>vm P C n ks f (.pop ex) S l' st' K:=h
    have h2:WP C n (.loop c) (QL fun ex l' st'=>vm P C n ks f (.pop ex) S l' st' K) (envL l) st:=by
     cases h with
     | wp h=>exact h
     | wi h=>exact WP.loop_in h
    exact h2.mono fun ex e st ⟨l,he,hk⟩=>by subst he;exact (IH S l st).2 _ hk
   | exit id=>exact WP.exit ((IH S l st).2 _ h)
   | ret=>exact WP.ret ((IH S l st).2 _ h)
   | _=>exact h.elim
  ·cases S with
   | nil=>exact hQ _ _ _ h
   | cons m S =>
    cases m with
    | seq b =>
     cases ex with
     | normal=>exact (IH S l st).1 b h
     | _=>exact (IH S l st).2 _ h
    | blk id =>
     cases ex with
     | exit id' =>
      show (if id'=id then SQ C n Q S .normal else SQ C n Q S (.exit id')) _ _
      have h:(if Nat.beq id' id=true then vm P C n ks f (.pop .normal) S l st K else vm P C n ks f (.pop (.exit id')) S l st K):=h
      split at h
      ·rename_i he
       rw [if_pos (Nat.eq_of_beq_eq_true he)];exact (IH S l st).2 _ h
      ·rename_i he
       rw [if_neg (fun e=>he (by subst e;exact Nat.beq_refl _))];exact (IH S l st).2 _ h
     | _=>exact (IH S l st).2 _ h
theorem qe0 {C:Cx P} {n:Nat} {ks:List Nat} (c:Code) (K:Exit→EL→List Bx→Prop) (Q:Exit→(Nat→D)→List Bx→Prop) (l:EL) (st:List Bx) (hK:∀ex l st,K ex l st→Q ex (envL l) st) (h:vx P C n ks c l st K):WP C n c Q (envL l) st:=(qgc hK 1000 [] l st).1 c h
theorem hSa_see {st:List Bx} {x:A} {k:A→Prop} (h:hSa st x k):k (seeA st x):=by
 unfold hSa at h
 split at h
 ·rename_i i v
  split at h
  ·rename_i v' n rows hs
   obtain⟨rfl,h⟩:=h
   have:seeA st (.own i v)=.sl rows:=by simp [seeA,hs]
   rw [this];exact h
  ·rename_i hne
   have:seeA st (.own i v)=.own i v:=by
    unfold seeA
    dsimp only
    split
    ·rename_i a b c hs;exact absurd hs (hne _ _ _)
    ·rfl
   rw [this];exact h
 ·exact h
 ·exact h
 ·exact h
 ·exact h
theorem hSr_see {st:List Bx}:∀{row:List A} {k:List A→Prop},hSr st row k→k (row.map (seeA st))
 | [],_,h=>h
 | x::r,k,h=>by
  have h1:hSa st x fun x=>hSr st r fun r=>k (x::r):=h
  exact hSr_see (k:=fun r'=>k (seeA st x::r')) (hSa_see h1)
theorem hSd_see {st:List Bx} {d:D} {k:D→Prop} (h:hSd st d k):k (qc9 st d):=by
 unfold hSd at h
 split at h
 ·exact hSa_see h
 ·exact hSr_see h
 ·exact h
theorem qj7 {n:Nat} {e:Nat→D} {st:List Bx} {r:ResultVar} {k:D→Prop} (h:vres1 P n e st r k):∃d,res1 P n e st r=some d∧clD1 d=true∧k d:=by
 unfold vres1 at h
 split at h
 ·rename_i d hd
  obtain⟨hc,hk⟩:=hSd_see h
  refine⟨_,?_,hc,hk⟩
  unfold raw1 at hd
  unfold res1
  split at hd<;>dsimp only
  ·split at hd
   ·rename_i ht;rw [if_pos ht];injection hd with hd;subst hd;rfl
   ·cases hd
  ·split at hd
   ·rename_i ht
    rw [if_pos ht]
    split at hd
    ·rename_i i off he
     rw [he]
     dsimp only
     split at hd
     ·rename_i row k hs hk
      rw [hs,hk]
      dsimp only
      split at hd
      ·rename_i m
       split at hd
       ·rename_i hc
        rw [Bool.and_eq_true] at hc
        have e1:=Nat.eq_of_beq_eq_true hc.1
        have e2:=Nat.eq_of_beq_eq_true hc.2
        subst e1;subst e2
        injection hd with hd;subst hd
        simp [qae]
       ·rw [hd];rfl
      ·rw [hd];rfl
     ·cases hd
    ·cases hd
   ·cases hd
 ·exact h.elim
theorem qj6 {n:Nat} {e:Nat→D} {st:List Bx}:∀{l:List ResultVar} {k:List D→Prop},vresL P n e st l k→∃ds,l.map (res1 P n e st)=ds.map some∧ds.all clD1=true∧k ds
 | [],_,h=>⟨[],rfl,rfl,h⟩
 | r::l,k,h=>by
  obtain⟨d,h1,h2,h3⟩:=qj7 h
  obtain⟨ds,h4,h5,h6⟩:=qj6 h3
  exact⟨d::ds,by rw [List.map_cons,List.map_cons,h1,h4],by rw [List.all_cons,h2,h5];rfl,h6⟩
theorem qnw {n:Nat} {rs:List ResultVar} {d:D} {ex:Exit} {l:EL} {st:List Bx} (h:vret P n rs d ex l st):retN P n rs d ex (envL l) st:=by
 have key:vres P n rs d l st→resL P n (envL l) st rs d:=by
  intro h2
  unfold vres at h2
  rw [qbi] at h2
  unfold resL
  split at h2
  ·obtain⟨d',h1,hc,⟨rfl⟩⟩:=qj7 h2
   exact⟨h1,hc⟩
  ·rename_i hne
   obtain⟨ds,h1,hc,⟨rfl⟩⟩:=qj6 h2
   split
   ·exact absurd rfl (hne _)
   ·exact⟨ds,rfl,h1,hc⟩
 cases ex with
 | normal=>exact key h
 | ret=>exact key h
 | _=>exact h.elim
def VR {α:Type} (env:α→EL) (sto:α→List Bx) (μ:α→Nat) (y:α) (l:EL) (st:List Bx):Prop :=
 ∃z ex,μ z<μ y∧(sto y).length≤(sto z).length∧qal (envL l) (env z)∧st=sto z++ex∧nrE (sto z).length (env z)=true∧nrS (sto z).length (sto z)=true
def VN (env:Nat→EL) (sto:Nat→List Bx) (I:Nat→Prop) (k:Nat) (l:EL) (st:List Bx):Prop :=
 I (k+1)∧∃ex,qal (envL l) (env (k+1))∧st=sto (k+1)++ex∧nrE (sto (k+1)).length (env (k+1))=true∧nrS (sto (k+1)).length (sto (k+1))=true
theorem VL.each {α:Type} {C:Cx P} {n:Nat} {ks:List Nat} {c:Code} {l:EL} {st:List Bx} {K:Exit→EL→List Bx→Prop} (xs:List α) (enc:α→List A) (env:Nat→EL) (sto:Nat→List Bx) (I:Nat→Prop) (h0:qal (envL l) (env 0)) (hs:st=sto 0) (hI:I 0) (hn:xs.length≤4194304) (round:∀k z,xs[k]? = some z→xs.drop k=z::xs.drop (k+1)→xs.take (k+1)=xs.take k++[z]→k<xs.length→I k→decide ((k:Int)<(((xs.map enc).length:Nat):Int))=true→(xs.map enc)[k]? = some (enc z)→IntKind.i64.wrap ((k:Int)+1)=((k+1:Nat):Int)→vx P C n ks c (env k) (sto k) fun ex l' st'=>match ex with
  | .normal=>VN env sto I k l' st'
  | ex=>K ex l' st') (last:I xs.length→decide ((xs.length:Int)<(((xs.map enc).length:Nat):Int))=false→vx P C n ks c (env xs.length) (sto xs.length) fun ex l' st'=>match ex with
  | .normal=>False
  | ex=>K ex l' st') (hle:∀k,(sto k).length≤(sto (k+1)).length:=by intros;exact Nat.le_refl _):VL C n ks c l st K:=by
 refine .wp (WP.loopG (α:={ k:Nat // k≤xs.length∧I k }) (fun y=>env y.1) (fun y=>sto y.1) (fun y=>xs.length-y.1) ⟨0,Nat.zero_le _,hI⟩ h0 hs ?_)
 rintro⟨k,hk,hi⟩
 dsimp only
 by_cases hlt:k<xs.length
 ·obtain⟨z,hz⟩:∃z,xs[k]? = some z:=⟨_,List.getElem?_eq_getElem hlt⟩
  refine qe0 c _ _ _ _ (fun ex l st hq=>?_) (round k z hz (by rw [List.drop_eq_getElem_cons hlt];congr 1;exact (List.getElem?_eq_some_iff.1 hz).2) (by rw [List.take_add_one,hz];rfl) hlt hi (decide_eq_true (by rw [List.length_map];omega)) (by rw [List.getElem?_map,hz];rfl) (qap (by omega)))
  cases ex with
  | normal =>
   obtain⟨h1,ex,h2,h3,h4,h5⟩:=hq
   exact⟨⟨k+1,by omega,h1⟩,ex,by dsimp only;omega,hle k,h2,h3,h4,h5⟩
  | _=>exact⟨_,rfl,hq⟩
 ·obtain rfl:k=xs.length:=by omega
  refine qe0 c _ _ _ _ (fun ex l st hq=>?_) (last hi (decide_eq_false (by rw [List.length_map];omega)))
  cases ex with
  | normal=>exact hq.elim
  | _=>exact⟨_,rfl,hq⟩
theorem qaa.vx {P:Program} {f:FuncId} {fn:Func} {c:Code} {n:Nat} {rs:List ResultVar} {ds:List D} {d:D} (ks:List Nat) (hf:P.funcs[f]? = some fn) (hb:fn.body=some c) (hn:fn.ntmps=n) (hr:fn.results=⟨rs⟩) (hnm:(fn.name == "runtime.NumGoroutine")=false) (hl:(decide (ds.length≤n)&&decide (n≤1000000))=true)
  (h:∀C:Cx P,C.ro=none→C.V0.st=[]→vx P C n ks c (argL 0 ds) [] (vret P n rs d)):qaa P f ds d :=
 qaa.goV hf hb hn hr hnm hl fun C h1 h2=>WP.weaken (qiw ds) (qe0 c _ _ _ _ (fun _ _ _=>qnw) (h C h1 h2))
end
/-! ### Steps, with what is to be seen beside them -/
section
variable {P:Program} {c k a b G:Prop}
theorem xK (h:k) (hc:c:=by kernel_rfl):VK c k:=⟨hc,h⟩
theorem xG (h:k) (hc:c:=by first|rfl|exact⟨rfl,rfl⟩|exact⟨rfl,rfl,Nat.succ_le_succ (Nat.zero_le _),rfl⟩|(simp only [go_sem];done)):VG c k:=⟨hc,h⟩
theorem qeh {α:Type} {enc:α→List A} {n:Nat} (h:∀x,(enc x).length=n) (l:List α):qay n (l.map enc)=true:=by simp [qay,h]
theorem xA (h:k) (hc:c:=by first|exact⟨rfl,rfl,rfl,Nat.le_of_ble_eq_true rfl,Nat.le_of_ble_eq_true rfl,rfl,Nat.le_of_ble_eq_true rfl,Nat.le_of_ble_eq_true rfl⟩|exact⟨rfl,rfl,rfl,rfl,rfl,rfl,by (try simp only [List.length_map,List.length_append,List.length_cons,List.length_nil]);omega,by (try simp only [List.length_map,List.length_append,List.length_cons,List.length_nil]);omega⟩|exact⟨rfl,rfl,rfl,rfl,rfl,by (refine qeh ?_ _;intro _;rfl),by (try simp only [List.length_map,List.length_append,List.length_cons,List.length_nil]);omega,by (try simp only [List.length_map,List.length_append,List.length_cons,List.length_nil]);omega⟩):VA c k:=⟨hc,h⟩
theorem xU1 {d b:Prop} (h:a) (hc:c:=by exact⟨Nat.le_of_ble_eq_true rfl,rfl,rfl⟩):VU c a d b:=.e hc h
theorem xU2 {d b:Prop} (h:b) (hc:d:=by first|exact⟨rfl,rfl,rfl,Nat.le_of_ble_eq_true rfl,Nat.le_of_ble_eq_true rfl,rfl,Nat.le_of_ble_eq_true rfl,Nat.le_of_ble_eq_true rfl⟩|exact⟨rfl,rfl,rfl,Nat.le_of_ble_eq_true rfl,by (try simp only [List.length_map,List.length_append,List.length_cons,List.length_nil]);omega,by first|rfl|(refine qeh ?_ _;intro _;rfl),by (try simp only [List.length_map,List.length_append,List.length_cons,List.length_nil]);omega,by (try simp only [List.length_map,List.length_append,List.length_cons,List.length_nil]);omega⟩):VU c a d b:=.o hc h
theorem xW2 {d b:Prop} (h:b) (hc:d:=by first|exact⟨rfl,rfl,rfl,Nat.le_of_ble_eq_true rfl,Nat.le_of_ble_eq_true rfl,Nat.le_of_ble_eq_true rfl,rfl,rfl,Nat.le_of_ble_eq_true rfl,Nat.le_of_ble_eq_true rfl⟩|exact⟨rfl,rfl,rfl,Nat.le_of_ble_eq_true rfl,by (try simp only [List.length_map,List.length_append,List.length_cons,List.length_nil]);omega,by (try simp only [List.length_map,List.length_append,List.length_cons,List.length_nil]);omega,by first|rfl|(refine qeh ?_ _;intro _;rfl),by first|rfl|(refine qeh ?_ _;intro _;rfl),by (try simp only [List.length_map,List.length_append,List.length_cons,List.length_nil]);omega,by (try simp only [List.length_map,List.length_append,List.length_cons,List.length_nil]);omega⟩):VW c a d b:=.o hc h
theorem xC {gn:Bool} {N:Prop} {f:FuncId} {vs:List D} {st:List Bx} {k:D→List Bx→Prop} {d:D} (hp:G→qaa P f vs d) (h:k d st) (hc:vs.all clD=true:=by first|rfl|simp only [go_sem]):VC P G gn false N f vs st k:=.cl d rfl hp hc h
theorem xM {N:Prop} {bd:Bool} {f:FuncId} {vs:List D} {st:List Bx} {k:D→List Bx→Prop} {bs:List Bx} {ds:List D} {st0 st1 st':List Bx} {d d':D} (σ:List Nat) (hp:DM P f ds st0 d st1) (h:hD d' fun d'=>hBR st' fun st'=>k d' st') (hN:N:=by first|exact trivial|(intro h;cases h)) (hs:σ.map (fun i=>st.getD i .gone)=bs:=by rfl) (hin:qbz σ bs vs=true:=by rfl) (hu:vs.map (unD σ)=ds:=by rfl) (hv:bs.map (unB σ)=st0:=by rfl) (hne:0<st1.length:=by exact Nat.le_of_ble_eq_true rfl) (hd:rnD (rnX σ st.length (st1.length-σ.length)) d=d':=by rfl) (hst:mrg σ st (st1.map (rnB (rnX σ st.length (st1.length-σ.length))))=st':=by rfl):VC P G true bd N f vs st k:=.cM σ bs ds st0 st1 st' d d' rfl hN hs hin hu hv hp hne hd hst h
theorem xI {rows:List (List A)} {z:Int} {n:Option Nat} {k:List A→Prop} {j:Nat} {row:List A} (hr:G→rows[j]? = some row) (h:k row) (hz:G→z=j:=by exact fun _=>rfl) (hn:G→n=some row.length:=by first|exact fun _=>rfl|(intro _;simp only [go_sem]<;>rfl)):VI G rows z n k:=⟨j,row,hz,hr,hn,h⟩
theorem xJ {rows:List (List A)} {z:Int} {n:Option Nat} {k:List A→Prop} {row:List A} (h:k row) (hz:G→(Int.toNat z:Int)=z:=by exact fun _=>rfl) (hr:G→rows[Int.toNat z]? = some row:=by exact fun _=>rfl) (hn:G→n=some row.length:=by exact fun _=>rfl):VI G rows z n k:=VI.lit row hz hr hn h
end
theorem stv {G R:Prop} (r:R) (t:Rz R→G:=by
 intro r
 first
 | (show VK ..;exact xK r.out)
 | (show VH ..;exact VH.go r.out)
 | (show VE ..;exact VE.mk r.out)
 | (show VG ..;exact xG r.out)
 | (show VI ..;exact xJ r.out)
 | (show VZ ..;exact VZ.s r.out)
 | (show VY ..;exact VY.s r.out)
 | (show VA ..;exact xA r.out)
 | (show VW ..;first|exact xW1 r.out|exact xW2 r.out)
 | (show VU ..;first|exact xU1 r.out|exact xU2 r.out)
 | fail):G:=t r
end Go.Proofs.YthkojpnjdpbcgaaGreatDoor
