/- append of make, cap and slices of nil: what slices.Grow and slices.Concat do. No program in sight. Conditions: none. -/
import Derived.Test.YthkojpnjdpbcgaaGreatDoorMl11
import Derived.Lib.AppendZeros
set_option linter.unusedVariables false
set_option maxRecDepth 100000
set_option maxHeartbeats 8000000
set_option linter.unusedSimpArgs false
namespace Go.Proofs.YthkojpnjdpbcgaaGreatDoor
open Go.RowKit
section
variable {P:Program} {st:List Bx} {e:Nat→D} {o:Oper}
theorem OpJ.capN {x:Operand} {T:TypeId} (ho:o.op=.call ⟨.builtin .cap,#[x],#[T]⟩) (hx:evO e x=.a .nl) (hT:isSl P T=true):OpJ P st e o (.a (.v (.int .i64 0))):=by
 intro ρ V _ _ hu
 rw [ho] at hu
 have h1:=hu x (by simp [qad,Op.operands,Call.operands])
 rw [hx] at h1
 have key:ρ x=.slice none 0 0:=by
  generalize ρ x=u at *
  cases h1.c_inv rfl with
  | nl=>rfl
 unfold isSl at hT
 split at hT
 ·rename_i el hU
  simp [execOp,ho,resolve,invoke,builtin,Builtin.cap_,Sem.run_bind,run_underlying hU,key,goInt]
  exact .val (V:=V) (v:=.int .i64 _) (.v rfl)
 ·cases hT
theorem OpJ.sliceN {T:TypeId} {x hi:Operand} {n:Nat} {k:IntKind} (ho:o.op=.slice T x none (some hi) none) (hx:evO e x=.a .nl) (hh:evO e hi=.a (.v (.int k 0))) (hn:es P T=some n):OpJ P st e o (.a .nl):=by
 intro ρ V _ _ hu
 rw [ho] at hu
 have hx1:=hu x (by simp [qad,Op.operands])
 rw [hx] at hx1
 have hlo:∀z,(none:Option Operand)=some z→RepD V (evO e z) (ρ z):=fun z hz=>by cases hz
 have hhi:∀z,some hi=some z→RepD V (evO e z) (ρ z):=fun z hz=>hu z (by injection hz with hz;subst hz;simp [qad,Op.operands])
 simp only [execOp,ho]
 generalize ρ x=u at *
 unfold es at hn
 split at hn
 ·rename_i el hel
  cases hinfo:P.info? el with
  | none=>simp [hinfo] at hn
  | some inf =>
   simp only [hinfo,Option.map_some,Option.some.injEq] at hn
   subst hn
   cases hx1.c_inv rfl with
   | nl =>
    obtain⟨g1,g2,g3⟩:=qea (P:=P) (isS:=true) (w:=V.w) hlo hhi (show bndD e (some hi) 0=some 0 by simp [bndD,hh]) (show lowD e none 0=some 0 from rfl) (Nat.le_refl 0)
    rw [Option.map_none] at g1
    have hrun:(Instr.sliceAt T (.slice none 0 0) none ((some hi).map ρ) none).run P V.w=.ok (.slice none 0 0) V.w:=by
     simp only [Instr.sliceAt,Instr.slice,Sem.run_bind,run_underlying hel,Result.andThen_ok,Option.map_none,g1,sizeOf,typeInfo,run_program,hinfo,Sem.run_pure]
     rfl
    simp only [Option.map_none,Sem.run_bind,hrun,Result.andThen_ok,Sem.run_pure]
    exact .val (.a _ _ (.c _ _ .nl))
 ·cases hn
theorem qnm {s x:Operand} {T TI:TypeId} (ho:o.op=.call ⟨.builtin .append,#[s,x],#[T,TI]⟩) (ρ:Operand→Value) (w:World):(execOp ρ o).run P w=((Builtin.append_ #[T,TI] o.type #[ρ s,ρ x]).run P w).andThen fun v w=>.ok (.value v) w:=by
 simp only [execOp,ho,resolve,invoke,builtin,Sem.run_bind,Sem.run_pure,Result.andThen_ok,List.map_toArray,List.map_cons,List.map_nil]
theorem OpG.appMk {s x:Operand} {T TI:TypeId} {n len bs:Nat} {k kn:IntKind} {zr:List A} (ho:o.op=.call ⟨.builtin .append,#[s,x],#[T,TI]⟩) (hs:evO e s=.a .nl) (hx:evO e x=.a (.v (.int k (len:Nat)))) (hTI:P.underlying TI=some (.int kn)) (hn:es P T=some n) (hn0:0<n) (hlen:0<len) (hz:zrT P T=some zr) (hzl:zr.length=n) (hcl:zr.all clA=true) (hby:byt P T=some bs)
  (hb1:len*bs≤140737488355328) (hb2:len≤4611686018427387904):OpG P st e o (.a (.own st.length 0)) (st++[.arr 0 n (List.replicate len zr)]):=by
 intro ρ V hst hok hu
 rw [ho] at hu
 have h1:=hu s (by simp [qad,Op.operands,Call.operands])
 have h2:=hu x (by simp [qad,Op.operands,Call.operands])
 rw [hs] at h1
 rw [hx] at h2
 subst hst
 rw [qnm ho]
 obtain⟨el,inf,z,hel,hinfo,hzz,hsz,hzc,hbs,hzr⟩:=slT hn hz hzl hby
 have h2:=h2.v_inv.1
 generalize ρ s=us at h1
 cases h1.c_inv rfl with
 | nl =>
  rw [h2,Lib.run_append_nil_zeros (P:=P) V.w T TI o.type el inf z k kn hel hTI hinfo hzz len hlen (by omega) (by omega) (by rw [hbs];omega),Result.andThen_ok]
  obtain⟨C1,hC1⟩:∃C1,C1=grownCap V.w len 0 el:=⟨_,rfl⟩
  have hge:len≤C1:=by rw [hC1];exact grownCap_ge V.w len 0 el
  rw [←hC1]
  obtain⟨cs2,hcs2⟩:∃cs2,cs2=Builtin.zeroCells z.cells len++Builtin.zeroCells z.cells (C1-len):=⟨_,rfl⟩
  rw [←hcs2]
  have hs2:cs2.size=C1*n:=by
   rw [hcs2]
   simp only [Array.size_append,qc1,hzc,←Nat.add_mul]
   congr 1;omega
  have hnewc:(V.w.drew.alloc (.cells cs2 el)).heap[V.w.heap.size]? = some (.cells cs2 el (0,0)):=qbb _ _ _ rfl
  have hown:=qec (V:=V) hok.len cs2 el n C1 (List.replicate len zr) hnewc hs2 (by simpa using hge)
  rw [List.length_replicate] at hown
  refine .val (Step.pushA hok cs2 el n C1 (List.replicate len zr) (((Grw.refl V.w).drew).alloc _) hnewc hs2 hn0 (by simpa using hge) (fun k row hk=>by rw [(qfm hk).2];exact hzl) fun k row j y hk hj=>?_) (.a _ _ hown)
  have hk1:k<len:=by have:=(List.getElem?_eq_some_iff.1 hk).1;simpa using this
  have hj1:j<n:=by have:=(List.getElem?_eq_some_iff.1 hj).1;rw [(qfm hk).2,hzl] at this;exact this
  have h3:(k+1)*n≤len*n:=Nat.mul_le_mul_right n (by omega)
  rw [Nat.add_mul,Nat.one_mul] at h3
  have hzz2:Builtin.zeroCells z.cells len=(Array.range (len*n)).map (z.cells[· % z.cells.size]!):=by unfold Builtin.zeroCells;rw [hzc]
  have:cs2.getD (k*n+j) Go.undef=((Array.range (len*n)).map (z.cells[· % z.cells.size]!)).getD (k*n+j) Go.undef:=by
   rw [hcs2,Array.getD_eq_getD_getElem?,Array.getElem?_append_left (by rw [qc1,hzc];omega),←Array.getD_eq_getD_getElem?,hzz2]
  rw [this]
  exact qdl hzl hzc hcl (hzr V) k row j y hk hj
theorem OpJ.appE {s x:Operand} {T:TypeId} {n:Nat} (ho:o.op=.call ⟨.builtin .append,#[s,x],#[T,T]⟩) (hs:evO e s=.a (.sl [])) (hx:evO e x=.a (.sl [])) (hn:es P T=some n):OpJ P st e o (.a (.sl [])):=by
 intro ρ V hst hok hu
 rw [ho] at hu
 have h1:=hu s (by simp [qad,Op.operands,Call.operands])
 have h2:=hu x (by simp [qad,Op.operands,Call.operands])
 rw [hs] at h1
 rw [hx] at h2
 unfold es at hn
 split at hn
 ·rename_i el hel
  cases hinfo:P.info? el with
  | none=>simp [hinfo] at hn
  | some inf =>
   rw [qnm ho]
   generalize ρ s=us at h1
   generalize ρ x=ux at h2
   have key:∀(a:Option Addr) (c:Nat) (a2:Option Addr) (c2:Nat),(Builtin.append_ #[T,T] o.type #[.slice a 0 c,.slice a2 0 c2]).run P V.w=.ok (.slice a 0 c) V.w:=fun a c a2 c2=>by
    cases a<;>cases a2<;>simp [Builtin.append_,run_underlying hel,sizeOf,typeInfo,hinfo,Builtin.lenOf,Builtin.firstCells,loadCells,loadCellsFrom,storeCells]
   have inv:∀u:Value,RepD V (.a (.sl [])) u→∃a c,u=.slice a 0 c:=fun u h=>by
    cases h.c_inv rfl with
    | sl0 a c=>exact⟨a,c,rfl⟩
    | sl _ n' b o' c=>exact⟨_,_,rfl⟩
   obtain⟨a,c,rfl⟩:=inv us h1
   obtain⟨a2,c2,rfl⟩:=inv ux h2
   rw [key,Result.andThen_ok]
   exact .val (.a _ _ (.c _ _ (.sl0 a c)))
 ·cases hn
end
section
variable {P:Program} {C:Cx P} {ops:Array Oper} {r:List Oper} {e:Nat→D} {st:List Bx} {dst:Option Nat} {ty T TI:TypeId} {pos:String} {after:Array Edge} {K:(Nat→D)→List Bx→Prop} {guard:Option (Nat×Bool)} {n len bs:Nat} {zr:List A} {x s hi:Operand} {k:IntKind}
@[go_sem] theorem evQ_cap {q:Array TypeId} {xs:Array Operand}:evQ P st e ⟨dst,.call ⟨.builtin .cap,xs,q⟩,ty,pos,after,guard⟩=none:=rfl
@[go_sem] theorem evG_cap {q:Array TypeId} {xs:Array Operand}:evG P st e ⟨dst,.call ⟨.builtin .cap,xs,q⟩,ty,pos,after,guard⟩=none:=rfl
@[go_sem] theorem slD_nl {lo hi:Option Operand}:slD P T e lo hi (.a .nl)=none:=rfl
theorem RS.cN' (h:RS C ops r (putE e dst (.a (.v (.int .i64 0)))) st K) (hx:evO e x=.a .nl:=by (simp only [go_sem,simprocAttr,fx])<;>rfl) (hT:isSl P T=true:=by simp only [go_sem]):RS C ops (⟨dst,.call ⟨.builtin .cap,⟨[x]⟩,⟨[T]⟩⟩,ty,pos,after,guard⟩::r) e st K :=
 .inl ⟨_,st,.inr ⟨rfl,.of (OpJ.capN rfl hx hT)⟩,h⟩
theorem RS.sN (h:RS C ops r (putE e dst (.a .nl)) st K) (hx:evO e x=.a .nl:=by (simp only [go_sem,simprocAttr,fx])<;>rfl) (hh:evO e hi=.a (.v (.int k 0)):=by (simp only [go_sem,simprocAttr,fx])<;>rfl) (hn:es P T=some n:=by (simp only [go_sem])<;>rfl):RS C ops (⟨dst,.slice T x none (some hi) none,ty,pos,after,guard⟩::r) e st K :=
 .inl ⟨_,st,.inr ⟨rfl,.of (OpJ.sliceN rfl hx hh hn)⟩,h⟩
theorem RS.aE (h:RS C ops r (putE e dst (.a (.sl []))) st K) (hs:evO e s=.a (.sl []):=by (simp only [go_sem,simprocAttr,fx])<;>rfl) (hx:evO e x=.a (.sl []):=by (simp only [go_sem,simprocAttr,fx])<;>rfl) (hn:es P T=some n:=by (simp only [go_sem])<;>rfl):RS C ops (⟨dst,.call ⟨.builtin .append,⟨[s,x]⟩,⟨[T,T]⟩⟩,ty,pos,after,guard⟩::r) e st K :=
 .inl ⟨_,st,.inr ⟨rfl,.of (OpJ.appE rfl hs hx hn)⟩,h⟩
def isInt (P:Program) (T:TypeId):Bool:=match P.underlying T with|some (.int _)=>true|_=>false
theorem isInt_of (h:isInt P T=true):∃k,P.underlying T=some (.int k):=by
 unfold isInt at h
 split at h
 ·exact⟨_,by assumption⟩
 ·cases h
theorem RS.aK (h:RS C ops r (putE e dst (.a (.own st.length 0))) (st++[.arr 0 n (List.replicate len zr)]) K) (hs:evO e s=.a .nl:=by (simp only [go_sem,simprocAttr,fx])<;>rfl) (hx:evO e x=.a (.v (.int k (len:Nat))):=by (simp only [go_sem,simprocAttr,fx])<;>rfl) (hTI:isInt P TI=true:=by kernel_rfl) (hn:es P T=some n:=by (simp only [go_sem])<;>rfl) (hn0:0<n:=by decide) (hlen:0<len:=by omega) (hz:zrT P T=some zr:=by (simp only [go_sem])<;>rfl) (hzl:zr.length=n:=by (simp only [go_sem])<;>rfl) (hcl:zr.all clA=true:=by (simp only [go_sem])<;>rfl) (hby:byt P T=some bs:=by (simp only [go_sem])<;>rfl)
  (hb1:len*bs≤140737488355328:=by omega) (hb2:len≤4611686018427387904:=by omega):RS C ops (⟨dst,.call ⟨.builtin .append,⟨[s,x]⟩,⟨[T,TI]⟩⟩,ty,pos,after,none⟩::r) e st K :=
 .inl ⟨_,_,.inl ⟨rfl,OpG.appMk rfl hs hx (isInt_of hTI).choose_spec hn hn0 hlen hz hzl hcl hby hb1 hb2⟩,h⟩
end
section
variable {P:Program} {C:Cx P} {ops:Array Oper} {r:List Oper} {e:Nat→D} {st:List Bx} {dst:Option Nat} {ty:TypeId} {pos:String} {after:Array Edge} {K:(Nat→D)→List Bx→Prop} {f:FuncId} {y:Operand} {xs:List Operand} {tys:Array TypeId} {vs ds:List D} {σ:List Nat} {bs bs' st0 st1 st':List Bx} {d d' g:D}
theorem WS.callvM {caps:List A} (hy:evO e y=.a (.fn f caps)) (hx:xs.map (evO e)++caps.map D.a=vs) (hs:σ.map (fun i=>st.getD i .gone)=bs) (hin:qbz σ bs vs=true) (hu:vs.map (unD σ)=ds) (hv:bs.map (unB σ)=st0) (hg:e 1000000=g) (hp:DM P f ds st0 d st1) (hne:0<st1.length) (hd:rnD (rnX σ st.length (st1.length-σ.length)) d=d')
  (hst:mrg σ st (st1.map (rnB (rnX σ st.length (st1.length-σ.length))))=st'):WS C g st e ⟨dst,.call ⟨.value y,⟨xs⟩,tys⟩,ty,pos,after,none⟩ d' st':=by
 refine⟨rfl,hg,?_⟩
 intro ρ V Nx hVs hok hsep hnx henv hur
 subst hVs
 rw [hg] at henv
 obtain⟨us,hf,hul,hvr⟩:=fnA_inv (f:=f) (caps:=caps) (by have:=hur y (by simp [qad,Op.operands,Call.operands]);rwa [hy] at this)
 have hrun:(execOp ρ ⟨dst,.call ⟨.value y,⟨xs⟩,tys⟩,ty,pos,after,none⟩).run P V.w=.ok (.enter f ((⟨xs⟩:Array Operand).map ρ++us.toArray)) V.w:=by
  simp only [execOp,resolve,hf,Deferred.ofValue,Sem.run_bind,Sem.run_pure,Result.andThen_ok,invoke,Array.empty_append,hp.go.1]
 rw [hrun]
 refine⟨rfl,?_⟩
 have harr:(xs.map ρ++us).toArray=(⟨xs⟩:Array Operand).map ρ++us.toArray:=by apply Array.ext';simp
 rw [←harr]
 refine Go.Proofs.YthkojpnjdpbcgaaGreatDoor.callM hs hin hu hv hp hne hd hst hok hsep henv (by rw [←hx];simp [hul]) fun k d2 hk=>?_
 rw [←hx,List.getElem?_append] at hk
 rw [List.getD_eq_getElem?_getD,List.getElem?_append]
 simp only [List.length_map] at hk ⊢
 split at hk
 ·rename_i hlt
  rw [if_pos hlt]
  rw [List.getElem?_map,Option.map_eq_some_iff] at hk
  obtain⟨z,hz,rfl⟩:=hk
  have:=hur z (by have:=lm4 hz;simp [qad,Op.operands,Call.operands];right;simpa using this)
  rw [List.getElem?_map,hz];exact this
 ·rename_i hlt
  rw [if_neg hlt]
  rw [List.getElem?_map,Option.map_eq_some_iff] at hk
  obtain⟨z,hz,rfl⟩:=hk
  have:=hvr _ z hz
  rw [List.getD_eq_getElem?_getD] at this
  exact .a _ _ this
theorem RS.callvM {caps:List A} (σ:List Nat) (hy:evO e y=.a (.fn f caps)) (hx:xs.map (evO e)++caps.map D.a=vs) (hs:σ.map (fun i=>st.getD i .gone)=bs) (hin:qbz σ bs vs=true) (hu:vs.map (unD σ)=ds) (hv:bs.map (unB σ)=st0) (hg:e 1000000=g) (hp:DM P f ds st0 d st1) (hne:0<st1.length) (hd:rnD (rnX σ st.length (st1.length-σ.length)) d=d')
  (hst:mrg σ st (st1.map (rnB (rnX σ st.length (st1.length-σ.length))))=st') (h:RS C ops r (upd (putE e dst d') 1000000 g) st' K):RS C ops (⟨dst,.call ⟨.value y,⟨xs⟩,tys⟩,ty,pos,after,none⟩::r) e st K :=
 .inr ⟨trivial,_,(WS.callvM hy hx hs hin hu hv hg hp hne hd hst).2.2,fun d1 st1 g1 ⟨h1,h2,h3⟩=>by subst h1;subst h2;subst h3;exact h⟩
theorem RS.cvM {caps:List A} (σ:List Nat) (hy:evO e y=.a (.fn f caps):=by (simp only [go_sem,simprocAttr,fx])<;>rfl) (hx:xs.map (evO e)++caps.map D.a=vs:=by (simp only [go_sem,simprocAttr,fx])<;>rfl) (hs:σ.map (fun i=>st.getD i .gone)=bs':=by (simp only [go_sem,simprocAttr,fx])<;>rfl) (hin:qbz σ bs' vs=true:=by (simp only [go_sem,simprocAttr,fx])<;>rfl) (hu:vs.map (unD σ)=ds:=by (simp only [go_sem,simprocAttr,fx])<;>rfl) (hv:bs'.map (unB σ)=st0:=by (simp only [go_sem,simprocAttr,fx])<;>rfl) (hg:e 1000000=g:=by (simp only [go_sem,simprocAttr])<;>rfl) (hp:DM P f ds st0 d st1) (hne:0<st1.length:=by exact Nat.zero_lt_succ _) (hd:rnD (rnX σ st.length (st1.length-σ.length)) d=d':=by (simp only [go_sem,simprocAttr,fx])<;>rfl)
  (hst:mrg σ st (st1.map (rnB (rnX σ st.length (st1.length-σ.length))))=st':=by (simp only [go_sem,simprocAttr,fx])<;>rfl) (h:RS C ops r (upd (putE e dst d') 1000000 g) st' K):RS C ops (⟨dst,.call ⟨.value y,⟨xs⟩,tys⟩,ty,pos,after,none⟩::r) e st K:=RS.callvM σ hy hx hs hin hu hv hg hp hne hd hst h
end
end Go.Proofs.YthkojpnjdpbcgaaGreatDoor
