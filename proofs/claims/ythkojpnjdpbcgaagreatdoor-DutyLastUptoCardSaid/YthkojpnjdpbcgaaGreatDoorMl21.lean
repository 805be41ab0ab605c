/- The elements of a slice of a cell of one's own. No program in sight. Conditions: none. -/
import Derived.Test.YthkojpnjdpbcgaaGreatDoorMl18
set_option linter.unusedVariables false
set_option maxRecDepth 100000
set_option maxHeartbeats 8000000
set_option linter.unusedSimpArgs false
namespace Go.Proofs.YthkojpnjdpbcgaaGreatDoor
open Go.RowKit
section
variable {P:Program} {st:List Bx} {e:Nat→D} {o:Oper}
theorem OpJ.ixC {T:TypeId} {x i:Operand} {j off len n:Nat} {z:Int} {k:IntKind} (ho:o.op=.indexAddr T x i) (hx:evO e x=.a (.cs j off len)) (hi:evO e i=.a (.v (.int k z))) (hn:es P T=some n) (h0:0≤z) (hl:z<len):OpJ P st e o (.a (.ptr j (off+z.toNat*n))):=by
 intro ρ V hst _ hu
 rw [ho] at hu
 have h1:=hu x (by simp [qad,Op.operands])
 have h2:=hu i (by simp [qad,Op.operands])
 rw [hx] at h1
 rw [hi] at h2
 obtain⟨h2,_⟩:=h2.v_inv
 simp only [execOp,ho,h2]
 generalize ρ x=u at *
 subst hst
 unfold es at hn
 split at hn
 ·rename_i el hel
  cases hinfo:P.info? el with
  | none=>simp [hinfo] at hn
  | some inf =>
   simp only [hinfo,Option.map_some,Option.some.injEq] at hn
   subst hn
   cases h1 with
   | a _ _ h=>cases h with
    | c _ _ h=>cases h
    | cs _ _ _ b hj hb =>
     have hrun:(Instr.indexAt T (.slice (some ⟨b,off,none⟩) len len) (.int k z)).run P V.w=.ok (.pointer (some ⟨b,off+z.toNat*inf.size,none⟩)) V.w:=by
      simp [Instr.indexAt,asIntOf,Sem.run_bind,run_underlying hel,sizeOf,typeInfo,hinfo,h0,hl,Addr.add_mid]
     simp only [Sem.run_bind,hrun,Result.andThen_ok,Sem.run_pure]
     exact .val (.a _ _ (.ptr j _ b hj hb))
 ·cases hn
end
section
variable {P:Program} {C:Cx P} {ops:Array Oper} {r:List Oper} {e:Nat→D} {st:List Bx} {dst:Option Nat} {ty T:TypeId} {pos:String} {after:Array Edge} {K:(Nat→D)→List Bx→Prop} {guard:Option (Nat×Bool)} {j off len n:Nat} {z:Int} {k:IntKind} {x i:Operand}
theorem RS.xC (h:RS C ops r (putE e dst (.a (.ptr j (off+z.toNat*n)))) st K) (hx:evO e x=.a (.cs j off len):=by (simp only [go_sem,simprocAttr,fx])<;>rfl) (hi:evO e i=.a (.v (.int k z)):=by (simp only [go_sem,simprocAttr,fx])<;>rfl) (hn:es P T=some n:=by (simp only [go_sem])<;>rfl) (h0:0≤z:=by omega) (hl:z<len:=by omega):RS C ops (⟨dst,.indexAddr T x i,ty,pos,after,guard⟩::r) e st K :=
 .inl ⟨_,st,.inr ⟨rfl,.of (OpJ.ixC rfl hx hi hn h0 hl)⟩,h⟩
end
def qf3 (n len:Nat):List A→List (Nat×D)→Option (List A)
 | row,[]=>some row
 | row,(i,d)::r=>(match qba d with
  | some xs=>if xs.length=n∧i<len then qf3 n len (qah row (i*n) xs) r else none
  | none=>none)
theorem qik {V:Vw} {n len:Nat}:∀(parts:List (Nat×D)) (pv:List (Nat×Value)) (cs:Array Value) (row row':List A),pv.length=parts.length→(∀(j:Nat) (q:Nat×D),parts[j]? = some q→∃v,pv[j]? = some (q.1,v)∧RepD V q.2 v) →
  cs.size=len*n→row.length=len*n→(∀(j:Nat) (y:A),row[j]? = some y→RepA V y (cs.getD j Go.undef))→qf3 n len row parts=some row' →
  ∃cs',Instr.fill (fun i=>some (i*n,n)) cs pv=some cs'∧row'.length=len*n∧cs'.size=len*n∧∀(j:Nat) (y:A),row'[j]? = some y→RepA V y (cs'.getD j Go.undef)
 | [],[],cs,row,row',_,_,hs,hl,hr,h=>by injection h with h;subst h;exact⟨cs,rfl,hl,hs,hr⟩
 | [],_::_,_,_,_,hl,_,_,_,_,_=>by simp at hl
 | _::_,[],_,_,_,hl,_,_,_,_,_=>by simp at hl
 | (i,d)::parts,p::pv,cs,row,row',hlp,hp,hs,hl,hr,h=>by
  obtain⟨v,hv,hd⟩:=hp 0 (i,d) rfl
  simp only [List.getElem?_cons_zero,Option.some.injEq] at hv
  subst hv
  unfold qf3 at h
  split at h
  ·rename_i xs h2
   split at h
   ·rename_i hc
    obtain⟨hc1,hc2⟩:=hc
    obtain⟨k1,k2,_⟩:=qch hd h2
    have hfit:i*n+n≤len*n:=by
     have:(i+1)*n≤len*n:=Nat.mul_le_mul_right n (by omega)
     rwa [Nat.add_mul,Nat.one_mul] at this
    have hvl:v.cells.toList.length=n:=by simpa [hc1] using k1
    have hfold:(v.cells.zipIdx.foldl (fun cs (c,j)=>cs.setIfInBounds (i*n+j) c) cs)=putV cs (i*n) v.cells.toList:=by
     rw [←Array.foldl_toList,Array.toList_zipIdx]
     have:=qgj (i*n) v.cells.toList 0 cs
     simpa using this
    have hstep:Instr.fill (fun i=>some (i*n,n)) cs ((i,v)::pv)=Instr.fill (fun i=>some (i*n,n)) (putV cs (i*n) v.cells.toList) pv:=by
     rw [Instr.fill]
     simp only
     rw [if_neg (by simp;omega),hfold]
    rw [hstep]
    have hle:i*n+xs.length≤row.length:=by omega
    refine qik (V:=V) (n:=n) (len:=len) parts pv (putV cs (i*n) v.cells.toList) (qah row (i*n) xs) row' (by simpa using hlp) (fun j q hq=>by simpa using hp (j+1) q (by simpa using hq)) (by rw [qbx,hs]) (by simp [qah];omega) (fun j y hj=>?_) h
    rw [qcx _ cs _ _ (by rw [hvl,hs];exact hfit),hvl]
    rw [qfn hle,hc1] at hj
    split at hj
    ·rename_i hcc
     rw [if_pos (by omega)]
     have hq:=k2 _ y hj
     rwa [Array.getD_eq_getD_getElem?,←Array.getElem?_toList,←List.getD_eq_getElem?_getD] at hq
    ·rename_i hcc
     rw [if_neg (by omega)]
     exact hr j y hj
   ·cases h
  ·cases h
section
variable {P:Program} {st:List Bx} {e:Nat→D} {o:Oper}
theorem OpG.litC {T:TypeId} {len n:Nat} {parts:List (Nat×Operand)} {row zr:List A} {bs:Nat} (ho:o.op=.buildSlice T len ⟨parts⟩) (hn:es P T=some n) (hn0:0<n) (hlen:0<len) (hz:zrT P T=some zr) (hzl:zr.length=n) (hcl:zr.all clA=true) (hby:byt P T=some bs) (hsm:len*n≤16777216)
  (hp:qf3 n len (List.replicate len zr).flatten (parts.map fun p=>(p.1,evO e p.2))=some row):OpG P st e o (.a (.cs st.length 0 len)) (st++[.cell row]):=by
 intro ρ V hst hok hu
 rw [ho] at hu
 subst hst
 obtain⟨el,inf,z,hel,hinfo,hzz,hsz,hzc,hbs,hzr⟩:=slT hn hz hzl hby
 have hpv:∀(j:Nat) (q:Nat×D),(parts.map fun p=>(p.1,evO e p.2))[j]? = some q→∃v,(parts.map fun p=>(p.1,ρ p.2))[j]? = some (q.1,v)∧RepD V q.2 v:=by
  intro j q hq
  rw [List.getElem?_map,Option.map_eq_some_iff] at hq
  obtain⟨p,hp,rfl⟩:=hq
  refine⟨ρ p.2,by rw [List.getElem?_map,hp];rfl,hu p.2 ?_⟩
  simp only [qad,Op.operands,List.mem_map]
  exact⟨p,lm4 hp,rfl⟩
 have hrl:∀(k:Nat) (r:List A),(List.replicate len zr)[k]? = some r→r.length=n:=fun k r hk=>by rw [(qfm hk).2];exact hzl
 have hfl:(List.replicate len zr).flatten.length=len*n:=by rw [qjv _ hrl,List.length_replicate]
 obtain⟨cs',g1,g2,g3,g4⟩:=qik (V:=V) (n:=n) (len:=len) (parts.map fun p=>(p.1,evO e p.2)) (parts.map fun p=>(p.1,ρ p.2)) ((Array.range (len*n)).map (z.cells[· % z.cells.size]!)) (List.replicate len zr).flatten row (by simp) hpv (by simp) hfl (fun j y hj=>by
  obtain⟨r',q1,q2⟩:=qjw hn0 _ hrl j y hj
  have:=qdl hzl hzc hcl (hzr V) (j / n) r' (j % n) y q1 q2
  rw [show j / n*n+j % n=j from Nat.div_add_mod' j n] at this
  exact .c _ _ this) hp
 have hrun:=qlo (P:=P) (w:=V.w) (len:=len) (parts:=(⟨parts⟩:Array (Nat×Operand)).map fun (i,x)=>(i,ρ x)) (cells:=cs') hel hinfo hzz (by rw [hsz];omega) (by rw [hsz];exact Nat.ne_of_gt (Nat.mul_pos hlen hn0)) (by rw [hsz];rw [←g1];congr 1;simp)
 have hexec:(execOp ρ o).run P V.w=((Instr.buildSlice T len ((⟨parts⟩:Array (Nat×Operand)).map fun (i,x)=>(i,ρ x))).run P V.w).andThen fun v w=>.ok (.value v) w:=by
  simp only [execOp,ho,Sem.run_bind,Sem.run_pure]
 rw [hexec,hrun,Result.andThen_ok]
 have hlen2:=hok.len
 exact .val (Step.push hok cs' el row (by rw [g3,g2]) g4) (.a _ _ (.cs _ 0 len _ (by simp) fun r h=>by simp [←hlen2]))
end
section
variable {P:Program} {C:Cx P} {ops:Array Oper} {r:List Oper} {e:Nat→D} {st:List Bx} {dst:Option Nat} {ty T:TypeId} {pos:String} {after:Array Edge} {K:(Nat→D)→List Bx→Prop} {n bs:Nat} {zr row:List A}
theorem RS.bC {len:Nat} {parts:List (Nat×Operand)} (k:RS C ops r (putE e dst (.a (.cs st.length 0 len))) (st++[.cell row]) K) (hn:es P T=some n:=by (simp only [go_sem])<;>rfl) (hn0:0<n:=by decide) (hlen:0<len:=by decide) (hz:zrT P T=some zr:=by (simp only [go_sem])<;>rfl) (hzl:zr.length=n:=by (simp only [go_sem])<;>rfl) (hcl:zr.all clA=true:=by (simp only [go_sem])<;>rfl) (hby:byt P T=some bs:=by (simp only [go_sem])<;>rfl) (hsm:len*n≤16777216:=by decide)
  (hp:qf3 n len (List.replicate len zr).flatten (parts.map fun p=>(p.1,evO e p.2))=some row:=by (simp only [go_sem,simprocAttr,qf3,List.flatten_cons,List.flatten_nil,List.replicate_succ,List.replicate_zero,fx])<;>rfl):RS C ops (⟨dst,.buildSlice T len ⟨parts⟩,ty,pos,after,none⟩::r) e st K :=
 .inl ⟨_,_,.inl ⟨rfl,OpG.litC rfl hn hn0 hlen hz hzl hcl hby hsm hp⟩,k⟩
end
/-! ### All blocks are lent, by the numbers that they have -/
theorem qib {n i:Nat} (h:i<n):rnN (List.range n) i=i:=by
 unfold rnN;rw [List.getD_eq_getElem?_getD,List.getElem?_range h];rfl
theorem qb5 {n:Nat}:(List.range n).length=n:=List.length_range
theorem qkl {n i:Nat} (h:i<n):unN (List.range n) i=i:=by
 obtain⟨h1,h2⟩:=qh9 (σ:=List.range n) (i:=i) (by simpa using h)
 rw [qb5] at h2
 rw [qib h2] at h1;exact h1
mutual
theorem qgz {n:Nat}:∀a:A,nrA n a=true→rnA (List.range n) a=a∧unA (List.range n) a=a∧inA (List.range n) a=true
 | .v _,_=>⟨rfl,rfl,rfl⟩
 | .nl,_=>⟨rfl,rfl,rfl⟩
 | .sl _,_=>⟨rfl,rfl,rfl⟩
 | .sk _,_=>⟨rfl,rfl,rfl⟩
 | .ref _ _,_=>⟨rfl,rfl,rfl⟩
 | .ptr i o,h=>by rw [nrA] at h;have h:=of_decide_eq_true h;exact⟨by rw [rnA,qib h],by rw [unA,qkl h],by rw [inA];simpa using h⟩
 | .own i o,h=>by rw [nrA] at h;have h:=of_decide_eq_true h;exact⟨by rw [rnA,qib h],by rw [unA,qkl h],by rw [inA];simpa using h⟩
 | .ep i _ _ o,h=>by rw [nrA] at h;have h:=of_decide_eq_true h;exact⟨by rw [rnA,qib h],by rw [unA,qkl h],by rw [inA];simpa using h⟩
 | .cs i o k,h=>by rw [nrA] at h;have h:=of_decide_eq_true h;exact⟨by rw [rnA,qib h],by rw [unA,qkl h],by rw [inA];simpa using h⟩
 | .mp i,h=>by rw [nrA] at h;have h:=of_decide_eq_true h;exact⟨by rw [rnA,qib h],by rw [unA,qkl h],by rw [inA];simpa using h⟩
 | .fn f caps,h=>by rw [nrA] at h;obtain⟨h1,h2,h3⟩:=rnL_id caps h;exact⟨by rw [rnA,h1],by rw [unA,h2],by rw [inA];exact h3⟩
 | .fm f caps,h=>by rw [nrA] at h;obtain⟨h1,h2,h3⟩:=rnL_id caps h;exact⟨by rw [rnA,h1],by rw [unA,h2],by rw [inA];exact h3⟩
theorem rnL_id {n:Nat}:∀l:List A,nrA.nrL n l=true→rnA.rnL (List.range n) l=l∧unA.unL (List.range n) l=l∧inA.inL (List.range n) l=true
 | [],_=>⟨rfl,rfl,rfl⟩
 | x::r,h=>by
  rw [nrA.nrL,Bool.and_eq_true] at h
  obtain⟨h1,h2,h3⟩:=qgz x h.1
  obtain⟨g1,g2,g3⟩:=rnL_id r h.2
  exact⟨by rw [rnA.rnL,h1,g1],by rw [unA.unL,h2,g2],by rw [inA.inL,h3,g3];rfl⟩
end
theorem qlt {f:A→A}:∀{row:List A},(∀a,a∈row→f a=a)→row.map f=row
 | [],_=>rfl
 | x::r,h=>by rw [List.map_cons,h x (by simp),qlt fun a ha=>h a (by simp [ha])]
theorem qgx {n:Nat} {row:List A} (h:row.all (nrA n)=true):row.map (rnA (List.range n))=row∧row.map (unA (List.range n))=row∧row.all (inA (List.range n))=true:=by
 rw [List.all_eq_true] at h
 exact⟨qlt fun a ha=>(qgz a (h a ha)).1,qlt fun a ha=>(qgz a (h a ha)).2.1,List.all_eq_true.2 fun a ha=>(qgz a (h a ha)).2.2⟩
mutual
theorem rnD_id {n:Nat}:∀d:D,nrM n d=true→rnD (List.range n) d=d
 | .junk,_=>rfl
 | .undef,_=>rfl
 | .a x,h=>by rw [rnD,(qgz x h).1]
 | .r row,h=>by rw [rnD,(qgx h).1]
 | .t ds,h=>by rw [rnD,rnDs_id ds h]
theorem rnDs_id {n:Nat}:∀l:List D,nrM.nrMs n l=true→rnD.rnDs (List.range n) l=l
 | [],_=>rfl
 | x::r,h=>by
  rw [nrM.nrMs,Bool.and_eq_true] at h
  rw [rnD.rnDs,rnD_id x h.1,rnDs_id r h.2]
end
theorem es_id {f:A→A} {es:List (Value×List A)} (h:∀e,e∈es→e.2.map f=e.2):es.map (fun e=>(e.1,e.2.map f))=es:=by
 induction es with
 | nil=>rfl
 | cons x r ih=>rw [List.map_cons,h x (by simp),ih fun e he=>h e (by simp [he])]
theorem qd2 {n:Nat}:∀{l:List Bx},nrS n l=true→∀y,y∈l→nrS n [y]=true
 | [],_,y,hy=>by simp at hy
 | z::r,h,y,hy=>by
  have hr:nrS n r=true∧nrS n [z]=true:=by
   cases z with
   | gone=>exact⟨h,rfl⟩
   | arr=>exact⟨h,rfl⟩
   | cell row=>rw [nrS,Bool.and_eq_true] at h;exact⟨h.2,by rw [nrS,h.1];rfl⟩
   | map k wd es=>rw [nrS,Bool.and_eq_true] at h;exact⟨h.2,by rw [nrS,h.1];rfl⟩
  rcases List.mem_cons.1 hy with rfl|hy
  ·exact hr.2
  ·exact qd2 hr.1 y hy
theorem qic {n:Nat} {b:Bx} (h:nrS n [b]=true):rnB (List.range n) b=b∧unB (List.range n) b=b∧(b.live=true→inB (List.range n) b=true):=by
 cases b with
 | gone=>exact⟨rfl,rfl,fun h=>by cases h⟩
 | arr=>exact⟨rfl,rfl,fun _=>rfl⟩
 | cell row =>
  rw [nrS,Bool.and_eq_true] at h
  obtain⟨h1,h2,h3⟩:=qgx h.1
  exact⟨by rw [rnB,h1],by rw [unB,h2],fun _=>h3⟩
 | map k wd es =>
  rw [nrS,Bool.and_eq_true,List.all_eq_true] at h
  exact⟨by rw [rnB,es_id fun e he=>(qgx (h.1 e he)).1],by rw [unB,es_id fun e he=>(qgx (h.1 e he)).2.1],fun _=>List.all_eq_true.2 fun e he=>(qgx (h.1 e he)).2.2⟩
theorem qg6 {f:Bx→Bx}:∀{l:List Bx},(∀a,a∈l→f a=a)→l.map f=l
 | [],_=>rfl
 | x::r,h=>by rw [List.map_cons,h x (by simp),qg6 fun a ha=>h a (by simp [ha])]
def nrI (n:Nat):D→Bool
 | .a x=>nrA n x
 | .r row=>row.all (nrA n)
 | _=>false
theorem qmq {n:Nat} {d:D} (h:nrI n d=true):unD (List.range n) d=d∧inD (List.range n) d=true:=by
 cases d with
 | a x=>exact⟨by rw [unD,(qgz x h).2.1],(qgz x h).2.2⟩
 | r row=>exact⟨by rw [unD,(qgx h).2.1],(qgx h).2.2⟩
 | _=>cases h
theorem qmv {n k:Nat}:rnX (List.range n) n k=List.range (n+k):=by
 unfold rnX;rw [List.range_eq_range',List.range_eq_range']
 rw [show List.range' n k=List.range' (0+n) k by rw [Nat.zero_add],List.range'_append_1]
theorem mrg_id {st st1:List Bx} (h:st.length≤st1.length):mrg (List.range st.length) st st1=st1:=by
 have hl:(mrg (List.range st.length) st st1).length=st1.length:=by rw [qjk _ _ _ (by rw [qb5];exact h),qb5];omega
 refine List.ext_getElem? fun q=>?_
 by_cases hq:q<st.length
 ·exact qm9 _ _ _ q q List.nodup_range (fun i hi=>by simpa using hi) (by rw [qb5];exact h) (List.getElem?_range hq)
 ·by_cases hq1:q<st1.length
  ·have:=qjj (List.range st.length) st st1 q (by rw [qb5];exact h) (by rw [qb5];omega)
   rw [qb5,show st.length+(q-st.length)=q by omega] at this
   exact this
  ·rw [List.getElem?_eq_none (by omega),List.getElem?_eq_none (by omega)]
section
variable {P:Program} {C:Cx P} {ops:Array Oper} {r:List Oper} {e:Nat→D} {st st1:List Bx} {dst:Option Nat} {ty:TypeId} {pos:String} {after:Array Edge} {K:(Nat→D)→List Bx→Prop} {f:FuncId} {y:Operand} {xs:List Operand} {tys:Array TypeId} {vs:List D} {d g:D} {caps:List A}
theorem RS.callvI (hy:evO e y=.a (.fn f caps)) (hx:xs.map (evO e)++caps.map D.a=vs) (hlv:st.all Bx.live=true) (hnr:nrS st.length st=true) (hvn:vs.all (nrI st.length)=true) (hg:e 1000000=g) (hp:DM P f vs st d st1) (hne:0<st1.length) (h:RS C ops r (upd (putE e dst d) 1000000 g) st1 K):RS C ops (⟨dst,.call ⟨.value y,⟨xs⟩,tys⟩,ty,pos,after,none⟩::r) e st K:=by
 have hle:=hp.le
 rw [List.all_eq_true] at hlv hvn
 refine RS.callvM (List.range st.length) (bs:=st) (ds:=vs) (st0:=st) (d:=d) (st1:=st1) hy hx ?_ ?_ ?_ ?_ hg hp hne ?_ ?_ h
 ·refine List.ext_getElem? fun q=>?_
  rw [List.getElem?_map]
  by_cases hq:q<st.length
  ·rw [List.getElem?_range hq,Option.map_some,List.getD_eq_getElem?_getD,List.getElem?_eq_getElem hq];rfl
  ·rw [List.getElem?_eq_none (by rw [qb5];omega),List.getElem?_eq_none (by omega)];rfl
 ·simp only [qbz,Bool.and_eq_true,decide_eq_true_iff]
  exact⟨⟨List.nodup_range,List.all_eq_true.2 fun b hb=>(qic (qd2 hnr b hb)).2.2 (hlv b hb)⟩,List.all_eq_true.2 fun d hd=>(qmq (hvn d hd)).2⟩
 ·refine Eq.trans (List.map_congr_left fun d hd=>(qmq (hvn d hd)).1) (List.map_id' vs)
 ·exact qg6 fun b hb=>(qic (qd2 hnr b hb)).2.1
 ·rw [qb5,qmv,show st.length+(st1.length-st.length)=st1.length by omega]
  exact rnD_id _ hp.nd
 ·rw [qb5,qmv,show st.length+(st1.length-st.length)=st1.length by omega]
  rw [qg6 fun b hb=>(qic (qd2 hp.nr b hb)).1]
  exact mrg_id hle
end
/-! ### A contract in a greater frame -/
theorem DM.lift {P:Program} {f:FuncId} {vs ds:List D} {bs st st0 st1 st':List Bx} {d d':D} (σ:List Nat) (hp:DM P f ds st0 d st1) (hs:σ.map (fun i=>st.getD i .gone)=bs:=by (simp only [go_sem,simprocAttr])<;>rfl) (hin:qbz σ bs vs=true:=by (simp only [go_sem,simprocAttr])<;>rfl) (hu:vs.map (unD σ)=ds:=by (simp only [go_sem,simprocAttr])<;>rfl) (hv:bs.map (unB σ)=st0:=by (simp only [go_sem,simprocAttr])<;>rfl) (hne:0<st1.length:=by exact Nat.zero_lt_succ _)
  (hd:rnD (rnX σ st.length (st1.length-σ.length)) d=d':=by (simp only [go_sem,simprocAttr])<;>rfl) (hst:mrg σ st (st1.map (rnB (rnX σ st.length (st1.length-σ.length))))=st':=by (simp only [go_sem,simprocAttr])<;>rfl) (hnr:nrS st'.length st'=true:=by (simp only [go_sem,simprocAttr])<;>rfl) (hnd:nrM st'.length d'=true:=by (simp only [go_sem,simprocAttr])<;>rfl) (hle:st.length≤st'.length:=by exact Nat.le_of_ble_eq_true rfl):DM P f vs st d' st':=by
 refine⟨hnr,hnd,hle,hp.go.1,fun V Nx us hVs hok hsep hnx henv hul hur=>?_⟩
 subst hVs
 have:=callM (C:=(⟨V,fun _=>False,True,none,.none P,Nx⟩:Cx P)) (Nx:=Nx) hs hin hu hv hp hne hd hst hok hsep henv hul hur
 refine this.mono ?_
 rintro en w'' ⟨v,rfl,d1,s1,g1,x1,bl1,⟨rfl,rfl,rfl⟩,h2,h3,h4⟩
 exact⟨v,rfl,_,_,_,x1,bl1,⟨rfl,[],(List.append_nil _).symm⟩,h2,h3,h4⟩
/-! ### Methods that are bound -/
theorem fmA_inv {V:Vw} {f:FuncId} {caps:List A} {u:Value} (h:RepD V (.a (.fm f caps)) u):∃vs:List Value,u=.func (.func f) vs.toArray #[]∧vs.length=caps.length∧∀(i:Nat) (y:A),caps[i]? = some y→RepA V y (vs.getD i Go.undef):=by
 cases h with
 | a _ _ h=>cases h with
  | c _ _ h=>cases h
  | fm _ _ vs hl h=>exact⟨vs,rfl,hl,h⟩
theorem OpJ.makeFuncM {P:Program} {st:List Bx} {e:Nat→D} {o:Oper} {f:FuncId} {caps:Array Operand} {xs:List A} (ho:o.op=.makeFunc (.func f) caps #[]) (hx:caps.toList.map (evO e)=xs.map D.a):OpJ P st e o (.a (.fm f xs)):=by
 intro ρ V _ _ hu
 rw [ho] at hu
 have hlen:caps.toList.length=xs.length:=by have:=congrArg List.length hx;simpa using this
 have hrun:(execOp ρ o).run P V.w=.ok (.value (.func (.func f) (caps.toList.map ρ).toArray #[])) V.w:=by
  simp only [execOp,ho,Instr.makeFunc,Sem.run_bind,Sem.run_pure,Result.andThen_ok]
  rw [←Array.toList_map,Array.toArray_toList,Array.map_empty]
 rw [hrun]
 refine .val (.a _ _ (.fm f xs _ (by simpa using hlen) fun i y hy=>?_))
 have hi:i<caps.toList.length:=by have:=(List.getElem?_eq_some_iff.1 hy).1;omega
 have h1:(caps.toList.map (evO e))[i]? = some (.a y):=by rw [hx,List.getElem?_map,hy];rfl
 rw [List.getElem?_map,List.getElem?_eq_getElem hi] at h1
 simp only [Option.map_some,Option.some.injEq] at h1
 have:=hu caps.toList[i] (by have:=List.getElem_mem hi;simp only [qad,Op.operands];simp)
 rw [h1] at this
 rw [List.getD_eq_getElem?_getD,List.getElem?_map,List.getElem?_eq_getElem hi]
 cases this with
 | a _ _ h=>exact h
section
variable {P:Program} {C:Cx P} {ops:Array Oper} {r:List Oper} {e:Nat→D} {st:List Bx} {dst:Option Nat} {ty:TypeId} {pos:String} {after:Array Edge} {K:(Nat→D)→List Bx→Prop} {f:FuncId} {y:Operand} {xs:List Operand} {tys:Array TypeId} {vs ds:List D} {σ:List Nat} {bs bs' st0 st1 st':List Bx} {d d' g:D} {guard:Option (Nat×Bool)} {l:List A} {m:Nat}
@[go_sem] theorem dCells_fm:qba (.a (.fm f l))=some [.fm f l]:=rfl
@[go_sem] theorem rnA_fm:rnA σ (.fm f l)=.fm f (rnA.rnL σ l):=rfl
@[go_sem] theorem unA_fm:unA σ (.fm f l)=.fm f (unA.unL σ l):=rfl
@[go_sem] theorem inA_fm:inA σ (.fm f l)=inA.inL σ l:=rfl
@[go_sem] theorem nrA_fm:nrA m (.fm f l)=nrA.nrL m l:=rfl
@[go_sem] theorem evQ_mkFm {c:Operand} {cs:List Operand} {z:Array Operand}:evQ P st e ⟨dst,.makeFunc (.func f) ⟨c::cs⟩ z,ty,pos,after,guard⟩=none:=rfl
@[go_sem] theorem evG_mkF {c:Array Operand} {z:Array Operand}:evG P st e ⟨dst,.makeFunc (.func f) c z,ty,pos,after,guard⟩=none:=rfl
theorem RS.mb {cs:List Operand} {xs:List A} (h:RS C ops r (putE e dst (.a (.fm f xs))) st K) (hx:capD (cs.map (evO e))=some xs:=by (simp only [go_sem,simprocAttr,fx])<;>rfl):RS C ops (⟨dst,.makeFunc (.func f) ⟨cs⟩ ⟨[]⟩,ty,pos,after,guard⟩::r) e st K :=
 .inl ⟨_,st,.inr ⟨rfl,.of (OpJ.makeFuncM rfl (qfh hx))⟩,h⟩
theorem WS.callbM {caps:List A} (hy:evO e y=.a (.fm f caps)) (hx:caps.map D.a++xs.map (evO e)=vs) (hs:σ.map (fun i=>st.getD i .gone)=bs) (hin:qbz σ bs vs=true) (hu:vs.map (unD σ)=ds) (hv:bs.map (unB σ)=st0) (hg:e 1000000=g) (hp:DM P f ds st0 d st1) (hne:0<st1.length) (hd:rnD (rnX σ st.length (st1.length-σ.length)) d=d')
  (hst:mrg σ st (st1.map (rnB (rnX σ st.length (st1.length-σ.length))))=st'):WS C g st e ⟨dst,.call ⟨.value y,⟨xs⟩,tys⟩,ty,pos,after,none⟩ d' st':=by
 refine⟨rfl,hg,?_⟩
 intro ρ V Nx hVs hok hsep hnx henv hur
 subst hVs
 rw [hg] at henv
 obtain⟨us,hf,hul,hvr⟩:=fmA_inv (f:=f) (caps:=caps) (by have:=hur y (by simp [qad,Op.operands,Call.operands]);rwa [hy] at this)
 have hrun:(execOp ρ ⟨dst,.call ⟨.value y,⟨xs⟩,tys⟩,ty,pos,after,none⟩).run P V.w=.ok (.enter f (us.toArray++(⟨xs⟩:Array Operand).map ρ)) V.w:=by
  simp only [execOp,resolve,hf,Deferred.ofValue,Sem.run_bind,Sem.run_pure,Result.andThen_ok,invoke,Array.append_empty,hp.go.1]
 rw [hrun]
 refine⟨rfl,?_⟩
 have harr:(us++xs.map ρ).toArray=us.toArray++(⟨xs⟩:Array Operand).map ρ:=by apply Array.ext';simp
 rw [←harr]
 refine Go.Proofs.YthkojpnjdpbcgaaGreatDoor.callM hs hin hu hv hp hne hd hst hok hsep henv (by rw [←hx];simp [hul]) fun k d2 hk=>?_
 rw [←hx,List.getElem?_append] at hk
 rw [List.getD_eq_getElem?_getD,List.getElem?_append]
 simp only [List.length_map] at hk ⊢
 rw [hul]
 split at hk
 ·rename_i hlt
  rw [if_pos hlt]
  rw [List.getElem?_map,Option.map_eq_some_iff] at hk
  obtain⟨z,hz,rfl⟩:=hk
  have:=hvr _ z hz
  rw [List.getD_eq_getElem?_getD] at this
  exact .a _ _ this
 ·rename_i hlt
  rw [if_neg hlt]
  rw [List.getElem?_map,Option.map_eq_some_iff] at hk
  obtain⟨z,hz,rfl⟩:=hk
  have:=hur z (by have:=lm4 hz;simp [qad,Op.operands,Call.operands];right;simpa using this)
  rw [List.getElem?_map,hz];exact this
theorem RS.callbM {caps:List A} (σ:List Nat) (hy:evO e y=.a (.fm f caps)) (hx:caps.map D.a++xs.map (evO e)=vs) (hs:σ.map (fun i=>st.getD i .gone)=bs) (hin:qbz σ bs vs=true) (hu:vs.map (unD σ)=ds) (hv:bs.map (unB σ)=st0) (hg:e 1000000=g) (hp:DM P f ds st0 d st1) (hne:0<st1.length) (hd:rnD (rnX σ st.length (st1.length-σ.length)) d=d')
  (hst:mrg σ st (st1.map (rnB (rnX σ st.length (st1.length-σ.length))))=st') (h:RS C ops r (upd (putE e dst d') 1000000 g) st' K):RS C ops (⟨dst,.call ⟨.value y,⟨xs⟩,tys⟩,ty,pos,after,none⟩::r) e st K :=
 .inr ⟨trivial,_,(WS.callbM hy hx hs hin hu hv hg hp hne hd hst).2.2,fun d1 st1 g1 ⟨h1,h2,h3⟩=>by subst h1;subst h2;subst h3;exact h⟩
end
def SWL:List Bx→List (Nat×List Bx)→(Nat→Bool)→List Bx
 | s,[],_=>s
 | s,(w,s')::r,done=>bif done w then SWL s' r done else s
def wrSt:List Bx→List (Nat×List Bx)→Nat→Option (List Bx×List Bx)
 | _,[],_=>none
 | s,(w,s')::r,k=>if k=w then some (s,s') else wrSt s' r k
def stAt:List Bx→List (Nat×List Bx)→Nat→List Bx
 | s,[],_=>s
 | s,(w,s')::r,k=>if w<k then stAt s' r k else s
def qa9 (bs:List Nat) (k i:Nat):Bool:=(bs.getD k 0).testBit i
def chnW (bs:List Nat):List Nat→Bool
 | []=>true
 | [_]=>true
 | a::b::r=>(decide (a<b)&&qa9 bs b a)&&chnW bs (b::r)
theorem qne {ops:Array Oper} {e e':Nat→D} (p:Nat→Prop) (he:∀j t,p j→qbr ops j=some t→e t=e' t) (hp:∀j j2 b2,p j→gd ops j=some (j2,b2)→p j2):∀(f:Nat) (g:Option (Nat×Bool)),(∀j b,g=some (j,b)→p j)→gOk ops e f g→gOk ops e' f g
 | 0,none,_,_=>by unfold gOk;trivial
 | _+1,none,_,_=>by unfold gOk;trivial
 | 0,some _,_,hg=>by unfold gOk at hg;exact hg.elim
 | f+1,some (j,b),h,hg=>by
  unfold gOk at hg ⊢
  have hj:=h j b rfl
  refine⟨?_,qne p he hp f _ (fun j2 b2 h2=>hp j j2 b2 hj h2) hg.2⟩
  have h1:=hg.1
  rw [Option.map_eq_some_iff] at h1 ⊢
  obtain⟨t,ht,hv⟩:=h1
  exact⟨t,ht,(he j t hj ht)▸hv⟩
def RdL (P:Program) (ops:Array Oper) (bs:List Nat) (k:Nat) (e:Nat→D) (o:Oper) (d:D):List Bx→List (Nat×List Bx)→Prop
 | s,[]=>qa8 ops e o (OpJ P s e o d)
 | s,(w,s')::r=>(qa9 bs k w=true∨qa8 ops e o (OpJ P s e o d))∧(qa9 bs w k=true∨RdL P ops bs k e o d s' r)
def RWL1 {P:Program} (C:Cx P) (g:D) (ops:Array Oper) (bs:List Nat) (s0:List Bx) (ws:List (Nat×List Bx)) (k:Nat) (e:Nat→D) (o:Oper) (d:D):Prop :=
 match wrSt s0 ws k with
 | some (s,s')=>WS C g s e o d s'∨(o.guard=none∧OpG P s e o d s')∨(gOk ops e 8 o.guard∧OpX C s e o fun d1 s1 g1=>d1=d∧s1=s'∧g1=g)
 | none=>RdL P ops bs k e o d s0 ws
def RWL {P:Program} (C:Cx P) (g:D) (ops:Array Oper) (bs:List Nat) (s0:List Bx) (ws:List (Nat×List Bx)):List Oper→Nat→(Nat→D)→((Nat→D)→Prop)→Prop
 | [],_,e,K=>K e
 | o::r,k,e,K=>∃d,RWL1 C g ops bs s0 ws k e o d∧RWL C g ops bs s0 ws r (k+1) (putE e o.dst d) K
theorem RWL.data {P:Program} {C:Cx P} {g:D} {ops:Array Oper} {bs:List Nat} {s0:List Bx} {ws:List (Nat×List Bx)} {K:(Nat→D)→Prop}:∀{l:List Oper} {k0:Nat} {e:Nat→D},RWL C g ops bs s0 ws l k0 e K →
  ∃ds:List D,ds.length=l.length∧(∀(k:Nat) (o:Oper),l[k]? = some o→RWL1 C g ops bs s0 ws (k0+k) (eat l ds e k) o (ds.getD k .junk))∧K (eat l ds e l.length)
 | [],k0,e,h=>⟨[],rfl,fun k o h=>by simp at h,h⟩
 | o::l,k0,e,h=>by
  obtain⟨d,h1,h2⟩:=h
  obtain⟨ds,h3,h4,h5⟩:=RWL.data h2
  refine⟨d::ds,by simp [h3],fun k o' ho=>?_,h5⟩
  cases k with
  | zero =>
   simp only [List.getElem?_cons_zero,Option.some.injEq] at ho
   subst ho;exact h1
  | succ k =>
   have:=h4 k o' (by simpa using ho)
   rw [show k0+1+k=k0+(k+1) by omega] at this
   exact this
theorem qgk {ops:Array Oper} {done:Nat→Bool} (hc:Cl ops done) {k i:Nat} (hk:∀i,dep ops k i=true→done i=true) (hb:qa9 (qdg ops.toList []) k i=true):done i=true :=
 qdf hc ops.toList [] (fun j=>by simp) (fun k h=>by simp at h) k hk i hb
theorem RdL.at {P:Program} {ops:Array Oper} {done:Nat→Bool} {k:Nat} {e:Nat→D} {o:Oper} {d:D} (hc:Cl ops done) (hk:∀i,dep ops k i=true→done i=true) (hdk:done k=false):∀(ws:List (Nat×List Bx)) (s:List Bx),RdL P ops (qdg ops.toList []) k e o d s ws→qa8 ops e o (OpJ P (SWL s ws done) e o d)
 | [],s,h=>h
 | (w,s')::r,s,h=>by
  unfold SWL
  cases hw:done w with
  | true =>
   rw [cond_true]
   rcases h.2 with h2|h2
   ·have:=qgk hc (k:=w) (i:=k) (fun i hi=>hc w i hw hi) h2
    rw [hdk] at this;cases this
   ·exact RdL.at hc hk hdk r s' h2
  | false =>
   rw [cond_false]
   rcases h.1 with h2|h2
   ·have:=qgk hc hk h2
    rw [hw] at this;cases this
   ·exact h2
theorem SWL_rd {done:Nat→Bool} {k:Nat}:∀(ws:List (Nat×List Bx)) (s0:List Bx),wrSt s0 ws k=none→SWL s0 ws (upB done k)=SWL s0 ws done
 | [],_,_=>rfl
 | (w,s1)::r,s0,h=>by
  unfold wrSt at h
  split at h
  ·cases h
  ·rename_i hk
   unfold SWL
   rw [qe2 (Ne.symm hk),SWL_rd r s1 h]
theorem OpG.congr {P:Program} {st st':List Bx} {e e':Nat→D} {o:Oper} {d:D} (h:OpG P st e o d st') (he:∀t,.tmp t∈o.op.operands→e t=e' t):OpG P st e' o d st':=by
 intro ρ V hst hok hu
 refine h ρ V hst hok fun x hx=>?_
 have hmem:x∈o.op.operands:=by
  cases hop:o.op with
  | pick c p q =>
   rw [hop] at hx
   simp only [qad] at hx
   split at hx<;>simp only [List.mem_cons,List.not_mem_nil,or_false] at hx<;>simp only [Op.operands,List.mem_toArray,List.mem_cons,List.not_mem_nil,or_false]
   ·rcases hx with h|h<;>simp [h]
   ·rcases hx with h|h<;>simp [h]
   ·simp [hx]
  | _=>rw [hop] at hx;simp only [qad] at hx;simpa using hx
 have:=hu x hx
 cases x with
 | tmp t=>show RepD V (e t) _;rw [he t hmem];exact this
 | _=>exact this
section
variable {P:Program} {ops:Array Oper} {n m:Nat} {Q:Exit→Act→World→Prop}
end
theorem SWL_no:∀(ws:List (Nat×List Bx)) (s:List Bx),SWL s ws (fun _=>false)=s
 | [],_=>rfl
 | (_,_)::_,_=>rfl
section
variable {P:Program} {C:Cx P} {g:D} {ops:Array Oper} {bs:List Nat} {s0:List Bx} {ws:List (Nat×List Bx)} {k:Nat} {r:List Oper} {e:Nat→D} {o:Oper} {d:D} {K:(Nat→D)→Prop}
def freeOp:Op→Bool
 | .move _|.assign _|.pick ..|.binOp ..|.unOp ..|.fieldAddr ..|.extract ..|.nilCheck _|.field ..|.makeFunc ..|.build ..=>true
 | _=>false
theorem evQ_free (hf:freeOp o.op=true) (st st':List Bx):evQ P st e o=evQ P st' e o:=by
 unfold evQ
 cases ho:o.op<;>rw [ho] at hf<;>first|rfl|(cases hf;done)|(split<;>first|rfl|simp_all)
theorem RdL.all (h:∀s:List Bx,qa8 ops e o (OpJ P s e o d)):∀(ws:List (Nat×List Bx)) (s:List Bx),RdL P ops bs k e o d s ws
 | [],s=>h s
 | (w,s')::r,s=>⟨.inr (h s),.inr (RdL.all h r s')⟩
theorem RWL.rdF (hf:freeOp o.op=true) (h0:evQ P s0 e o=some d) (hn:wrSt s0 ws k=none) (h:RWL C g ops bs s0 ws r (k+1) (putE e o.dst d) K):RWL C g ops bs s0 ws (o::r) k e K :=
 ⟨d,by unfold RWL1;rw [hn];exact RdL.all (fun s=>.of (qc3 ((evQ_free hf s s0).trans h0))) ws s0,h⟩
def RdO (P:Program) (bs:List Nat) (k:Nat) (e:Nat→D) (o:Oper) (d:D):List Bx→List (Nat×List Bx)→Prop
 | s,[]=>evQ P s e o=some d
 | s,(w,s')::r=>(qa9 bs k w=true∨evQ P s e o=some d)∧(qa9 bs w k=true∨RdO P bs k e o d s' r)
theorem RdO.toL:∀{ws:List (Nat×List Bx)} {s:List Bx},RdO P bs k e o d s ws→RdL P ops bs k e o d s ws
 | [],s,h=>.of (qc3 h)
 | (w,s')::r,s,h=>⟨h.1.imp id fun h=>.of (qc3 h),h.2.imp id fun h=>h.toL⟩
theorem RWL.rd (d:D) (hn:wrSt s0 ws k=none) (h0:evQ P (stAt s0 ws k) e o=some d) (h:RWL C g ops bs s0 ws r (k+1) (putE e o.dst d) K) (hl:RdO P bs k e o d s0 ws):RWL C g ops bs s0 ws (o::r) k e K :=
 ⟨d,by unfold RWL1;rw [hn];exact hl.toL,h⟩
theorem RWL.rdA (hn:wrSt s0 ws k=none) (hall:∀s:List Bx,qa8 ops e o (OpJ P s e o d)) (h:RWL C g ops bs s0 ws r (k+1) (putE e o.dst d) K):RWL C g ops bs s0 ws (o::r) k e K :=
 ⟨d,by unfold RWL1;rw [hn];exact RdL.all hall ws s0,h⟩
theorem RWL.wr {s s':List Bx} (hn:wrSt s0 ws k=some (s,s')) (hw:WS C g s e o d s') (h:RWL C g ops bs s0 ws r (k+1) (putE e o.dst d) K):RWL C g ops bs s0 ws (o::r) k e K :=
 ⟨d,by unfold RWL1;rw [hn];exact .inl hw,h⟩
theorem RWL.wg {s s':List Bx} (hn:wrSt s0 ws k=some (s,s')) (hgu:o.guard=none) (hw:OpG P s e o d s') (h:RWL C g ops bs s0 ws r (k+1) (putE e o.dst d) K):RWL C g ops bs s0 ws (o::r) k e K :=
 ⟨d,by unfold RWL1;rw [hn];exact .inr (.inl ⟨hgu,hw⟩),h⟩
end
def chnX (bs:List Nat):List Nat→Bool
 | []=>true
 | [_]=>true
 | a::b::r=>(a != b&&qa9 bs b a)&&chnX bs (b::r)
theorem ql8 {bs:List Nat}:∀(l:List Nat),chnW bs l=true→chnX bs l=true
 | [],_=>rfl
 | [_],_=>rfl
 | a::b::r,h=>by
  simp only [chnW,chnX,Bool.and_eq_true,decide_eq_true_iff,bne_iff_ne] at h ⊢
  exact⟨⟨Nat.ne_of_lt h.1.1,h.1.2⟩,ql8 (b::r) h.2⟩
theorem qmj {bs:List Nat} {done:Nat→Bool} {k:Nat} (hb:∀a b,qa9 bs b a=true→(done b=true→done a=true)∧(b=k→done a=true)):∀(r:List (Nat×List Bx)) (w:Nat) (s:List Bx) (q:List Bx×List Bx),chnX bs (w::r.map (·.1))=true→wrSt s r k=some q→done w=true
 | [],w,s,q,_,h=>by cases h
 | (w2,s2)::r,w,s,q,hch,h=>by
  simp only [List.map_cons,chnX,Bool.and_eq_true] at hch
  unfold wrSt at h
  split at h
  ·rename_i hk;exact (hb w w2 hch.1.2).2 hk.symm
  ·exact (hb w w2 hch.1.2).1 (qmj hb r w2 s2 q hch.2 h)
theorem chn_tailX {bs:List Nat} {w:Nat} {l:List Nat} (h:chnX bs (w::l)=true):chnX bs l=true:=by
 cases l with
 | nil=>rfl
 | cons b r=>simp only [chnX,Bool.and_eq_true] at h;exact h.2
theorem SWL_wrX {bs:List Nat} {done:Nat→Bool} {k:Nat} (hb:∀a b,qa9 bs b a=true→(done b=true→done a=true)∧(b=k→done a=true)) (hdk:done k=false):∀(ws:List (Nat×List Bx)) (s0:List Bx) (s s':List Bx),chnX bs (ws.map (·.1))=true→wrSt s0 ws k=some (s,s')→SWL s0 ws done=s∧SWL s0 ws (upB done k)=s'
 | [],_,_,_,_,h=>by cases h
 | (w,s1)::r,s0,s,s',hch,h=>by
  have h0:=h
  unfold wrSt at h
  split at h
  ·rename_i hk
   subst hk
   injection h with h;injection h with h1 h2;subst h1;subst h2
   refine⟨by unfold SWL;rw [hdk,cond_false],?_⟩
   unfold SWL
   rw [show upB done k k=true by simp [upB],cond_true]
   cases r with
   | nil=>rfl
   | cons p r =>
    obtain⟨w2,s2⟩:=p
    simp only [List.map_cons,chnX,Bool.and_eq_true,bne_iff_ne] at hch
    have:done w2=false:=by
     cases h:done w2 with
     | false=>rfl
     | true=>rw [(hb k w2 hch.1.2).1 h] at hdk;cases hdk
    unfold SWL
    rw [qe2 (Ne.symm hch.1.1),this,cond_false]
  ·rename_i hk
   have hw:=qmj hb r w s1 (s,s') hch h
   obtain⟨h1,h2⟩:=SWL_wrX hb hdk r s1 s s' (chn_tailX hch) h
   refine⟨by unfold SWL;rw [hw,cond_true];exact h1,?_⟩
   unfold SWL
   rw [qe2 (Ne.symm hk),hw,cond_true];exact h2
theorem RdL.atX {P:Program} {ops:Array Oper} {bs:List Nat} {done:Nat→Bool} {k:Nat} {e:Nat→D} {o:Oper} {d:D} (hb:∀a b,qa9 bs b a=true→(done b=true→done a=true)∧(b=k→done a=true)) (hdk:done k=false):∀(ws:List (Nat×List Bx)) (s:List Bx),RdL P ops bs k e o d s ws→qa8 ops e o (OpJ P (SWL s ws done) e o d)
 | [],s,h=>h
 | (w,s')::r,s,h=>by
  unfold SWL
  cases hw:done w with
  | true =>
   rw [cond_true]
   rcases h.2 with h2|h2
   ·have:=(hb k w h2).1 hw
    rw [hdk] at this;cases this
   ·exact RdL.atX hb hdk r s' h2
  | false =>
   rw [cond_false]
   rcases h.1 with h2|h2
   ·have:=(hb w k h2).2 rfl
    rw [hw] at this;cases this
   ·exact h2
section
variable {P:Program} {ops:Array Oper} {n:Nat} {Q:Exit→Act→World→Prop}
theorem dlStep {C:Cx P} {Nx:Nat→Prop} {s0:List Bx} {bs:List Nat} {ws:List (Nat×List Bx)} {ds:List D} {e0:Nat→D} {g:D} {listed:Array Bool} {V:Vw} {a:Act} {k:Nat} {X:Act→World→Prop} (hch:chnX bs (ws.map (·.1))=true) (hg:g=e0 1000000) (hD:qcs ops n ops.size) (hds:ds.length=ops.size)
  (hJ:∀(k:Nat) (o:Oper),ops[k]? = some o→RWL1 C g ops bs s0 ws k (eat ops.toList ds e0 k) o (ds.getD k .junk)) (hls:listed.size=ops.size) (hcl:Cl ops (fun i=>listed.getD i false)) (hk:k∈Region.ready .any ops listed)
  (hbb:∀a b,qa9 bs b a=true→(listed.getD b false=true→listed.getD a false=true)∧(b=k→listed.getD a false=true)) (hm:RM ops (fun i=>listed.getD i false) V a.tmps n (eD ops ds e0 fun i=>listed.getD i false)) (hok:Ok V) (hsep:∀b,b∈V.bl→¬V.x b) (hnx:NxOk Nx V) (hE:EnvE C.E C.on Nx (e0 1000000) V) (hst:V.st=SWL s0 ws (fun i=>listed.getD i false))
  (fin:∀(a':Act) (w':World) (x':Nat→Prop) (bl':List Nat),qbj C.on Nx V ⟨w',x',bl',SWL s0 ws (upB (fun i=>listed.getD i false) k)⟩→RM ops (upB (fun i=>listed.getD i false) k) ⟨w',x',bl',SWL s0 ws (upB (fun i=>listed.getD i false) k)⟩ a'.tmps n (eD ops ds e0 (upB (fun i=>listed.getD i false) k))→EnvE C.E C.on Nx (e0 1000000) ⟨w',x',bl',SWL s0 ws (upB (fun i=>listed.getD i false) k)⟩→a'.defers=a.defers→X a' w'):wpOpIn (FR C.ro) 0 P ops Q k X a V.w:=by
 have hlen:ops.toList.length=ops.size:=by simp
 have hget:∀j,j<ops.toList.length→ops.toList[j]? = ops[j]?:=fun j _=>Array.getElem?_toList ..
 obtain⟨h1,h2,h3⟩:=qbn hk
 have h1:listed.getD k false=false:=by rw [qa2 (by omega)] at h1;exact h1
 have ho:ops[k]? = some ops[k]:=Array.getElem?_eq_getElem h2
 have hagree:∀t,.tmp t∈ops[k].op.operands→∀i,wrt ops t=some i→(listed.getD i false=true↔i<k):=fun t ht i hw=>by
  obtain⟨g1,g2⟩:=hD.opd k _ t i h2 ho ht hw
  refine⟨fun hdi=>?_,fun hlt=>h3 i (g1 hlt)⟩
  rcases Nat.lt_trichotomy i k with h|h|h
  ·exact h
  ·subst h;rw [h1] at hdi;cases hdi
  ·have h9:listed.getD k false=true:=hcl i k hdi (g2 h)
   rw [h1] at h9;cases h9
 have hgagree:∀j b t,ops[k].guard=some (j,b)→qbr ops j=some t→∀i,wrt ops t=some i→(listed.getD i false=true↔i<k):=fun j b t hg hs i hw=>by
  have hjk:=hD.seq.glt k _ j b ho hg
  have hij:i=j:=by
   unfold qbr at hs
   cases hoj:ops[j]? with
   | none=>simp [hoj] at hs
   | some oj =>
    simp only [hoj,Option.bind_some] at hs
    have:=qdn hD.seq.one hoj hs
    rw [hw] at this;injection this
  subst hij
  have:=h3 i (hD.grd k _ i b h2 ho hg)
  simp only [this,true_iff];exact hjk
 have hcg:∀(i j:Nat) (b:Bool),listed.getD i false=true→gd ops i=some (j,b)→listed.getD j false=true:=fun i j b hi hg=>by
  obtain⟨oi,g1,g2⟩:=ql3 hg
  have hi2:=(Array.getElem?_eq_some_iff.1 g1).1
  exact hcl i j hi (hD.grd i oi j b hi2 g1 g2)
 have henv:putE (eD ops ds e0 fun i=>listed.getD i false) ops[k].dst (ds.getD k .junk)=eD ops ds e0 (upB (fun i=>listed.getD i false) k):=by
  funext t
  cases hd:ops[k].dst with
  | none =>
   simp only [putE]
   unfold eD
   cases hw:wrt ops t with
   | none=>rfl
   | some i =>
    have hik:i≠k:=fun h=>by subst h;obtain⟨o',g1,g2⟩:=qa5 hw;rw [ho] at g1;injection g1 with g1;rw [←g1,hd] at g2;cases g2
    simp only [qe2 hik]
  | some t' =>
   simp only [putE,upd]
   by_cases htt:t=t'
   ·subst htt
    rw [if_pos rfl]
    unfold eD
    rw [qdn hD.seq.one ho hd]
    simp [upB]
   ·rw [if_neg htt]
    unfold eD
    cases hw:wrt ops t with
    | none=>rfl
    | some i =>
     have hik:i≠k:=fun h=>by subst h;obtain⟨o',g1,g2⟩:=qa5 hw;rw [ho] at g1;injection g1 with g1;rw [←g1,hd] at g2;injection g2 with g2;exact htt g2.symm
     simp only [qe2 hik]
 have fin2:∀(a':Act) (w':World) (x':Nat→Prop) (bl':List Nat) (st':List Bx),qbj C.on Nx V ⟨w',x',bl',st'⟩→st'=SWL s0 ws (upB (fun i=>listed.getD i false) k)→RM ops (upB (fun i=>listed.getD i false) k) ⟨w',x',bl',st'⟩ a'.tmps n (putE (eD ops ds e0 fun i=>listed.getD i false) ops[k].dst (ds.getD k .junk))→EnvE C.E C.on Nx (e0 1000000) ⟨w',x',bl',st'⟩→a'.defers=a.defers→X a' w':=by
  intro a' w' x' bl' st' hX hs' hm' hE' hdef
  subst hs'
  rw [henv] at hm'
  exact fin a' w' x' bl' hX hm' hE' hdef
 have heq:∀t,.tmp t∈ops[k].op.operands→eat ops.toList ds e0 k t=eD ops ds e0 (fun i=>listed.getD i false) t:=fun t ht=>(qdh hD.seq.one hget (by omega) (by omega) (hagree t ht)).symm
 have hgk:eat ops.toList ds e0 k 1000000=e0 1000000:=qdc _ _ _ _ _ fun i o hi ho=>hD.seq.ng i o (by rw [←hget i (by omega)];exact ho)
 have hgD:eD ops ds e0 (fun i=>listed.getD i false) 1000000=e0 1000000:=by
  unfold eD
  cases hw:wrt ops 1000000 with
  | none=>rfl
  | some i =>
   obtain⟨o,q1,q2⟩:=qa5 hw
   exact absurd q2 (hD.seq.ng i o q1)
 have hJk:=hJ k _ ho
 unfold RWL1 at hJk
 cases hwr:wrSt s0 ws k with
 | none =>
  rw [hwr] at hJk
  have hr:qa8 ops (eat ops.toList ds e0 k) ops[k] (OpJ P V.st (eat ops.toList ds e0 k) ops[k] (ds.getD k .junk)):=by
   rw [hst];exact RdL.atX hbb h1 ws s0 hJk
  have hstep:DStep P ops V.st (eD ops ds e0 fun i=>listed.getD i false) ops[k] (ds.getD k .junk) V.st:=.inr ⟨rfl,hr.congr (fun hp=>hp.congr heq) fun j b t hg hs=>(qdh hD.seq.one hget (by omega) (by omega) (hgagree j b t hg hs)).symm⟩
  refine qen hD.seq.one ho hm hok h1 hcg (fun j b hg=>h3 j (hD.grd k _ j b h2 ho hg)) (hD.seq.use k _ ho) (fun t i ht hw=>hagree t ht i hw) (fun t ht=>hD.seq.tmp k _ t ho ht) (fun j b t hg ht=>hD.seq.gs k _ j b t ho hg ht) (hD.seq.nd k _ ho) hstep ?_
  intro a' w' bl' hstep' hm' hdef
  refine fin2 a' w' V.x bl' V.st (hstep'.toX hok) ?_ hm' (hE.step hstep' hok hsep fun _ h=>h) hdef
  rw [hst,SWL_rd ws s0 hwr]
 | some q =>
  obtain⟨s,s'⟩:=q
  rw [hwr] at hJk
  obtain⟨hs1,hs2⟩:=SWL_wrX hbb h1 ws s0 s s' hch hwr
  have hs0:V.st=s:=hst.trans hs1
  rcases hJk with ⟨hgu,_,hW⟩|⟨hgu,hG⟩|⟨hgo,hW⟩
  ·have hW2:OpX C V.st (eD ops ds e0 fun i=>listed.getD i false) ops[k] _:=(hs0▸hW).congr heq (hgk.trans hgD.symm)
   refine qe6 hD.seq.one ho hm hok hsep hnx (by rw [hgD];exact hE) h1 hcg (by rw [hgu];trivial) (fun j b hg=>by rw [hgu] at hg;cases hg) (fun i oi j b t hi hg ht=>hD.seq.gs i oi j b t hi hg ht) (hD.seq.use k _ ho) (fun t i ht hw=>hagree t ht i hw) (fun t ht=>hD.seq.tmp k _ t ho ht) (hD.seq.nd k _ ho) hW2 ?_
   rintro a' w' d' st' g' x' bl' ⟨rfl,rfl,rfl⟩ hX hm' hE' hdef
   exact fin2 a' w' x' bl' _ hX hs2.symm hm' (hg▸hE') hdef
  ·have hG2:OpG P V.st (eD ops ds e0 fun i=>listed.getD i false) ops[k] (ds.getD k .junk) s':=(hs0▸hG).congr heq
   refine qen hD.seq.one ho hm hok h1 hcg (fun j b hg=>h3 j (hD.grd k _ j b h2 ho hg)) (hD.seq.use k _ ho) (fun t i ht hw=>hagree t ht i hw) (fun t ht=>hD.seq.tmp k _ t ho ht) (fun j b t hg ht=>hD.seq.gs k _ j b t ho hg ht) (hD.seq.nd k _ ho) (.inl ⟨hgu,hG2⟩) ?_
   intro a' w' bl' hstep' hm' hdef
   exact fin2 a' w' V.x bl' s' (hstep'.toX hok) hs2.symm hm' (hE.step hstep' hok hsep fun _ h=>h) hdef
  ·have hgo2:gOk ops (eD ops ds e0 fun i=>listed.getD i false) 8 ops[k].guard:=qne (e':=eD ops ds e0 fun i=>listed.getD i false) (fun j=>listed.getD j false=true∧j<k) (fun j t hj hs=>(qdh hD.seq.one hget (by omega) (by omega) fun i hw=>by
     have hij:i=j:=by
      unfold qbr at hs
      cases hoj:ops[j]? with
      | none=>simp [hoj] at hs
      | some oj =>
       simp only [hoj,Option.bind_some] at hs
       have:=qdn hD.seq.one hoj hs
       rw [hw] at this;injection this
     subst hij
     simp only [hj.1,hj.2]).symm) (fun j j2 b2 hj hg2=>by
     obtain⟨oj,q1,q2⟩:=ql3 hg2
     exact⟨hcg j j2 b2 hj.1 hg2,Nat.lt_trans (hD.seq.glt j _ j2 b2 q1 q2) hj.2⟩) 8 _ (fun j b hg=>⟨h3 j (hD.grd k _ j b h2 ho hg),hD.seq.glt k _ j b ho hg⟩) hgo
   have hW2:OpX C V.st (eD ops ds e0 fun i=>listed.getD i false) ops[k] _:=(hs0▸hW).congr heq (hgk.trans hgD.symm)
   refine qe6 hD.seq.one ho hm hok hsep hnx (by rw [hgD];exact hE) h1 hcg hgo2 (fun j b hg=>h3 j (hD.grd k _ j b h2 ho hg)) (fun i oi j b t hi hg ht=>hD.seq.gs i oi j b t hi hg ht) (hD.seq.use k _ ho) (fun t i ht hw=>hagree t ht i hw) (fun t ht=>hD.seq.tmp k _ t ho ht) (hD.seq.nd k _ ho) hW2 ?_
   rintro a' w' d' st' g' x' bl' ⟨rfl,rfl,rfl⟩ hX hm' hE' hdef
   exact fin2 a' w' x' bl' _ hX hs2.symm hm' (hg▸hE') hdef
theorem drawY {C:Cx P} {Nx:Nat→Prop} (S:(Nat→Bool)→Vw→Array Value→Prop) {e0:Nat→D} {K:(Nat→D)→List Bx→Prop} (acyc:∀k i,dep ops k i=true→i<k)
  (step:∀(listed:Array Bool) (V:Vw) (a:Act) (k:Nat) (X:Act→World→Prop),listed.size=ops.size→Cl ops (fun i=>listed.getD i false)→k∈Region.ready .any ops listed→listed.getD k false=false→Ok V→(∀b,b∈V.bl→¬V.x b)→NxOk Nx V→EnvE C.E C.on Nx (e0 1000000) V→S (fun i=>listed.getD i false) V a.tmps →
   (∀(a':Act) (w':World) (x':Nat→Prop) (bl':List Nat) (st':List Bx),qbj C.on Nx V ⟨w',x',bl',st'⟩→EnvE C.E C.on Nx (e0 1000000) ⟨w',x',bl',st'⟩→a'.defers=a.defers→S (upB (fun i=>listed.getD i false) k) ⟨w',x',bl',st'⟩ a'.tmps→X a' w')→wpOpIn (FR C.ro) 0 P ops Q k X a V.w)
  (last:∀(V:Vw) (tm:Array Value),EnvE C.E C.on Nx (e0 1000000) V→S (fun i=>decide (i<ops.size)) V tm→∃e',RM ops (fun i=>decide (i<ops.size)) V tm n e'∧EnvE C.E C.on Nx (e' 1000000) V∧K e' V.st) :
  ∀(fuel:Nat) (listed:Array Bool) (V:Vw) (a:Act) (un:List Nat),un.length≤fuel→(∀i,i<ops.size→listed.getD i false=false→i∈un)→listed.size=ops.size→Cl ops (fun i=>listed.getD i false)→Ok V→(∀b,b∈V.bl→¬V.x b)→NxOk Nx V→EnvE C.E C.on Nx (e0 1000000) V→S (fun i=>listed.getD i false) V a.tmps →
  (∀a' w' x' bl' st' e',qbj C.on Nx V ⟨w',x',bl',st'⟩→RM ops (fun i=>decide (i<ops.size)) ⟨w',x',bl',st'⟩ a'.tmps n e'→EnvE C.E C.on Nx (e' 1000000) ⟨w',x',bl',st'⟩→a'.defers=a.defers→K e' st'→Q .normal a' w')→wpAnyIn (FR C.ro) 0 P .any ops Q fuel listed a V.w:=by
 have hend:∀(listed:Array Bool) (V:Vw) (a:Act),listed.size=ops.size→(∀i,i<ops.size→listed.getD i false=true)→Ok V→EnvE C.E C.on Nx (e0 1000000) V→S (fun i=>listed.getD i false) V a.tmps →
   (∀a' w' x' bl' st' e',qbj C.on Nx V ⟨w',x',bl',st'⟩→RM ops (fun i=>decide (i<ops.size)) ⟨w',x',bl',st'⟩ a'.tmps n e'→EnvE C.E C.on Nx (e' 1000000) ⟨w',x',bl',st'⟩→a'.defers=a.defers→K e' st'→Q .normal a' w')→Region.ready .any ops listed=[]∧Q .normal a V.w:=by
  intro listed V a hls hall hok hE hS hK
  refine⟨?_,?_⟩
  ·rw [List.eq_nil_iff_forall_not_mem]
   intro k hk
   obtain⟨h1,h2,_⟩:=qbn hk
   rw [qa2 (by omega),hall k h2] at h1;cases h1
  ·have hfun:(fun i=>listed.getD i false)=fun i=>decide (i<ops.size):=by
    funext i
    by_cases hi:i<ops.size
    ·rw [hall i hi];simp [hi]
    ·have:¬i<listed.size:=by omega
     simp [hi,this]
   rw [hfun] at hS
   obtain⟨e',h1,h2,h3⟩:=last V a.tmps hE hS
   exact hK a V.w V.x V.bl V.st e' (.refl hok) h1 h2 rfl h3
 intro fuel
 induction fuel with
 | zero =>
  intro listed V a un hun hin hls hcl hok hsep hnx hE hS hK
  have hun0:un=[]:=List.eq_nil_of_length_eq_zero (by omega)
  subst hun0
  have hall:∀i,i<ops.size→listed.getD i false=true:=fun i hi=>by
   cases h:listed.getD i false with
   | true=>rfl
   | false=>have:=hin i hi h;simp at this
  exact hend listed V a hls hall hok hE hS hK
 | succ fuel ih =>
  intro listed V a un hun hin hls hcl hok hsep hnx hE hS hK
  by_cases hall:∀i,i<ops.size→listed.getD i false=true
  ·obtain⟨h1,h2⟩:=hend listed V a hls hall hok hE hS hK
   exact⟨fun _=>h2,fun k hk=>by rw [h1] at hk;cases hk⟩
  ·have hex:∃k,k<ops.size∧listed.getD k false=false∧∀i,i<k→listed.getD i false=true:=by
    have:∃k,k<ops.size∧listed.getD k false=false:=by
     refine Classical.byContradiction fun h=>hall fun i hi=>?_
     cases hh:listed.getD i false with
     | true=>rfl
     | false=>exact absurd ⟨i,hi,hh⟩ h
    obtain⟨k,hk⟩:=this
    induction k using Nat.strongRecOn with
    | _ k ihk =>
     by_cases hlow:∀i,i<k→listed.getD i false=true
     ·exact⟨k,hk.1,hk.2,hlow⟩
     ·have:∃i,i<k∧listed.getD i false=false:=by
       refine Classical.byContradiction fun h=>hlow fun i hi=>?_
       cases hh:listed.getD i false with
       | true=>rfl
       | false=>exact absurd ⟨i,hi,hh⟩ h
      obtain⟨i,h1,h2⟩:=this
      exact ihk i h1 ⟨by omega,h2⟩
   obtain⟨k0,hk1,hk2,hk3⟩:=hex
   have hk0r:k0∈Region.ready .any ops listed:=qe8 (by rw [qa2 (by omega)];exact hk2) (by omega) fun i hd=>hk3 i (acyc k0 i hd)
   refine⟨fun h0=>(by rw [h0] at hk0r;cases hk0r),fun k hk=>?_⟩
   obtain⟨h1,h2,h3⟩:=qbn hk
   have h1:listed.getD k false=false:=by rw [qa2 (by omega)] at h1;exact h1
   have hset:=qe7 (listed:=listed) (k:=k) (by omega)
   have hgs:∀i,(listed.setIfInBounds k true).getD i false=upB (fun i=>listed.getD i false) k i:=fun i=>congrFun hset i
   refine step listed V a k _ hls hcl hk h1 hok hsep hnx hE hS fun a' w' x' bl' st' hX hE' hdef hS'=>?_
   refine ih _ ⟨w',x',bl',st'⟩ a' (un.erase k) ?_ (fun i hi hu=>?_) (by simpa using hls) ?_ hX.ok (hX.sep hsep) (hnx.step hX) hE' (by rw [hset];exact hS') ?_
   ·have hmem:=hin k h2 h1
    rw [List.length_erase_of_mem hmem];omega
   ·rw [hgs] at hu
    simp only [upB,Bool.or_eq_false_iff,beq_eq_false_iff_ne] at hu
    exact (List.mem_erase_of_ne hu.2).2 (hin i hi hu.1)
   ·rw [hset]
    intro i j hi hd
    simp only [upB,Bool.or_eq_true,beq_iff_eq] at hi ⊢
    rcases hi with hi|rfl
    ·exact .inl (hcl i j hi hd)
    ·exact .inl (h3 j hd)
   ·intro a'' w'' x'' bl'' st'' e'' hs2 hm2 hE2 hd2 hk2
    exact hK a'' w'' x'' bl'' st'' e'' (hX.trans hs2) hm2 hE2 (hd2.trans hdef) hk2
theorem eD_all (hD:qcs ops n ops.size) (ds:List D) (e0:Nat→D) (hd:ds.length=ops.size):eD ops ds e0 (fun i=>decide (i<ops.size))=eat ops.toList ds e0 ops.size:=by
 funext t
 exact qdh hD.seq.one (fun j _=>Array.getElem?_toList ..) (by simpa using hd) (by simp) (fun i _=>by simp)
theorem eat_gh (hD:qcs ops n ops.size) (ds:List D) (e0:Nat→D):eat ops.toList ds e0 ops.size 1000000=e0 1000000:=qdc _ _ _ _ _ fun i o hi ho=>hD.seq.ng i o (by rw [←ho];exact (Array.getElem?_toList ..).symm)
theorem bits_of {listed:Array Bool} {k:Nat} (hcl:Cl ops (fun i=>listed.getD i false)) (hk:k∈Region.ready .any ops listed):∀a b,qa9 (qdg ops.toList []) b a=true→(listed.getD b false=true→listed.getD a false=true)∧(b=k→listed.getD a false=true):=fun a b hb=>⟨fun hd=>qgk (done:=fun i=>listed.getD i false) hcl (fun i hi=>hcl b i hd hi) hb,fun e=>by subst e;exact qgk (done:=fun i=>listed.getD i false) hcl (fun i hi=>(qbn hk).2.2 i hi) hb⟩
end
section
variable {P:Program}
theorem SWL_at:∀(ws:List (Nat×List Bx)) (s:List Bx) (m:Nat),SWL s ws (fun i=>decide (i<m))=stAt s ws m
 | [],_,_=>rfl
 | (w,s1)::r,s,m=>by
  unfold SWL stAt
  dsimp only
  by_cases h:w<m
  ·rw [decide_eq_true h,cond_true,if_pos h];exact SWL_at r s1 m
  ·rw [decide_eq_false h,cond_false,if_neg h]
theorem WP.enterD {C:Cx P} {n:Nat} {Q:Exit→(Nat→D)→List Bx→Prop} {e:Nat→D} {st:List Bx} {id:Nat} {l:List Oper} (ks:List Nat) (S:(Nat→Bool)→Vw→Array Value→Prop) (K:(Nat→D)→List Bx→Prop) (hk:ksOk ⟨l⟩ ks=true) (hmix:P.follows .mixedOrders=true) (acyc:∀k i,dep ⟨l⟩ k i=true→i<k) (hKQ:∀e' st',K e' st'→Q .normal (qa7 e' ks) st')
  (start:∀(V:Vw) (tm:Array Value),V.st=st→RM ⟨l⟩ (fun _=>false) V tm n e→S (fun _=>false) V tm)
  (step:∀(Nx:Nat→Prop) (Q:Exit→Act→World→Prop) (listed:Array Bool) (V:Vw) (a:Act) (k:Nat) (X:Act→World→Prop),listed.size=(⟨l⟩:Array Oper).size→Cl ⟨l⟩ (fun i=>listed.getD i false)→k∈Region.ready .any ⟨l⟩ listed→listed.getD k false=false→Ok V→(∀b,b∈V.bl→¬V.x b)→NxOk Nx V→EnvE C.E C.on Nx (e 1000000) V→S (fun i=>listed.getD i false) V a.tmps →
   (∀(a':Act) (w':World) (x':Nat→Prop) (bl':List Nat) (st':List Bx),qbj C.on Nx V ⟨w',x',bl',st'⟩→EnvE C.E C.on Nx (e 1000000) ⟨w',x',bl',st'⟩→a'.defers=a.defers→S (upB (fun i=>listed.getD i false) k) ⟨w',x',bl',st'⟩ a'.tmps→X a' w')→wpOpIn (FR C.ro) 0 P ⟨l⟩ Q k X a V.w)
  (last:∀(Nx:Nat→Prop) (V:Vw) (tm:Array Value),EnvE C.E C.on Nx (e 1000000) V→S (fun i=>decide (i<(⟨l⟩:Array Oper).size)) V tm→∃e',RM ⟨l⟩ (fun i=>decide (i<(⟨l⟩:Array Oper).size)) V tm n e'∧EnvE C.E C.on Nx (e' 1000000) V∧K e' V.st):WP C n (.region id ⟨l⟩ true) Q e st:=by
 rintro a w x bl ⟨ms,hmk,hm,henv⟩
 have hg:Grw w { w with drawn:=w.drawn+1 }:=(Grw.refl w).drew
 have hok':=hm.ok.grw (w:={ w with drawn:=w.drawn+1 }) hg
 have hle:=Vw.le_grw hm.ok (w:={ w with drawn:=w.drawn+1 }) hg
 have hX:qbj C.on (C.nxm ms) ⟨w,x,bl,st⟩ ⟨{ w with drawn:=w.drawn+1 },x,bl,st⟩:=Step.toX (V:=⟨w,x,bl,st⟩) (.grw hm.ok hg) hm.ok
 refine wpIn_region_any hmix ?_
 have hfalse:(fun i=>(Array.replicate (⟨l⟩:Array Oper).size false).getD i false)=fun _=>false:=by
  funext i
  rw [Array.getD_eq_getD_getElem?,Array.getElem?_replicate];split<;>rfl
 have hf1:∀i,(Array.replicate (⟨l⟩:Array Oper).size false).getD i false=false:=fun i=>congrFun hfalse i
 refine drawY (C:=C) (Nx:=C.nxm ms) (n:=n) S (e0:=e) (K:=K) acyc (step _ _) (last _) (⟨l⟩:Array Oper).size (Array.replicate (⟨l⟩:Array Oper).size false) ⟨{ w with drawn:=w.drawn+1 },x,bl,st⟩ a (List.range (⟨l⟩:Array Oper).size) (by simp) (fun i hi _=>by simpa using hi) (by simp) (fun i j hi _=>absurd (hi.symm.trans (hf1 i)) (by decide)) hok' hm.sep ((hmk.nx hm.nx).step hX) (henv.frm ⟨rfl,rfl,rfl,Nat.le_refl _,fun _ _ _=>rfl⟩ (fun b hb=>.inl hb) fun _ hb=>hb) ?_ ?_
 ·rw [hfalse]
  refine start _ _ rfl ⟨hm.size,fun t ht=>?_⟩
  have hgd:gdD ⟨l⟩ (fun _=>false) t=none:=by unfold gdD;split<;>simp
  rw [hgd]
  exact (hm.slot t ht).mono hle
 ·intro a' w' x' bl' st' e' hstep hm' hE hdf hK
  have hst:=hX.trans hstep
  exact⟨x',bl',_,st',⟨ms,hdf▸hmk.step hst,hm.step (fun b hb=>.inl hb) hst hm'.size fun t ht=>hm'.keep hk t ht,hE.keep ks⟩,hKQ _ _ hK⟩
theorem eD_none (ops:Array Oper) (ds:List D) (e:Nat→D):eD ops ds e (fun _=>false)=e:=by
 funext t;unfold eD;split<;>simp
theorem WP.drwA {C:Cx P} {n:Nat} {Q:Exit→(Nat→D)→List Bx→Prop} {e:Nat→D} {st:List Bx} {id:Nat} {l:List Oper} (bs ks:List Nat) (ws:List (Nat×List Bx)) (hbs:(qdg l []==bs)=true) (hch:chnX bs (ws.map (·.1))=true) (hd:qd7 ⟨l⟩ n l.length=true) (hk:ksOk ⟨l⟩ ks=true) (hmix:P.follows .mixedOrders=true)
  (h:RWL C (e 1000000) ⟨l⟩ bs st ws l 0 e fun e'=>Q .normal (qa7 e' ks) (stAt st ws l.length)):WP C n (.region id ⟨l⟩ true) Q e st:=by
 have hD:=qfg hd
 have hD:qcs ⟨l⟩ n (⟨l⟩:Array Oper).size:=hD
 have hb:qdg (⟨l⟩:Array Oper).toList []=bs:=by simpa using hbs
 subst hb
 obtain⟨ds,g1,g2,g3⟩:=h.data
 have hJ:∀(k:Nat) (o:Oper),(⟨l⟩:Array Oper)[k]? = some o→RWL1 C (e 1000000) ⟨l⟩ (qdg (⟨l⟩:Array Oper).toList []) st ws k (eat (⟨l⟩:Array Oper).toList ds e k) o (ds.getD k .junk):=fun k o ho=>by have:=g2 k o (by rw [←ho];simp);rwa [Nat.zero_add] at this
 refine WP.enterD ks (fun done V tm=>RM ⟨l⟩ done V tm n (eD ⟨l⟩ ds e done)∧V.st=SWL st ws done) (fun e' st'=>Q .normal (qa7 e' ks) st') hk hmix hD.acyc (fun _ _ h=>h) (fun V tm hs hm=>⟨by rw [eD_none];exact hm,by rw [SWL_no];exact hs⟩) (fun Nx Q listed V a k X hls hcl hkr h1 hok hsep hnx hE hS fin=>?_) (fun Nx V tm hE hS=>?_)
 ·exact dlStep hch rfl hD (by rw [g1];rfl) hJ hls hcl hkr (bits_of hcl hkr) hS.1 hok hsep hnx hE hS.2 fun a' w' x' bl' hX hm' hE' hdef=>fin a' w' x' bl' _ hX hE' hdef ⟨hm',rfl⟩
 ·refine⟨eat (⟨l⟩:Array Oper).toList ds e (⟨l⟩:Array Oper).size,by rw [←eD_all hD ds e (by rw [g1];rfl)];exact hS.1,by rw [eat_gh hD];exact hE,?_⟩
  rw [hS.2,SWL_at];exact g3
end
section
variable {P:Program} {C:Cx P} {g:D} {ops:Array Oper} {bs:List Nat} {s0:List Bx} {ws:List (Nat×List Bx)}
theorem RWL.mono {K K':(Nat→D)→Prop} (hK:∀e,K e→K' e):∀{r:List Oper} {k:Nat} {e:Nat→D},RWL C g ops bs s0 ws r k e K→RWL C g ops bs s0 ws r k e K'
 | [],_,e,h=>hK e h
 | _::_,_,_,⟨d,h1,h2⟩=>⟨d,h1,RWL.mono hK h2⟩
end
theorem WP.dl {P:Program} {C:Cx P} {n:Nat} {Q:Exit→(Nat→D)→List Bx→Prop} {e:Nat→D} {st:List Bx} {id:Nat} {l:List Oper} (bs ks ps:List Nat) (ws:List (Nat×List Bx)) (h:RWL C (e 1000000) ⟨l⟩ bs st ws l 0 e fun e'=>Q .normal (qa7 e' ks) (stAt st ws l.length)) (hps:ws.map (·.1)=ps:=by rfl) (hbs:(qdg l []==bs)=true:=by kernel_rfl) (hch:chnW bs ps=true:=by kernel_rfl) (hw:ps.all (fun w=>decide (w<l.length))=true:=by kernel_rfl) (hd:qd7 ⟨l⟩ n l.length=true:=by kernel_rfl) (hk:ksOk ⟨l⟩ ks=true:=by kernel_rfl) (hmix:P.follows .mixedOrders=true:=by exact tb_mix):WP C n (.region id ⟨l⟩ true) Q e st:=by
 subst hps
 exact WP.drwA bs ks ws hbs (ql8 _ hch) hd hk hmix h
section
variable {P:Program} {C:Cx P} {g:D} {ops:Array Oper} {bs:List Nat} {s0:List Bx} {ws:List (Nat×List Bx)} {k:Nat} {r:List Oper} {e e':Nat→D} {dst:Option Nat} {op:Op} {ty T:TypeId} {pos:String} {after:Array Edge} {guard:Option (Nat×Bool)} {o:Oper} {d d':D} {K:(Nat→D)→Prop} {s s' st st' st1 bs':List Bx} {w n m:Nat} {ks:List Nat} {N:(Nat→D)→List Bx→Prop} {Q:Exit→(Nat→D)→List Bx→Prop} {vs ds:List D} {f:FuncId} {y x:Operand} {xs:List Operand} {tys:Array TypeId} {caps l:List A}
theorem RWL.fin (h:N e' st') (he:qa7 e ks=e':=by (simp only [go_sem,simprocAttr])<;>rfl) (hs:stAt s0 ws m=st':=by (simp only [stAt,List.length_cons,List.length_nil,simprocAttr])<;>rfl):RWL C g ops bs s0 ws [] k e fun e'=>qdi N Q .normal (qa7 e' ks) (stAt s0 ws m):=by
 subst he;subst hs;exact h
@[go_sem] theorem evG_len {z:Array Operand} {q:Array TypeId}:evG P s0 e ⟨dst,.call ⟨.builtin .len,z,q⟩,ty,pos,after,guard⟩=none:=rfl
@[go_sem] theorem ixD_cs {q:Option Nat} {q2:Option (Nat×Nat)} {i off len:Nat} {z:D}:ixD q q2 (.a (.cs i off len)) z=none:=by unfold ixD;split<;>simp_all
@[go_sem] theorem ixS_cs {q:Option Nat} {q2:Option (Nat×Nat)} {i off len:Nat} {z:D}:ixS st q q2 (.a (.cs i off len)) z=none:=by unfold ixS;simp only [ixD_cs]
theorem RWL.fr (h:RWL C g ops bs s0 ws r (k+1) (putE e dst d) K) (hf:freeOp op=true:=by rfl) (h0:evQ P s0 e ⟨dst,op,ty,pos,after,guard⟩=some d:=by (simp only [go_sem,simprocAttr,fx])<;>rfl) (hn:wrSt s0 ws k=none:=by rfl):RWL C g ops bs s0 ws (⟨dst,op,ty,pos,after,guard⟩::r) k e K :=
 RWL.rdF hf h0 hn h
theorem RWL.re (h:RWL C g ops bs s0 ws r (k+1) (putE e dst d) K) (hl:RdO P bs k e ⟨dst,op,ty,pos,after,guard⟩ d s0 ws) (hs:stAt s0 ws k=s:=by (simp only [stAt,simprocAttr])<;>rfl) (h0:evQ P s e ⟨dst,op,ty,pos,after,guard⟩=some d:=by (simp only [go_sem,simprocAttr,fx])<;>rfl) (hn:wrSt s0 ws k=none:=by rfl):RWL C g ops bs s0 ws (⟨dst,op,ty,pos,after,guard⟩::r) k e K :=
 RWL.rd d hn (hs▸h0) h hl
theorem RdO.on (h0:evQ P s e o=some d:=by (simp only [go_sem,simprocAttr,fx])<;>rfl):RdO P bs k e o d s []:=h0
theorem RdO.oz (hb:qa9 bs w k=true:=by rfl) (h0:evQ P s e o=some d:=by (simp only [go_sem,simprocAttr,fx])<;>rfl):RdO P bs k e o d s ((w,s')::ws):=⟨.inr h0,.inl hb⟩
theorem RdO.oe (h:RdO P bs k e o d s' ws) (h0:evQ P s e o=some d:=by (simp only [go_sem,simprocAttr,fx])<;>rfl):RdO P bs k e o d s ((w,s')::ws):=⟨.inr h0,.inr h⟩
theorem RWL.cl (hp:qaa P f ds d) (h:RWL C g ops bs s0 ws r (k+1) (putE e dst d) K) (hx:xs.map (evO e)=ds:=by (simp only [go_sem,simprocAttr,fx])<;>rfl) (hc:ds.all clD=true:=by simp only [go_sem,List.all_cons,List.all_nil,Bool.and_true,fx]) (hn:wrSt s0 ws k=none:=by rfl):RWL C g ops bs s0 ws (⟨dst,.call ⟨.value (.func f),⟨xs⟩,tys⟩,ty,pos,after,guard⟩::r) k e K :=
 RWL.rdA hn (fun _=>.of (.call rfl hx hc hp)) h
theorem RWL.c1 (_:Dd d) (_:Dz (.bool true)) (hp:qaa P f ds d) (h:RWL C g ops bs s0 ws r (k+1) (putE e dst d) K) (hx:xs.map (evO e)=ds:=by (simp only [go_sem,simprocAttr,fx])<;>rfl) (hc:ds.all clD=true:=by (first|(simp only [go_sem,List.all_cons,List.all_nil,Bool.and_true,fx];done)|fail)) (hn:wrSt s0 ws k=none:=by rfl):RWL C g ops bs s0 ws (⟨dst,.call ⟨.value (.func f),⟨xs⟩,tys⟩,ty,pos,after,guard⟩::r) k e K:=RWL.cl hp h hx hc hn
theorem RWL.mb {cs:List Operand} {xs:List A} (h:RWL C g ops bs s0 ws r (k+1) (putE e dst (.a (.fm f xs))) K) (hx:capD (cs.map (evO e))=some xs:=by (simp only [go_sem,simprocAttr,fx])<;>rfl) (hn:wrSt s0 ws k=none:=by rfl):RWL C g ops bs s0 ws (⟨dst,.makeFunc (.func f) ⟨cs⟩ ⟨[]⟩,ty,pos,after,guard⟩::r) k e K :=
 RWL.rdA hn (fun _=>.of (OpJ.makeFuncM rfl (qfh hx))) h
theorem RWL.wt (h:RWL C g ops bs s0 ws r (k+1) (putE e dst d) K) (hn:wrSt s0 ws k=some (s,s'):=by rfl) (h0:evG P s e ⟨dst,op,ty,pos,after,none⟩=some (d,s'):=by (simp only [go_sem,simprocAttr,fx])<;>rfl):RWL C g ops bs s0 ws (⟨dst,op,ty,pos,after,none⟩::r) k e K :=
 RWL.wg hn rfl (qc4 h0) h
theorem RWL.cM (σ:List Nat) (hp:DM P f ds st d st1) (h:RWL C g ops bs s0 ws r (k+1) (putE e dst d') K) (hn:wrSt s0 ws k=some (s,s'):=by rfl) (hx:xs.map (evO e)=vs:=by (simp only [go_sem,simprocAttr,fx])<;>rfl) (hs:σ.map (fun i=>s.getD i .gone)=bs':=by (simp only [go_sem,simprocAttr,fx])<;>rfl) (hin:qbz σ bs' vs=true:=by (simp only [go_sem,simprocAttr,fx])<;>rfl) (hu:vs.map (unD σ)=ds:=by (simp only [go_sem,simprocAttr,fx])<;>rfl) (hv:bs'.map (unB σ)=st:=by (simp only [go_sem,simprocAttr,fx])<;>rfl) (hg:e 1000000=g:=by (simp only [go_sem,simprocAttr])<;>rfl) (hne:0<st1.length:=by exact Nat.zero_lt_succ _) (hd:rnD (rnX σ s.length (st1.length-σ.length)) d=d':=by (simp only [go_sem,simprocAttr,fx])<;>rfl)
  (hst:mrg σ s (st1.map (rnB (rnX σ s.length (st1.length-σ.length))))=s':=by (simp only [go_sem,simprocAttr,fx])<;>rfl):RWL C g ops bs s0 ws (⟨dst,.call ⟨.value (.func f),⟨xs⟩,tys⟩,ty,pos,after,none⟩::r) k e K :=
 RWL.wr hn (WS.callM hx hs hin hu hv hg hp hne hd hst) h
theorem RWL.bC {len n bt:Nat} {row zr:List A} {parts:List (Nat×Operand)} (h:RWL C g ops bs s0 ws r (k+1) (putE e dst d) K) (hn:wrSt s0 ws k=some (s,s'):=by rfl) (hd:D.a (.cs s.length 0 len)=d:=by (simp only [go_sem,simprocAttr])<;>rfl) (hes:es P T=some n:=by (simp only [go_sem])<;>rfl) (hn0:0<n:=by decide) (hlen:0<len:=by decide) (hz:zrT P T=some zr:=by (simp only [go_sem])<;>rfl) (hzl:zr.length=n:=by (simp only [go_sem])<;>rfl) (hcl:zr.all clA=true:=by (simp only [go_sem])<;>rfl) (hby:byt P T=some bt:=by (simp only [go_sem])<;>rfl) (hsm:len*n≤16777216:=by decide)
  (hp:qf3 n len (List.replicate len zr).flatten (parts.map fun p=>(p.1,evO e p.2))=some row:=by (simp only [go_sem,simprocAttr,qf3,List.flatten_cons,List.flatten_nil,List.replicate_succ,List.replicate_zero,fx])<;>rfl) (hs:s++[.cell row]=s':=by (simp only [List.cons_append,List.nil_append])<;>rfl):RWL C g ops bs s0 ws (⟨dst,.buildSlice T len ⟨parts⟩,ty,pos,after,none⟩::r) k e K:=by
 subst hd;subst hs
 exact RWL.wg hn rfl (OpG.litC rfl hes hn0 hlen hz hzl hcl hby hsm hp) h
end
end Go.Proofs.YthkojpnjdpbcgaaGreatDoor
