/- The document's reader of classes: what is read of a member is right, and no greater than its tokens allow. No program in sight. Conditions: none. -/
import Derived.Test.YtfbopaaambkfkaaGreatDoorMg37
import Derived.Test.YtfbopaaambkfkaaGreatDoorMg11
set_option linter.unusedVariables false
set_option maxRecDepth 100000
set_option maxHeartbeats 8000000
set_option linter.unusedSimpArgs false
namespace Go.Proofs.YtfbopaaambkfkaaGreatDoor
open Go.RowKit
section
theorem St.szs_app:∀(l m:List St),St.szs (l++m)=St.szs l+St.szs m
 | [],m=>by rw [List.nil_append,St.szs];omega
 | e::r,m=>by rw [List.cons_append,St.szs,St.szs,St.szs_app r];omega
theorem St.opensB_app (p:Int) (l m:List St):St.opensB p (l++m)=(St.opensB p l&&St.opensB p m):=by
 rw [St.opensB_all,St.opensB_all,St.opensB_all,List.all_append]
def GotVs (a:Int) (p:Nat) (most:Nat) (g:G9):Prop:=g.err=0→vrsB g.v most p=true∧(qai Vr.sz g.v:Int)≤21*(g.next-a)∧g.fat=0
structure OkM (N a sum:Int) (p:Nat) (m:Me) (n:Int):Prop where
 r:m.rightB p=true
 lt:a<n
 le:n≤N
 sz:(m.sz:Int)≤21*(n-a)
 ct:sum+(St.cnts m.body:Int)≤400
structure OkV (N a:Int) (p:Nat) (v:Vr) (n:Int):Prop where
 r:vrB p v=true
 lt:a<n
 le:n≤N
 sz:(v.sz:Int)≤21*(n-a)
section
variable {l:List Tok} {ps:List (List UInt8)} (hl:Toks l)
include hl
theorem parF_ok:∀(k:Nat) (a b:Int) (out:List Vr),out.length+k=5→(∀v∈out,vrB ps.length v=true)→(qai Vr.sz out:Int)≤21*(a-b)→GotVs b ps.length 5 (parF l ps k a out):=by
 intro k
 induction k with
 | zero =>
  intro a b out hk _ _ h
  rw [qgs,show ((out.length:Int)==5)=true by simp;omega,cond_true] at h
  exact absurd h (by show (6:Int)≠0;decide)
 | succ k ih =>
  intro a b out hk hr hs
  rw [qgs,show ((out.length:Int)==5)=false by simp;omega,cond_false]
  have hv:=qgi (qad l) hl.name (ps:=ps) a
  cases c1:(var7 l ps a).err != 0 with
  | true=>exact fun h=>absurd h (by simpa [flt9] using c1)
  | false =>
  obtain⟨q0,q1,q2,q3,_⟩:=hv (by simpa using c1)
  have hr2:∀v∈out++[(var7 l ps a).v],vrB ps.length v=true:=fun v hv=>by
   rcases List.mem_append.1 hv with h|h
   ·exact hr v h
   ·rw [List.mem_singleton] at h;subst h;exact q0
  have hs2:(qai Vr.sz (out++[(var7 l ps a).v]):Int)≤21*((var7 l ps a).next-b):=by
   rw [qav,qaw];omega
  rw [cond_false]
  cases c2:isT (nowT l (var7 l ps a).next) [41] with
  | true =>
   refine fun _=>⟨?_,?_,rfl⟩
   ·show vrsB (out++[(var7 l ps a).v]) 5 ps.length=true
    unfold vrsB
    rw [Bool.and_eq_true,decide_eq_true_iff,List.all_eq_true]
    exact⟨by rw [List.length_append,List.length_singleton];omega,hr2⟩
   ·show (qai Vr.sz (out++[(var7 l ps a).v]):Int)≤21*((var7 l ps a).next+1-b);omega
  | false =>
  rw [cond_false]
  cases c3:isT (nowT l (var7 l ps a).next) [44] with
  | false=>exact fun h=>absurd h (by show (3:Int)≠0;decide)
  | true =>
   exact ih ((var7 l ps a).next+1) b (out++[(var7 l ps a).v]) (by rw [List.length_append,List.length_singleton];omega) hr2 (by omega)
theorem par9_ok (a:Int):GotVs a ps.length 5 (par9 l ps a):=by
 have hf:=parF_ok hl (ps:=ps) 5 (a+1) a [] rfl (by simp) (by simp [qai];omega)
 unfold par9
 cases c1:isT (nowT l (a+1)) [41] with
 | true =>
  rw [cond_true]
  refine fun _=>⟨?_,?_,rfl⟩
  ·show vrsB [] 5 ps.length=true
   unfold vrsB;rfl
  ·show ((0:Nat):Int)≤21*(a+2-a);omega
 | false=>rw [cond_false];exact hf
theorem locF_ok:∀(k:Nat) (a b:Int) (out:List Vr),out.length+k=12→(∀v∈out,vrB ps.length v=true)→(qai Vr.sz out:Int)≤21*(a-b)→GotVs b ps.length 12 (locF l ps k a out):=by
 intro k
 induction k with
 | zero =>
  intro a b out hk hr hs
  rw [qgz,show ((out.length:Int)==12)=true by simp;omega]
  cases c0:beg7 l a with
  | false =>
   refine fun _=>⟨?_,hs,rfl⟩
   show vrsB out 12 ps.length=true
   unfold vrsB
   rw [Bool.and_eq_true,decide_eq_true_iff,List.all_eq_true]
   exact⟨by omega,hr⟩
  | true=>exact fun h=>absurd h (by show (6:Int)≠0;decide)
 | succ k ih =>
  intro a b out hk hr hs
  rw [qgz,show ((out.length:Int)==12)=false by simp;omega]
  cases c0:beg7 l a with
  | false =>
   refine fun _=>⟨?_,hs,rfl⟩
   show vrsB out 12 ps.length=true
   unfold vrsB
   rw [Bool.and_eq_true,decide_eq_true_iff,List.all_eq_true]
   exact⟨by omega,hr⟩
  | true =>
  simp only [Bool.not_true,cond_false]
  have hv:=qgi (qad l) hl.name (ps:=ps) a
  cases c1:(var7 l ps a).err != 0 with
  | true=>exact fun h=>absurd h (by simpa [flt9] using c1)
  | false =>
  obtain⟨q0,q1,q2,q3,_⟩:=hv (by simpa using c1)
  have hr2:∀v∈out++[(var7 l ps a).v],vrB ps.length v=true:=fun v hv=>by
   rcases List.mem_append.1 hv with h|h
   ·exact hr v h
   ·rw [List.mem_singleton] at h;subst h;exact q0
  have hs2:(qai Vr.sz (out++[(var7 l ps a).v]):Int)≤21*((var7 l ps a).next-b):=by
   rw [qav,qaw];omega
  rw [cond_false]
  cases c3:isT (nowT l (var7 l ps a).next) [59] with
  | false=>exact fun h=>absurd h (by show (3:Int)≠0;decide)
  | true =>
   exact ih ((var7 l ps a).next+1) b (out++[(var7 l ps a).v]) (by rw [List.length_append,List.length_singleton];omega) hr2 (by omega)
theorem rws9_ok:∀(k:Nat) (a b sum:Int) (m:Me) (out:List St),0≤a→(∀s∈out,s.rightB ps.length=true)→St.opensB ps.length out=true→(St.szs out:Int)≤21*(a-b)→sum+(St.cnts out:Int)≤400→a≤l.length→(rws9 l ps k a (sum+(St.cnts out:Int)) m out).err=0 →
  ∃body,(rws9 l ps k a (sum+(St.cnts out:Int)) m out).m={ m with body:=body }∧(∀s∈body,s.rightB ps.length=true)∧St.opensB ps.length body=true∧(St.szs body:Int)≤21*((rws9 l ps k a (sum+(St.cnts out:Int)) m out).next-b)∧sum+(St.cnts body:Int)≤400∧a<(rws9 l ps k a (sum+(St.cnts out:Int)) m out).next∧(rws9 l ps k a (sum+(St.cnts out:Int)) m out).next≤l.length∧(rws9 l ps k a (sum+(St.cnts out:Int)) m out).fat=0:=by
 intro k
 induction k with
 | zero=>intro a b sum m out _ _ _ _ _ _ h;exact absurd h (by show (3:Int)≠0;decide)
 | succ k ih =>
  intro a b sum m out h0 hr ho hs hc hal
  rw [rws9]
  cases c0:isT (nowT l a) [125] with
  | true =>
   have hlt:=qam (qad l) c0
   refine fun _=>⟨out,rfl,hr,ho,?_,hc,?_,?_,rfl⟩
   ·show (St.szs out:Int)≤21*(a+1-b);omega
   ·show a<a+1;omega
   ·show a+1≤l.length;omega
  | false =>
  rw [cond_false]
  obtain⟨hf,hg⟩:=st9_rd hl (ps:=ps) k a h0 _ rfl
  generalize par8 l ps (ask8 l (blk8 l (row8 l ps k))) a 0=q at *
  cases c1:q.err != 0 with
  | true=>exact fun h=>absurd h (by simpa [flt9] using c1)
  | false =>
  obtain⟨q1,q2⟩:=hf (by simpa using c1)
  obtain⟨g1,g2,g3,g4,g5,_⟩:=hg (by simpa using c1)
  rw [cond_false]
  cases c2:decide (sum+(St.cnts out:Int)+(q.s.cnt:Int)>400) with
  | true=>exact fun h=>absurd h (by show (6:Int)≠0;decide)
  | false =>
  have c3:=of_decide_eq_false c2
  have hcn:sum+(St.cnts out:Int)+(q.s.cnt:Int)=sum+(St.cnts (out++[q.s]):Int):=by
   rw [St.cnts_app,St.cnts,St.cnts];omega
  rw [cond_false,hcn]
  intro h
  obtain⟨body,e1,e2,e3,e4,e5,e6,e7,e8⟩:=ih q.next b sum m (out++[q.s]) (by omega) (fun s hs=>by
   rcases List.mem_append.1 hs with h|h
   ·exact hr s h
   ·rw [List.mem_singleton] at h;subst h
    unfold St.rightB
    rw [Bool.and_eq_true,decide_eq_true_iff]
    exact⟨g1,by omega⟩) (by rw [St.opensB_app,ho,St.opensB,g5,St.opensB];rfl) (by rw [St.szs_app,St.szs,St.szs];omega) (by omega) q2 h
  exact⟨body,e1,e2,e3,e4,e5,by omega,e7,e8⟩
theorem met9_ok (a b sum:Int) (m:Me) (h0:0≤b) (hab:b+2≤a) (h1:a<l.length) (hs:sum≤400) (hn:qan m.name=true) (hw:wrB m.ret ps.length=true) (hc:m.ret.cls.length≤20) (he:(met9 l ps a m sum).err=0):OkM l.length b sum ps.length (met9 l ps a m sum).m (met9 l ps a m sum).next:=by
 have hp:=par9_fw hl (ps:=ps) a (by omega) h1
 have hp2:=par9_ok hl (ps:=ps) a
 unfold met9 at he ⊢
 generalize par9 l ps a=p at *
 cases c1:p.err != 0 with
 | true =>
  rw [c1,cond_true] at he
  exact absurd he (by simpa using c1)
 | false =>
 rw [c1] at he
 rw [cond_false] at he ⊢
 obtain⟨q1,q2⟩:=hp (by simpa using c1)
 obtain⟨q3,q4,_⟩:=hp2 (by simpa using c1)
 cases c2:isT (nowT l p.next) [123] with
 | false=>rw [c2] at he;exact absurd he (by show (3:Int)≠0;decide)
 | true =>
 rw [c2] at he
 simp only [Bool.not_true,cond_false] at he ⊢
 have hlt:=qam (qad l) c2
 have hv:=locF_fw hl (ps:=ps) 12 (p.next+1) [] rfl (by omega) (by omega)
 have hv2:=locF_ok hl (ps:=ps) 12 (p.next+1) (p.next+1) [] rfl (by simp) (by simp [qai])
 generalize locF l ps 12 (p.next+1) []=v at *
 cases c3:v.err != 0 with
 | true=>rw [c3,cond_true] at he;exact absurd he (by simpa using c3)
 | false =>
 rw [c3] at he
 rw [cond_false] at he ⊢
 obtain⟨w1,w2⟩:=hv (by simpa using c3)
 obtain⟨w3,w4,_⟩:=hv2 (by simpa using c3)
 have key:=rws9_ok hl (ps:=ps) (l.length+1) v.next v.next sum { m with params:=p.v,locals:=v.v } [] (by omega) (by simp) rfl (by simp [St.szs]) (by simp [St.cnts];omega) w2
 rw [show sum+(St.cnts []:Int)=sum by simp [St.cnts]] at key
 obtain⟨body,e1,e2,e3,e4,e5,e6,e7,e8⟩:=key he
 rw [e1]
 generalize (rws9 l ps (l.length+1) v.next sum { m with params:=p.v,locals:=v.v } []).next=nx at *
 have hnl:m.name.length≤20:=by
  unfold qan at hn
  simp only [Bool.and_eq_true,decide_eq_true_iff] at hn
  exact hn.1.1.1.2
 refine⟨?_,by omega,e7,?_,e5⟩
 ·unfold Me.rightB
  simp only [Bool.and_eq_true,List.all_eq_true]
  exact⟨e2,⟨⟨⟨hn,hw⟩,q3⟩,w3⟩,e3⟩
 ·show ((1+m.name.length+m.ret.cls.length+qai Vr.sz p.v+qai Vr.sz v.v+St.szs body:Nat):Int)≤_
  omega
theorem ql2 (a b sum:Int) (pu:Bool) (nf nm:Nat) (m:Me) (n:Int) (h0:0≤b) (hb:b≤a) (hs:sum≤400) (he:mem9 l ps b sum pu nf nm a=.met m n):OkM l.length b sum ps.length m n∧(nm:Int)≠12:=by
 have h7o:=qb1 (qad l) hl.name (ps:=ps) a true
 unfold mem9 at he
 generalize par7 l ps a true=q at *
 cases c1:q.err != 0 with
 | true=>rw [c1] at he;cases he
 | false =>
 rw [c1,cond_false] at he
 obtain⟨q1,q2,q3,q4,_⟩:=h7o (by simpa using c1)
 cases c2:(nowT l q.next).kind != 1 with
 | true=>rw [c2] at he;cases he
 | false =>
 rw [c2,cond_false] at he
 cases c3:isT (nowT l (q.next+1)) [40] with
 | false =>
  rw [c3,cond_false] at he
  revert he
  generalize (bif (bif !isT (nowT l (q.next+1)) [59] then true else pu) then true else q.t.kind==0)=x1
  generalize ((nf:Int)==12)=x2
  cases x1<;>cases x2<;>(intro he;cases he)
 | true =>
 rw [c3,cond_true] at he
 have hlt:=qam (qad l) c3
 cases c4:(nm:Int)==12 with
 | true=>rw [c4] at he;cases he
 | false =>
 rw [c4,cond_false] at he
 have hm:=met9_ok hl (ps:=ps) (q.next+1) b sum ⟨(nowT l q.next).text,pu,q.t,[],[],[],(nowT l b).pos⟩ h0 (by omega) hlt hs (hl.name _ (by simpa using c2)) q1 q2
 generalize met9 l ps (q.next+1) ⟨(nowT l q.next).text,pu,q.t,[],[],[],(nowT l b).pos⟩ sum=g at *
 cases c5:g.err != 0 with
 | true=>rw [c5] at he;cases he
 | false =>
 rw [c5,cond_false] at he
 injection he with e1 e2
 subst e1;subst e2
 exact⟨hm (by simpa using c5),by simpa using c4⟩
theorem ql3 (a b sum:Int) (pu:Bool) (nf nm:Nat) (v:Vr) (n:Int) (hb:b≤a) (he:mem9 l ps b sum pu nf nm a=.fld v n):OkV l.length b ps.length v n∧(nf:Int)≠12:=by
 have h7o:=qb1 (qad l) hl.name (ps:=ps) a true
 unfold mem9 at he
 generalize par7 l ps a true=q at *
 cases c1:q.err != 0 with
 | true=>rw [c1] at he;cases he
 | false =>
 rw [c1,cond_false] at he
 obtain⟨q1,q2,q3,q4,_⟩:=h7o (by simpa using c1)
 cases c2:(nowT l q.next).kind != 1 with
 | true=>rw [c2] at he;cases he
 | false =>
 rw [c2,cond_false] at he
 cases c3:isT (nowT l (q.next+1)) [40] with
 | true =>
  rw [c3,cond_true] at he
  revert he
  generalize ((nm:Int)==12)=x1
  generalize met9 l ps (q.next+1) ⟨(nowT l q.next).text,pu,q.t,[],[],[],(nowT l b).pos⟩ sum=g
  generalize (g.err != 0)=x2
  cases x1<;>cases x2<;>(intro he;cases he)
 | false =>
 rw [c3,cond_false] at he
 cases c4:isT (nowT l (q.next+1)) [59] with
 | false=>rw [c4] at he;cases he
 | true =>
 have hlt:=qam (qad l) c4
 rw [c4] at he
 simp only [Bool.not_true,cond_false] at he
 cases pu with
 | true=>cases he
 | false =>
 rw [cond_false] at he
 cases c5:q.t.kind==0 with
 | true=>rw [c5] at he;cases he
 | false =>
 rw [c5,cond_false] at he
 cases c6:(nf:Int)==12 with
 | true=>rw [c6] at he;cases he
 | false =>
 rw [c6,cond_false] at he
 injection he with e1 e2
 subst e1;subst e2
 have hn:=hl.name q.next (by simpa using c2)
 have hnl:(nowT l q.next).text.length≤20:=by
  have hn:=hn
  unfold qan at hn
  simp only [Bool.and_eq_true,decide_eq_true_iff] at hn
  exact hn.1.1.1.2
 refine⟨⟨?_,by omega,by omega,?_⟩,by simpa using c6⟩
 ·unfold vrB
  simp only [Bool.and_eq_true,bne_iff_ne]
  exact⟨⟨by simpa using c5,hn⟩,q1⟩
 ·show ((1+(nowT l q.next).text.length+q.t.cls.length:Nat):Int)≤_
  omega
end
end
section
theorem Cs.addF {c:Cs} {v:Vr} (h:c.rightB=true) (hv:vrB c.params.length v=true) (hn:(c.fields.length:Int)≠12):({ c with fields:=c.fields++[v] }:Cs).rightB=true∧({ c with fields:=c.fields++[v] }:Cs).sz=c.sz+v.sz∧({ c with fields:=c.fields++[v] }:Cs).stmts=c.stmts:=by
 refine⟨?_,?_,rfl⟩
 ·unfold Cs.rightB at h ⊢
  unfold vrsB at h ⊢
  simp only [Bool.and_eq_true,decide_eq_true_iff,List.all_append,List.length_append,List.length_singleton,List.all_cons,List.all_nil,Bool.and_true] at h ⊢
  obtain⟨h1,h2,h3,⟨⟨⟨h4,h5⟩,h6⟩,⟨h7,h8⟩⟩,h9⟩:=h
  exact⟨h1,h2,h3,⟨⟨⟨h4,h5⟩,h6⟩,⟨by omega,h8,hv⟩⟩,h9⟩
 ·unfold Cs.sz
  dsimp only
  rw [qav,qaw];omega
theorem Cs.addM {c:Cs} {m:Me} (h:c.rightB=true) (hm:m.rightB c.params.length=true) (hn:(c.methods.length:Int)≠12):({ c with methods:=c.methods++[m] }:Cs).rightB=true∧({ c with methods:=c.methods++[m] }:Cs).sz=c.sz+m.sz∧({ c with methods:=c.methods++[m] }:Cs).stmts=c.stmts+St.cnts m.body:=by
 refine⟨?_,?_,?_⟩
 ·unfold Cs.rightB at h ⊢
  simp only [Bool.and_eq_true,decide_eq_true_iff,List.all_append,List.length_append,List.length_singleton,List.all_cons,List.all_nil,Bool.and_true] at h ⊢
  obtain⟨h1,h2,h3,h4,h9⟩:=h
  exact⟨h1,h2,⟨h3,hm⟩,h4,by omega⟩
 ·unfold Cs.sz
  dsimp only
  rw [qav,qaw];omega
 ·unfold Cs.stmts
  dsimp only
  rw [qav,qaw]
theorem Cs.lens {c:Cs} (h:c.rightB=true):c.fields.length≤12∧c.methods.length≤12∧c.params.length≤3:=by
 unfold Cs.rightB vrsB at h
 simp only [Bool.and_eq_true,decide_eq_true_iff] at h
 obtain⟨h1,h2,h3,⟨⟨⟨h4,h5⟩,h6⟩,⟨h7,h8⟩⟩,h9⟩:=h
 omega
def qbw:List UInt8:=[112,117,114,101]
inductive Ao
 | bad (g:G9)
 | flt (e f:Int)
 | no (s:List UInt8) (n:Int)
 | ow (s:List UInt8) (w:List (Int×Int)) (n:Int)
section
attribute [local irreducible] mem9 isT nowT
variable (l:List Tok)
noncomputable def clsF:Nat→Int→Int→Cs→G9
 | 0,a,_,_=>bad9 l 3 a
 | k+1,a,sum,c =>
  bif isT (nowT l a) [125] then ⟨c,Me.zero,[],[],a+1,0,0⟩
  else match mem9 l c.params a (sum+(c.stmts:Int)) (isT (nowT l a) qbw) c.fields.length c.methods.length (bif isT (nowT l a) qbw then a+1 else a) with
   | .bad g=>g
   | .flt e f=>flt9 e f
   | .met m n=>clsF k n sum { c with methods:=c.methods++[m] }
   | .fld v n=>clsF k n sum { c with fields:=c.fields++[v] }
theorem clsF_0 (a sum:Int) (c:Cs):clsF l 0 a sum c=bad9 l 3 a:=rfl
theorem clsF_s (k:Nat) (a sum:Int) (c:Cs):clsF l (k+1) a sum c =
  bif isT (nowT l a) [125] then ⟨c,Me.zero,[],[],a+1,0,0⟩
  else match mem9 l c.params a (sum+(c.stmts:Int)) (isT (nowT l a) qbw) c.fields.length c.methods.length (bif isT (nowT l a) qbw then a+1 else a) with
   | .bad g=>g
   | .flt e f=>flt9 e f
   | .met m n=>clsF l k n sum { c with methods:=c.methods++[m] }
   | .fld v n=>clsF l k n sum { c with fields:=c.fields++[v] }:=rfl
end
section
variable (l:List Tok)
def abvI (a:Int):List (Int×Int)→Nat→Option G9
 | [],_=>none
 | o::r,i=>bif (bif o.1==1 then true else o.1==5) then some (bad9 l 4 (a+3+2*(i:Int))) else abvI a r (i+1)
def abv9 (ps:List (List UInt8)) (a:Int):Ao :=
 bif (nowT l (a+1)).kind != 1 then .bad (bad9 l 3 (a+1))
 else bif !isT (nowT l (a+2)) [60] then .no (nowT l (a+1)).text (a+2)
 else bif (own7 l ps (a+2)).err != 0 then .flt (own7 l ps (a+2)).err (own7 l ps (a+2)).fat
 else match abvI l a (own7 l ps (a+2)).l 0 with
  | some g=>.bad g
  | none=>.ow (nowT l (a+1)).text (own7 l ps (a+2)).l (own7 l ps (a+2)).next
noncomputable def clsB (a sum:Int) (c:Cs):G9 :=
 bif !isT (nowT l a) [123] then bad9 l 3 a else clsF l (l.length+1) (a+1) sum c
noncomputable def clsA (a sum:Int) (c:Cs):G9 :=
 bif isT (nowT l a) [101,120,116,101,110,100,115] then (match abv9 l c.params a with
  | .bad g=>g
  | .flt e f=>flt9 e f
  | .no s n=>clsB l n sum { c with super:=s }
  | .ow s w n=>clsB l n sum { c with super:=s,above:=w })
 else clsB l a sum c
noncomputable def cls9 (a sum:Int):G9 :=
 bif (nowT l (a+1)).kind != 1 then bad9 l 3 (a+1)
 else bif isT (nowT l (a+2)) [60] then
  (bif (namF l 3 (a+2) []).err != 0 then namF l 3 (a+2) []
  else clsA l (namF l 3 (a+2) []).next sum ⟨(nowT l (a+1)).text,(namF l 3 (a+2) []).n,[],[],[],[],(nowT l a).pos⟩)
 else clsA l (a+2) sum ⟨(nowT l (a+1)).text,[],[],[],[],[],(nowT l a).pos⟩
end
def aoR (c:Cs) (x:A):Ao→List A
 | .bad g=>G9.at g
 | .flt e f=>g9E e f
 | .no s n=>g9N (cR { c with super:=s } x .nl .nl .nl) n
 | .ow s w n=>g9N (cR { c with super:=s } x (.sl (w.map owAt)) .nl .nl) n
theorem abvL_eq (l:List Tok) (row:List A) (a:Int):∀(w:List (Int×Int)) (i:Nat),abvL row l a w i=match abvI l a w i with
  | some g=>G9.at g
  | none=>row
 | [],_=>rfl
 | o::r,i=>by
  rw [abvL,abvI]
  cases (bif o.1==1 then true else o.1==5) with
  | true=>rfl
  | false=>rw [cond_false,cond_false];exact abvL_eq l row a r (i+1)
theorem abvR_eq (l:List Tok) (ps:List (List UInt8)) (a:Int) (c:Cs) (x:A):abvR l ps a c x=aoR c x (abv9 l ps a):=by
 unfold abvR abv9
 cases (nowT l (a+1)).kind != 1 with
 | true=>rfl
 | false =>
 cases !isT (nowT l (a+2)) [60] with
 | true=>rfl
 | false =>
 cases (own7 l ps (a+2)).err != 0 with
 | true=>rfl
 | false =>
  rw [cond_false,cond_false,cond_false,cond_false,cond_false,cond_false,abvL_eq]
  cases abvI l a (own7 l ps (a+2)).l 0<;>rfl
/-! ### It goes on, and is right -/
section
variable {l:List Tok} (hl:Toks l)
include hl
theorem namF_ok:∀(k:Nat) (a b:Int) (out:List (List UInt8)),out.length+k=3→(∀s∈out,qan s=true)→(qai (fun s:List UInt8=>s.length+1) out:Int)≤21*(a-b)→(namF l k a out).err=0→(∀s∈(namF l k a out).n,qan s=true)∧(namF l k a out).n.length≤3∧(qai (fun s:List UInt8=>s.length+1) (namF l k a out).n:Int)≤21*((namF l k a out).next-b)∧a<(namF l k a out).next∧(namF l k a out).next≤l.length∧(namF l k a out).fat=0:=by
 intro k
 induction k with
 | zero =>
  intro a b out hk hr hs
  rw [qkq]
  cases c1:(nowT l (a+1)).kind != 1 with
  | true=>exact fun h=>absurd h (by show (3:Int)≠0;decide)
  | false =>
  rw [show ((out.length:Int)==3)=true by simp;omega]
  exact fun h=>absurd h (by show (10:Int)≠0;decide)
 | succ k ih =>
  intro a b out hk hr hs
  rw [qkq]
  cases c1:(nowT l (a+1)).kind != 1 with
  | true=>exact fun h=>absurd h (by show (3:Int)≠0;decide)
  | false =>
  have hn:=hl.name _ (by simpa using c1)
  have hnl:(nowT l (a+1)).text.length≤20:=by
   have hn:=hn
   unfold qan at hn
   simp only [Bool.and_eq_true,decide_eq_true_iff] at hn
   exact hn.1.1.1.2
  have hr2:∀s∈out++[(nowT l (a+1)).text],qan s=true:=fun s hs=>by
   rcases List.mem_append.1 hs with h|h
   ·exact hr s h
   ·rw [List.mem_singleton] at h;subst h;exact hn
  have hs2:(qai (fun s:List UInt8=>s.length+1) (out++[(nowT l (a+1)).text]):Int)≤21*(a+1-b):=by
   rw [qav,qaw];omega
  have hll:(out++[(nowT l (a+1)).text]).length=out.length+1:=by rw [List.length_append,List.length_singleton]
  rw [cond_false,show ((out.length:Int)==3)=false by simp;omega,cond_false]
  cases c2:isT (nowT l (a+2)) [62] with
  | true =>
   have hlt:=qam (qad l) c2
   refine fun _=>⟨hr2,?_,?_,?_,?_,rfl⟩
   ·show (out++[(nowT l (a+1)).text]).length≤3;omega
   ·show (qai (fun s:List UInt8=>s.length+1) (out++[(nowT l (a+1)).text]):Int)≤21*(a+3-b);omega
   ·show a<a+3;omega
   ·show a+3≤l.length;omega
  | false =>
  rw [cond_false]
  cases c3:isT (nowT l (a+2)) [44] with
  | false=>exact fun h=>absurd h (by show (3:Int)≠0;decide)
  | true =>
   intro h
   obtain⟨e1,e2,e3,e4,e5,e6⟩:=ih (a+2) b (out++[(nowT l (a+1)).text]) (by omega) hr2 (by omega) h
   exact⟨e1,e2,e3,by show a<(namF l k (a+2) (out++[(nowT l (a+1)).text])).next;omega,e5,e6⟩
structure OkC (N a sum:Int) (g:G9):Prop where
 r:g.c.rightB=true
 lt:a<g.next
 le:g.next≤N
 sz:(g.c.sz:Int)≤21*(g.next-a)
 ct:sum+(g.c.stmts:Int)≤400
 ft:g.fat=0
omit hl in
theorem ql4 (ps:List (List UInt8)) (a b sum:Int) (pu:Bool) (nf nm:Nat):(∀g,mem9 l ps b sum pu nf nm a=.bad g→(g.err != 0)=true)∧∀e f,mem9 l ps b sum pu nf nm a=.flt e f→(e != 0)=true:=by
 have hb:∀e a,(bad9 l e a).err=e:=fun _ _=>rfl
 unfold mem9
 generalize par7 l ps a true=q
 cases c1:q.err != 0 with
 | true=>exact⟨(fun g h=>by cases h),fun e f h=>by injection h with h1 h2;subst h1;exact c1⟩
 | false =>
 rw [cond_false]
 cases c2:(nowT l q.next).kind != 1 with
 | true=>exact⟨(fun g h=>by injection h with h;subst h;rw [hb];rfl),fun e f h=>by cases h⟩
 | false =>
 rw [cond_false]
 cases c3:isT (nowT l (q.next+1)) [40] with
 | true =>
  rw [cond_true]
  cases c4:(nm:Int)==12 with
  | true=>exact⟨(fun g h=>by injection h with h;subst h;rw [hb];rfl),fun e f h=>by cases h⟩
  | false =>
  rw [cond_false]
  generalize met9 l ps (q.next+1) ⟨(nowT l q.next).text,pu,q.t,[],[],[],(nowT l b).pos⟩ sum=g
  cases c5:g.err != 0 with
  | true=>exact⟨(fun g h=>by injection h with h;subst h;exact c5),fun e f h=>by cases h⟩
  | false=>exact⟨(fun g h=>by cases h),fun e f h=>by cases h⟩
 | false =>
  rw [cond_false]
  cases (bif (bif !isT (nowT l (q.next+1)) [59] then true else pu) then true else q.t.kind==0) with
  | true=>exact⟨(fun g h=>by injection h with h;subst h;rw [hb];rfl),fun e f h=>by cases h⟩
  | false =>
  rw [cond_false]
  cases (nf:Int)==12 with
  | true=>exact⟨(fun g h=>by injection h with h;subst h;rw [hb];rfl),fun e f h=>by cases h⟩
  | false=>exact⟨(fun g h=>by cases h),fun e f h=>by cases h⟩
theorem clsF_ok:∀(k:Nat) (a b sum:Int) (c:Cs),0≤a→b≤a→a≤l.length→c.rightB=true→(c.sz:Int)≤21*(a-b)→sum+(c.stmts:Int)≤400→(clsF l k a sum c).err=0→OkC l.length b sum (clsF l k a sum c):=by
 intro k
 induction k with
 | zero=>intro a b sum c _ _ _ _ _ _ h;rw [clsF_0] at h;exact absurd h (by show (3:Int)≠0;decide)
 | succ k ih =>
  intro a b sum c h0 hb h1 hr hs hc
  rw [clsF_s]
  cases c0:isT (nowT l a) [125] with
  | true =>
   have hlt:=qam (qad l) c0
   refine fun _=>⟨hr,?_,?_,?_,hc,rfl⟩
   ·show b<a+1;omega
   ·show a+1≤l.length;omega
   ·show (c.sz:Int)≤21*(a+1-b);omega
  | false =>
  rw [cond_false]
  obtain⟨hb1,hb2⟩:=ql4 (l:=l) c.params (bif isT (nowT l a) qbw then a+1 else a) a (sum+(c.stmts:Int)) (isT (nowT l a) qbw) c.fields.length c.methods.length
  have hpa:a≤(bif isT (nowT l a) qbw then a+1 else a):=by cases isT (nowT l a) qbw<;>simp<;>omega
  have hm1:=fun m n=>ql2 hl (ps:=c.params) (bif isT (nowT l a) qbw then a+1 else a) a (sum+(c.stmts:Int)) (isT (nowT l a) qbw) c.fields.length c.methods.length m n h0 hpa hc
  have hm2:=fun v n=>ql3 hl (ps:=c.params) (bif isT (nowT l a) qbw then a+1 else a) a (sum+(c.stmts:Int)) (isT (nowT l a) qbw) c.fields.length c.methods.length v n hpa
  generalize mem9 l c.params a (sum+(c.stmts:Int)) (isT (nowT l a) qbw) c.fields.length c.methods.length (bif isT (nowT l a) qbw then a+1 else a)=o at *
  cases o with
  | bad g=>exact fun h=>absurd h (by simpa using hb1 g rfl)
  | flt e f=>exact fun h=>absurd h (by simpa [flt9] using hb2 e f rfl)
  | met m n =>
   obtain⟨q,qn⟩:=hm1 m n rfl
   obtain⟨w1,w2,w3⟩:=Cs.addM hr q.r qn
   have q1:=q.lt;have q2:=q.le;have q3:=q.sz;have q4:=q.ct
   exact ih n b sum _ (by omega) (by omega) q2 w1 (by rw [w2];omega) (by rw [w3];omega)
  | fld v n =>
   obtain⟨q,qn⟩:=hm2 v n rfl
   obtain⟨w1,w2,w3⟩:=Cs.addF hr q.r qn
   have q1:=q.lt;have q2:=q.le;have q3:=q.sz
   exact ih n b sum _ (by omega) (by omega) q2 w1 (by rw [w2];omega) (by rw [w3];omega)
omit hl in
theorem abvI_ok (a:Int):∀(w:List (Int×Int)) (i:Nat),(∀g,abvI l a w i=some g→(g.err != 0)=true)∧(abvI l a w i=none→∀o∈w,o.1≠1∧o.1≠5)
 | [],i=>⟨fun g h=>(by cases h),fun _ o h=>(by simp at h)⟩
 | o::r,i=>by
  rw [abvI]
  cases c:(bif o.1==1 then true else o.1==5) with
  | true=>exact⟨(fun g h=>by injection h with h;subst h;rfl),fun h=>by cases h⟩
  | false =>
   rw [cond_false]
   obtain⟨h1,h2⟩:=abvI_ok a r (i+1)
   refine⟨h1,fun h o' ho=>?_⟩
   rcases List.mem_cons.1 ho with rfl|ho
   ·cases c1:o'.1==1 with
    | true=>rw [c1] at c;cases c
    | false =>
     rw [c1,cond_false] at c
     exact⟨by simpa using c1,by simpa using c⟩
   ·exact h2 h o' ho
def AoOk (N a:Int) (p:Nat):Ao→Prop
 | .bad g=>(g.err != 0)=true
 | .flt e _=>(e != 0)=true
 | .no s n=>qan s=true∧n=a+2∧n≤N
 | .ow s w n=>qan s=true∧w.length≤3∧w.all (abB p)=true∧a+2+w.length≤n∧n≤N
theorem qk8 (ps:List (List UInt8)) (a:Int):AoOk l.length a ps.length (abv9 l ps a):=by
 have ho:=qfs (qad l) (ps:=ps) (a+2)
 unfold abv9
 generalize own7 l ps (a+2)=q at *
 cases c1:(nowT l (a+1)).kind != 1 with
 | true=>exact (by rfl)
 | false =>
 have hn:=hl.name _ (by simpa using c1)
 rw [cond_false]
 cases c2:isT (nowT l (a+2)) [60] with
 | false =>
  have h9:a+1<l.length:=by
   rcases (show a+1<(l.length:Int)∨(l.length:Int)≤a+1 by omega) with h|h
   ·exact h
   ·have:=qad l (a+1) h
    rw [this] at c1;cases c1
  exact⟨hn,rfl,by omega⟩
 | true =>
 simp only [Bool.not_true,cond_false]
 cases c3:q.err != 0 with
 | true=>exact c3
 | false =>
 rw [cond_false]
 obtain⟨q1,q2,q3,q4,q5,_⟩:=ho (by simpa using c3)
 obtain⟨i1,i2⟩:=abvI_ok (l:=l) a q.l 0
 cases c4:abvI l a q.l 0 with
 | some g=>exact i1 g c4
 | none =>
  have hne:=i2 c4
  refine⟨hn,q2,?_,by omega,q5⟩
  rw [List.all_eq_true]
  intro o ho
  obtain⟨k1,k2,k3,k4⟩:=q3 o ho
  obtain⟨k5,k6⟩:=hne o ho
  unfold abB
  rw [k1]
  have hk:owB o (ps.length:Int)=true:=k1
  have h9:o.1=2∨o.1=3∨o.1=4:=by
   unfold owB at hk
   split at hk
   ·rename_i h;exact .inr (.inl h)
   ·simp only [Bool.and_eq_true,Bool.or_eq_true,beq_iff_eq] at hk
    omega
  rcases h9 with h|h|h<;>rw [h]<;>rfl
end
end
end Go.Proofs.YtfbopaaambkfkaaGreatDoor
