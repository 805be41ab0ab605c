/- What the document's reader of statements reads may be: the kinds. No program in sight. Conditions: none. -/
import Derived.Test.YtfbopaaambkfkaaGreatDoorMg33
import Derived.Test.YtfbopaaambkfkaaGreatDoorMg34
import Derived.Test.YtfbopaaambkfkaaGreatDoorMg12
import Derived.Test.YtfbopaaambkfkaaGreatDoorMg35
set_option linter.unusedVariables false
set_option maxRecDepth 100000
set_option maxHeartbeats 8000000
set_option linter.unusedSimpArgs false
namespace Go.Proofs.YtfbopaaambkfkaaGreatDoor
open Go.RowKit
section
def obB (y:List UInt8):Bool:=qan y||y==[116,104,105,115]
theorem qbm:Ex.zero.sameB Ex.zero=true:=rfl
section
variable {p:Int} {x y n:List UInt8} {e:Ex} {t:Int}
theorem form_k1 (hx:qan x=true) (he:e.rightB=true):St.formB p ⟨1,x,[],[],Ty.zero,e,[],[],[],t⟩=true:=by
 rw [St.form_eq];simp [St.onlyB,St.blank,St.namesB,St.tellsB,St.noneB,St.formsB,hx,he,qbm]
theorem form_k2 (hx:qan x=true) (hy:obB y=true) (hn:qan n=true):St.formB p ⟨2,x,y,n,Ty.zero,Ex.zero,[],[],[],t⟩=true:=by
 unfold obB at hy
 rw [St.form_eq];simp [St.onlyB,St.blank,St.namesB,St.tellsB,St.noneB,St.formsB,hx,hn,qbm]
 simpa using hy
theorem form_k3 (hy:obB y=true) (hn:qan n=true) (he:e.rightB=true):St.formB p ⟨3,[],y,n,Ty.zero,e,[],[],[],t⟩=true:=by
 unfold obB at hy
 rw [St.form_eq];simp [St.onlyB,St.blank,St.namesB,St.tellsB,St.noneB,St.formsB,hn,he,qbm]
 simpa using hy
theorem form_k4 {args:List Ex} (hx:qan x=true∨x=[]) (hy:obB y=true) (hn:qan n=true) (hl:args.length≤5) (ha:∀e∈args,e.rightB=true):St.formB p ⟨4,x,y,n,Ty.zero,Ex.zero,args,[],[],t⟩=true:=by
 unfold obB at hy
 rw [St.form_eq];simp [St.onlyB,St.blank,St.namesB,St.tellsB,St.noneB,St.formsB,hn,qbm]
 refine⟨⟨hx,by simpa using hy⟩,by omega,ha⟩
theorem form_k5 {ty:Ty} (hx:qan x=true) (hk:ty.kind=2) (ht:tyB ty p=true):St.formB p ⟨5,x,[],[],ty,Ex.zero,[],[],[],t⟩=true:=by
 rw [St.form_eq];simp [St.onlyB,St.blank,St.namesB,St.tellsB,St.noneB,St.formsB,hx,hk,ht,qbm]
theorem form_k6 {ty:Ty} (hx:qan x=true) (hk:ty.kind=2) (ht:tyB ty p=true) (he:e.rightB=true) (hke:e.kind=2∨e.kind=3∨e.kind=4):St.formB p ⟨6,x,[],[],ty,e,[],[],[],t⟩=true:=by
 rw [St.form_eq];simp [St.onlyB,St.blank,St.namesB,St.tellsB,St.noneB,St.formsB,hx,hk,ht,he,qbm]
 omega
theorem form_k7 (hx:qan x=true) (hy:qan y=true):St.formB p ⟨7,x,y,[],Ty.zero,Ex.zero,[],[],[],t⟩=true:=by
 rw [St.form_eq];simp [St.onlyB,St.blank,St.namesB,St.tellsB,St.noneB,St.formsB,hx,hy,qbm]
theorem form_k8 (hy:qan y=true):St.formB p ⟨8,[],y,[],Ty.zero,Ex.zero,[],[],[],t⟩=true:=by
 rw [St.form_eq];simp [St.onlyB,St.blank,St.namesB,St.tellsB,St.noneB,St.formsB,hy,qbm]
theorem form_k9 {b c:List St} (he:e.rightB=true) (hb:St.formsB p b=true) (hc:St.formsB p c=true):St.formB p ⟨9,[],[],[],Ty.zero,e,[],b,c,t⟩=true:=by
 rw [St.form_eq];simp [St.onlyB,St.blank,St.namesB,St.tellsB,St.noneB,he,hb,hc,qbm]
theorem form_k10 {b:List St} (he:e.rightB=true) (hb:St.formsB p b=true):St.formB p ⟨10,[],[],[],Ty.zero,e,[],b,[],t⟩=true:=by
 rw [St.form_eq];simp [St.onlyB,St.blank,St.namesB,St.tellsB,St.noneB,St.formsB,he,hb,qbm]
theorem qmc (he:e.rightB=true∨e=Ex.zero):St.formB p ⟨11,[],[],[],Ty.zero,e,[],[],[],t⟩=true:=by
 rw [St.form_eq];simp [St.onlyB,St.blank,St.namesB,St.tellsB,St.noneB,St.formsB,qbm]
 rcases he with he|he
 ·exact .inr he
 ·rw [he];exact .inl rfl
end
end
section
def sX (x:List UInt8) (t:Int):St:=⟨0,x,[],[],Ty.zero,Ex.zero,[],[],[],t⟩
def RdS (p:Nat) (x:Nat) (a d:Int) (g:G8):Prop:=g.err=0→St.formB p g.s=true∧(g.s.deep:Int)≤d∧(g.s.sz:Int)≤x+21*(g.next-a)∧(g.s.cnt:Int)≤g.next-a∧g.s.openB p=true∧g.fat=0
theorem qco {l:List Tok} {p x:Nat} {z a e d:Int} (he:e≠0):RdS p x a d (bad8 l e z):=fun h=>absurd h he
theorem qg7 {p x:Nat} {a d e f:Int} (he:e≠0):RdS p x a d (flt8 e f):=fun h=>absurd h he
theorem qdr {l:List Tok} {p x:Nat} {z a d:Int} {s:St} (hz:a≤z) (hd:1≤d) (hf:St.formB p s=true) (hb:s.body=[]) (he:s.els=[]) (ho:s.ty.kind=2→wrB s.ty p=true) (hs:(s.sz:Int)≤x+21*(z+1-a)):RdS p x a d (end8 l z s):=by
 unfold end8
 cases c:isT (nowT l z) [59] with
 | false=>exact fun h=>absurd h (by show (3:Int)≠0;decide)
 | true =>
  refine fun _=>⟨hf,?_,hs,?_,?_,rfl⟩
  ·show (s.deep:Int)≤d
   rw [St.deep_eq,hb,he];simp [St.deeps];omega
  ·show (s.cnt:Int)≤z+1-a
   rw [St.cnt_eq,hb,he];simp [St.cnts];omega
  ·show s.openB p=true
   rw [St.open_eq,hb,he]
   cases hk:s.ty.kind==2 with
   | false=>simp [St.opensB]
   | true=>rw [ho (by simpa using hk)];simp [St.opensB]
theorem qgf:Ex.zero.sz=1:=rfl
theorem qe4:Ty.zero.cls=[]:=rfl
theorem tz_kind:Ty.zero.kind=0:=rfl
section
variable {l:List Tok} {ps:List (List UInt8)} (hl:Toks l)
include hl
theorem ob_of {a:Int} (h:whoD l a=true):obB (nowT l a).text=true∧(nowT l a).text.length≤20:=by
 unfold whoD at h
 rw [Bool.or_eq_true] at h
 unfold obB
 rcases h with h|h
 ·have h1:=hl.name a (by simpa using h)
  refine⟨by rw [h1];rfl,qf3 hl.name (by simpa using h)⟩
 ·unfold isT at h
  rw [Bool.and_eq_true,beq_iff_eq] at h
  rw [h.2]
  exact⟨by simp,by decide⟩
theorem pt8_rd {a d:Int} {x:List UInt8} {t:Int} (hx:qan x=true∨x=[]) (h0:0≤a) (h1:a≤l.length) (hw:whoD l a=true) (hd:1≤d):RdS ps.length x.length a d (pt8 l a (sX x t)):=by
 obtain⟨hy,hy20⟩:=ob_of hl hw
 unfold pt8 pyS
 cases c1:(nowT l (a+2)).kind != 1 with
 | true=>exact qco (by decide)
 | false =>
 have hk1:(nowT l (a+2)).kind=1:=by simpa using c1
 have hn:=hl.name _ hk1
 have hn20:=qf3 hl.name hk1
 cases c2:isT (nowT l (a+3)) [40] with
 | true =>
  have hlt:=qam (qad l) c2
  have hA:=qiz hl (a+3) (by omega) hlt
  simp only [cond_true,cond_false]
  cases c3:(qdz l (a+3)).err != 0 with
  | true=>exact fun h=>absurd h (by simpa using c3)
  | false =>
   obtain⟨q1,q2,q3,_,q5,_⟩:=hA (by simpa using c3)
   refine qdr (by omega) hd (form_k4 hx hy hn q1 q2) rfl rfl (fun h=>by cases h) ?_
   rw [St.sz_eq];simp only [sX,qgf,qe4,St.szs,List.length_nil];push_cast;omega
 | false =>
 simp only [cond_true,cond_false]
 cases c3:(sX x t).x==[] with
 | false =>
  have hx2:qan x=true:=hx.resolve_right fun h=>by rw [h] at c3;cases c3
  refine qdr (by omega) hd (form_k2 hx2 hy hn) rfl rfl (fun h=>by cases h) ?_
  rw [St.sz_eq];simp only [sX,qgf,qe4,St.szs,Ex.szs,List.length_nil];push_cast;omega
 | true =>
 have hx0:x=[]:=by
  have:(x==[])=true:=c3
  simpa using this
 subst hx0
 cases c4:isT (nowT l (a+3)) [61] with
 | false=>exact qco (by decide)
 | true =>
 have hlt:=qam (qad l) c4
 have hq:=(hl.p6 (a+4) (by omega) (by omega)).2
 simp only [Bool.not_true,cond_false]
 cases c5:(p6 l (a+4)).err != 0 with
 | true=>exact qg7 (by simpa using c5)
 | false =>
  obtain⟨_,_,q3,_,q5,_⟩:=hq (by simpa using c5)
  refine qdr (by omega) hd (form_k3 hy hn (hq.right (by simpa using c5))) rfl rfl (fun h=>by cases h) ?_
  rw [St.sz_eq];simp only [sX,qe4,St.szs,Ex.szs,List.length_nil];push_cast;omega
theorem typ8_rd {a d:Int} {x:List UInt8} {t:Int} (hx:qan x=true) (hd:1≤d):RdS ps.length x.length a d (typ8 l ps a (sX x t)):=by
 have hg:=qb1 (qad l) hl.name (ps:=ps) (a+1) (isT (nowT l a) [99,97,115,116])
 unfold typ8
 generalize par7 l ps (a+1) (isT (nowT l a) [99,97,115,116])=g at *
 cases c1:g.err != 0 with
 | true=>exact qg7 (by simpa using c1)
 | false =>
 obtain⟨q1,q2,q3,q4,_⟩:=hg (by simpa using c1)
 cases c2:g.t.kind != 2 with
 | true=>exact qco (by decide)
 | false =>
 have hk:g.t.kind=2:=by simpa using c2
 have ht:tyB g.t ps.length=true:=by unfold wrB at q1;simp only [Bool.and_eq_true] at q1;exact q1.1.1.1.1
 cases c3:isT (nowT l a) [99,97,115,116] with
 | false =>
  refine qdr (by omega) hd (form_k5 hx hk ht) rfl rfl (fun _=>q1) ?_
  rw [St.sz_eq];simp only [sX,qgf,St.szs,Ex.szs,List.length_nil];push_cast;omega
 | true =>
 have fin:∀e:Ex,e.rightB=true→(e.kind=2∨e.kind=3∨e.kind=4)→e.sz≤21→RdS ps.length x.length a d (end8 l (g.next+1) ⟨6,x,[],[],g.t,e,[],[],[],t⟩):=fun e h1 h2 h3=>by
  refine qdr (by omega) hd (form_k6 hx hk ht h1 h2) rfl rfl (fun _=>q1) ?_
  rw [St.sz_eq];simp only [St.szs,Ex.szs,List.length_nil];push_cast;omega
 cases c4:(nowT l g.next).kind==1 with
 | true =>
  have hn:=hl.name g.next (by simpa using c4)
  have h20:=qf3 hl.name (a:=g.next) (by simpa using c4)
  refine fin _ ?_ (.inl rfl) ?_
  ·unfold Ex.rightB;rw [qmb hn];rfl
  ·rw [Ex.sz_eq];simp only [Ex.szs];omega
 | false =>
 cases c5:isT (nowT l g.next) [116,104,105,115] with
 | true=>exact fin _ rfl (.inr (.inl rfl)) (by decide)
 | false =>
 cases c6:isT (nowT l g.next) [110,117,108,108] with
 | true=>exact fin _ rfl (.inr (.inr rfl)) (by decide)
 | false=>exact qco (by decide)
theorem set8_rd {a d:Int} {x:List UInt8} {t:Int} (hx:qan x=true) (h0:0≤a) (h1:a≤l.length) (hd:1≤d):RdS ps.length x.length a d (set8 l ps a (sX x t)):=by
 unfold set8
 cases c1:isT (nowT l a) [110,101,119]||isT (nowT l a) [99,97,115,116] with
 | true=>exact typ8_rd hl hx hd
 | false =>
 cases c2:isT (nowT l a) [109,111,118,101] with
 | true =>
  simp only [cond_true,cond_false]
  cases c3:(nowT l (a+1)).kind != 1 with
  | true=>exact qco (by decide)
  | false =>
   have hn:=hl.name (a+1) (by simpa using c3)
   have h20:=qf3 hl.name (a:=a+1) (by simpa using c3)
   refine qdr (by omega) hd (form_k7 hx hn) rfl rfl (fun h=>by cases h) ?_
   rw [St.sz_eq];simp only [sX,qgf,qe4,St.szs,Ex.szs,List.length_nil];push_cast;omega
 | false =>
 cases c3:whoD l a&&isT (nowT l (a+1)) [46] with
 | true =>
  rw [Bool.and_eq_true] at c3
  exact pt8_rd hl (.inl hx) h0 h1 c3.1 hd
 | false =>
 have hq:=(hl.p6 a h0 h1).2
 simp only [cond_true,cond_false]
 cases c5:(p6 l a).err != 0 with
 | true=>exact qg7 (by simpa using c5)
 | false =>
  obtain⟨_,_,q3,_,q5,_⟩:=hq (by simpa using c5)
  refine qdr (by omega) hd (form_k1 hx (hq.right (by simpa using c5))) rfl rfl (fun h=>by cases h) ?_
  rw [St.sz_eq];simp only [sX,qe4,St.szs,Ex.szs,List.length_nil];push_cast;omega
end
end
section
def RdB (p:Nat) (a d:Int) (g:G8):Prop:=g.err=0→St.formsB p g.l=true∧(St.deeps g.l:Int)≤d∧(St.szs g.l:Int)≤21*(g.next-a)∧(St.cnts g.l:Int)≤g.next-a∧St.opensB p g.l=true∧g.fat=0
theorem qk6 {l:List Tok} {p:Nat} {z a e d:Int} (he:e≠0):RdB p a d (bad8 l e z):=fun h=>absurd h he
theorem qm0 {p:Int} {l:List St} {s:St} (h1:St.formsB p l=true) (h2:St.formB p s=true):St.formsB p (l++[s])=true:=by
 rw [St.formsB_all] at *;simp_all
theorem qmp {p:Int} {l:List St} {s:St} (h1:St.opensB p l=true) (h2:s.openB p=true):St.opensB p (l++[s])=true:=by
 rw [St.opensB_all] at *;simp_all
theorem szs_snoc (l:List St) (s:St):St.szs (l++[s])=St.szs l+s.sz:=by
 induction l with
 | nil=>simp [St.szs]
 | cons e r ih=>rw [List.cons_append,St.szs,St.szs,ih];omega
theorem cnts_snoc (l:List St) (s:St):St.cnts (l++[s])=St.cnts l+s.cnt:=by
 induction l with
 | nil=>simp [St.cnts]
 | cons e r ih=>rw [List.cons_append,St.cnts,St.cnts,ih];omega
theorem qm2 (l:List St) (s:St):St.deeps (l++[s])=max (St.deeps l) s.deep:=by
 induction l with
 | nil=>simp [St.deeps]
 | cons e r ih=>rw [List.cons_append,St.deeps,St.deeps,ih];omega
section
variable {l:List Tok} {ps:List (List UInt8)} (hl:Toks l)
include hl
theorem ask8_rd {bl:Int→Int→G8} {a nest t:Int} (h0:0≤a) (n1:nest<20) (hb:∀b,a<b→b≤l.length→Fw l.length b (bl b (nest+1))∧RdB ps.length b (19-nest) (bl b (nest+1))):RdS ps.length 0 a (20-nest) (ask8 l bl a nest (sX [] t)):=by
 unfold ask8
 cases c1:isT (nowT l (a+1)) [40] with
 | false=>exact qco (by decide)
 | true =>
 have hlt:=qam (qad l) c1
 have hq:=(hl.p6 (a+2) (by omega) (by omega)).2
 simp only [Bool.not_true,cond_false]
 cases c2:(p6 l (a+2)).err != 0 with
 | true=>exact qg7 (by simpa using c2)
 | false =>
 obtain⟨_,_,q,q2,q5,_⟩:=hq (by simpa using c2)
 have hqr:=hq.right (by simpa using c2)
 cases c3:isT (nowT l (p6 l (a+2)).next) [41] with
 | false=>exact qco (by decide)
 | true =>
 have hlt2:=qam (qad l) c3
 obtain⟨hf1,hb1⟩:=hb ((p6 l (a+2)).next+1) (by omega) (by omega)
 generalize hb1e:bl ((p6 l (a+2)).next+1) (nest+1)=b at *
 generalize p6 l (a+2)=g at *
 simp only [Bool.not_true,cond_false]
 cases c4:b.err != 0 with
 | true=>exact fun h=>absurd h (by simpa using c4)
 | false =>
 obtain⟨q3,q4⟩:=hf1 (by simpa using c4)
 obtain⟨r1,r2,r3,r4,r5,r6⟩:=hb1 (by simpa using c4)
 cases c5 : !isT (nowT l a) [119,104,105,108,101]&&isT (nowT l b.next) [101,108,115,101] with
 | false =>
  refine fun _=>⟨?_,?_,?_,?_,?_,rfl⟩
  ·cases isT (nowT l a) [119,104,105,108,101] with
   | true=>exact form_k10 hqr r1
   | false=>exact form_k9 hqr r1 rfl
  ·show ((St.deep ⟨_,[],[],[],Ty.zero,g.e,[],b.l,[],t⟩:Nat):Int)≤_
   rw [St.deep_eq];simp only [St.deeps];omega
  ·show ((St.sz ⟨_,[],[],[],Ty.zero,g.e,[],b.l,[],t⟩:Nat):Int)≤((0:Nat):Int)+21*(b.next-a)
   rw [St.sz_eq];simp only [qe4,St.szs,Ex.szs,List.length_nil];omega
  ·show ((St.cnt ⟨_,[],[],[],Ty.zero,g.e,[],b.l,[],t⟩:Nat):Int)≤b.next-a
   rw [St.cnt_eq];simp only [St.cnts];omega
  ·show St.openB _ ⟨_,[],[],[],Ty.zero,g.e,[],b.l,[],t⟩=true
   rw [St.open_eq];simp [tz_kind,r5,St.opensB]
 | true =>
  rw [Bool.and_eq_true] at c5
  have hlt3:=qam (qad l) c5.2
  obtain⟨hf2,hb2⟩:=hb (b.next+1) (by omega) (by omega)
  simp only [cond_true,cond_false]
  generalize bl (b.next+1) (nest+1)=e at *
  cases c6:e.err != 0 with
  | true=>exact fun h=>absurd h (by simpa using c6)
  | false =>
   obtain⟨q5',q6⟩:=hf2 (by simpa using c6)
   obtain⟨s1,s2,s3,s4,s5,s6⟩:=hb2 (by simpa using c6)
   refine fun _=>⟨form_k9 hqr r1 s1,?_,?_,?_,?_,rfl⟩
   ·show ((St.deep ⟨9,[],[],[],Ty.zero,g.e,[],b.l,e.l,t⟩:Nat):Int)≤_
    rw [St.deep_eq];dsimp only;omega
   ·show ((St.sz ⟨9,[],[],[],Ty.zero,g.e,[],b.l,e.l,t⟩:Nat):Int)≤((0:Nat):Int)+21*(e.next-a)
    rw [St.sz_eq];simp only [qe4,Ex.szs,List.length_nil];omega
   ·show ((St.cnt ⟨9,[],[],[],Ty.zero,g.e,[],b.l,e.l,t⟩:Nat):Int)≤e.next-a
    rw [St.cnt_eq];dsimp only;omega
   ·show St.openB _ ⟨9,[],[],[],Ty.zero,g.e,[],b.l,e.l,t⟩=true
    rw [St.open_eq];simp [tz_kind,r5,s5]
theorem par8_rd {ask:Int→Int→St→G8} {a nest:Int} (h0:0≤a) (n0:0≤nest) (ha:∀t,a<l.length→nest<20→RdS ps.length 0 a (20-nest) (ask a nest (sX [] t))):RdS ps.length 0 a (20-nest) (par8 l ps ask a nest):=by
 have hs0:s0D l a=sX [] (nowT l a).pos:=rfl
 unfold par8
 rw [hs0,show max nest 0=nest by omega]
 cases c1:decide (nest≥20) with
 | true=>exact qco (by decide)
 | false =>
 have n1:nest<20:=by have:=of_decide_eq_false c1;omega
 cases c2:whoD l a&&isT (nowT l (a+1)) [46] with
 | true =>
  rw [Bool.and_eq_true] at c2
  have hlt:=qam (qad l) c2.2
  exact pt8_rd hl (.inr rfl) h0 (by omega) c2.1 (by omega)
 | false =>
 cases c3:(nowT l a).kind==1 with
 | true =>
  have hn:=hl.name a (by simpa using c3)
  have h20:=qf3 hl.name (a:=a) (by simpa using c3)
  simp only [cond_true,cond_false]
  cases c4:isT (nowT l (a+1)) [61] with
  | false=>exact qco (by decide)
  | true =>
   have hlt:=qam (qad l) c4
   intro h
   obtain⟨q1,q2,q3,q4,q5,q6⟩:=set8_rd hl (ps:=ps) (a:=a+2) (t:=(nowT l a).pos) hn (by omega) (by omega) (show (1:Int)≤20-nest by omega) h
   exact⟨q1,q2,Int.le_trans q3 (by show (_:Int)≤((0:Nat):Int)+_;rw [show (set8 l ps (a+2) (sX (nowT l a).text (nowT l a).pos)).next-(a+2)=((set8 l ps (a+2) (sX (nowT l a).text (nowT l a).pos)).next-a)-2 by omega];show _≤((0:Nat):Int)+21*((set8 l ps (a+2) (sX (nowT l a).text (nowT l a).pos)).next-a);omega),Int.le_trans q4 (by show _≤(set8 l ps (a+2) (sX (nowT l a).text (nowT l a).pos)).next-a;omega),q5,q6⟩
 | false =>
 cases c4:isT (nowT l a) [116,104,105,115] with
 | true=>exact qco (by decide)
 | false =>
 cases c5:isT (nowT l a) [100,101,108,101,116,101] with
 | true =>
  simp only [cond_true,cond_false]
  cases c6:(nowT l (a+1)).kind != 1 with
  | true=>exact qco (by decide)
  | false =>
   have hn:=hl.name (a+1) (by simpa using c6)
   have h20:=qf3 hl.name (a:=a+1) (by simpa using c6)
   refine qdr (by omega) (by omega) (form_k8 hn) rfl rfl (fun h=>by cases h) ?_
   rw [St.sz_eq];simp only [sX,qgf,qe4,St.szs,Ex.szs,List.length_nil];omega
 | false =>
 cases c6:isT (nowT l a) [105,102]||isT (nowT l a) [119,104,105,108,101] with
 | true =>
  have hlt:a<l.length:=by
   rw [Bool.or_eq_true] at c6
   rcases c6 with h|h<;>exact qam (qad l) h
  exact ha _ hlt n1
 | false =>
 cases c7:isT (nowT l a) [114,101,116,117,114,110] with
 | false=>exact qco (by decide)
 | true =>
 have hlt:=qam (qad l) c7
 simp only [Bool.not_true,cond_false]
 cases c8:isT (nowT l (a+1)) [59] with
 | true =>
  refine fun _=>⟨qmc (.inr rfl),?_,?_,?_,rfl,rfl⟩
  ·show ((1:Nat):Int)≤20-nest;omega
  ·show ((2:Nat):Int)≤((0:Nat):Int)+21*(a+2-a);omega
  ·show ((1:Nat):Int)≤a+2-a;omega
 | false =>
 have hq:=(hl.p6 (a+1) (by omega) (by omega)).2
 simp only [cond_false]
 cases c9:(p6 l (a+1)).err != 0 with
 | true=>exact qg7 (by simpa using c9)
 | false =>
  obtain⟨_,_,q,_,q5,_⟩:=hq (by simpa using c9)
  refine qdr (by omega) (by omega) (qmc (.inl (hq.right (by simpa using c9)))) rfl rfl (fun h=>by cases h) ?_
  rw [St.sz_eq];simp only [sX,qe4,St.szs,Ex.szs,List.length_nil];omega
theorem qke:∀(n:Nat) (a nest b:Int) (out:List St),0≤a→b≤a→0≤nest→nest≤20→St.formsB ps.length out=true→(St.deeps out:Int)≤20-nest→(St.szs out:Int)≤21*(a-b)→(St.cnts out:Int)≤a-b→St.opensB ps.length out=true→RdB ps.length b (20-nest) (row8 l ps n a nest out)
 | 0,a,nest,b,out,_,_,_,_,_,_,_,_,_=>qk6 (by decide)
 | n+1,a,nest,b,out,h0,hba,n0,n1,o1,o2,o3,o4,o5=>by
  rw [row8]
  cases c1:isT (nowT l a) [125] with
  | true =>
   exact fun _=>⟨o1,o2,by show (St.szs out:Int)≤21*(a+1-b);omega,by show (St.cnts out:Int)≤a+1-b;omega,o5,rfl⟩
  | false =>
  have hbf:∀b m,0≤b→Fw l.length b (blk8 l (row8 l ps n) b m):=fun b m hb=>by
   unfold blk8
   cases c:isT (nowT l b) [123] with
   | false=>exact qbt (by decide)
   | true =>
    intro h
    have:=qic hl (ps:=ps) n (b+1) m [] (by omega) h
    exact⟨Int.lt_trans (show b<b+1 by omega) this.1,this.2⟩
  have hbr:∀b,0≤b→nest<20→RdB ps.length b (19-nest) (blk8 l (row8 l ps n) b (nest+1)):=fun b hb hn=>by
   unfold blk8
   cases c:isT (nowT l b) [123] with
   | false=>exact qk6 (by decide)
   | true =>
    have:=qke n (b+1) (nest+1) b [] (by omega) (by omega) (by omega) (by omega) rfl (by simp [St.deeps];omega) (by simp [St.szs];omega) (by simp [St.cnts];omega) rfl
    rw [show (20:Int)-(nest+1)=19-nest by omega] at this
    exact this
  have hp:=qii hl (ps:=ps) (ask:=ask8 l (blk8 l (row8 l ps n))) (a:=a) (nest:=nest) h0 fun s hlt=>qix hl h0 fun b h1 h2=>hbf b _ (by omega)
  have hr:=par8_rd hl (ps:=ps) (ask:=ask8 l (blk8 l (row8 l ps n))) (a:=a) (nest:=nest) h0 n0 fun t hlt hn=>ask8_rd hl h0 hn fun b h1 h2=>⟨hbf b _ (by omega),hbr b (by omega) hn⟩
  generalize par8 l ps (ask8 l (blk8 l (row8 l ps n))) a nest=g at *
  simp only [cond_false]
  cases c2:g.err != 0 with
  | true=>exact fun h=>absurd h (by simpa using c2)
  | false =>
   obtain⟨q1,q2⟩:=hp (by simpa using c2)
   obtain⟨r1,r2,r3,r4,r5,r6⟩:=hr (by simpa using c2)
   exact qke n g.next nest b (out++[g.s]) (by omega) (by omega) n0 n1 (qm0 o1 r1) (by rw [qm2];omega) (by rw [szs_snoc];push_cast;omega) (by rw [cnts_snoc];push_cast;omega) (qmp o5 r5)
end
end
section
set_option maxRecDepth 100000
def mR (m:Me) (ps ls b:A):List A:=[.v (.string (bs m.name)),.v (.bool m.pure_)]++Ty.at m.ret++[ps,ls,b,.v (.int .i64 m.at_)]
section
variable (l:List Tok) (ps:List (List UInt8))
noncomputable def rws9:Nat→Int→Int→Me→List St→G9
 | 0,a,_,_,_=>bad9 l 3 a
 | n+1,a,sum,m,out =>
  bif isT (nowT l a) [125] then ⟨Cs.zero,{ m with body:=out },[],[],a+1,0,0⟩
  else bif (par8 l ps (ask8 l (blk8 l (row8 l ps n))) a 0).err != 0 then flt9 (par8 l ps (ask8 l (blk8 l (row8 l ps n))) a 0).err (par8 l ps (ask8 l (blk8 l (row8 l ps n))) a 0).fat
  else bif decide (sum+((par8 l ps (ask8 l (blk8 l (row8 l ps n))) a 0).s.cnt:Int)>400) then bad9 l 6 a
  else rws9 n (par8 l ps (ask8 l (blk8 l (row8 l ps n))) a 0).next (sum+((par8 l ps (ask8 l (blk8 l (row8 l ps n))) a 0).s.cnt:Int)) m (out++[(par8 l ps (ask8 l (blk8 l (row8 l ps n))) a 0).s])
noncomputable def met9 (a:Int) (m:Me) (sum:Int):G9 :=
 bif (par9 l ps a).err != 0 then par9 l ps a
 else bif !isT (nowT l (par9 l ps a).next) [123] then bad9 l 3 (par9 l ps a).next
 else bif (locF l ps 12 ((par9 l ps a).next+1) []).err != 0 then locF l ps 12 ((par9 l ps a).next+1) []
 else rws9 l ps (l.length+1) (locF l ps 12 ((par9 l ps a).next+1) []).next sum { m with params:=(par9 l ps a).v,locals:=(locF l ps 12 ((par9 l ps a).next+1) []).v } []
end
/-! ### It goes on -/
def Fw9 (N a:Int) (g:G9):Prop:=g.err=0→a≤g.next∧g.next≤N
section
variable {l:List Tok} {ps:List (List UInt8)} (hl:Toks l)
include hl
theorem parF_fw:∀(k:Nat) (a:Int) (out:List Vr),out.length+k=5→0≤a→a≤l.length→Fw9 l.length a (parF l ps k a out):=by
 intro k
 induction k with
 | zero =>
  intro a out hk h0 h1 h
  rw [qgs,show ((out.length:Int)==5)=true by simp;omega,cond_true] at h
  exact absurd h (by show (6:Int)≠0;decide)
 | succ k ih =>
  intro a out hk h0 h1
  rw [qgs,show ((out.length:Int)==5)=false by simp;omega,cond_false]
  have hv:=qgi (qad l) hl.name (ps:=ps) a
  cases c1:(var7 l ps a).err != 0 with
  | true=>exact fun h=>absurd h (by simpa [flt9] using c1)
  | false =>
  obtain⟨_,q1,q2,_⟩:=hv (by simpa using c1)
  rw [cond_false]
  cases c2:isT (nowT l (var7 l ps a).next) [41] with
  | true =>
   have hlt:=qam (qad l) c2
   exact fun _=>⟨by show a≤(var7 l ps a).next+1;omega,by show (var7 l ps a).next+1≤_;omega⟩
  | false =>
  rw [cond_false]
  cases c3:isT (nowT l (var7 l ps a).next) [44] with
  | false=>exact fun h=>absurd h (by show (3:Int)≠0;decide)
  | true =>
   have hlt:=qam (qad l) c3
   intro h
   have:=ih ((var7 l ps a).next+1) (out++[(var7 l ps a).v]) (by rw [List.length_append,List.length_singleton];omega) (by omega) (by omega) h
   exact⟨Int.le_trans (by omega) this.1,this.2⟩
theorem par9_fw (a:Int) (h0:0≤a) (h1:a<l.length):Fw9 l.length a (par9 l ps a):=by
 have hf:=parF_fw hl (ps:=ps) 5 (a+1) [] rfl (by omega) (by omega)
 unfold par9
 generalize parF l ps 5 (a+1) []=q at *
 cases c1:isT (nowT l (a+1)) [41] with
 | true =>
  have hlt:=qam (qad l) c1
  rw [cond_true]
  exact fun _=>⟨by show a≤a+2;omega,by show a+2≤_;omega⟩
 | false =>
  rw [cond_false]
  intro h
  have:=hf h
  exact⟨Int.le_trans (by omega) this.1,this.2⟩
theorem locF_fw:∀(k:Nat) (a:Int) (out:List Vr),out.length+k=12→0≤a→a≤l.length→Fw9 l.length a (locF l ps k a out):=by
 intro k
 induction k with
 | zero =>
  intro a out hk h0 h1
  rw [qgz,show ((out.length:Int)==12)=true by simp;omega]
  cases c0:beg7 l a with
  | false=>exact fun _=>⟨Int.le_refl _,h1⟩
  | true=>exact fun h=>absurd h (by show (6:Int)≠0;decide)
 | succ k ih =>
  intro a out hk h0 h1
  rw [qgz,show ((out.length:Int)==12)=false by simp;omega]
  cases c0:beg7 l a with
  | false=>exact fun _=>⟨Int.le_refl _,h1⟩
  | true =>
  simp only [Bool.not_true,cond_false]
  have hv:=qgi (qad l) hl.name (ps:=ps) a
  cases c1:(var7 l ps a).err != 0 with
  | true=>exact fun h=>absurd h (by simpa [flt9] using c1)
  | false =>
  obtain⟨_,q1,q2,_⟩:=hv (by simpa using c1)
  rw [cond_false]
  cases c3:isT (nowT l (var7 l ps a).next) [59] with
  | false=>exact fun h=>absurd h (by show (3:Int)≠0;decide)
  | true =>
   have hlt:=qam (qad l) c3
   intro h
   have:=ih ((var7 l ps a).next+1) (out++[(var7 l ps a).v]) (by rw [List.length_append,List.length_singleton];omega) (by omega) (by omega) h
   exact⟨Int.le_trans (by omega) this.1,this.2⟩
theorem st9_rd (n:Nat) (a:Int) (h0:0≤a) (g:G8) (hg:par8 l ps (ask8 l (blk8 l (row8 l ps n))) a 0=g):Fw l.length a g∧RdS ps.length 0 a 20 g:=by
 subst hg
 refine⟨qii hl h0 fun s hlt=>qix hl h0 fun b h1 h2=>qhe hl n b _ (by omega),?_⟩
 refine par8_rd hl (nest:=0) h0 (by omega) fun t hlt hn=>ask8_rd hl h0 hn fun b h1 h2=>⟨qhe hl n b _ (by omega),?_⟩
 unfold blk8
 cases c:isT (nowT l b) [123] with
 | false=>exact qk6 (by decide)
 | true=>exact qke hl n (b+1) 1 b [] (by omega) (by omega) (by omega) (by omega) rfl (by simp [St.deeps]) (by simp [St.szs];omega) (by simp [St.cnts];omega) rfl
end
def sto9 (m:Me) (p v:G9) (g:G8):List St→List Bx
 | []=>[.cell (mR m (.sl (p.v.map Vr.at)) (.sl (v.v.map Vr.at)) .nl),.cell ((G9.at ⟨Cs.zero,Me.zero,[],[],0,0,0⟩).map nl1),.cell (G9.at p),.cell (G9.at v)]
 | x::r=>[.cell (mR m (.sl (p.v.map Vr.at)) (.sl (v.v.map Vr.at)) (.own 5 r.length)),.cell ((G9.at ⟨Cs.zero,Me.zero,[],[],0,0,0⟩).map nl1),.cell (G9.at p),.cell (G9.at v),.cell (G8.at g),.arr r.length 23 ((x::r).map St.at)]
attribute [local irreducible] nowT isT bad9 par8 par9 locF ask8 row8
theorem qck (l:List Tok) (hl:Toks l) (ps:List (List UInt8)) (hn:ps.length≤1048576) (a:Int) (m:Me) (x1 x2:A) (sum:Int) (h0:0≤a) (h1:a<l.length) (s0:0≤sum) (s1:sum≤400):qaa Tryz.prog 63 [.a (.sl (l.map Tok.at)),.a (.v (.int .i64 a)),.a (.sl (ps.map qaj)),.r (mR m .nl .nl .nl),.a (.v (.int .i64 sum))] (.r (G9.at (met9 l ps a m sum))):=by
 have hlen:=hl.len
 have hL:l.length≤1048576:=by omega
 have hp:=pd9params l hl ps hn a h0 h1
 have fp:=par9_fw hl (ps:=ps) a h0 h1
 unfold met9
 generalize par9 l ps a=p at *
 have hi1:=fun s=>qbx l p.next s hL
 have e1:=qas l 3 p.next hL
 have hv:(p.err != 0)=false→(!isT (nowT l p.next) [123])=false→qaa Tryz.prog 87 [.a (.sl (l.map Tok.at)),.a (.v (.int .i64 (IntKind.i64.wrap (p.next+1)))),.a (.sl (ps.map qaj))] (.r (G9.at (locF l ps 12 (p.next+1) [])))∧Fw9 l.length (p.next+1) (locF l ps 12 (p.next+1) []):=fun h2 h3=>by
  obtain⟨q1,q2⟩:=fp (by simpa using h2)
  have hlt:=qam (qad l) (a:=p.next) (by simpa using h3)
  rw [show IntKind.i64.wrap (p.next+1)=p.next+1 from qah (by omega) (by omega)]
  exact⟨pd9locals l hl ps hn (p.next+1) (by omega) (by omega),locF_fw hl 12 (p.next+1) [] rfl (by omega) (by omega)⟩
 have fq:=fun h2 h3=>(hv h2 h3).2
 generalize locF l ps 12 (p.next+1) []=v at *
 refine qaa.vx [0,1,2,3,4,8,10,11,12,13,21,30,44,54,62,72] Tryz.func63 rfl Tryz.ntmps63 rfl rfl rfl (fun C hro hst=>?_)
 repeat' ((conv=>whnf);first|(show VD ..;refine .q ?_)|(show VK ..;refine xK ?_)|(show VB ..;first|refine VB.tt (by decide) ?_|refine VB.ff (by decide) ?_|refine VB.mk (fun hc=>?_) fun hc=>?_)|(show VC ..;first|refine xC (fun hg=>by first|exact hp|exact hi1 _|exact e1|exact (hv (by assumption) (by assumption)).1) ?_|refine xL (fun hg=>by first|exact hp|exact hi1 _|exact e1|exact (hv (by assumption) (by assumption)).1) ?_)|(show VI ..;refine xJ ?_)|(show VG ..;refine xG ?_)|(show VA ..;refine xA ?_)|(show VZ ..;refine .n ?_)|(show VE ..;refine .mk ?_))
 ·simp_all only [cond_true];rfl
 ·simp_all only [cond_true,cond_false];rfl
 ·simp_all only [cond_true,cond_false];rfl
 rename_i e2 e3
 rw [e2,e3,hc]
 simp only [cond_false]
 obtain⟨q1,q2⟩:=fp (by simpa using e2)
 obtain⟨q3,q4⟩:=fq e2 e3 (by simpa using hc)
 obtain⟨g,hg⟩:∃g,rws9 l ps (l.length+1) v.next sum { m with params:=p.v,locals:=v.v } []=g:=⟨_,rfl⟩
 rw [hg]
 refine VL.g (α:={ y:(Int×List St)×(Int×Nat×G8) // 0≤y.1.1∧y.1.1≤l.length∧(l.length:Int)-y.1.1<y.2.2.1∧(y.1.2.length:Int)≤y.1.1∧0≤y.2.1∧y.2.1≤400∧rws9 l ps y.2.2.1 y.1.1 y.2.1 { m with params:=p.v,locals:=v.v } y.1.2=g }) (fun y=>[(0,.a (.sl (l.map Tok.at))),(1,.a (.v (.int .i64 y.1.1.1))),(2,.a (.sl (ps.map qaj))),(4,.a (.v (.int .i64 y.1.2.1))),(8,.a (.ptr 0 0)),(10,.a (.ptr 1 0))]) (fun y=>sto9 m p v y.1.2.2.2 y.1.1.2) (fun y=>y.1.2.2.1) ⟨((v.next,[]),(sum,(l.length+1,⟨St.zero,[],[],0,0,0⟩))),by dsimp only;omega,by dsimp only;omega,by dsimp only;omega,by dsimp only [List.length_nil];omega,s0,s1,hg⟩ ⟨rfl,rfl,rfl,rfl,rfl,rfl,trivial⟩ rfl ?_
 clear hg hc hp hv hi1 e1 e2 e3 fp fq
 rintro⟨⟨⟨b,out⟩,⟨sm,k,g0⟩⟩,hb0,hb1,hbk,hob,hs0,hs1,hg⟩
 dsimp only at hb0 hb1 hbk hob hs0 hs1 hg ⊢
 obtain⟨k,rfl⟩:∃k',k=k'+1:=⟨k-1,by omega⟩
 have hB:Blk l ps (blk8 l (row8 l ps k)) b:=fun b' m' q1 q2 q3 q4=>⟨pd8Block l hl ps hn k b' m' (by omega) q2 q3 q4 (by omega),qhe hl k b' m' (by omega)⟩
 have hp:=qlv l hl ps hn (blk8 l (row8 l ps k)) b 0 hb0 hb1 (by omega) (by omega) hB
 have hf:=st9_rd hl (ps:=ps) k b hb0 _ rfl
 have hi:=fun s=>qbx l b s hL
 have e6:=qas l 6 b hL
 have wb:IntKind.i64.wrap (b+1)=b+1:=qah (by omega) (by omega)
 rw [rws9] at hg
 generalize par8 l ps (ask8 l (blk8 l (row8 l ps k))) b 0=q at *
 have hz:(q.err != 0)=false→qaa Tryz.prog 36 [.r (St.rw q.s)] (.a (.v (.int .i64 q.s.cnt))):=fun h=>by
  obtain⟨_,r2⟩:=hf.1 (by simpa using h)
  obtain⟨_,_,r3,_⟩:=hf.2 (by simpa using h)
  rw [←St.at_rw];exact pSize _ q.s (Nat.le_refl _) (by omega)
 have ws:(q.err != 0)=false→IntKind.i64.wrap (sm+q.s.cnt)=sm+q.s.cnt:=fun h=>by
  obtain⟨_,r2⟩:=hf.1 (by simpa using h)
  obtain⟨_,_,_,r3,_⟩:=hf.2 (by simpa using h)
  exact qah (by omega) (by omega)
 cases out with
 | nil =>
  simp only [sto9]
  repeat' ((conv=>whnf);first|(show VD ..;refine .q ?_)|(show VK ..;refine xK ?_)|(show VB ..;first|refine VB.tt (by decide) ?_|refine VB.ff (by decide) ?_|refine VB.mk (fun hc=>?_) fun hc=>?_)|(show VC ..;first|refine xC (fun hg=>by first|exact hp|exact hi _|exact e6|exact hz (by assumption)) ?_|refine xL (fun hg=>by first|exact hp|exact hi _|exact e6|exact hz (by assumption)) ?_)|(show VI ..;refine xJ ?_)|(show VG ..;refine xG ?_)|(show VA ..;refine xA ?_)|(show VZ ..;refine .n ?_)|(show VE ..;refine .mk ?_))
  all_goals clear hp hi hB hz e6
  all_goals try (conv=>whnf)
  ·rename_i e1
   rw [show isT (nowT l b) [125]=false by simpa using e1,hc] at hg
   subst hg;rfl
  ·rename_i e1 e2
   rw [ws e2] at hc
   rw [show isT (nowT l b) [125]=false by simpa using e1,e2,hc] at hg
   subst hg;rfl
  ·rename_i e1 e2
   have w:=ws e2
   obtain⟨q1,q2⟩:=hf.1 (by simpa using e2)
   obtain⟨_,_,_,q3,_⟩:=hf.2 (by simpa using e2)
   rw [w] at hc
   rw [show isT (nowT l b) [125]=false by simpa using e1,e2,hc] at hg
   have hc':=of_decide_eq_false hc
   exact⟨⟨((q.next,[q.s]),(sm+(q.s.cnt:Int),(k,q))),by dsimp only;omega,q2,by dsimp only;omega,by simp only [List.length_append,List.length_cons,List.length_nil] at *;omega,by dsimp only;omega,by dsimp only;omega,hg⟩,[],Nat.lt_succ_self _,Nat.le_of_ble_eq_true rfl,⟨rfl,rfl,rfl,congrArg (fun z=>D.a (.v (.int .i64 z))) w,rfl,rfl,trivial⟩,by simp only [sto9,List.map_cons,List.map_nil,St.at_rw];rfl,rfl,rfl⟩
  ·rw [show isT (nowT l b) [125]=true by simpa using hc] at hg
   subst hg
   rw [wb]
   rfl
 | cons x r =>
  have hrl:r.length≤16385:=by rw [List.length_cons] at hob;omega
  simp only [sto9]
  repeat' ((conv=>whnf);first|(show VD ..;refine .q ?_)|(show VK ..;refine xK ?_)|(show VB ..;first|refine VB.tt (by decide) ?_|refine VB.ff (by decide) ?_|refine VB.mk (fun hc=>?_) fun hc=>?_)|(show VC ..;first|refine xC (fun hg=>by first|exact hp|exact hi _|exact e6|exact hz (by assumption)) ?_|refine xL (fun hg=>by first|exact hp|exact hi _|exact e6|exact hz (by assumption)) ?_)|(show VI ..;refine xJ ?_)|(show VG ..;refine xG ?_)|(show VA ..;refine xA ?_)|(show VZ ..;refine .n ?_)|(show VE ..;refine .mk ?_))
  all_goals clear hp hi hB hz e6
  all_goals try (conv=>whnf)
  ·rename_i e1
   rw [show isT (nowT l b) [125]=false by simpa using e1,hc] at hg
   subst hg;rfl
  ·rename_i e1 e2
   rw [ws e2] at hc
   rw [show isT (nowT l b) [125]=false by simpa using e1,e2,hc] at hg
   subst hg;rfl
  ·rename_i e1 e2
   have w:=ws e2
   obtain⟨q1,q2⟩:=hf.1 (by simpa using e2)
   obtain⟨_,_,_,q3,_⟩:=hf.2 (by simpa using e2)
   rw [w] at hc
   rw [show isT (nowT l b) [125]=false by simpa using e1,e2,hc] at hg
   have hc':=of_decide_eq_false hc
   exact⟨⟨((q.next,x::r++[q.s]),(sm+(q.s.cnt:Int),(k,g0))),by dsimp only;omega,q2,by dsimp only;omega,by simp only [List.length_append,List.length_cons,List.length_nil] at *;omega,by dsimp only;omega,by dsimp only;omega,hg⟩,[.cell (G8.at q)],Nat.lt_succ_self _,Nat.le_of_ble_eq_true rfl,⟨rfl,rfl,rfl,congrArg (fun z=>D.a (.v (.int .i64 z))) w,rfl,rfl,trivial⟩,by simp only [sto9,List.cons_append,List.nil_append,List.length_append,List.length_cons,List.length_nil,List.map_cons,List.map_append,List.map_nil,St.at_rw];rfl,rfl,rfl⟩
  ·rw [show isT (nowT l b) [125]=true by simpa using hc] at hg
   subst hg
   rw [wb]
   rfl
end
section
set_option maxRecDepth 100000
def cR (c:Cs) (ps ow fl me:A):List A:=[.v (.string (bs c.name)),ps,.v (.string (bs c.super)),ow,fl,me,.v (.int .i64 c.at_)]
def g9N (cr:List A) (next:Int):List A:=cr++((G9.at ⟨Cs.zero,Me.zero,[],[],next,0,0⟩).drop 7).map nl1
def g9E (e f:Int):List A:=(G9.at ⟨Cs.zero,Me.zero,[],[],0,e,f⟩).map nl1
def abvL (row:List A) (l:List Tok) (a:Int):List (Int×Int)→Nat→List A
 | [],_=>row
 | o::r,i=>bif (bif o.1==1 then true else o.1==5) then G9.at (bad9 l 4 (a+3+2*(i:Int))) else abvL row l a r (i+1)
def abvR (l:List Tok) (ps:List (List UInt8)) (a:Int) (c:Cs) (x:A):List A :=
 bif (nowT l (a+1)).kind != 1 then G9.at (bad9 l 3 (a+1))
 else bif !isT (nowT l (a+2)) [60] then g9N (cR { c with super:=(nowT l (a+1)).text } x .nl .nl .nl) (a+2)
 else bif (own7 l ps (a+2)).err != 0 then g9E (own7 l ps (a+2)).err (own7 l ps (a+2)).fat
 else abvL (g9N (cR { c with super:=(nowT l (a+1)).text } x (.sl ((own7 l ps (a+2)).l.map owAt)) .nl .nl) (own7 l ps (a+2)).next) l a (own7 l ps (a+2)).l 0
attribute [local irreducible] nowT isT bad9 own7
theorem pd9above0 (l:List Tok) (hl:Toks l) (a:Int) (c:Cs) (h0:0≤a) (h1:a≤l.length):qaa Tryz.prog 34 [.a (.sl (l.map Tok.at)),.a (.v (.int .i64 a)),.r (cR c .nl .nl .nl .nl)] (.r (abvR l [] a c .nl)):=by
 have hlen:=hl.len
 have hL:l.length≤1048576:=by omega
 have w1:IntKind.i64.wrap (a+1)=a+1:=qah (by omega) (by omega)
 have w2:IntKind.i64.wrap (a+2)=a+2:=qah (by omega) (by omega)
 have w3:IntKind.i64.wrap (a+3)=a+3:=qah (by omega) (by omega)
 have ht:qaa Tryz.prog 12 [.a (.sl (l.map Tok.at)),.a (.v (.int .i64 (IntKind.i64.wrap (a+1))))] (.r (Tok.at (nowT l (a+1)))):=by rw [w1];exact qbh l _ hL
 have hi:∀s,qaa Tryz.prog 13 [.a (.sl (l.map Tok.at)),.a (.v (.int .i64 (IntKind.i64.wrap (a+2)))),.a (.v (.string (bs s)))] (.a (.v (.bool (isT (nowT l (a+2)) s)))):=fun s=>by rw [w2];exact qbx l _ s hL
 have e1:qaa Tryz.prog 32 [.a (.v (.int .i64 3)),.a (.sl (l.map Tok.at)),.a (.v (.int .i64 (IntKind.i64.wrap (a+1))))] (.r (G9.at (bad9 l 3 (a+1)))):=by rw [w1];exact qas l 3 _ hL
 have ho:qaa Tryz.prog 61 [.a (.sl (l.map Tok.at)),.a (.v (.int .i64 (IntKind.i64.wrap (a+2)))),.a .nl] (.r (G7.at (own7 l [] (a+2)))):=by
  rw [w2];exact qaa.nlA [_,_] [] (qfc l [] (a+2) hL (Nat.zero_le _) (by omega) (by omega))
 have hk:(own7 l [] (a+2)).err=0→(own7 l [] (a+2)).l.length≤3:=fun h=>(qfs (qad l) (ps:=[]) (a+2) h).2.1
 unfold abvR
 generalize own7 l [] (a+2)=q at *
 generalize nowT l (a+1)=t at *
 refine qld [0,1,2,5,6,7,8,14,29,43,51,69] Tryz.func34 rfl Tryz.ntmps34 rfl rfl rfl (fun C hro hst=>?_)
 repeat' ((conv=>whnf);first|(show VD ..;refine .q ?_)|(show VK ..;refine xK ?_)|(show VB ..;first|refine VB.tt (by decide) ?_|refine VB.ff (by decide) ?_|refine VB.mk (fun hc=>?_) fun hc=>?_)|(show VC ..;first|refine xC (fun hg=>by first|exact ht|exact hi _|exact e1|exact ho) ?_|refine xL (fun hg=>by first|exact ht|exact hi _|exact e1|exact ho) ?_)|(show VI ..;refine xJ ?_)|(show VG ..;refine xG ?_)|(show VA ..;refine xA ?_)|(show VZ ..;refine .n ?_)|(show VE ..;refine .mk ?_))
 ·rw [hc];rfl
 ·rename_i e1
  rw [e1,hc,w2];rfl
 ·rename_i e1 e2
  rw [e1,e2,hc];rfl
 rename_i e1 e2
 have hq3:=hk (by simpa using hc)
 rw [e1,e2,hc]
 simp only [cond_false]
 obtain⟨g,hg⟩:∃g,abvL (g9N (cR { c with super:=t.text } .nl (.sl (q.l.map owAt)) .nl .nl) q.next) l a q.l 0=g:=⟨_,rfl⟩
 rw [hg]
 clear ht hi ho hk e1 e2 hc
 conv=>whnf
 refine VL.each q.l owAt (fun k=>[(0,.a (.sl (l.map Tok.at))),(1,.a (.v (.int .i64 a))),(5,.a (.ptr 0 0)),(6,.a (.ptr 1 0)),(7,.a (.ptr 2 0)),(8,.a (.v (.int .i64 (k:Nat))))]) (fun _=>[.cell (cR { c with super:=t.text } .nl .nl .nl .nl),.cell ((G9.at ⟨Cs.zero,Me.zero,[],[],0,0,0⟩).map nl1),.cell (G7.at q)]) (fun k=>abvL (g9N (cR { c with super:=t.text } .nl (.sl (q.l.map owAt)) .nl .nl) q.next) l a (q.l.drop k) k=g) ⟨rfl,rfl,rfl,rfl,rfl,rfl,trivial⟩ rfl hg (by omega) ?_ ?_
 ·intro k z hz hdr htk hlt hI hlt2 hix hwu
  rw [hdr,abvL] at hI
  have wm:IntKind.i64.wrap (2*(k:Int))=2*(k:Int):=qah (by omega) (by omega)
  have wa:IntKind.i64.wrap (a+3+2*(k:Int))=a+3+2*(k:Int):=qah (by omega) (by omega)
  have e4:qaa Tryz.prog 32 [.a (.v (.int .i64 4)),.a (.sl (l.map Tok.at)),.a (.v (.int .i64 (IntKind.i64.wrap (IntKind.i64.wrap (a+3)+IntKind.i64.wrap (2*(k:Int))))))] (.r (G9.at (bad9 l 4 (a+3+2*(k:Int))))):=by rw [w3,wm,wa];exact qas l 4 _ hL
  repeat' ((conv=>whnf);first|(show VD ..;refine .q ?_)|(show VK ..;refine xK ?_)|(show VB ..;first|refine VB.tt (by exact hlt2) ?_|refine VB.ff (by exact hlt2) ?_|refine VB.mk (fun hc=>?_) fun hc=>?_)|(show VC ..;first|refine xC (fun hg=>by exact e4) ?_|refine xL (fun hg=>by exact e4) ?_)|(show VI ..;first|refine xI (fun _=>by exact hix) ?_|refine xJ ?_)|(show VG ..;refine xG ?_)|(show VA ..;refine xA ?_)|(show VZ ..;refine .n ?_)|(show VE ..;refine .mk ?_))
  ·rw [hc,cond_true] at hI
   rw [←hI];rfl
  ·rw [hc,cond_false] at hI
   exact⟨hI,[],⟨rfl,rfl,rfl,rfl,rfl,congrArg (fun z=>D.a (.v (.int .i64 z))) hwu,trivial⟩,rfl,rfl,rfl⟩
 ·intro hI hlt2
  rw [List.drop_length,abvL] at hI
  repeat' ((conv=>whnf);first|(show VD ..;refine .q ?_)|(show VK ..;refine xK ?_)|(show VB ..;first|refine VB.tt (by exact hlt2) ?_|refine VB.ff (by exact hlt2) ?_|refine VB.mk (fun hc=>?_) fun hc=>?_)|(show VI ..;refine xJ ?_)|(show VG ..;refine xG ?_)|(show VA ..;refine xA ?_)|(show VZ ..;refine .n ?_)|(show VE ..;refine .mk ?_))
  rw [←hI];rfl
theorem pd9above (l:List Tok) (hl:Toks l) (ps:List (List UInt8)) (hn:ps.length≤1048576) (a:Int) (c:Cs) (h0:0≤a) (h1:a≤l.length):qaa Tryz.prog 34 [.a (.sl (l.map Tok.at)),.a (.v (.int .i64 a)),.r (cR c (.sl (ps.map qaj)) .nl .nl .nl)] (.r (abvR l ps a c (.sl (ps.map qaj)))):=by
 have hlen:=hl.len
 have hL:l.length≤1048576:=by omega
 have w1:IntKind.i64.wrap (a+1)=a+1:=qah (by omega) (by omega)
 have w2:IntKind.i64.wrap (a+2)=a+2:=qah (by omega) (by omega)
 have w3:IntKind.i64.wrap (a+3)=a+3:=qah (by omega) (by omega)
 have ht:qaa Tryz.prog 12 [.a (.sl (l.map Tok.at)),.a (.v (.int .i64 (IntKind.i64.wrap (a+1))))] (.r (Tok.at (nowT l (a+1)))):=by rw [w1];exact qbh l _ hL
 have hi:∀s,qaa Tryz.prog 13 [.a (.sl (l.map Tok.at)),.a (.v (.int .i64 (IntKind.i64.wrap (a+2)))),.a (.v (.string (bs s)))] (.a (.v (.bool (isT (nowT l (a+2)) s)))):=fun s=>by rw [w2];exact qbx l _ s hL
 have e1:qaa Tryz.prog 32 [.a (.v (.int .i64 3)),.a (.sl (l.map Tok.at)),.a (.v (.int .i64 (IntKind.i64.wrap (a+1))))] (.r (G9.at (bad9 l 3 (a+1)))):=by rw [w1];exact qas l 3 _ hL
 have ho:qaa Tryz.prog 61 [.a (.sl (l.map Tok.at)),.a (.v (.int .i64 (IntKind.i64.wrap (a+2)))),.a (.sl (ps.map qaj))] (.r (G7.at (own7 l ps (a+2)))):=by
  rw [w2];exact qfc l ps (a+2) hL hn (by omega) (by omega)
 have hk:(own7 l ps (a+2)).err=0→(own7 l ps (a+2)).l.length≤3:=fun h=>(qfs (qad l) (ps:=ps) (a+2) h).2.1
 unfold abvR
 generalize own7 l ps (a+2)=q at *
 generalize nowT l (a+1)=t at *
 refine qld [0,1,2,5,6,7,8,14,29,43,51,69] Tryz.func34 rfl Tryz.ntmps34 rfl rfl rfl (fun C hro hst=>?_)
 repeat' ((conv=>whnf);first|(show VD ..;refine .q ?_)|(show VK ..;refine xK ?_)|(show VB ..;first|refine VB.tt (by decide) ?_|refine VB.ff (by decide) ?_|refine VB.mk (fun hc=>?_) fun hc=>?_)|(show VC ..;first|refine xC (fun hg=>by first|exact ht|exact hi _|exact e1|exact ho) ?_|refine xL (fun hg=>by first|exact ht|exact hi _|exact e1|exact ho) ?_)|(show VI ..;refine xJ ?_)|(show VG ..;refine xG ?_)|(show VA ..;refine xA ?_)|(show VZ ..;refine .n ?_)|(show VE ..;refine .mk ?_))
 ·rw [hc];rfl
 ·rename_i e1
  rw [e1,hc,w2];rfl
 ·rename_i e1 e2
  rw [e1,e2,hc];rfl
 rename_i e1 e2
 have hq3:=hk (by simpa using hc)
 rw [e1,e2,hc]
 simp only [cond_false]
 obtain⟨g,hg⟩:∃g,abvL (g9N (cR { c with super:=t.text } (.sl (ps.map qaj)) (.sl (q.l.map owAt)) .nl .nl) q.next) l a q.l 0=g:=⟨_,rfl⟩
 rw [hg]
 clear ht hi ho hk e1 e2 hc
 conv=>whnf
 refine VL.each q.l owAt (fun k=>[(0,.a (.sl (l.map Tok.at))),(1,.a (.v (.int .i64 a))),(5,.a (.ptr 0 0)),(6,.a (.ptr 1 0)),(7,.a (.ptr 2 0)),(8,.a (.v (.int .i64 (k:Nat))))]) (fun _=>[.cell (cR { c with super:=t.text } (.sl (ps.map qaj)) .nl .nl .nl),.cell ((G9.at ⟨Cs.zero,Me.zero,[],[],0,0,0⟩).map nl1),.cell (G7.at q)]) (fun k=>abvL (g9N (cR { c with super:=t.text } (.sl (ps.map qaj)) (.sl (q.l.map owAt)) .nl .nl) q.next) l a (q.l.drop k) k=g) ⟨rfl,rfl,rfl,rfl,rfl,rfl,trivial⟩ rfl hg (by omega) ?_ ?_
 ·intro k z hz hdr htk hlt hI hlt2 hix hwu
  rw [hdr,abvL] at hI
  have wm:IntKind.i64.wrap (2*(k:Int))=2*(k:Int):=qah (by omega) (by omega)
  have wa:IntKind.i64.wrap (a+3+2*(k:Int))=a+3+2*(k:Int):=qah (by omega) (by omega)
  have e4:qaa Tryz.prog 32 [.a (.v (.int .i64 4)),.a (.sl (l.map Tok.at)),.a (.v (.int .i64 (IntKind.i64.wrap (IntKind.i64.wrap (a+3)+IntKind.i64.wrap (2*(k:Int))))))] (.r (G9.at (bad9 l 4 (a+3+2*(k:Int))))):=by rw [w3,wm,wa];exact qas l 4 _ hL
  repeat' ((conv=>whnf);first|(show VD ..;refine .q ?_)|(show VK ..;refine xK ?_)|(show VB ..;first|refine VB.tt (by exact hlt2) ?_|refine VB.ff (by exact hlt2) ?_|refine VB.mk (fun hc=>?_) fun hc=>?_)|(show VC ..;first|refine xC (fun hg=>by exact e4) ?_|refine xL (fun hg=>by exact e4) ?_)|(show VI ..;first|refine xI (fun _=>by exact hix) ?_|refine xJ ?_)|(show VG ..;refine xG ?_)|(show VA ..;refine xA ?_)|(show VZ ..;refine .n ?_)|(show VE ..;refine .mk ?_))
  ·rw [hc,cond_true] at hI
   rw [←hI];rfl
  ·rw [hc,cond_false] at hI
   exact⟨hI,[],⟨rfl,rfl,rfl,rfl,rfl,congrArg (fun z=>D.a (.v (.int .i64 z))) hwu,trivial⟩,rfl,rfl,rfl⟩
 ·intro hI hlt2
  rw [List.drop_length,abvL] at hI
  repeat' ((conv=>whnf);first|(show VD ..;refine .q ?_)|(show VK ..;refine xK ?_)|(show VB ..;first|refine VB.tt (by exact hlt2) ?_|refine VB.ff (by exact hlt2) ?_|refine VB.mk (fun hc=>?_) fun hc=>?_)|(show VI ..;refine xJ ?_)|(show VG ..;refine xG ?_)|(show VA ..;refine xA ?_)|(show VZ ..;refine .n ?_)|(show VE ..;refine .mk ?_))
  rw [←hI];rfl
end
end Go.Proofs.YtfbopaaambkfkaaGreatDoor
