/- Boxes that are no longer looked at. No program in sight. Conditions: none. -/
import Derived.Test.YtfbopaaambkfkaaGreatDoorMg35
import Derived.Test.YtfbopaaambkfkaaGreatDoorMg36
set_option linter.unusedVariables false
set_option maxRecDepth 100000
set_option maxHeartbeats 8000000
set_option linter.unusedSimpArgs false
namespace Go.Proofs.YtfbopaaambkfkaaGreatDoor
open Go.RowKit
def qeu:List Bool→List Bx→List Bx
 | true::m,_::st=>.gone::qeu m st
 | false::m,b::st=>b::qeu m st
 | _,st=>st
theorem qg5:∀(m:List Bool) (st:List Bx),(qeu m st).length=st.length
 | [],_=>rfl
 | true::m,[]=>rfl
 | false::m,[]=>rfl
 | true::m,_::st=>by simp [qeu,qg5 m st]
 | false::m,_::st=>by simp [qeu,qg5 m st]
theorem qfy:∀(m:List Bool) (st:List Bx) (j:Nat) (y:Bx),(qeu m st)[j]? = some y→y.live=true→st[j]? = some y
 | [],_,_,_,h,_=>h
 | true::m,[],_,_,h,_=>h
 | false::m,[],_,_,h,_=>h
 | true::m,_::st,0,y,h,hy=>by
  simp only [qeu,List.getElem?_cons_zero,Option.some.injEq] at h;subst h;cases hy
 | false::m,_::st,0,y,h,_=>h
 | true::m,_::st,j+1,y,h,hy=>qfy m st j y (by simpa [qeu] using h) hy
 | false::m,_::st,j+1,y,h,hy=>qfy m st j y (by simpa [qeu] using h) hy
section
variable {w:World} {x:Nat→Prop} {bl:List Nat} {st st':List Bx}
theorem ql5 (hne:∀(j:Nat) (y:Bx),st'[j]? = some y→y.live=true→st[j]? = some y) (b:Nat) (h:(⟨w,x,bl,st'⟩:Vw).mut b):(⟨w,x,bl,st⟩:Vw).mut b:=by
 rcases h with h|⟨j,y,h1,h2,h3⟩
 ·exact .inl h
 ·exact .inr ⟨j,y,h1,hne j y h2 h3,h3⟩
theorem lost_le (hl:st'.length=st.length) (hne:∀(j:Nat) (y:Bx),st'[j]? = some y→y.live=true→st[j]? = some y):(⟨w,x,bl,st⟩:Vw).Le ⟨w,x,bl,st'⟩:=by
 refine⟨by simp [hl],Nat.le_refl _,fun b _ h=>⟨fun _=>rfl,fun h'=>h (ql5 hne b h')⟩,fun j r hj hr=>?_,fun j ver m rows hj hr=>?_,fun j kk wd es hj hr=>?_⟩
 ·exact⟨⟨r,hne j _ hr rfl⟩,rfl⟩
 ·exact⟨ver,m,rows,hne j _ hr rfl,.inr ⟨rfl,rfl,rfl,rfl,fun _ cs _ _ hc=>⟨cs,hc,rfl⟩⟩⟩
 ·exact⟨⟨kk,wd,es,hne j _ hr rfl⟩,rfl⟩
theorem lost_ok (hl:st'.length=st.length) (hne:∀(j:Nat) (y:Bx),st'[j]? = some y→y.live=true→st[j]? = some y) (h:Ok ⟨w,x,bl,st⟩):Ok ⟨w,x,bl,st'⟩:=by
 have hle:=lost_le (w:=w) (x:=x) (bl:=bl) hl hne
 refine⟨by simpa [hl] using h.len,h.lt,h.xlt,h.gd,h.isc,fun j k b y z h1 h2 h3 h4 h5 h6=>h.inj j k b y z h1 h2 (hne j y h3 h5) (hne k z h4 h6) h5 h6,fun j r b h1 h2=>?_,fun j ver m rows b h1 h2=>?_,fun j kk wd es b h1 h2=>?_⟩
 ·obtain⟨cs,T,g1,g2,g3⟩:=h.cell j r b (hne j _ h1 rfl) h2
  exact⟨cs,T,g1,g2,fun k y hk=>(g3 k y hk).mono hle⟩
 ·obtain⟨cs,T,c,g1,g2,g3,g4,g5,g6⟩:=h.arr j ver m rows b (hne j _ h1 rfl) h2
  exact⟨cs,T,c,g1,g2,g3,g4,g5,fun k row i y hk hi=>(g6 k row i y hk hi).mono (Nat.le_refl _) fun b _ hm=>⟨fun _=>rfl,fun h'=>hm (ql5 hne b h')⟩⟩
 ·obtain⟨ms,g1,g2,g3⟩:=h.map j kk wd es b (hne j _ h1 rfl) h2
  refine⟨ms,g1,g2,fun k y row hk=>?_⟩
  obtain⟨g4,v,g5,g6⟩:=g3 k y row hk
  exact⟨g4,v,g5,g6.mono hle⟩
end
variable {P:Program}
theorem XR.lost {E:Env P} {on:Prop} {Nx:Nat→Prop} {V:Vw} {O:D→List Bx→D→Prop} {v:Value} {w':World} (m:List Bool) (h:XR E on Nx V O v w'):XR E on Nx V (fun d st g=>∃st0,O d st0 g∧st=qeu m st0) v w':=by
 obtain⟨d,st',g,x',bl',h1,h2,h3,h4⟩:=h
 have hl:=qg5 m st'
 have hne:=qfy m st'
 have hle:=lost_le (w:=w') (x:=x') (bl:=bl') hl hne
 refine⟨d,qeu m st',g,x',bl',⟨st',h1,rfl⟩,⟨h2.le.trans hle,lost_ok hl hne h2.ok,h2.fr,h2.new,h2.sep,h2.xs,h2.xn⟩,?_,h4.mono hle⟩
 refine h3.frm ⟨rfl,rfl,rfl,Nat.le_refl _,fun _ _ _=>rfl⟩ (fun b hb=>?_) fun _ hb=>hb
 obtain⟨j,y,g1,g2,g3⟩:=hb
 exact .inl ⟨j,y,g1,hne j y g2 g3,g3⟩
structure VW (d' d:D) (st st1:List Bx):Prop where
 h:d'=d
 s:∃m ex,qeu m st=st1++ex
def vresG (P:Program) (n:Nat) (rs:List ResultVar) (d:D) (st1:List Bx) (l:EL) (st:List Bx):Prop :=
 match rs with
 | [r]=>(match raw1 P n (getL l) st r with
  | some d'=>VW d' d st st1
  | none=>False)
 | _=>False
def vretG (P:Program) (n:Nat) (rs:List ResultVar) (d:D) (st1:List Bx):Exit→EL→List Bx→Prop
 | .normal,l,st=>vresG P n rs d st1 l st
 | .ret,l,st=>vresG P n rs d st1 l st
 | _,_,_=>False
theorem qj7 {n:Nat} {rs:List ResultVar} {d:D} {st1:List Bx} {ex:Exit} {l:EL} {st:List Bx} (h:vretG P n rs d st1 ex l st):retM P n rs (fun d1 s1 _=>d1=d∧∃m ex,qeu m s1=st1++ex) ex (envL l) st:=by
 have key:vresG P n rs d st1 l st→∃d1,resM P n (envL l) st rs d1∧(d1=d∧∃m ex,qeu m st=st1++ex):=by
  intro h2
  unfold vresG at h2
  rw [qc7] at h2
  split at h2
  ·split at h2
   ·rename_i d' hd
    exact⟨d',qjh hd,h2.h,h2.s⟩
   ·exact h2.elim
  ·exact h2.elim
 cases ex with
 | normal=>exact key h
 | ret=>exact key h
 | _=>exact h.elim
theorem qd2 {f:FuncId} {fn:Func} {c:Code} {n:Nat} {rs:List ResultVar} {ds:List D} {st0:List Bx} {d:D} {st1:List Bx} (ks:List Nat) (hf:P.funcs[f]? = some fn) (hb:fn.body=some c) (hn:fn.ntmps=n) (hr:fn.results=⟨rs⟩) (hnm:(fn.name == "runtime.NumGoroutine")=false) (hl:(decide (ds.length≤n)&&decide (n≤1000000))=true)
  (hnr:(nrS st1.length st1&&nrM st1.length d&&decide (st0.length≤st1.length))=true)
  (h:∀C:Cx P,C.ro=none→vx P C n ks c (argL 0 ds) st0 (vretG P n rs d st1)):DM P f ds st0 d st1:=by
 simp only [Bool.and_eq_true,decide_eq_true_iff] at hnr
 have hg:DG (.none P) f ds st0 .junk (fun d1 s1 _=>d1=d∧∃m ex,qeu m s1=st1++ex):=DG.introM hf hb hn hr hnm hl fun V0 Kb Nx=>WP.weaken (qk7 ds (by simp only [Bool.and_eq_true,decide_eq_true_iff] at hl;omega) .junk) (qc3 c _ _ _ _ (fun _ _ _=>qj7) (h _ rfl))
 refine⟨hnr.1.1,hnr.1.2,hnr.2,hg.1,fun V Nx vs q1 q2 q3 q4 q5 q6 q7=>?_⟩
 refine (hg.2 V Nx vs q1 q2 q3 q4 q5 q6 q7).mono ?_
 rintro en w' ⟨v,rfl,d1,s1,g,x',bl',⟨rfl,m,ex,hm⟩,r2,r3,r4⟩
 have hx:XR (Env.none P) True Nx V (fun d st g'=>d=d1∧st=s1) v w':=⟨d1,s1,g,x',bl',⟨rfl,rfl⟩,r2,r3,r4⟩
 obtain⟨d2,s2,g2,x2,bl2,⟨s3,⟨rfl,rfl⟩,rfl⟩,t2,t3,t4⟩:=hx.lost m
 exact⟨v,rfl,d2,_,g2,x2,bl2,⟨rfl,ex,hm⟩,t2,t3,t4⟩
end Go.Proofs.YtfbopaaambkfkaaGreatDoor
namespace Go.Proofs.YtfbopaaambkfkaaGreatDoor
open Go.RowKit
set_option maxRecDepth 100000
inductive Mo
 | bad (g:G9)
 | flt (e f:Int)
 | met (m:Me) (n:Int)
 | fld (v:Vr) (n:Int)
section
variable (l:List Tok) (ps:List (List UInt8))
noncomputable def mem9 (a sum:Int) (p:Bool) (nf nm:Nat) (b:Int):Mo :=
 bif (par7 l ps b true).err != 0 then .flt (par7 l ps b true).err (par7 l ps b true).fat
 else bif (nowT l (par7 l ps b true).next).kind != 1 then .bad (bad9 l 3 (par7 l ps b true).next)
 else bif isT (nowT l ((par7 l ps b true).next+1)) [40] then
  (bif (nm:Int)==12 then .bad (bad9 l 6 ((par7 l ps b true).next+1))
  else bif (met9 l ps ((par7 l ps b true).next+1) ⟨(nowT l (par7 l ps b true).next).text,p,(par7 l ps b true).t,[],[],[],(nowT l a).pos⟩ sum).err != 0 then .bad (met9 l ps ((par7 l ps b true).next+1) ⟨(nowT l (par7 l ps b true).next).text,p,(par7 l ps b true).t,[],[],[],(nowT l a).pos⟩ sum)
  else .met (met9 l ps ((par7 l ps b true).next+1) ⟨(nowT l (par7 l ps b true).next).text,p,(par7 l ps b true).t,[],[],[],(nowT l a).pos⟩ sum).m (met9 l ps ((par7 l ps b true).next+1) ⟨(nowT l (par7 l ps b true).next).text,p,(par7 l ps b true).t,[],[],[],(nowT l a).pos⟩ sum).next)
 else bif (bif (bif !isT (nowT l ((par7 l ps b true).next+1)) [59] then true else p) then true else (par7 l ps b true).t.kind==0) then .bad (bad9 l 3 ((par7 l ps b true).next+1))
 else bif (nf:Int)==12 then .bad (bad9 l 6 ((par7 l ps b true).next+1))
 else .fld ⟨(nowT l (par7 l ps b true).next).text,(par7 l ps b true).t,(nowT l a).pos⟩ ((par7 l ps b true).next+2)
end
def moR0 (c:Cs) (x ow:A):Mo→List A
 | .bad g=>G9.at g
 | .flt e f=>g9E e f
 | .met _ n=>g9N (cR c x ow .nl (.own 6 0)) n
 | .fld _ n=>g9N (cR c x ow (.own 5 0) .nl) n
def moS0:Mo→List Bx
 | .bad _=>[.gone]
 | .flt _ _=>[.gone]
 | .met m _=>[.gone,.gone,.gone,.gone,.gone,.gone,.arr 0 17 [Me.at m]]
 | .fld v _=>[.gone,.gone,.gone,.gone,.gone,.arr 0 13 [Vr.at v]]
attribute [local irreducible] nowT isT bad9 met9 par7
theorem member_nn (l:List Tok) (hl:Toks l) (ps:List (List UInt8)) (hn:ps.length≤1048576) (a:Int) (c:Cs) (ow:List (Int×Int)) (sum:Int) (h0:0≤a) (h1:a≤l.length) (s0:0≤sum) (s1:sum≤400) (hp:isT (nowT l a) [112,117,114,101]=false):DM Tryz.prog 35 [.a (.sl (l.map Tok.at)),.a (.v (.int .i64 a)),.r (cR c (.sl (ps.map qaj)) (.sl (ow.map owAt)) .nl .nl),.a (.v (.int .i64 sum))] [] (.r (moR0 c (.sl (ps.map qaj)) (.sl (ow.map owAt)) (mem9 l ps a sum false 0 0 a))) (moS0 (mem9 l ps a sum false 0 0 a)):=by
 have hlen:=hl.len
 have hL:l.length≤1048576:=by omega
 have ht:=qbh l a hL
 have hi:qaa Tryz.prog 13 [.a (.sl (l.map Tok.at)),.a (.v (.int .i64 a)),.a (.v (.string (bs [112,117,114,101])))] (.a (.v (.bool false))):=by rw [←hp];exact qbx l _ _ hL
 have h7:=qcf l ps a true (by omega) hn h0 (by omega)
 have h7o:=qb1 (qad l) hl.name (ps:=ps) a true
 obtain⟨o,ho⟩:∃o,mem9 l ps a sum false 0 0 a=o:=⟨_,rfl⟩
 rw [ho]
 unfold mem9 at ho
 generalize par7 l ps a true=q at *
 have hu:=qbh l q.next hL
 have e3:=qas l 3 q.next hL
 have w1:(q.err != 0)=false→IntKind.i64.wrap (q.next+1)=q.next+1:=fun h=>by
  obtain⟨_,_,q1,q2,_⟩:=h7o (by simpa using h)
  exact qah (by omega) (by omega)
 have hi2:(q.err != 0)=false→∀s,qaa Tryz.prog 13 [.a (.sl (l.map Tok.at)),.a (.v (.int .i64 (IntKind.i64.wrap (q.next+1)))),.a (.v (.string (bs s)))] (.a (.v (.bool (isT (nowT l (q.next+1)) s)))):=fun h s=>by rw [w1 h];exact qbx l _ s hL
 have e32:(q.err != 0)=false→∀z,qaa Tryz.prog 32 [.a (.v (.int .i64 z)),.a (.sl (l.map Tok.at)),.a (.v (.int .i64 (IntKind.i64.wrap (q.next+1))))] (.r (G9.at (bad9 l z (q.next+1)))):=fun h z=>by rw [w1 h];exact qas l z _ hL
 have hm:(q.err != 0)=false→isT (nowT l (q.next+1)) [40]=true→qaa Tryz.prog 63 [.a (.sl (l.map Tok.at)),.a (.v (.int .i64 (IntKind.i64.wrap (q.next+1)))),.a (.sl (ps.map qaj)),.r (mR ⟨(nowT l q.next).text,false,q.t,[],[],[],(nowT l a).pos⟩ .nl .nl .nl),.a (.v (.int .i64 sum))] (.r (G9.at (met9 l ps (q.next+1) ⟨(nowT l q.next).text,false,q.t,[],[],[],(nowT l a).pos⟩ sum))):=fun h h2=>by
  rw [w1 h]
  obtain⟨_,_,q1,q2,_⟩:=h7o (by simpa using h)
  have hlt:=qam (qad l) h2
  exact qck l hl ps hn _ _ .nl .nl sum (by omega) (by omega) s0 s1
 refine qd2 [0,1,2,3,6,8,9,10,11,12,13,24,35,45,61,65,79,105,112] Tryz.func35 rfl Tryz.ntmps35 rfl rfl rfl (by cases o<;>rfl) (fun C hro=>?_)
 repeat' ((conv=>whnf);first|(show VD ..;refine .q ?_)|(show VK ..;refine xK ?_)|(show VB ..;first|refine VB.tt (by decide) ?_|refine VB.ff (by decide) ?_|refine VB.mk (fun hc=>?_) fun hc=>?_)|(show VC ..;first|refine xC (fun hg=>by first|exact ht|exact hi|exact h7|exact hu|exact e3|exact hi2 (by assumption) _|exact e32 (by assumption) _|exact hm (by assumption) (by assumption)) ?_|refine xL (fun hg=>by first|exact ht|exact hi|exact h7|exact hu|exact e3|exact hi2 (by assumption) _|exact e32 (by assumption) _|exact hm (by assumption) (by assumption)) ?_)|(show VI ..;refine xJ ?_)|(show VG ..;refine xG ?_)|(show VA ..;refine xA ?_)|(show VZ ..;refine .n ?_)|(show VE ..;refine .mk ?_))
 all_goals clear hm e32 hi2 ht hi h7 hu e3
 all_goals (conv=>whnf)
 ·rw [hc] at ho;subst ho
  exact⟨rfl,[true],_,rfl⟩
 ·rename_i z1
  rw [z1,hc] at ho;subst ho
  exact⟨rfl,[true],_,rfl⟩
 ·rename_i z1 z2 z3
  rw [z1,z2,z3,hc] at ho;subst ho
  exact⟨rfl,[true],_,rfl⟩
 ·rename_i z1 z2 z3
  rw [z1,z2,z3,hc] at ho;subst ho
  exact⟨rfl,[true,true,true,true,true,true],_,rfl⟩
 ·rename_i z1 z2 z3
  rw [z1,z2,z3,hc] at ho;subst ho
  exact⟨rfl,[true],_,rfl⟩
 ·rename_i z1 z2 z3
  rw [z1,z2,z3,hc] at ho;subst ho
  obtain⟨_,_,q1,q2,_⟩:=h7o (by simpa using z1)
  have w2:IntKind.i64.wrap (q.next+1+1)=q.next+2:=(qah (by omega) (by omega)).trans (by omega)
  exact⟨by rw [w1 z1,w2];rfl,[true,true,true,true,true],_,rfl⟩
theorem qms (l:List Tok) (hl:Toks l) (ps:List (List UInt8)) (hn:ps.length≤1048576) (a:Int) (c:Cs) (ow:List (Int×Int)) (sum:Int) (h0:0≤a) (h1:a≤l.length) (s0:0≤sum) (s1:sum≤400) (hp:isT (nowT l a) [112,117,114,101]=true):DM Tryz.prog 35 [.a (.sl (l.map Tok.at)),.a (.v (.int .i64 a)),.r (cR c (.sl (ps.map qaj)) (.sl (ow.map owAt)) .nl .nl),.a (.v (.int .i64 sum))] [] (.r (moR0 c (.sl (ps.map qaj)) (.sl (ow.map owAt)) (mem9 l ps a sum true 0 0 (a+1)))) (moS0 (mem9 l ps a sum true 0 0 (a+1))):=by
 have hlen:=hl.len
 have h1:=qam (qad l) hp
 have hL:l.length≤1048576:=by omega
 have ht:=qbh l a hL
 have hi:qaa Tryz.prog 13 [.a (.sl (l.map Tok.at)),.a (.v (.int .i64 a)),.a (.v (.string (bs [112,117,114,101])))] (.a (.v (.bool true))):=by rw [←hp];exact qbx l _ _ hL
 have w0:IntKind.i64.wrap (a+1)=a+1:=qah (by omega) (by omega)
 have h7:=qcf l ps (a+1) true (by omega) hn (by omega) (by omega)
 have h7o:=qb1 (qad l) hl.name (ps:=ps) (a+1) true
 obtain⟨o,ho⟩:∃o,mem9 l ps a sum true 0 0 (a+1)=o:=⟨_,rfl⟩
 rw [ho]
 unfold mem9 at ho
 generalize par7 l ps (a+1) true=q at *
 rw [←w0] at h7
 have hu:=qbh l q.next hL
 have e3:=qas l 3 q.next hL
 have w1:(q.err != 0)=false→IntKind.i64.wrap (q.next+1)=q.next+1:=fun h=>by
  obtain⟨_,_,q1,q2,_⟩:=h7o (by simpa using h)
  exact qah (by omega) (by omega)
 have hi2:(q.err != 0)=false→∀s,qaa Tryz.prog 13 [.a (.sl (l.map Tok.at)),.a (.v (.int .i64 (IntKind.i64.wrap (q.next+1)))),.a (.v (.string (bs s)))] (.a (.v (.bool (isT (nowT l (q.next+1)) s)))):=fun h s=>by rw [w1 h];exact qbx l _ s hL
 have e32:(q.err != 0)=false→∀z,qaa Tryz.prog 32 [.a (.v (.int .i64 z)),.a (.sl (l.map Tok.at)),.a (.v (.int .i64 (IntKind.i64.wrap (q.next+1))))] (.r (G9.at (bad9 l z (q.next+1)))):=fun h z=>by rw [w1 h];exact qas l z _ hL
 have hm:(q.err != 0)=false→isT (nowT l (q.next+1)) [40]=true→qaa Tryz.prog 63 [.a (.sl (l.map Tok.at)),.a (.v (.int .i64 (IntKind.i64.wrap (q.next+1)))),.a (.sl (ps.map qaj)),.r (mR ⟨(nowT l q.next).text,true,q.t,[],[],[],(nowT l a).pos⟩ .nl .nl .nl),.a (.v (.int .i64 sum))] (.r (G9.at (met9 l ps (q.next+1) ⟨(nowT l q.next).text,true,q.t,[],[],[],(nowT l a).pos⟩ sum))):=fun h h2=>by
  rw [w1 h]
  obtain⟨_,_,q1,q2,_⟩:=h7o (by simpa using h)
  have hlt:=qam (qad l) h2
  exact qck l hl ps hn _ _ .nl .nl sum (by omega) (by omega) s0 s1
 refine qd2 [0,1,2,3,6,8,9,10,11,12,13,24,35,45,61,65,79,105,112] Tryz.func35 rfl Tryz.ntmps35 rfl rfl rfl (by cases o<;>rfl) (fun C hro=>?_)
 repeat' ((conv=>whnf);first|(show VD ..;refine .q ?_)|(show VK ..;refine xK ?_)|(show VB ..;first|refine VB.tt (by decide) ?_|refine VB.ff (by decide) ?_|refine VB.mk (fun hc=>?_) fun hc=>?_)|(show VC ..;first|refine xC (fun hg=>by first|exact ht|exact hi|exact h7|exact hu|exact e3|exact hi2 (by assumption) _|exact e32 (by assumption) _|exact hm (by assumption) (by assumption)) ?_|refine xL (fun hg=>by first|exact ht|exact hi|exact h7|exact hu|exact e3|exact hi2 (by assumption) _|exact e32 (by assumption) _|exact hm (by assumption) (by assumption)) ?_)|(show VI ..;refine xJ ?_)|(show VG ..;refine xG ?_)|(show VA ..;refine xA ?_)|(show VZ ..;refine .n ?_)|(show VE ..;refine .mk ?_))
 all_goals clear hm e32 hi2 ht hi h7 hu e3
 all_goals (conv=>whnf)
 ·rw [hc] at ho;subst ho
  exact⟨rfl,[true],_,rfl⟩
 ·rename_i z1
  rw [z1,hc] at ho;subst ho
  exact⟨rfl,[true],_,rfl⟩
 ·rename_i z1 z2 z3
  rw [z1,z2,z3,hc] at ho;subst ho
  exact⟨rfl,[true],_,rfl⟩
 ·rename_i z1 z2 z3
  rw [z1,z2,z3,hc] at ho;subst ho
  exact⟨rfl,[true,true,true,true,true,true],_,rfl⟩
 ·rename_i z1 z2 z3
  rw [z1,z2,z3,hc] at ho;subst ho
  exact⟨rfl,[true],_,rfl⟩
 ·rename_i z1 z2 z3
  rw [z1,z2,z3,hc] at ho;subst ho
  obtain⟨_,_,q1,q2,_⟩:=h7o (by simpa using z1)
  have w2:IntKind.i64.wrap (q.next+1+1)=q.next+2:=(qah (by omega) (by omega)).trans (by omega)
  exact⟨by rw [w1 z1,w2];rfl,[true,true,true,true,true],_,rfl⟩
end Go.Proofs.YtfbopaaambkfkaaGreatDoor
