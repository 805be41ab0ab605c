/- What a function hands back with boxes that it was lent or made: the rule of entry for contracts with boxes. No program in sight. Conditions: none. -/
import Derived.Test.YthkojpnjdpbcgaaGreatDoorMg19
set_option linter.unusedVariables false
set_option maxRecDepth 100000
set_option maxHeartbeats 8000000
set_option linter.unusedSimpArgs false
namespace Go.Proofs.YthkojpnjdpbcgaaGreatDoor
open Go.RowKit
section
variable {P:Program}
theorem raw1_resM {n:Nat} {e:Nat→D} {st:List Bx} {r:ResultVar} {d:D} (hd:raw1 P n e st r=some d):qec P n e st r=some d:=by
 unfold raw1 at hd
 unfold qec
 split at hd<;>dsimp only
 ·exact hd
 ·split at hd
  ·rename_i ht
   rw [if_pos ht]
   split at hd
   ·rename_i i off he
    rw [he]
    dsimp only
    split at hd
    ·rename_i row k hs hk
     rw [hs,hk]
     dsimp only
     split at hd
     ·rename_i m
      split at hd
      ·rename_i hc
       rw [Bool.and_eq_true] at hc
       have e1:=Nat.eq_of_beq_eq_true hc.1
       have e2:=Nat.eq_of_beq_eq_true hc.2
       subst e1;subst e2
       injection hd with hd;subst hd
       simp [qaa]
      ·exact hd
     ·exact hd
    ·cases hd
   ·cases hd
  ·cases hd
/-! ### Nil slices stay nil -/
/-! ### A nil slice is a slice with nothing in it -/
end
end Go.Proofs.YthkojpnjdpbcgaaGreatDoor
namespace Go.Proofs.YthkojpnjdpbcgaaGreatDoor
open Go.RowKit
def qen:List Bool→List Bx→List Bx
 | true::m,_::st=>.gone::qen m st
 | false::m,b::st=>b::qen m st
 | _,st=>st
theorem qhm:∀(m:List Bool) (st:List Bx),(qen m st).length=st.length
 | [],_=>rfl
 | true::m,[]=>rfl
 | false::m,[]=>rfl
 | true::m,_::st=>by simp [qen,qhm m st]
 | false::m,_::st=>by simp [qen,qhm m st]
theorem qfv:∀(m:List Bool) (st:List Bx) (j:Nat) (y:Bx),(qen m st)[j]? = some y→y.live=true→st[j]? = some y
 | [],_,_,_,h,_=>h
 | true::m,[],_,_,h,_=>h
 | false::m,[],_,_,h,_=>h
 | true::m,_::st,0,y,h,hy=>by
  simp only [qen,List.getElem?_cons_zero,Option.some.injEq] at h;subst h;cases hy
 | false::m,_::st,0,y,h,_=>h
 | true::m,_::st,j+1,y,h,hy=>qfv m st j y (by simpa [qen] using h) hy
 | false::m,_::st,j+1,y,h,hy=>qfv m st j y (by simpa [qen] using h) hy
section
variable {w:World} {x:Nat→Prop} {bl:List Nat} {st st':List Bx}
theorem qnk (hne:∀(j:Nat) (y:Bx),st'[j]? = some y→y.live=true→st[j]? = some y) (b:Nat) (h:(⟨w,x,bl,st'⟩:Vw).mut b):(⟨w,x,bl,st⟩:Vw).mut b:=by
 rcases h with h|⟨j,y,h1,h2,h3⟩
 ·exact .inl h
 ·exact .inr ⟨j,y,h1,hne j y h2 h3,h3⟩
theorem lost_le (hl:st'.length=st.length) (hne:∀(j:Nat) (y:Bx),st'[j]? = some y→y.live=true→st[j]? = some y):(⟨w,x,bl,st⟩:Vw).Le ⟨w,x,bl,st'⟩:=by
 refine⟨by simp [hl],Nat.le_refl _,fun b _ h=>⟨fun _=>rfl,fun h'=>h (qnk hne b h')⟩,fun j r hj hr=>?_,fun j ver m rows hj hr=>?_,fun j kk wd es hj hr=>?_⟩
 ·exact⟨⟨r,hne j _ hr rfl⟩,rfl⟩
 ·exact⟨ver,m,rows,hne j _ hr rfl,.inr ⟨rfl,rfl,rfl,rfl,fun _ cs _ _ hc=>⟨cs,hc,rfl⟩⟩⟩
 ·exact⟨⟨kk,wd,es,hne j _ hr rfl⟩,rfl⟩
theorem lost_ok (hl:st'.length=st.length) (hne:∀(j:Nat) (y:Bx),st'[j]? = some y→y.live=true→st[j]? = some y) (h:Ok ⟨w,x,bl,st⟩):Ok ⟨w,x,bl,st'⟩:=by
 have hle:=lost_le (w:=w) (x:=x) (bl:=bl) hl hne
 refine⟨by simpa [hl] using h.len,h.lt,h.xlt,h.gd,h.isc,fun j k b y z h1 h2 h3 h4 h5 h6=>h.inj j k b y z h1 h2 (hne j y h3 h5) (hne k z h4 h6) h5 h6,fun j r b h1 h2=>?_,fun j ver m rows b h1 h2=>?_,fun j kk wd es b h1 h2=>?_⟩
 ·obtain⟨cs,T,g1,g2,g3⟩:=h.cell j r b (hne j _ h1 rfl) h2
  exact⟨cs,T,g1,g2,fun k y hk=>(g3 k y hk).mono hle⟩
 ·obtain⟨cs,T,c,g1,g2,g3,g4,g5,g6⟩:=h.arr j ver m rows b (hne j _ h1 rfl) h2
  exact⟨cs,T,c,g1,g2,g3,g4,g5,fun k row i y hk hi=>(g6 k row i y hk hi).mono (Nat.le_refl _) fun b _ hm=>⟨fun _=>rfl,fun h'=>hm (qnk hne b h')⟩⟩
 ·obtain⟨ms,g1,g2,g3⟩:=h.map j kk wd es b (hne j _ h1 rfl) h2
  refine⟨ms,g1,g2,fun k y row hk=>?_⟩
  obtain⟨g4,v,g5,g6⟩:=g3 k y row hk
  exact⟨g4,v,g5,g6.mono hle⟩
end
variable {P:Program}
theorem XR.lost {E:Env P} {on:Prop} {Nx:Nat→Prop} {V:Vw} {O:D→List Bx→D→Prop} {v:Value} {w':World} (m:List Bool) (h:XR E on Nx V O v w'):XR E on Nx V (fun d st g=>∃st0,O d st0 g∧st=qen m st0) v w':=by
 obtain⟨d,st',g,x',bl',h1,h2,h3,h4⟩:=h
 have hl:=qhm m st'
 have hne:=qfv m st'
 have hle:=lost_le (w:=w') (x:=x') (bl:=bl') hl hne
 refine⟨d,qen m st',g,x',bl',⟨st',h1,rfl⟩,⟨h2.le.trans hle,lost_ok hl hne h2.ok,h2.fr,h2.new,h2.sep,h2.xs,h2.xn⟩,?_,h4.mono hle⟩
 refine h3.frm ⟨rfl,rfl,rfl,Nat.le_refl _,fun _ _ _=>rfl⟩ (fun b hb=>?_) fun _ hb=>hb
 obtain⟨j,y,g1,g2,g3⟩:=hb
 exact .inl ⟨j,y,g1,hne j y g2 g3,g3⟩
structure VWG (d' d:D) (st st1:List Bx):Prop where
 h:d'=d
 s:∃m ex,qen m st=st1++ex
def vresG (P:Program) (n:Nat) (rs:List ResultVar) (d:D) (st1:List Bx) (l:EL) (st:List Bx):Prop :=
 match rs with
 | [r]=>(match raw1 P n (getL l) st r with
  | some d'=>VWG d' d st st1
  | none=>False)
 | []=>VWG (.t []) d st st1
 | _=>False
def vretG (P:Program) (n:Nat) (rs:List ResultVar) (d:D) (st1:List Bx):Exit→EL→List Bx→Prop
 | .normal,l,st=>vresG P n rs d st1 l st
 | .ret,l,st=>vresG P n rs d st1 l st
 | _,_,_=>False
theorem ql1 {n:Nat} {rs:List ResultVar} {d:D} {st1:List Bx} {ex:Exit} {l:EL} {st:List Bx} (h:vretG P n rs d st1 ex l st):retM P n rs (fun d1 s1 _=>d1=d∧∃m ex,qen m s1=st1++ex) ex (envL l) st:=by
 have key:vresG P n rs d st1 l st→∃d1,resM P n (envL l) st rs d1∧(d1=d∧∃m ex,qen m st=st1++ex):=by
  intro h2
  unfold vresG at h2
  rw [qad] at h2
  split at h2
  ·split at h2
   ·rename_i d' hd
    exact⟨d',raw1_resM hd,h2.h,h2.s⟩
   ·exact h2.elim
  ·exact⟨.t [],⟨[],rfl,rfl⟩,h2.h,h2.s⟩
  ·exact h2.elim
 cases ex with
 | normal=>exact key h
 | ret=>exact key h
 | _=>exact h.elim
theorem vx_gone {f:FuncId} {fn:Func} {c:Code} {n:Nat} {rs:List ResultVar} {ds:List D} {st0:List Bx} {d:D} {st1:List Bx} (ks:List Nat) (hf:P.funcs[f]? = some fn) (hb:fn.body=some c) (hn:fn.ntmps=n) (hr:fn.results=⟨rs⟩) (hnm:(fn.name == "runtime.NumGoroutine")=false) (hl:(decide (ds.length≤n)&&decide (n≤1000000))=true)
  (hnr:(nrS st1.length st1&&nrM st1.length d&&decide (st0.length≤st1.length))=true)
  (h:∀C:Cx P,C.ro=none→vx P C n ks c (argL 0 ds) st0 (vretG P n rs d st1)):DM P f ds st0 d st1:=by
 simp only [Bool.and_eq_true,decide_eq_true_iff] at hnr
 have hg:DG (.none P) f ds st0 .junk (fun d1 s1 _=>d1=d∧∃m ex,qen m s1=st1++ex):=DG.introM hf hb hn hr hnm hl fun V0 Kb Nx=>WP.weaken (qhy ds (by simp only [Bool.and_eq_true,decide_eq_true_iff] at hl;omega) .junk) (qdx c _ _ _ _ (fun _ _ _=>ql1) (h _ rfl))
 refine⟨hnr.1.1,hnr.1.2,hnr.2,hg.1,fun V Nx vs q1 q2 q3 q4 q5 q6 q7=>?_⟩
 refine (hg.2 V Nx vs q1 q2 q3 q4 q5 q6 q7).mono ?_
 rintro en w' ⟨v,rfl,d1,s1,g,x',bl',⟨rfl,m,ex,hm⟩,r2,r3,r4⟩
 have hx:XR (Env.none P) True Nx V (fun d st g'=>d=d1∧st=s1) v w':=⟨d1,s1,g,x',bl',⟨rfl,rfl⟩,r2,r3,r4⟩
 obtain⟨d2,s2,g2,x2,bl2,⟨s3,⟨rfl,rfl⟩,rfl⟩,t2,t3,t4⟩:=hx.lost m
 exact⟨v,rfl,d2,_,g2,x2,bl2,⟨rfl,ex,hm⟩,t2,t3,t4⟩
end Go.Proofs.YthkojpnjdpbcgaaGreatDoor
