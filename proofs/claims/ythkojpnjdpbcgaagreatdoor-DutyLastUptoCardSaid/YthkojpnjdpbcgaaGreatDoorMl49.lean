/- Loops over a list by a counter. No program in sight. Conditions: none. -/
import Derived.Test.YthkojpnjdpbcgaaGreatDoorMl22
import Derived.Test.YthkojpnjdpbcgaaGreatDoorMl14
import Derived.Test.YthkojpnjdpbcgaaGreatDoorMl33
import Derived.Test.YthkojpnjdpbcgaaGreatDoorMl24
import Derived.Test.YthkojpnjdpbcgaaGreatDoorMl25
import Derived.Test.YthkojpnjdpbcgaaGreatDoorMl38
import Derived.Test.YthkojpnjdpbcgaaGreatDoorMl42
import Derived.Test.YthkojpnjdpbcgaaGreatDoorMl45
import Derived.Test.YthkojpnjdpbcgaaGreatDoorMl48
import Derived.Test.YthkojpnjdpbcgaaGreatDoorMl41
set_option linter.unusedVariables false
set_option maxRecDepth 100000
set_option maxHeartbeats 8000000
set_option linter.unusedSimpArgs false
namespace Go.Proofs.YthkojpnjdpbcgaaGreatDoor
open Go.RowKit
section
section
variable {P:Program} {C:Cx P} {n:Nat} {Q:Exit→(Nat→D)→List Bx→Prop} {e:Nat→D} {st:List Bx}
def RDn (env:Nat→List (Nat×D)) (sto:Nat→List Bx) (I:Nat→Prop) (k:Nat) (e':Nat→D) (st':List Bx):Prop :=
 I (k+1)∧∃ex,qal e' (env (k+1))∧st'=sto (k+1)++ex∧nrE (sto (k+1)).length (env (k+1))=true∧nrS (sto (k+1)).length (sto (k+1))=true
theorem WP.each {α:Type} (l:List α) (enc:α→List A) (m:Nat) (env:Nat→List (Nat×D)) (sto:Nat→List Bx) (I:Nat→Prop) {c:Code} (h0:qal e (env 0)) (hs:st=sto 0) (hI:I 0) (hn:l.length≤4194304) (hz:∀z,(enc z).length=m)
  (round:∀k z,l[k]? = some z→l.drop k=z::l.drop (k+1)→l.take (k+1)=l.take k++[z]→k<l.length→I k→decide ((k:Int)<((l.length:Nat):Int))=true→(∀q2,ixD (some m) q2 (.a (.sl (l.map enc))) (.a (.v (.int .i64 (k:Int))))=some (.a (.ref (enc z) 0)))→IntKind.i64.wrap ((k:Int)+1)=((k+1:Nat):Int)→WP C n c (qdi (RDn env sto I k) Q) (envL (env k)) (sto k))
  (last:I l.length→decide ((l.length:Int)<((l.length:Nat):Int))=false→WP C n c (qdi (fun _ _=>False) Q) (envL (env l.length)) (sto l.length)) (hle:∀k,(sto k).length≤(sto (k+1)).length:=by intros;exact Nat.le_refl _):WP C n (.loop c) Q e st:=by
 refine WP.loopG (α:={ k:Nat // k≤l.length∧I k }) (fun y=>env y.1) (fun y=>sto y.1) (fun y=>l.length-y.1) ⟨0,Nat.zero_le _,hI⟩ h0 hs ?_
 rintro⟨k,hk,hi⟩
 dsimp only
 by_cases hlt:k<l.length
 ·obtain⟨z,hzk⟩:∃z,l[k]? = some z:=⟨_,List.getElem?_eq_getElem hlt⟩
  refine (round k z hzk (by rw [List.drop_eq_getElem_cons hlt];congr 1;exact (List.getElem?_eq_some_iff.1 hzk).2) (qao hzk) hlt hi (decide_eq_true (by omega)) (fun q2=>qaq rfl (by rw [List.getElem?_map,hzk];rfl) (hz z)) (qap (by omega))).mono ?_
  intro ex e' st' hq
  cases ex with
  | normal =>
   obtain⟨hi1,ex,h1,h2,h3,h4⟩:=hq
   exact⟨⟨k+1,by omega,hi1⟩,ex,by dsimp only;omega,hle k,h1,h2,h3,h4⟩
  | _=>exact hq
 ·obtain rfl:k=l.length:=by omega
  refine (last hi (decide_eq_false (by omega))).mono ?_
  intro ex e' st' hq
  cases ex with
  | normal=>exact hq.elim
  | _=>exact hq
end
end
section
section
variable {P:Program} {ops:Array Oper} {n kf:Nat} {Q:Exit→Act→World→Prop}
end
section
variable {P:Program} {C:Cx P} {n m:Nat} {Q:Exit→(Nat→D)→List Bx→Prop} {e:Nat→D} {st:List Bx} {id:Nat} {l L:List Oper} {segs:List Nat} {ops:Array Oper} {K:(Nat→D)→List Bx→Prop} {q2:(Nat→D)×List Oper}
end
section
variable {P:Program} {ops:Array Oper} {r:List Oper} {o:Oper} {e:Nat→D} {st:List Bx} {K:(Nat→D)→Prop} {dst:Option Nat}
end
end
section
@[go_sem] theorem allLen_Ln {l:List Ln}:qay 26 (l.map Ln.at)=true:=qfz (fun x=>Ln.len x) l
def mkLn (a:Ln) (x:Int×St):Ln:={ a with d:=x.1,s:=x.2 }
def lnEx:Nat→D
 | 0=>.a .nl
 | k+1=>.a (.own 2 (3*k+2))
def lnBx (a:Ln) (X:List A) (R:List Ln):Nat→List Bx
 | 0=>[.cell (Ln.at a)]
 | k+1=>[.cell (Ln.at a),.cell X,.arr (3*k+2) 26 (R.map Ln.at)]
theorem lnBx_len (a:Ln) (X:List A) (R R':List Ln) (k:Nat):(lnBx a X R k).length≤(lnBx a X R' (k+1)).length:=by cases k<;>simp [lnBx]
theorem pr12lines:∀(n:Nat) (l:List St) (a:Ln),St.szs l≤n→n≤1048576→0≤a.d→a.d+n≤4194304→qaa Tryz.prog 20 [.a (.sl (l.map St.at)),.r (Ln.at a)] (.a (.sl (((St.lns a.d l).map (mkLn a)).map Ln.at))):=by
 intro n
 induction n with
 | zero =>
  intro l a hz hn hd hdn
  have:l=[]:=by cases l with
   | nil=>rfl
   | cons s r=>have:=St.sz_pos s;rw [St.szs] at hz;omega
  subst this
  refine qaa.go Tryz.func20 rfl Tryz.ntmps20 rfl rfl rfl (fun C hro=>?_)
  have fx:=trivial
  repeat' (first|refine stp [0,1,3,4,5,6,7,11] ?_|fail)
  refine WP.loop_in ?_
  refine WPIn.unroll ?_
  repeat' (first|refine stp [0,1,3,4,5,6,7,11] ?_|fail)
  rfl
 | succ n ih =>
  intro l a hz hn hd hdn
  have hll:l.length≤1048576:=by rw [qb6] at hz;have:=qav St.sz_pos l;omega
  have hwd:IntKind.i64.wrap (a.d+1)=a.d+1:=qbk (by omega) (by omega)
  have hlz:=Ln.z0
  have hLt:∀k,((St.lns a.d (l.take k)).map (mkLn a)).length≤1048576:=fun k=>by
   have h1:=St.lns_len _ (l.take k) a.d (Nat.le_refl _)
   have h2:St.szs (l.take k)≤St.szs l:=by rw [qb6,qb6];exact qcf St.sz l k
   rw [List.length_map];omega
  obtain⟨X,hX⟩:∃X:List A,X=(match l with|z::_=>Ln.at { a with s:=z,d:=a.d+1 }|[]=>[]):=⟨_,rfl⟩
  have hXn:∀m,X.all (nrA m)=true:=fun m=>by subst hX;cases l with|nil=>rfl|cons z r=>exact Ln.nr _ m
  refine qaa.go Tryz.func20 rfl Tryz.ntmps20 rfl rfl rfl (fun C hro=>?_)
  have fx:=trivial
  repeat' (first|refine stp [0,1,3,4,5,6,7,11] ?_|fail)
  refine WP.each l St.at 23 (fun k=>[(0,.a (.sl (l.map St.at))),(3,.a (.ptr 0 0)),(5,lnEx k),(6,.a (.v (.int .i64 (k:Nat))))]) (fun k=>lnBx a X ((St.lns a.d (l.take k)).map (mkLn a)) k) (fun _=>True) (by simp only [lnEx,qal,go_sem,simprocAttr];first|done|rfl) rfl trivial (by omega) (fun z=>St.len z) ?_ ?_ (fun k=>lnBx_len a X _ _ k)
  ·intro k z hz1 hdr htk hlt _ hlt2 hix hwu
   have hzs:z.sz≤n+1:=by rw [qb6] at hz;have:=qau (f:=St.sz) (lm4 hz1);omega
   have hzk:=St.sz_eq z
   have hL1:=hLt k
   have hR:((St.lns a.d (l.take (k+1))).map (mkLn a))=(((St.lns a.d (l.take k)).map (mkLn a)++[{ a with s:=z }])++(St.lns (a.d+1) z.body).map (mkLn { a with s:=z,d:=a.d+1 }))++(St.lns (a.d+1) z.els).map (mkLn { a with s:=z,d:=a.d+1 }):=by
    rw [htk,St.lns_app,St.lns_cons,List.map_append,List.map_append,List.map_cons,List.map_append]
    simp only [St.lns,List.map_nil,List.append_nil,List.append_assoc]
    rfl
   have hb:=ih z.body { a with s:=z,d:=a.d+1 } (by omega) (by omega) (by show 0≤a.d+1;omega) (by show a.d+1+n≤_;omega)
   have he:=ih z.els { a with s:=z,d:=a.d+1 } (by omega) (by omega) (by show 0≤a.d+1;omega) (by show a.d+1+n≤_;omega)
   have hB1:((St.lns (a.d+1) z.body).map (mkLn { a with s:=z,d:=a.d+1 })).length≤1048576:=by rw [List.length_map];have:=St.lns_len _ z.body (a.d+1) (Nat.le_refl _);omega
   have hE1:((St.lns (a.d+1) z.els).map (mkLn { a with s:=z,d:=a.d+1 })).length≤1048576:=by rw [List.length_map];have:=St.lns_len _ z.els (a.d+1) (Nat.le_refl _);omega
   generalize (St.lns (a.d+1) z.body).map (mkLn { a with s:=z,d:=a.d+1 })=B at hb hB1 hR
   generalize (St.lns (a.d+1) z.els).map (mkLn { a with s:=z,d:=a.d+1 })=EE at he hE1 hR
   cases k with
   | zero =>
    have hX0:X=Ln.at { a with s:=z,d:=a.d+1 }:=by
     rw [hX];cases l with|nil=>simp at hz1|cons y r=>simp at hz1;subst hz1;rfl
    have hl0:decide ((0:Int)<((l.length:Nat):Int))=true:=hlt2
    have hx0:∀q2,ixD (some 23) q2 (.a (.sl (l.map St.at))) (.a (.v (.int .i64 0)))=some (.a (.ref (St.at z) 0)):=hix
    simp only [lnEx,lnBx]
    replace fx:=ai15 hl0 (ai15 hx0 (ai15 hwd (ai15 hlz trivial)))
    repeat' (first|refine stp [0,1,3,4,5,6,7,11] ?_|(refine RS.aO ?_;refine rnx ?_)|(refine RS.aN ?_;refine rnx ?_)|(refine RS.ls ?_;refine rnx ?_)|(refine stc (r1:=by first|exact hb|exact he) (r2:=?_);refine rnx ?_)|((first|refine WP.dw (id:=9) 8 [0,1,3,4,5,6,7,11] ?_|refine WP.dw (id:=10) 8 [0,1,3,4,5,6,7,11] ?_);simp only [qbh,List.drop_succ_cons,List.drop_zero,List.drop_nil])|fail)
    refine⟨trivial,[],by simp only [lnEx,qal,go_sem,simprocAttr],?_,rfl,?_⟩
    ·dsimp only;rw [hX0,hR];simp [St.lns]
    ·simp only [go_sem,simprocAttr,hXn]
   | succ k =>
    have hkk:(3*k+2==3*k+2)=true:=beq_self_eq_true _
    have hkk2:(3*k+2+1==3*k+2+1)=true:=beq_self_eq_true _
    have hkk3:(3*k+2+1+1==3*k+2+1+1)=true:=beq_self_eq_true _
    simp only [lnEx,lnBx]
    generalize (St.lns a.d (l.take (k+1))).map (mkLn a)=R at hL1 hR ⊢
    replace fx:=ai15 hlt2 (ai15 hix (ai15 hwu (ai15 hwd (ai15 hlz (ai15 hkk (ai15 hkk2 (ai15 hkk3 trivial)))))))
    repeat' (first|refine stp [0,1,3,4,5,6,7,11] ?_|(refine RS.aO ?_;refine rnx ?_)|(refine RS.ls ?_;refine rnx ?_)|(refine stc (r1:=by first|exact hb|exact he) (r2:=?_);refine rnx ?_)|((first|refine WP.dw (id:=9) 8 [0,1,3,4,5,6,7,11] ?_|refine WP.dw (id:=10) 8 [0,1,3,4,5,6,7,11] ?_);simp only [qbh,List.drop_succ_cons,List.drop_zero,List.drop_nil])|fail)
    refine⟨trivial,[.cell (Ln.at { a with s:=z,d:=a.d+1 })],by simp only [lnEx,qal,go_sem,simprocAttr];try rfl,?_,rfl,?_⟩
    ·dsimp only;rw [hR];simp only [List.map_append,List.map_cons,List.map_nil];rfl
    ·simp only [go_sem,simprocAttr,hXn]
  ·intro _ hlt2
   rw [List.take_length]
   cases hk:l.length with
   | zero =>
    have hl0:l=[]:=List.eq_nil_of_length_eq_zero hk
    subst hl0
    simp only [lnEx,lnBx]
    replace fx:=ai15 hlt2 trivial
    repeat' (first|refine stp [0,1,3,4,5,6,7,11] ?_|fail)
    rfl
   | succ k =>
    rw [hk] at hlt2
    have hk2:decide (((k+1:Nat):Int)<((l.length:Nat):Int))=false:=by rw [hk];exact hlt2
    have hkk:(3*k+2==3*k+2)=true:=beq_self_eq_true _
    simp only [lnEx,lnBx]
    replace fx:=ai15 hk2 (ai15 hkk trivial)
    repeat' (first|refine stp [0,1,3,4,5,6,7,11] ?_|fail)
    rfl
end
section
set_option maxRecDepth 100000
def sz0:St:=⟨0,[],[],[],⟨0,[],0,(0,0),(0,0),(0,0),(0,0)⟩,⟨0,0,[],[]⟩,[],[],[],0⟩
def lnsM (i k:Int) (m:Me):List Ln:=(St.lns 0 m.body).map (mkLn ⟨i,k,0,sz0⟩)
def qdj (i k:Int):List Me→List Ln
 | []=>[]
 | m::r=>lnsM i k m++qdj i (k+1) r
def qd4 (i:Int):List Cs→List Ln
 | []=>[]
 | c::r=>qdj i 0 c.methods++qd4 (i+1) r
theorem qio (i:Int):∀(l:List Me) (k:Int) (z:Me),qdj i k (l++[z])=qdj i k l++lnsM i (k+l.length) z
 | [],k,z=>by simp [qdj]
 | m::r,k,z=>by
  rw [List.cons_append,qdj,qio i r (k+1) z,qdj,List.append_assoc,List.length_cons]
  rw [show k+1+(r.length:Int)=k+((r.length+1:Nat):Int) by omega]
theorem qip:∀(l:List Cs) (i:Int) (z:Cs),qd4 i (l++[z])=qd4 i l++qdj (i+l.length) 0 z.methods
 | [],i,z=>by simp [qd4]
 | m::r,i,z=>by
  rw [List.cons_append,qd4,qip r (i+1) z,qd4,List.append_assoc,List.length_cons]
  rw [show i+1+(r.length:Int)=i+((r.length+1:Nat):Int) by omega]
theorem qnb (i k:Int) (m:Me):(lnsM i k m).length≤St.szs m.body:=by
 unfold lnsM;rw [List.length_map];exact St.lns_len _ _ _ (Nat.le_refl _)
theorem ql9 (m:Me):St.szs m.body≤m.sz:=by unfold Me.sz;omega
theorem qg7 (i:Int):∀(l:List Me) (k:Int),(qdj i k l).length≤qaf Me.sz l
 | [],k=>Nat.zero_le _
 | m::r,k=>by
  have h1:=qg7 i r (k+1)
  have h2:=qnb i k m
  have h3:=ql9 m
  rw [qdj,List.length_append]
  simp only [qaf]
  omega
theorem qg8:∀(l:List Cs) (i:Int),(qd4 i l).length≤qaf Cs.sz l
 | [],i=>Nat.zero_le _
 | c::r,i=>by
  have h1:=qg8 r (i+1)
  have h2:=qg7 i c.methods 0
  have h3:qaf Me.sz c.methods≤c.sz:=by unfold Cs.sz;omega
  rw [qd4,List.length_append]
  simp only [qaf]
  omega
theorem qna:∀(n:Nat) (l:List St) (d:Int),St.szs l≤n→∀x∈St.lns d l,x.2.sz≤St.szs l
 | n,[],d,_,x,hx=>by cases hx
 | n,s::r,d,h,x,hx=>by
  have hz:s.sz+St.szs r=St.szs (s::r):=by rw [St.szs]
  have hb:=St.sz_eq s
  rw [St.lns_cons] at hx
  cases n with
  | zero=>have:=St.sz_pos s;omega
  | succ n =>
   rcases List.mem_append.1 hx with hx|hx
   ·rcases List.mem_cons.1 hx with rfl|hx
    ·show s.sz≤_;omega
    ·rcases List.mem_append.1 hx with hx|hx
     ·have:=qna n s.body (d+1) (by omega) x hx;omega
     ·have:=qna n s.els (d+1) (by omega) x hx;omega
   ·have:=qna (n+1-s.sz) r d (by omega) x hx;omega
 termination_by n l=>(n,l.length)
def Ln.rv (l:Ln):List A:=[.v (.int .i64 l.c),.v (.int .i64 l.m),.v (.int .i64 l.d)]++St.rv l.s
theorem Ln.at_rv (l:Ln):Ln.at l=Ln.rv l:=by
 obtain⟨c,m,d,s⟩:=l
 show [.v (.int .i64 c),.v (.int .i64 m),.v (.int .i64 d)]++St.at s=_
 rw [St.at_rv];rfl
theorem Ln.at_fun:Ln.at=Ln.rv:=funext Ln.at_rv
theorem pr12Stmts (p:List Cs) (hp:qaf Cs.sz p≤1048576):qaa Tryz.prog 8 [.a (.sl (p.map Cs.at))] (.a (.sl ((qd4 0 p).map Ln.rv))):=by
 have hlen:=qav Cs.sz_pos p
 refine qaa.vx [0,2,3,4,5,9,19] Tryz.func8 rfl Tryz.ntmps8 rfl rfl rfl (fun C hro hst=>?_)
 repeat' ((conv=>whnf);first|refine stv ?_|fail)
 conv=>whnf
 refine VL.gW (fun y:WayL Ln p.length (fun k=>qd4 0 (p.take k))=>[(0,.a (.sl (p.map Cs.at))),(3,ouE 0 y.v),(4,.a (.v (.int .i64 (y.k:Nat))))]) (fun y=>ouC 26 Ln.rv y.q y.v) (fun y=>p.length-y.k) ⟨0,[],none,Nat.zero_le _,rfl,fun _=>rfl⟩ (Wk.agree ⟨rfl,rfl,rfl,trivial⟩) ?_
 rintro⟨i,q,ov,hi,hq,hv⟩
 dsimp only
 by_cases hlt:i<p.length
 ·obtain⟨c,hc⟩:∃c,p[i]? = some c:=⟨_,List.getElem?_eq_getElem hlt⟩
  have hix:(p.map Cs.at)[i]? = some (Cs.at c):=by rw [List.getElem?_map,hc];rfl
  have hlt2:decide ((i:Int)<(((p.map Cs.at).length:Nat):Int))=true:=decide_eq_true (by rw [List.length_map];omega)
  have hw1:IntKind.i64.wrap ((i:Nat)+1)=((i+1:Nat):Int):=qap (by omega)
  have hcs:c.sz≤1048576:=by have:=qau (f:=Cs.sz) (lm4 hc);omega
  have hms:qaf Me.sz c.methods≤c.sz:=by unfold Cs.sz;omega
  have hml:=qav Me.sz_pos c.methods
  have htk:qd4 0 (p.take (i+1))=q++qdj i 0 c.methods:=by
   rw [List.take_add_one,hc,hq,Option.toList_some,qip,List.length_take]
   rw [show (0:Int)+((min i p.length:Nat):Int)=(i:Int) by omega]
  have hbig:∀k,(q++qdj i 0 (c.methods.take k)).length≤2097152:=fun k=>by
   have h1:=qg8 (p.take i) 0
   have h2:=qg7 i (c.methods.take k) 0
   have h3:=qcf Me.sz c.methods k
   have h4:=qcf Cs.sz p i
   rw [List.length_append,hq]
   omega
  cases ov
  all_goals
   repeat' ((conv=>whnf);first|refine stv ?_|(show VB ..;refine VB.tt (by exact hlt2) ?_))
   conv=>whnf
   refine VL.gW (fun y:WayL Ln c.methods.length (fun k=>q++qdj i 0 (c.methods.take k))=>[(0,.a (.sl (p.map Cs.at))),(3,ouE 0 y.v),(4,.a (.v (.int .i64 (i:Nat)))),(5,.a (.v (.int .i64 (y.k:Nat))))]) (fun y=>ouC 26 Ln.rv y.q y.v) (fun y=>c.methods.length-y.k) ⟨0,q,_,Nat.zero_le _,by simp [qdj],hv⟩ ?_ ?_
   ·exact Wk.agree ⟨rfl,rfl,rfl,rfl,trivial⟩
   rintro⟨k,q2,ov2,hk,hq2,hv2⟩
   dsimp only
   by_cases hlt3:k<c.methods.length
   ·obtain⟨m,hm⟩:∃m,c.methods[k]? = some m:=⟨_,List.getElem?_eq_getElem hlt3⟩
    have hix3:(c.methods.map Me.at)[k]? = some (Me.at m):=by rw [List.getElem?_map,hm];rfl
    have hlt4:decide ((k:Int)<(((c.methods.map Me.at).length:Nat):Int))=true:=decide_eq_true (by rw [List.length_map];omega)
    have hw3:IntKind.i64.wrap ((k:Nat)+1)=((k+1:Nat):Int):=qap (by omega)
    have hmm:m.sz≤c.sz:=by have:=qau (f:=Me.sz) (lm4 hm);omega
    have hb:=ql9 m
    have hL:=pr12lines (St.szs m.body) m.body ⟨i,k,0,sz0⟩ (Nat.le_refl _) (by omega) (Int.le_refl _) (by show (0:Int)+_≤_;omega)
    have hR:lnsM i k m=(St.lns 0 m.body).map (mkLn ⟨i,k,0,sz0⟩):=rfl
    have hl:=qnb i k m
    have hsn:q++qdj i 0 (c.methods.take (k+1))=q2++lnsM i k m:=by
     rw [List.take_add_one,hm,hq2,Option.toList_some,qio,List.length_take,List.append_assoc]
     rw [show (0:Int)+((min k c.methods.length:Nat):Int)=(k:Int) by omega]
    have hql:=hbig k
    rw [←hq2] at hql
    dsimp only at hL
    rw [←hR,Ln.at_rv,Ln.at_fun] at hL
    generalize lnsM i k m=R at *
    obtain⟨y,hy1,hy2,hy3,hy4⟩:∃y:WayL Ln c.methods.length (fun k=>q++qdj i 0 (c.methods.take k)),c.methods.length-y.k<c.methods.length-k∧y.k=k+1∧y.q=q2++R∧y.v=(match ov2,R with|none,[]=>none|none,_=>some 0|some v,_=>some (v+1)):=⟨⟨k+1,q2++R,_,by omega,hsn.symm,fun h=>by
     cases ov2 with
     | none=>rw [hv2 rfl];cases R with|nil=>rfl|cons=>cases h
     | some v=>cases h⟩,by dsimp only;omega,rfl,rfl,rfl⟩
    cases ov2 with
    | none =>
     obtain rfl:=hv2 rfl
     cases R with
     | nil =>
      repeat' ((conv=>whnf);first|(show VI ..;refine xI (fun _=>by first|exact hix|exact hix3) ?_)|refine stv ?_|(show VB ..;refine VB.tt (by exact hlt4) ?_)|(show VC ..;refine xC (fun hg=>by exact hL) ?_))
      conv=>whnf
      refine⟨y,hy1,?_⟩
      rw [hy2,hy3,hy4,←hw3]
      exact Wk.agree ⟨rfl,rfl,rfl,rfl,trivial⟩
     | cons r0 R =>
      have hl2:R.length+1≤1048576:=by rw [List.length_cons] at hl;omega
      repeat' ((conv=>whnf);first|(show VI ..;refine xI (fun _=>by first|exact hix|exact hix3) ?_)|refine stv ?_|(show VB ..;refine VB.tt (by exact hlt4) ?_)|(show VC ..;refine xC (fun hg=>by exact hL) ?_))
      conv=>whnf
      refine⟨y,hy1,?_⟩
      rw [hy2,hy3,hy4,←hw3]
      exact Wk.agree ⟨rfl,rfl,rfl,rfl,trivial⟩
    | some v =>
     repeat' ((conv=>whnf);first|(show VI ..;refine xI (fun _=>by first|exact hix|exact hix3) ?_)|refine stv ?_|(show VB ..;refine VB.tt (by exact hlt4) ?_)|(show VC ..;refine xC (fun hg=>by exact hL) ?_))
     conv=>whnf
     refine⟨y,hy1,?_⟩
     rw [hy2,hy3,hy4,←hw3]
     unfold ouC
     dsimp only
     rw [List.map_append]
     exact Wk.agree ⟨rfl,rfl,rfl,rfl,trivial⟩
   ·obtain rfl:k=c.methods.length:=by omega
    have hlt4:decide (((c.methods.length:Nat):Int)<(((c.methods.map Me.at).length:Nat):Int))=false:=decide_eq_false (by rw [List.length_map];omega)
    rw [List.take_length,←htk] at hq2
    obtain⟨y,hy1,hy2,hy3,hy4⟩:∃y:WayL Ln p.length (fun k=>qd4 0 (p.take k)),p.length-y.k<p.length-i∧y.k=i+1∧y.q=q2∧y.v=ov2:=⟨⟨i+1,q2,ov2,by omega,hq2,hv2⟩,by dsimp only;omega,rfl,rfl,rfl⟩
    cases ov2
    all_goals
     repeat' ((conv=>whnf);first|(show VI ..;refine xI (fun _=>by exact hix) ?_)|refine stv ?_|(show VB ..;refine VB.ff (by exact hlt4) ?_))
     conv=>whnf
     refine⟨y,hy1,?_⟩
     rw [hy2,hy3,hy4,←hw1]
     exact Wk.agree ⟨rfl,rfl,rfl,trivial⟩
 ·obtain rfl:i=p.length:=by omega
  have hlt2:decide (((p.length:Nat):Int)<(((p.map Cs.at).length:Nat):Int))=false:=decide_eq_false (by rw [List.length_map];omega)
  rw [List.take_length] at hq
  subst hq
  cases ov with
  | none =>
   repeat' ((conv=>whnf);first|refine stv ?_|(show VB ..;refine VB.ff (by exact hlt2) ?_))
   rw [hv rfl];rfl
  | some v =>
   repeat' ((conv=>whnf);first|refine stv ?_|(show VB ..;refine VB.ff (by exact hlt2) ?_))
   rfl
end
section
set_option maxRecDepth 100000
theorem pr21Place (p:List Cs) (l:Ln) (i k:Nat) (c:Cs) (m:Me) (hi:p[i]? = some c) (hk:c.methods[k]? = some m) (h1:l.c=(i:Nat)) (h2:l.m=(k:Nat)):qaa Tryz.prog 9 [.a (.sl (p.map Cs.at)),.r (Ln.rv l)] (.r (Pc.at ⟨p,c,m⟩)):=by
 obtain⟨lc,lm,ld,ls⟩:=l
 dsimp only at h1 h2
 subst h1 h2
 have hix1:(p.map Cs.at)[i]? = some (Cs.at c):=by rw [List.getElem?_map,hi];rfl
 have hix2:(c.methods.map Me.at)[k]? = some (Me.at m):=by rw [List.getElem?_map,hk];rfl
 refine qaa.vx [0,1,3,4] Tryz.func9 rfl Tryz.ntmps9 rfl rfl rfl (fun C hro hst=>?_)
 repeat' ((conv=>whnf);first|(show VD ..;refine .q ?_)|(show VI ..;refine xI (fun _=>by first|exact hix1|exact hix2) ?_)|refine stv ?_|fail)
 rfl
theorem qkx (i:Int):∀(l:List Me) (k:Nat) (x:Ln),x∈qdj i k l→∃j m,l[j]? = some m∧x.c=i∧x.m=((k+j:Nat):Int)∧x.s.sz≤St.szs m.body
 | [],k,x,h=>by cases h
 | m::r,k,x,h=>by
  rw [qdj] at h
  rcases List.mem_append.1 h with h|h
  ·unfold lnsM at h
   obtain⟨y,hy,rfl⟩:=List.mem_map.1 h
   exact⟨0,m,rfl,rfl,rfl,qna (St.szs m.body) m.body 0 (Nat.le_refl _) y hy⟩
  ·obtain⟨j,m',h1,h2,h3,h4⟩:=qkx i r (k+1) x h
   exact⟨j+1,m',h1,h2,by rw [h3];congr 1;omega,h4⟩
theorem qky:∀(l:List Cs) (i:Nat) (x:Ln),x∈qd4 i l→∃j c k m,l[j]? = some c∧c.methods[k]? = some m∧x.c=((i+j:Nat):Int)∧x.m=(k:Nat)∧x.s.sz≤St.szs m.body
 | [],i,x,h=>by cases h
 | c::r,i,x,h=>by
  rw [qd4] at h
  rcases List.mem_append.1 h with h|h
  ·obtain⟨j,m,h1,h2,h3,h4⟩:=qkx i c.methods 0 x h
   exact⟨0,c,j,m,rfl,h1,h2,by rw [h3];congr 1;omega,h4⟩
  ·obtain⟨j,c',k,m,h1,h2,h3,h4,h5⟩:=qky r (i+1) x h
   exact⟨j+1,c',k,m,h1,h2,by rw [h3];congr 1;omega,h4,h5⟩
theorem szs_len:∀l:List Ex,l.length≤Ex.szs l
 | []=>Nat.zero_le _
 | x::r=>by rw [Ex.szs];have:=Ex.sz_pos x;have:=szs_len r;simp;omega
theorem args_len (s:St):s.args.length≤s.sz:=by
 have h:=St.sz_eq s
 have:=szs_len s.args
 omega
theorem lineD_len (w:Pc) (mode:Int) (s:St) (hs:s.sz≤1048576):(qbo w mode s).1.length≤4194304:=by
 have ha:=args_len s
 have hq:(qej w s (vuL w mode s) (fdS (calM w.p w.c w.m s)).1).length≤4194304:=by
  unfold qej
  have:=qhr (w:=w) (s:=s) (v:=vuL w mode s) (f:=(fdS (calM w.p w.c w.m s)).1) (k:=s.args.length)
  cases s.x != []<;>simp [qbf]<;>omega
 unfold qbo
 cases docI w.p w.c w.m s != 0<;>cases s.kind==1<;>cases s.kind==2<;>cases s.kind==3<;>cases s.kind==4<;>cases s.kind==5<;>cases s.kind==6<;>try first|exact hq|(simp [qbf];done)
 all_goals cases s.kind==7<;>cases qan (qak w.c w.m s.x).1<;>cases (s.kind==11)<;>cases s.e.kind != 0<;>simp
end
section
set_option maxRecDepth 100000
attribute [local irreducible] qbo qd4
end
section
set_option maxRecDepth 100000
theorem tySelf (z:Ty):bin2 (qbq Tryz.prog 37) (eqOk Tryz.prog 37) .neq (.r (Ty.at z)) (.r (Ty.at z))=some (.a (.v (.bool false))):=by
 obtain⟨a1,a2,a3,⟨a4,a5⟩,⟨a6,a7⟩,⟨a8,a9⟩,⟨a10,a11⟩⟩:=z
 simp only [bin2,go_sem]
theorem duNe (z z':Du):∃b,bin2 (qbq Tryz.prog 62) (eqOk Tryz.prog 62) .neq (.r (Du.at z)) (.r (Du.at z'))=some (.a (.v (.bool b)))∧(z'=z→b=false):=by
 rcases Classical.em (z'=z) with rfl|h
 ·exact⟨false,duSelf _,fun _=>rfl⟩
 ·obtain⟨b,hb⟩:∃b,bin2 (qbq Tryz.prog 62) (eqOk Tryz.prog 62) .neq (.r (Du.at z)) (.r (Du.at z'))=some (.a (.v (.bool b))):=by
   simp only [bin2,go_sem]
   exact⟨_,rfl⟩
  exact⟨b,hb,fun e=>absurd e h⟩
attribute [local irreducible] qbo qd4 qak
theorem qn1 (p:List Cs) (hp:qaf Cs.sz p≤1048576):qaa Tryz.prog 4 [.a (.sl (p.map Cs.at))] (.a (.v (.bool true))):=by
 have h1:=pHeavy p hp
 generalize qk3 p=hv at *
 have h2:=pr12Stmts p hp
 have hnl:=qg8 p 0
 have hmem:=qky p 0
 generalize qd4 ((0:Nat):Int) p=L at *
 refine qaa.vx [0,2,3,4,5,6,7,8,9,10,11,13,15,22,74,76,79,123,127,156,174] Tryz.func4 rfl Tryz.ntmps4 rfl rfl rfl (fun C hro hst=>?_)
 repeat' ((conv=>whnf);first|(show VD ..;refine .q ?_)|refine stv ?_|(show VB ..;refine VB.mk (fun hc=>?_) fun hc=>?_)|(show VC ..;first|refine xC (fun hg=>by first|exact h1|exact aw28b|exact h2) ?_|refine xL (fun hg=>by first|exact h1|exact aw28b|exact h2) ?_))
 ·rfl
 ·conv=>whnf
  refine VL.each L Ln.rv (fun k=>[(0,.a (.sl (p.map Cs.at))),(3,.a (.sl (L.map Ln.rv))),(4,.a (.v (.int .i64 (k:Nat))))]) (fun _=>[]) (fun _=>True) ⟨rfl,rfl,rfl,trivial⟩ rfl trivial (by omega) ?_ ?_
  ·intro n l hz hd htk hlt _ hlt2 hix hw
   obtain⟨i,c,k,m,hi,hk,e1,e2,hsz⟩:=hmem l (lm4 hz)
   have hcp:=lm4 hi
   have hmm:=lm4 hk
   have hcs:c.sz≤1048576:=by have:=qau (f:=Cs.sz) hcp;omega
   have hms:m.sz≤1048576:=by have:=qau (f:=Me.sz) hmm;have h3:qaf Me.sz c.methods≤c.sz:=(by unfold Cs.sz;omega);omega
   have hs:l.s.sz≤1048576:=by have:=ql9 m;omega
   have hok:=pc_ok hp hcp hmm
   have g1:=pr21Place p l i k c m hi hk (by rw [e1];congr 1;omega) e2
   have g2:=pdLine ⟨p,c,m⟩ 1 l.s hok hs
   have g3:=pdLine ⟨p,c,m⟩ 2 l.s hok hs
   have g5:=pr18Type c m l.s.x hok.c hok.a hok.b
   have k1:=line_kind ⟨p,c,m⟩ 1 2 l.s
   have k2:=line_no (w:=⟨p,c,m⟩) (m1:=1) (s:=l.s)
   have k3:=line_mode (w:=⟨p,c,m⟩) (m1:=1) (m2:=2) (s:=l.s)
   have k4:=line_none (w:=⟨p,c,m⟩) (m1:=1) (s:=l.s)
   have k5:=line_last (w:=⟨p,c,m⟩) (m1:=1) (s:=l.s)
   have k6:=lineD_len ⟨p,c,m⟩ 1 l.s hs
   dsimp only at g2 g3 k5
   generalize qbo ⟨p,c,m⟩ 1 l.s=ra at *
   generalize qbo ⟨p,c,m⟩ 2 l.s=rb at *
   generalize qak c m l.s.x=tx at *
   obtain⟨la,ba⟩:=ra
   obtain⟨lb,bb⟩:=rb
   obtain⟨rfl,hkd⟩:ba=bb∧la.map Du.kind=lb.map Du.kind:=k1
   have hln:lb.length=la.length:=by have:=congrArg List.length hkd;simpa using this.symm
   dsimp only at k2 k3 k4 k5 k6 g2 g3
   cases ba with
   | false =>
    obtain rfl:la=[]:=k2 rfl
    obtain rfl:lb=[]:=List.eq_nil_of_length_eq_zero hln
    repeat' ((conv=>whnf);first|(show VD ..;refine .q ?_)|(show VI ..;refine xI (fun _=>by exact hix) ?_)|refine stv ?_|(show VB ..;first|refine VB.tt (by first|exact hlt2|decide) ?_|refine VB.ff (by first|exact hlt2|decide) ?_|refine VB.mk (fun hc=>?_) fun hc=>?_)|(show VC ..;first|refine xC (fun hg=>by first|exact g1|exact g2|exact g3|exact g5) ?_|refine xL (fun hg=>by first|exact g1|exact g2|exact g3|exact g5) ?_))
    conv=>whnf
    exact⟨trivial,_,⟨rfl,rfl,congrArg (fun z=>D.a (.v (.int .i64 z))) hw,trivial⟩,rfl,rfl,rfl⟩
   | true =>
    have hpair:∀(j:Nat) (z:Du),la[j]? = some z→∃z',lb[j]? = some z'∧z'.kind=z.kind∧(l.s.name=[]→z'=z):=fun j z hj=>by
     have h:=congrArg (fun q=>q[j]?) hkd
     simp only [List.getElem?_map,hj,Option.map_some] at h
     cases hb:lb[j]? with
     | none=>rw [hb] at h;cases h
     | some z' =>
      rw [hb] at h
      refine⟨z',rfl,(by simpa using h.symm),fun hn=>?_⟩
      have e:=congrArg Prod.fst (k3 rfl hn)
      dsimp only at e
      rw [e,hb] at hj
      injection hj
    have hE:(bif (bif bif l.s.kind==9 then true else l.s.kind==10 then true else l.s.kind==8) then decide (((la.map Du.at).length:Int)>0) else false)=false:=by
     by_cases hq:l.s.kind=8∨l.s.kind=9∨l.s.kind=10
     ·rw [k4 hq];cases (bif bif l.s.kind==9 then true else l.s.kind==10 then true else l.s.kind==8)<;>rfl
     ·rw [show (l.s.kind==9)=false from beq_false_of_ne (by omega),show (l.s.kind==10)=false from beq_false_of_ne (by omega),show (l.s.kind==8)=false from beq_false_of_ne (by omega)];rfl
    have hA:(bif bif !(true==true) then true else ((la.map Du.at).length:Int) != ((lb.map Du.at).length:Int) then true else bif !true then decide (((la.map Du.at).length:Int)>0) else false)=false:=by simp [hln]
    have hxt:l.s.x=[]∧(!((bs l.s.x).toList==(ByteArray.mk #[]).toList))=false∨l.s.x≠[]∧(!((bs l.s.x).toList==(ByteArray.mk #[]).toList))=true:=by
     rw [qax,show (ByteArray.mk #[]).toList=[] from qax []]
     by_cases hx:l.s.x=[]
     ·exact .inl ⟨hx,by rw [hx];rfl⟩
     ·exact .inr ⟨hx,by simpa using hx⟩
    rcases hxt with ⟨hx,hxc⟩|⟨hx,hxc⟩
    all_goals repeat' ((conv=>whnf);first|(show VD ..;refine .q ?_)|(show VI ..;refine xI (fun _=>by exact hix) ?_)|refine stv ?_|(show VB ..;first|refine VB.tt (by first|exact hlt2|exact hA|decide|exact hxc) ?_|refine VB.ff (by first|exact hlt2|exact hA|decide|exact hxc) ?_|refine VB.mk (fun hc=>?_) fun hc=>?_)|(show VC ..;first|refine xC (fun hg=>by first|exact g1|exact g2|exact g3|exact g5) ?_|refine xL (fun hg=>by first|exact g1|exact g2|exact g3|exact g5) ?_))
    rotate_left
    obtain⟨l0,d,hla,hb,hdk⟩:=k5 rfl hx
    have hrow:(la.map Du.at)[l0.length]? = some (Du.at d):=by rw [hla];simp
    have e0:la.length=l0.length+1:=by rw [hla];simp
    have hz1:IntKind.i64.wrap (((la.map Du.at).length:Int)-1)=(l0.length:Int):=by
     rw [List.length_map,e0,qbk (by omega) (by omega)];omega
    have hB:(bif bif ((la.map Du.at).length:Int)==0 then true else false then true else bif d.kind != 1 then d.kind != 2 else false)=false:=by rcases hdk with h|h<;>simp [h,hla]<;>omega
    repeat' ((conv=>whnf);first|(show VD ..;refine .q ?_)|(show VI ..;refine xI (hz:=fun _=>hz1) (fun _=>hrow) ?_)|(show VQ ..;refine VQ.mk (.a (.v (.bool false))) (hb▸tySelf d.b) ?_)|refine stv ?_|(show VB ..;first|refine VB.tt (by exact hB) ?_|refine VB.ff (by exact hB) ?_|refine VB.mk (fun hc=>?_) fun hc=>?_))
    all_goals
     conv=>whnf
     refine VL.each la Du.at (fun j=>[(0,.a (.sl (p.map Cs.at))),(3,.a (.sl (L.map Ln.rv))),(4,.a (.v (.int .i64 (n:Nat)))),(5,.a (.ptr 0 0)),(7,.a (.sl (la.map Du.at))),(9,.a (.sl (lb.map Du.at))),(13,.a (.v (.int .i64 (j:Nat))))]) (fun _=>_) (fun _=>True) ⟨rfl,rfl,rfl,rfl,rfl,rfl,rfl,trivial⟩ rfl trivial k6 ?_ ?_
     ·intro j z hj hjd hjt hjl _ hlt3 hjx hjw
      obtain⟨z',hb,hzk,hzn⟩:=hpair j z hj
      have hjy:(lb.map Du.at)[j]? = some (Du.at z'):=by rw [List.getElem?_map,hb];rfl
      repeat' ((conv=>whnf);first|(show VD ..;refine .q ?_)|(show VI ..;first|refine xI (fun _=>hjx) ?_|refine xI (fun _=>hjy) ?_)|(show VQ ..;fail)|refine stv ?_|(show VB ..;first|refine VB.tt (by exact hlt3) ?_|refine VB.ff (by exact hlt3) ?_|refine VB.mk (fun hc=>?_) fun hc=>?_))
      conv=>whnf
      obtain⟨b,hb1,hb2⟩:=duNe z z'
      refine VQ.mk (.a (.v (.bool b))) hb1 ?_
      have hn2:((bs l.s.name).toList==(ByteArray.mk #[]).toList)=(l.s.name==[]):=by rw [qax,show (ByteArray.mk #[]).toList=[] from qax []]
      have hF:(bif z.kind != z'.kind then true else bif (bs l.s.name).toList==(ByteArray.mk #[]).toList then b else false)=false:=by
       rw [hzk,hn2]
       cases hq:l.s.name==[] with
       | true=>rw [hb2 (hzn (by simpa using hq))];simp
       | false=>simp
      repeat' ((conv=>whnf);first|(show VD ..;refine .q ?_)|refine stv ?_|(show VB ..;first|refine VB.tt (by exact hF) ?_|refine VB.ff (by exact hF) ?_|refine VB.mk (fun hc=>?_) fun hc=>?_))
      conv=>whnf
      exact⟨trivial,[],⟨rfl,rfl,rfl,rfl,rfl,rfl,congrArg (fun z=>D.a (.v (.int .i64 z))) hjw,trivial⟩,rfl,rfl,rfl⟩
     ·intro _ hlt3
      repeat' ((conv=>whnf);first|(show VD ..;refine .q ?_)|refine stv ?_|(show VB ..;first|refine VB.tt (by first|exact hlt3|exact hE) ?_|refine VB.ff (by first|exact hlt3|exact hE) ?_|refine VB.mk (fun hc=>?_) fun hc=>?_))
      conv=>whnf
      exact⟨trivial,_,⟨rfl,rfl,congrArg (fun z=>D.a (.v (.int .i64 z))) hw,trivial⟩,rfl,rfl,rfl⟩
  ·intro _ hlt2
   repeat' ((conv=>whnf);first|(show VD ..;refine .q ?_)|refine stv ?_|(show VB ..;first|refine VB.tt (by exact hlt2) ?_|refine VB.ff (by exact hlt2) ?_|refine VB.mk (fun hc=>?_) fun hc=>?_)|(show VC ..;first|refine xC (fun hg=>by exact aw28b) ?_|refine xL (fun hg=>by exact aw28b) ?_))
   rfl
end
end Go.Proofs.YthkojpnjdpbcgaaGreatDoor
