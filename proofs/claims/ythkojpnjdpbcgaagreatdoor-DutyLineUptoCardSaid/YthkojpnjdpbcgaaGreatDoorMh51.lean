/- Loops over a list by a counter. No program in sight. Conditions: none. -/
import Derived.Test.YthkojpnjdpbcgaaGreatDoorMh22
import Derived.Test.YthkojpnjdpbcgaaGreatDoorMh14
import Derived.Test.YthkojpnjdpbcgaaGreatDoorMh34
import Derived.Test.YthkojpnjdpbcgaaGreatDoorMh25
import Derived.Test.YthkojpnjdpbcgaaGreatDoorMh26
import Derived.Test.YthkojpnjdpbcgaaGreatDoorMh38
import Derived.Test.YthkojpnjdpbcgaaGreatDoorMh43
import Derived.Test.YthkojpnjdpbcgaaGreatDoorMh46
import Derived.Test.YthkojpnjdpbcgaaGreatDoorMh49
import Derived.Test.YthkojpnjdpbcgaaGreatDoorMh41
import Derived.Test.YthkojpnjdpbcgaaGreatDoorRows
import Derived.WalkKit
import Derived.ProofKit
import Derived.SizedLaws
import Derived.OpenShut
import Derived.Lib.SmallJoins
import Derived.Test.YthkojpnjdpbcgaaGreatDoorMh0
import Derived.Test.YthkojpnjdpbcgaaGreatDoorMh3
import Derived.Test.YthkojpnjdpbcgaaGreatDoorCards
import Derived.Test.YthkojpnjdpbcgaaGreatDoorTie
import Derived.Deep.DeepHandedRow
import Derived.Lib.LaidTab
import Derived.Deep.Strs
import Derived.Test.YthkojpnjdpbcgaaGreatDoorMh50
set_option linter.unusedVariables false
set_option maxRecDepth 100000
set_option maxHeartbeats 8000000
set_option linter.unusedSimpArgs false
namespace Go.Proofs.YthkojpnjdpbcgaaGreatDoor
open Go.RowKit
section
section
variable {P:Program} {C:Cx P} {n:Nat} {Q:Exit→(Nat→D)→List Bx→Prop} {e:Nat→D} {st:List Bx}
def RDn (env:Nat→List (Nat×D)) (sto:Nat→List Bx) (I:Nat→Prop) (k:Nat) (e':Nat→D) (st':List Bx):Prop :=
 I (k+1)∧∃ex,qag e' (env (k+1))∧st'=sto (k+1)++ex∧nrE (sto (k+1)).length (env (k+1))=true∧nrS (sto (k+1)).length (sto (k+1))=true
theorem WP.each {α:Type} (l:List α) (enc:α→List A) (m:Nat) (env:Nat→List (Nat×D)) (sto:Nat→List Bx) (I:Nat→Prop) {c:Code} (h0:qag e (env 0)) (hs:st=sto 0) (hI:I 0) (hn:l.length≤4194304) (hz:∀z,(enc z).length=m)
  (round:∀k z,l[k]? = some z→l.drop k=z::l.drop (k+1)→l.take (k+1)=l.take k++[z]→k<l.length→I k→decide ((k:Int)<((l.length:Nat):Int))=true→(∀q2,ixD (some m) q2 (.a (.sl (l.map enc))) (.a (.v (.int .i64 (k:Int))))=some (.a (.ref (enc z) 0)))→IntKind.i64.wrap ((k:Int)+1)=((k+1:Nat):Int)→WP C n c (qdz (RDn env sto I k) Q) (envL (env k)) (sto k))
  (last:I l.length→decide ((l.length:Int)<((l.length:Nat):Int))=false→WP C n c (qdz (fun _ _=>False) Q) (envL (env l.length)) (sto l.length)) (hle:∀k,(sto k).length≤(sto (k+1)).length:=by intros;exact Nat.le_refl _):WP C n (.loop c) Q e st:=by
 refine WP.loopG (α:={ k:Nat // k≤l.length∧I k }) (fun y=>env y.1) (fun y=>sto y.1) (fun y=>l.length-y.1) ⟨0,Nat.zero_le _,hI⟩ h0 hs ?_
 rintro⟨k,hk,hi⟩
 dsimp only
 by_cases hlt:k<l.length
 ·obtain⟨z,hzk⟩:∃z,l[k]? = some z:=⟨_,List.getElem?_eq_getElem hlt⟩
  refine (round k z hzk (by rw [List.drop_eq_getElem_cons hlt];congr 1;exact (List.getElem?_eq_some_iff.1 hzk).2) (qan hzk) hlt hi (decide_eq_true (by omega)) (fun q2=>qaq rfl (by rw [List.getElem?_map,hzk];rfl) (hz z)) (qap (by omega))).mono ?_
  intro ex e' st' hq
  cases ex with
  | normal =>
   obtain⟨hi1,ex,h1,h2,h3,h4⟩:=hq
   exact⟨⟨k+1,by omega,hi1⟩,ex,by dsimp only;omega,hle k,h1,h2,h3,h4⟩
  | _=>exact hq
 ·obtain rfl:k=l.length:=by omega
  refine (last hi (decide_eq_false (by omega))).mono ?_
  intro ex e' st' hq
  cases ex with
  | normal=>exact hq.elim
  | _=>exact hq
end
end
section
section
variable {P:Program} {ops:Array Oper} {n kf:Nat} {Q:Exit→Act→World→Prop}
end
section
variable {P:Program} {C:Cx P} {n m:Nat} {Q:Exit→(Nat→D)→List Bx→Prop} {e:Nat→D} {st:List Bx} {id:Nat} {l L:List Oper} {segs:List Nat} {ops:Array Oper} {K:(Nat→D)→List Bx→Prop} {q2:(Nat→D)×List Oper}
end
section
variable {P:Program} {ops:Array Oper} {r:List Oper} {o:Oper} {e:Nat→D} {st:List Bx} {K:(Nat→D)→Prop} {dst:Option Nat}
end
end
section
@[go_sem] theorem allLen_Ln {l:List Ln}:qa1 26 (l.map Ln.at)=true:=qgq (fun x=>Ln.len x) l
def mkLn (a:Ln) (x:Int×St):Ln:={ a with d:=x.1,s:=x.2 }
def lnEx:Nat→D
 | 0=>.a .nl
 | k+1=>.a (.own 2 (3*k+2))
def lnBx (a:Ln) (X:List A) (R:List Ln):Nat→List Bx
 | 0=>[.cell (Ln.at a)]
 | k+1=>[.cell (Ln.at a),.cell X,.arr (3*k+2) 26 (R.map Ln.at)]
theorem lnBx_len (a:Ln) (X:List A) (R R':List Ln) (k:Nat):(lnBx a X R k).length≤(lnBx a X R' (k+1)).length:=by cases k<;>simp [lnBx]
theorem pr12lines:∀(n:Nat) (l:List St) (a:Ln),St.szs l≤n→n≤1048576→0≤a.d→a.d+n≤4194304→qaa Tryz.prog 20 [.a (.sl (l.map St.at)),.r (Ln.at a)] (.a (.sl (((St.lns a.d l).map (mkLn a)).map Ln.at))):=by
 intro n
 induction n with
 | zero =>
  intro l a hz hn hd hdn
  have:l=[]:=by cases l with
   | nil=>rfl
   | cons s r=>have:=St.sz_pos s;rw [St.szs] at hz;omega
  subst this
  refine qaa.go Tryz.func20 rfl Tryz.ntmps20 rfl rfl rfl (fun C hro=>?_)
  have fx:=trivial
  repeat' (first|refine stp [0,1,3,4,5,6,7,11] ?_|fail)
  refine WP.loop_in ?_
  refine WPIn.unroll ?_
  repeat' (first|refine stp [0,1,3,4,5,6,7,11] ?_|fail)
  rfl
 | succ n ih =>
  intro l a hz hn hd hdn
  have hll:l.length≤1048576:=by rw [qck] at hz;have:=qav St.sz_pos l;omega
  have hwd:IntKind.i64.wrap (a.d+1)=a.d+1:=qbl (by omega) (by omega)
  have hlz:=Ln.z0
  have hLt:∀k,((St.lns a.d (l.take k)).map (mkLn a)).length≤1048576:=fun k=>by
   have h1:=St.lns_len _ (l.take k) a.d (Nat.le_refl _)
   have h2:St.szs (l.take k)≤St.szs l:=by rw [qck,qck];exact qcr St.sz l k
   rw [List.length_map];omega
  obtain⟨X,hX⟩:∃X:List A,X=(match l with|z::_=>Ln.at { a with s:=z,d:=a.d+1 }|[]=>[]):=⟨_,rfl⟩
  have hXn:∀m,X.all (nrA m)=true:=fun m=>by subst hX;cases l with|nil=>rfl|cons z r=>exact Ln.nr _ m
  refine qaa.go Tryz.func20 rfl Tryz.ntmps20 rfl rfl rfl (fun C hro=>?_)
  have fx:=trivial
  repeat' (first|refine stp [0,1,3,4,5,6,7,11] ?_|fail)
  refine WP.each l St.at 23 (fun k=>[(0,.a (.sl (l.map St.at))),(3,.a (.ptr 0 0)),(5,lnEx k),(6,.a (.v (.int .i64 (k:Nat))))]) (fun k=>lnBx a X ((St.lns a.d (l.take k)).map (mkLn a)) k) (fun _=>True) (by simp only [lnEx,qag,go_sem,simprocAttr];first|done|rfl) rfl trivial (by omega) (fun z=>St.len z) ?_ ?_ (fun k=>lnBx_len a X _ _ k)
  ·intro k z hz1 hdr htk hlt _ hlt2 hix hwu
   have hzs:z.sz≤n+1:=by rw [qck] at hz;have:=qas (f:=St.sz) (lm4 hz1);omega
   have hzk:=St.sz_eq z
   have hL1:=hLt k
   have hR:((St.lns a.d (l.take (k+1))).map (mkLn a))=(((St.lns a.d (l.take k)).map (mkLn a)++[{ a with s:=z }])++(St.lns (a.d+1) z.body).map (mkLn { a with s:=z,d:=a.d+1 }))++(St.lns (a.d+1) z.els).map (mkLn { a with s:=z,d:=a.d+1 }):=by
    rw [htk,St.lns_app,St.lns_cons,List.map_append,List.map_append,List.map_cons,List.map_append]
    simp only [St.lns,List.map_nil,List.append_nil,List.append_assoc]
    rfl
   have hb:=ih z.body { a with s:=z,d:=a.d+1 } (by omega) (by omega) (by show 0≤a.d+1;omega) (by show a.d+1+n≤_;omega)
   have he:=ih z.els { a with s:=z,d:=a.d+1 } (by omega) (by omega) (by show 0≤a.d+1;omega) (by show a.d+1+n≤_;omega)
   have hB1:((St.lns (a.d+1) z.body).map (mkLn { a with s:=z,d:=a.d+1 })).length≤1048576:=by rw [List.length_map];have:=St.lns_len _ z.body (a.d+1) (Nat.le_refl _);omega
   have hE1:((St.lns (a.d+1) z.els).map (mkLn { a with s:=z,d:=a.d+1 })).length≤1048576:=by rw [List.length_map];have:=St.lns_len _ z.els (a.d+1) (Nat.le_refl _);omega
   generalize (St.lns (a.d+1) z.body).map (mkLn { a with s:=z,d:=a.d+1 })=B at hb hB1 hR
   generalize (St.lns (a.d+1) z.els).map (mkLn { a with s:=z,d:=a.d+1 })=EE at he hE1 hR
   cases k with
   | zero =>
    have hX0:X=Ln.at { a with s:=z,d:=a.d+1 }:=by
     rw [hX];cases l with|nil=>simp at hz1|cons y r=>simp at hz1;subst hz1;rfl
    have hl0:decide ((0:Int)<((l.length:Nat):Int))=true:=hlt2
    have hx0:∀q2,ixD (some 23) q2 (.a (.sl (l.map St.at))) (.a (.v (.int .i64 0)))=some (.a (.ref (St.at z) 0)):=hix
    simp only [lnEx,lnBx]
    replace fx:=ai15 hl0 (ai15 hx0 (ai15 hwd (ai15 hlz trivial)))
    repeat' (first|refine stp [0,1,3,4,5,6,7,11] ?_|(refine RS.aO ?_;refine rnx ?_)|(refine RS.aN ?_;refine rnx ?_)|(refine RS.ls ?_;refine rnx ?_)|(refine stc (r1:=by first|exact hb|exact he) (r2:=?_);refine rnx ?_)|((first|refine WP.dw (id:=9) 8 [0,1,3,4,5,6,7,11] ?_|refine WP.dw (id:=10) 8 [0,1,3,4,5,6,7,11] ?_);simp only [qbd,List.drop_succ_cons,List.drop_zero,List.drop_nil])|fail)
    refine⟨trivial,[],by simp only [lnEx,qag,go_sem,simprocAttr],?_,rfl,?_⟩
    ·dsimp only;rw [hX0,hR];simp [St.lns]
    ·simp only [go_sem,simprocAttr,hXn]
   | succ k =>
    have hkk:(3*k+2==3*k+2)=true:=beq_self_eq_true _
    have hkk2:(3*k+2+1==3*k+2+1)=true:=beq_self_eq_true _
    have hkk3:(3*k+2+1+1==3*k+2+1+1)=true:=beq_self_eq_true _
    simp only [lnEx,lnBx]
    generalize (St.lns a.d (l.take (k+1))).map (mkLn a)=R at hL1 hR ⊢
    replace fx:=ai15 hlt2 (ai15 hix (ai15 hwu (ai15 hwd (ai15 hlz (ai15 hkk (ai15 hkk2 (ai15 hkk3 trivial)))))))
    repeat' (first|refine stp [0,1,3,4,5,6,7,11] ?_|(refine RS.aO ?_;refine rnx ?_)|(refine RS.ls ?_;refine rnx ?_)|(refine stc (r1:=by first|exact hb|exact he) (r2:=?_);refine rnx ?_)|((first|refine WP.dw (id:=9) 8 [0,1,3,4,5,6,7,11] ?_|refine WP.dw (id:=10) 8 [0,1,3,4,5,6,7,11] ?_);simp only [qbd,List.drop_succ_cons,List.drop_zero,List.drop_nil])|fail)
    refine⟨trivial,[.cell (Ln.at { a with s:=z,d:=a.d+1 })],by simp only [lnEx,qag,go_sem,simprocAttr];try rfl,?_,rfl,?_⟩
    ·dsimp only;rw [hR];simp only [List.map_append,List.map_cons,List.map_nil];rfl
    ·simp only [go_sem,simprocAttr,hXn]
  ·intro _ hlt2
   rw [List.take_length]
   cases hk:l.length with
   | zero =>
    have hl0:l=[]:=List.eq_nil_of_length_eq_zero hk
    subst hl0
    simp only [lnEx,lnBx]
    replace fx:=ai15 hlt2 trivial
    repeat' (first|refine stp [0,1,3,4,5,6,7,11] ?_|fail)
    rfl
   | succ k =>
    rw [hk] at hlt2
    have hk2:decide (((k+1:Nat):Int)<((l.length:Nat):Int))=false:=by rw [hk];exact hlt2
    have hkk:(3*k+2==3*k+2)=true:=beq_self_eq_true _
    simp only [lnEx,lnBx]
    replace fx:=ai15 hk2 (ai15 hkk trivial)
    repeat' (first|refine stp [0,1,3,4,5,6,7,11] ?_|fail)
    rfl
end
section
set_option maxRecDepth 100000
def sz0:St:=⟨0,[],[],[],⟨0,[],0,(0,0),(0,0),(0,0),(0,0)⟩,⟨0,0,[],[]⟩,[],[],[],0⟩
def lnsM (i k:Int) (m:Me):List Ln:=(St.lns 0 m.body).map (mkLn ⟨i,k,0,sz0⟩)
def qd0 (i k:Int):List Me→List Ln
 | []=>[]
 | m::r=>lnsM i k m++qd0 i (k+1) r
def qez (i:Int):List Cs→List Ln
 | []=>[]
 | c::r=>qd0 i 0 c.methods++qez (i+1) r
theorem qjm (i:Int):∀(l:List Me) (k:Int) (z:Me),qd0 i k (l++[z])=qd0 i k l++lnsM i (k+l.length) z
 | [],k,z=>by simp [qd0]
 | m::r,k,z=>by
  rw [List.cons_append,qd0,qjm i r (k+1) z,qd0,List.append_assoc,List.length_cons]
  rw [show k+1+(r.length:Int)=k+((r.length+1:Nat):Int) by omega]
theorem qjn:∀(l:List Cs) (i:Int) (z:Cs),qez i (l++[z])=qez i l++qd0 (i+l.length) 0 z.methods
 | [],i,z=>by simp [qez]
 | m::r,i,z=>by
  rw [List.cons_append,qez,qjn r (i+1) z,qez,List.append_assoc,List.length_cons]
  rw [show i+1+(r.length:Int)=i+((r.length+1:Nat):Int) by omega]
theorem qon (i k:Int) (m:Me):(lnsM i k m).length≤St.szs m.body:=by
 unfold lnsM;rw [List.length_map];exact St.lns_len _ _ _ (Nat.le_refl _)
theorem qnn (m:Me):St.szs m.body≤m.sz:=by unfold Me.sz;omega
theorem qhy (i:Int):∀(l:List Me) (k:Int),(qd0 i k l).length≤qad Me.sz l
 | [],k=>Nat.zero_le _
 | m::r,k=>by
  have h1:=qhy i r (k+1)
  have h2:=qon i k m
  have h3:=qnn m
  rw [qd0,List.length_append]
  simp only [qad]
  omega
theorem qhz:∀(l:List Cs) (i:Int),(qez i l).length≤qad Cs.sz l
 | [],i=>Nat.zero_le _
 | c::r,i=>by
  have h1:=qhz r (i+1)
  have h2:=qhy i c.methods 0
  have h3:qad Me.sz c.methods≤c.sz:=by unfold Cs.sz;omega
  rw [qez,List.length_append]
  simp only [qad]
  omega
theorem qom:∀(n:Nat) (l:List St) (d:Int),St.szs l≤n→∀x∈St.lns d l,x.2.sz≤St.szs l
 | n,[],d,_,x,hx=>by cases hx
 | n,s::r,d,h,x,hx=>by
  have hz:s.sz+St.szs r=St.szs (s::r):=by rw [St.szs]
  have hb:=St.sz_eq s
  rw [St.lns_cons] at hx
  cases n with
  | zero=>have:=St.sz_pos s;omega
  | succ n =>
   rcases List.mem_append.1 hx with hx|hx
   ·rcases List.mem_cons.1 hx with rfl|hx
    ·show s.sz≤_;omega
    ·rcases List.mem_append.1 hx with hx|hx
     ·have:=qom n s.body (d+1) (by omega) x hx;omega
     ·have:=qom n s.els (d+1) (by omega) x hx;omega
   ·have:=qom (n+1-s.sz) r d (by omega) x hx;omega
 termination_by n l=>(n,l.length)
def Ln.rv (l:Ln):List A:=[.v (.int .i64 l.c),.v (.int .i64 l.m),.v (.int .i64 l.d)]++St.rv l.s
theorem Ln.at_rv (l:Ln):Ln.at l=Ln.rv l:=by
 obtain⟨c,m,d,s⟩:=l
 show [.v (.int .i64 c),.v (.int .i64 m),.v (.int .i64 d)]++St.at s=_
 rw [St.at_rv];rfl
theorem Ln.at_fun:Ln.at=Ln.rv:=funext Ln.at_rv
theorem pr12Stmts (p:List Cs) (hp:qad Cs.sz p≤1048576):qaa Tryz.prog 8 [.a (.sl (p.map Cs.at))] (.a (.sl ((qez 0 p).map Ln.rv))):=by
 have hlen:=qav Cs.sz_pos p
 refine qaa.vx [0,2,3,4,5,9,19] Tryz.func8 rfl Tryz.ntmps8 rfl rfl rfl (fun C hro hst=>?_)
 repeat' ((conv=>whnf);first|refine stv ?_|fail)
 conv=>whnf
 refine VL.gW (fun y:WayL Ln p.length (fun k=>qez 0 (p.take k))=>[(0,.a (.sl (p.map Cs.at))),(3,ouE 0 y.v),(4,.a (.v (.int .i64 (y.k:Nat))))]) (fun y=>ouC 26 Ln.rv y.q y.v) (fun y=>p.length-y.k) ⟨0,[],none,Nat.zero_le _,rfl,fun _=>rfl⟩ (Wk.agree ⟨rfl,rfl,rfl,trivial⟩) ?_
 rintro⟨i,q,ov,hi,hq,hv⟩
 dsimp only
 by_cases hlt:i<p.length
 ·obtain⟨c,hc⟩:∃c,p[i]? = some c:=⟨_,List.getElem?_eq_getElem hlt⟩
  have hix:(p.map Cs.at)[i]? = some (Cs.at c):=by rw [List.getElem?_map,hc];rfl
  have hlt2:decide ((i:Int)<(((p.map Cs.at).length:Nat):Int))=true:=decide_eq_true (by rw [List.length_map];omega)
  have hw1:IntKind.i64.wrap ((i:Nat)+1)=((i+1:Nat):Int):=qap (by omega)
  have hcs:c.sz≤1048576:=by have:=qas (f:=Cs.sz) (lm4 hc);omega
  have hms:qad Me.sz c.methods≤c.sz:=by unfold Cs.sz;omega
  have hml:=qav Me.sz_pos c.methods
  have htk:qez 0 (p.take (i+1))=q++qd0 i 0 c.methods:=by
   rw [List.take_add_one,hc,hq,Option.toList_some,qjn,List.length_take]
   rw [show (0:Int)+((min i p.length:Nat):Int)=(i:Int) by omega]
  have hbig:∀k,(q++qd0 i 0 (c.methods.take k)).length≤2097152:=fun k=>by
   have h1:=qhz (p.take i) 0
   have h2:=qhy i (c.methods.take k) 0
   have h3:=qcr Me.sz c.methods k
   have h4:=qcr Cs.sz p i
   rw [List.length_append,hq]
   omega
  cases ov
  all_goals
   repeat' ((conv=>whnf);first|refine stv ?_|(show VB ..;refine VB.tt (by exact hlt2) ?_))
   conv=>whnf
   refine VL.gW (fun y:WayL Ln c.methods.length (fun k=>q++qd0 i 0 (c.methods.take k))=>[(0,.a (.sl (p.map Cs.at))),(3,ouE 0 y.v),(4,.a (.v (.int .i64 (i:Nat)))),(5,.a (.v (.int .i64 (y.k:Nat))))]) (fun y=>ouC 26 Ln.rv y.q y.v) (fun y=>c.methods.length-y.k) ⟨0,q,_,Nat.zero_le _,by simp [qd0],hv⟩ ?_ ?_
   ·exact Wk.agree ⟨rfl,rfl,rfl,rfl,trivial⟩
   rintro⟨k,q2,ov2,hk,hq2,hv2⟩
   dsimp only
   by_cases hlt3:k<c.methods.length
   ·obtain⟨m,hm⟩:∃m,c.methods[k]? = some m:=⟨_,List.getElem?_eq_getElem hlt3⟩
    have hix3:(c.methods.map Me.at)[k]? = some (Me.at m):=by rw [List.getElem?_map,hm];rfl
    have hlt4:decide ((k:Int)<(((c.methods.map Me.at).length:Nat):Int))=true:=decide_eq_true (by rw [List.length_map];omega)
    have hw3:IntKind.i64.wrap ((k:Nat)+1)=((k+1:Nat):Int):=qap (by omega)
    have hmm:m.sz≤c.sz:=by have:=qas (f:=Me.sz) (lm4 hm);omega
    have hb:=qnn m
    have hL:=pr12lines (St.szs m.body) m.body ⟨i,k,0,sz0⟩ (Nat.le_refl _) (by omega) (Int.le_refl _) (by show (0:Int)+_≤_;omega)
    have hR:lnsM i k m=(St.lns 0 m.body).map (mkLn ⟨i,k,0,sz0⟩):=rfl
    have hl:=qon i k m
    have hsn:q++qd0 i 0 (c.methods.take (k+1))=q2++lnsM i k m:=by
     rw [List.take_add_one,hm,hq2,Option.toList_some,qjm,List.length_take,List.append_assoc]
     rw [show (0:Int)+((min k c.methods.length:Nat):Int)=(k:Int) by omega]
    have hql:=hbig k
    rw [←hq2] at hql
    dsimp only at hL
    rw [←hR,Ln.at_rv,Ln.at_fun] at hL
    generalize lnsM i k m=R at *
    obtain⟨y,hy1,hy2,hy3,hy4⟩:∃y:WayL Ln c.methods.length (fun k=>q++qd0 i 0 (c.methods.take k)),c.methods.length-y.k<c.methods.length-k∧y.k=k+1∧y.q=q2++R∧y.v=(match ov2,R with|none,[]=>none|none,_=>some 0|some v,_=>some (v+1)):=⟨⟨k+1,q2++R,_,by omega,hsn.symm,fun h=>by
     cases ov2 with
     | none=>rw [hv2 rfl];cases R with|nil=>rfl|cons=>cases h
     | some v=>cases h⟩,by dsimp only;omega,rfl,rfl,rfl⟩
    cases ov2 with
    | none =>
     obtain rfl:=hv2 rfl
     cases R with
     | nil =>
      repeat' ((conv=>whnf);first|(show VI ..;refine xI (fun _=>by first|exact hix|exact hix3) ?_)|refine stv ?_|(show VB ..;refine VB.tt (by exact hlt4) ?_)|(show VC ..;refine xC (fun hg=>by exact hL) ?_))
      conv=>whnf
      refine⟨y,hy1,?_⟩
      rw [hy2,hy3,hy4,←hw3]
      exact Wk.agree ⟨rfl,rfl,rfl,rfl,trivial⟩
     | cons r0 R =>
      have hl2:R.length+1≤1048576:=by rw [List.length_cons] at hl;omega
      repeat' ((conv=>whnf);first|(show VI ..;refine xI (fun _=>by first|exact hix|exact hix3) ?_)|refine stv ?_|(show VB ..;refine VB.tt (by exact hlt4) ?_)|(show VC ..;refine xC (fun hg=>by exact hL) ?_))
      conv=>whnf
      refine⟨y,hy1,?_⟩
      rw [hy2,hy3,hy4,←hw3]
      exact Wk.agree ⟨rfl,rfl,rfl,rfl,trivial⟩
    | some v =>
     repeat' ((conv=>whnf);first|(show VI ..;refine xI (fun _=>by first|exact hix|exact hix3) ?_)|refine stv ?_|(show VB ..;refine VB.tt (by exact hlt4) ?_)|(show VC ..;refine xC (fun hg=>by exact hL) ?_))
     conv=>whnf
     refine⟨y,hy1,?_⟩
     rw [hy2,hy3,hy4,←hw3]
     unfold ouC
     dsimp only
     rw [List.map_append]
     exact Wk.agree ⟨rfl,rfl,rfl,rfl,trivial⟩
   ·obtain rfl:k=c.methods.length:=by omega
    have hlt4:decide (((c.methods.length:Nat):Int)<(((c.methods.map Me.at).length:Nat):Int))=false:=decide_eq_false (by rw [List.length_map];omega)
    rw [List.take_length,←htk] at hq2
    obtain⟨y,hy1,hy2,hy3,hy4⟩:∃y:WayL Ln p.length (fun k=>qez 0 (p.take k)),p.length-y.k<p.length-i∧y.k=i+1∧y.q=q2∧y.v=ov2:=⟨⟨i+1,q2,ov2,by omega,hq2,hv2⟩,by dsimp only;omega,rfl,rfl,rfl⟩
    cases ov2
    all_goals
     repeat' ((conv=>whnf);first|(show VI ..;refine xI (fun _=>by exact hix) ?_)|refine stv ?_|(show VB ..;refine VB.ff (by exact hlt4) ?_))
     conv=>whnf
     refine⟨y,hy1,?_⟩
     rw [hy2,hy3,hy4,←hw1]
     exact Wk.agree ⟨rfl,rfl,rfl,trivial⟩
 ·obtain rfl:i=p.length:=by omega
  have hlt2:decide (((p.length:Nat):Int)<(((p.map Cs.at).length:Nat):Int))=false:=decide_eq_false (by rw [List.length_map];omega)
  rw [List.take_length] at hq
  subst hq
  cases ov with
  | none =>
   repeat' ((conv=>whnf);first|refine stv ?_|(show VB ..;refine VB.ff (by exact hlt2) ?_))
   rw [hv rfl];rfl
  | some v =>
   repeat' ((conv=>whnf);first|refine stv ?_|(show VB ..;refine VB.ff (by exact hlt2) ?_))
   rfl
end
section
set_option maxRecDepth 100000
theorem pr21Place (p:List Cs) (l:Ln) (i k:Nat) (c:Cs) (m:Me) (hi:p[i]? = some c) (hk:c.methods[k]? = some m) (h1:l.c=(i:Nat)) (h2:l.m=(k:Nat)):qaa Tryz.prog 9 [.a (.sl (p.map Cs.at)),.r (Ln.rv l)] (.r (Pc.at ⟨p,c,m⟩)):=by
 obtain⟨lc,lm,ld,ls⟩:=l
 dsimp only at h1 h2
 subst h1 h2
 have hix1:(p.map Cs.at)[i]? = some (Cs.at c):=by rw [List.getElem?_map,hi];rfl
 have hix2:(c.methods.map Me.at)[k]? = some (Me.at m):=by rw [List.getElem?_map,hk];rfl
 refine qaa.vx [0,1,3,4] Tryz.func9 rfl Tryz.ntmps9 rfl rfl rfl (fun C hro hst=>?_)
 repeat' ((conv=>whnf);first|(show VD ..;refine .q ?_)|(show VI ..;refine xI (fun _=>by first|exact hix1|exact hix2) ?_)|refine stv ?_|fail)
 rfl
theorem ql6 (i:Int):∀(l:List Me) (k:Nat) (x:Ln),x∈qd0 i k l→∃j m,l[j]? = some m∧x.c=i∧x.m=((k+j:Nat):Int)∧x.s.sz≤St.szs m.body
 | [],k,x,h=>by cases h
 | m::r,k,x,h=>by
  rw [qd0] at h
  rcases List.mem_append.1 h with h|h
  ·unfold lnsM at h
   obtain⟨y,hy,rfl⟩:=List.mem_map.1 h
   exact⟨0,m,rfl,rfl,rfl,qom (St.szs m.body) m.body 0 (Nat.le_refl _) y hy⟩
  ·obtain⟨j,m',h1,h2,h3,h4⟩:=ql6 i r (k+1) x h
   exact⟨j+1,m',h1,h2,by rw [h3];congr 1;omega,h4⟩
theorem ql7:∀(l:List Cs) (i:Nat) (x:Ln),x∈qez i l→∃j c k m,l[j]? = some c∧c.methods[k]? = some m∧x.c=((i+j:Nat):Int)∧x.m=(k:Nat)∧x.s.sz≤St.szs m.body
 | [],i,x,h=>by cases h
 | c::r,i,x,h=>by
  rw [qez] at h
  rcases List.mem_append.1 h with h|h
  ·obtain⟨j,m,h1,h2,h3,h4⟩:=ql6 i c.methods 0 x h
   exact⟨0,c,j,m,rfl,h1,h2,by rw [h3];congr 1;omega,h4⟩
  ·obtain⟨j,c',k,m,h1,h2,h3,h4,h5⟩:=ql7 r (i+1) x h
   exact⟨j+1,c',k,m,h1,h2,by rw [h3];congr 1;omega,h4,h5⟩
theorem szs_len:∀l:List Ex,l.length≤Ex.szs l
 | []=>Nat.zero_le _
 | x::r=>by rw [Ex.szs];have:=Ex.sz_pos x;have:=szs_len r;simp;omega
theorem args_len (s:St):s.args.length≤s.sz:=by
 have h:=St.sz_eq s
 have:=szs_len s.args
 omega
theorem lineD_len (w:Pc) (mode:Int) (s:St) (hs:s.sz≤1048576):(qfb w mode s).1.length≤4194304:=by
 have ha:=args_len s
 have hq:(qe0 w s (vuL w mode s) (fdS (calM w.p w.c w.m s)).1).length≤4194304:=by
  unfold qe0
  have:=qf4 (w:=w) (s:=s) (v:=vuL w mode s) (f:=(fdS (calM w.p w.c w.m s)).1) (k:=s.args.length)
  cases s.x != []<;>simp [qbb]<;>omega
 unfold qfb
 cases docI w.p w.c w.m s != 0<;>cases s.kind==1<;>cases s.kind==2<;>cases s.kind==3<;>cases s.kind==4<;>cases s.kind==5<;>cases s.kind==6<;>try first|exact hq|(simp [qbb];done)
 all_goals cases s.kind==7<;>cases qar (qam w.c w.m s.x).1<;>cases (s.kind==11)<;>cases s.e.kind != 0<;>simp
end
section
set_option maxRecDepth 100000
attribute [local irreducible] qfb qez
theorem qpe (p:List Cs) (mode:Int) (hp:qad Cs.sz p≤1048576):qaa Tryz.prog 3 [.a (.sl (p.map Cs.at)),.a (.v (.int .i64 mode))] (.a (.v (.bool true))):=by
 have h1:=pHeavy p hp
 generalize qmc p=hv at *
 have h2:=pr12Stmts p hp
 have hnl:=qhz p 0
 have hmem:=ql7 p 0
 generalize qez ((0:Nat):Int) p=L at *
 refine qaa.vx [0,1,4,5,6,7,8,9,10,11,13,20,63] Tryz.func3 rfl Tryz.ntmps3 rfl rfl rfl (fun C hro hst=>?_)
 repeat' ((conv=>whnf);first|refine stv ?_|(show VB ..;refine VB.mk (fun hc=>?_) fun hc=>?_)|(show VC ..;refine xC (fun hg=>by first|exact h1|exact aw28b|exact h2) ?_))
 ·rfl
 ·conv=>whnf
  refine VL.each L Ln.rv (fun k=>[(0,.a (.sl (p.map Cs.at))),(1,.a (.v (.int .i64 mode))),(5,.a (.sl (L.map Ln.rv))),(6,.a (.v (.int .i64 (k:Nat))))]) (fun _=>[]) (fun _=>True) ⟨rfl,rfl,rfl,rfl,trivial⟩ rfl trivial (by omega) ?_ ?_
  ·intro n l hz hd htk hlt _ hlt2 hix hw
   obtain⟨i,c,k,m,hi,hk,e1,e2,hsz⟩:=hmem l (lm4 hz)
   have hcp:=lm4 hi
   have hmm:=lm4 hk
   have hcs:c.sz≤1048576:=by have:=qas (f:=Cs.sz) hcp;omega
   have hms:m.sz≤1048576:=by have:=qas (f:=Me.sz) hmm;have h3:qad Me.sz c.methods≤c.sz:=(by unfold Cs.sz;omega);omega
   have hs:l.s.sz≤1048576:=by have:=qnn m;omega
   have hok:=pc_ok hp hcp hmm
   have g1:=pr21Place p l i k c m hi hk (by rw [e1];congr 1;omega) e2
   have g2:=pdLine ⟨p,c,m⟩ mode l.s hok hs
   have g3:=pd28Line ⟨p,c,m⟩ mode l.s hok hs
   have g4:=pSame28 (qfb ⟨p,c,m⟩ mode l.s).1 (lineD_len ⟨p,c,m⟩ mode l.s hs)
   dsimp only at g2
   generalize qfb ⟨p,c,m⟩ mode l.s=rr at *
   obtain⟨rl,rb⟩:=rr
   repeat' ((conv=>whnf);first|(show VD ..;refine .q ?_)|(show VI ..;refine xI (fun _=>by exact hix) ?_)|refine stv ?_|(show VB ..;first|refine VB.tt (by exact hlt2) ?_|refine VB.mk (fun hc=>?_) fun hc=>?_)|(show VC ..;refine xC (fun hg=>by first|exact g1|exact g2|exact g3|exact g4) ?_))
   ·cases rb<;>cases hc
   ·conv=>whnf
    exact⟨trivial,_,⟨rfl,rfl,rfl,congrArg (fun z=>D.a (.v (.int .i64 z))) hw,trivial⟩,rfl,rfl,rfl⟩
  ·intro _ hlt2
   repeat' ((conv=>whnf);first|refine stv ?_|(show VB ..;refine VB.ff (by exact hlt2) ?_)|(show VC ..;refine xC (fun hg=>by exact aw28b) ?_))
   rfl
end
section
open Go.ChangeShapes Go.WideShapes Go.ChangeAt Go.RowKit
theorem own:ownKnob Tryz.prog.godebug=none:=by kernel_rfl
theorem laidOut:laidOutB Tryz.prog=true:=by kernel_rfl
theorem qfo {H:Type} {enc:TypeId×Value→H} {P:Program} (hl:laidOutB P=true) {W W':World} (hb:Below W.heap.size W W'):∀{ts:List TypeId} {vs:List Value} {ds:List (DataW H)} {ps:List MemPlace},
  ts.all (fun t=>P.readableRec t&&decide (t<P.types.size))=true→DataW.TrodAll enc P W 0 (fun _=>true) true ts vs ds ps→(∀x∈ps,x.block<W.heap.size)→DataW.TrodAll enc P W' 0 (fun b=>decide (b<W.heap.size)) true ts vs ds ps
 | [],[],[],_,_,h,_=>h
 | t::ts,v::vs,d::ds,ps,hr,h,hlt=>by
  obtain⟨p,q,h1,h2,rfl⟩:=h
  simp only [List.all_cons,Bool.and_eq_true,decide_eq_true_eq] at hr
  exact⟨p,q,Below.trod hl hr.1.1 hr.1.2 h1 hb (fun x hx=>hlt x (by simp [hx])),qfo hl hb (by simpa using hr.2) h2 (fun x hx=>hlt x (by simp [hx])),rfl⟩
theorem law_end {H:Type} {enc:TypeId×Value→H} {P:Program} {f:Func} {s:ChangeSpec} {W W':World} {args:Array Value} {ds:List (DataW H)} {before:List MemPlace} {tb:TypeId} (hl:laidOutB P=true)
  (hr:f.params.toList.all (fun t=>P.readableRec t&&decide (t<P.types.size))=true) (hW:DataW.Whole enc P f.params.toList s.vars false W args.toList ds [] before) (hv:s.vars=[]) (ht:f.resultTypes = #[tb]) (hb:P.underlying tb=some .bool)
  (he:s.fn H (ds++[])={ results:=[.lit (.bool true)],args:=ds }) (hB:Below W.heap.size W W'):s.post enc P f false true false false W args (.bool true) W':=by
 have hW':=hW
 obtain⟨p,q,hA,hV,rfl,_,_⟩:=hW
 rw [hv] at hV
 have hq:q=[]:=hV
 subst hq
 refine⟨ds,[],p++[],[],p,[],hW',?_,?_,by rw [hv,he];rfl,hB.frame _,fun h=>by cases h⟩
 ·rw [he,ht];exact trodAll_mk1 (shut_bool hb true)
 ·rw [he];exact qfo hl hB hr hA (fun x hx=>by simpa using hW'.lt x (by simpa using hx))
end
section
open Go.ChangeShapes Go.WideShapes Go.ChangeAt Go.RowKit
theorem qie {H:Type} {enc:TypeId×Value→H} {P:Program} {w:World} {base:Nat} {sp:Nat→Bool} {held:Bool} {fuel:Nat} {t e:TypeId} {n:Nat} {cs:List Value} {ss:List (List UInt8)} {p:List MemPlace}
  (ht:P.underlying t=some (.array n e)) (he:P.underlying e=some .string) (hce:P.cellsOf e=1) (hct:P.cellsOf t=n)
  (h:DataW.trod enc P w base sp held fuel t cs=some (.agg (ss.map fun s=>.lit (.string s)),p)):cs=ss.map fun s=>Value.string (bs s):=by
 cases fuel with
 | zero=>simp [DataW.trod] at h
 | succ fuel =>
  simp only [DataW.trod,ht,hce,hct,Nat.mul_one] at h
  split at h
  ·obtain⟨xs,hm,hx⟩:=Option.map_eq_some_iff.1 h
   have hxs:xs.map (·.1)=ss.map fun s=>(DataW.lit (.string s):DataW H):=by
    have:=congrArg Prod.fst hx
    simpa using this
   have hxl:xs.length=n:=by simpa using Lib.mapM_length hm
   have hzl:ss.length=n:=by
    have:=congrArg List.length hxs
    simp at this
    omega
   apply List.ext_getElem?
   intro i
   by_cases hi:i<n
   ·obtain⟨b,hb,hf⟩:=Lib.mapM_at hm i i (by simp [hi])
    obtain⟨z,hc,rfl,_⟩:=DataW.trod_string he hf
    have h1:cs[i]? = some (.string z):=by
     have:=congrArg (·[0]?) hc
     simpa [List.getElem?_take,List.getElem?_drop] using this
    have h2:(xs.map (·.1))[i]? = some (DataW.lit (.string z.data.toList):DataW H):=by simp [hb]
    rw [hxs] at h2
    simp only [List.getElem?_map,Option.map_eq_some_iff,DataW.lit.injEq,Lit.string.injEq] at h2
    obtain⟨z',hz',hzz⟩:=h2
    simp [h1,hz',hzz,bs_of]
   ·rw [List.getElem?_eq_none (by omega),List.getElem?_eq_none (by simp;omega)]
  ·cases h
theorem var_cells {P:Program} {W:World} {name:String} {g:Nat} {cs:Array Value} (hg:P.globalNamed name=some g) (hv:W.var? P name=some cs) (j:Nat) (x:Value) (hx:cs[j]? = some x):W.cell? ⟨g,j,none⟩=some x:=by
 rw [←hx];exact World.var?_cell hg hv j
theorem gWords:Tryz.prog.globalNamed "demesne/word.words" = some 0:=by kernel_rfl
theorem qpi:(Tryz.prog.globals[0]?).map (·.type)=some 267:=by kernel_rfl
theorem cellsW:Tryz.prog.cellsOf 267=23:=by kernel_rfl
theorem cellsS:Tryz.prog.cellsOf 9=1:=by kernel_rfl
abbrev LAID:List (String×DataW Unit):=[("demesne/word.words",Rows.laid_demesne_word_words)]
theorem gdW_of {W:World} (h:laidMetH Tryz.prog LAID W):Gd W:=by
 obtain⟨ps,⟨g',t',cs,fuel,p,q,hg',ht',hvar,hd,hrest,_⟩,_⟩:=(show laidMet Tryz.prog LAID W from h)
 obtain rfl:=Option.some.inj (gWords.symm.trans hg')
 obtain rfl:=Option.some.inj (qpi.symm.trans ht')
 have hcs:=qie (ss:=qbt) Tryz.underlying267 Tryz.underlying9 cellsS cellsW hd
 intro g j x hx
 have hx0:=hx
 unfold glV at hx
 split at hx
 ·refine var_cells gWords hvar j x ?_
  rw [←Array.getElem?_toList,hcs];exact hx
 ·simp at hx
theorem Gd.keep {W W':World} (h:Gd W) (hb:∀b,b<W.heap.size→isC W b→W'.heap[b]? = W.heap[b]?):Gd W':=fun g j x hx=>by
 have hc:=h g j x hx
 have hC:isC W g:=qmh hc
 exact (World.cell?_of_block (a:=⟨g,j,none⟩) (hb g hC.lt hC)).trans hc
noncomputable def qh3 (os:Os):World :=
 { World.holding Tryz.prog os ⟨#[],#[],[]⟩ with heap:=(World.holding Tryz.prog os ⟨#[],#[],[]⟩).heap.mapIdx fun i o=>match o with
   | .cells c t frozen=>.cells (match glV i with|[]=>c|l=>l.toArray) t frozen
   | o=>o }
end
section
open Go.ChangeShapes Go.WideShapes Go.ChangeAt Go.RowKit Go.Joins
theorem qgm (H:Type) (enc:TypeId×Value→H) (W:World) (base:Nat) (args:Array Value) (ds gs:List (DataW H)) (before:List MemPlace)
  (hval0:∀(j:Nat) t v,Tryz.f3.params[j]? = some t→args[j]? = some v→Value.okWide Tryz.prog W .any base t v)
  (hW:DataW.Whole enc Tryz.prog Tryz.f3.params.toList Rows.dutyLineSpec.vars false W args.toList ds gs before) (hL:laidMetH Tryz.prog Rows.dutyLineRow.laid W) (hk:Rows.uptoBulkAll ds≤1048576) :
  Calls Tryz.prog 3 args W fun e W'=>∃v,e=.returned v∧Rows.dutyLineSpec.post enc Tryz.prog Tryz.f3 false true false false W args v W':=by
 have hw:=gdW_of hL
 have hval:=hval0
 have hW':=hW
 obtain⟨p,q,hA0,hV,rfl,_,_⟩:=hW
 have hA:DataW.TrodAll enc Tryz.prog W 0 (fun _=>true) true Tryz.f3.params.toList args.toList ds p:=hA0
 rw [Tryz.params3] at hA hval
 obtain⟨v0,v1,d0,d1,p0,p1,rfl,rfl,rfl,⟨u0,h0⟩,⟨u1,h1⟩⟩:=trodAll_two hA
 obtain⟨rfl,rfl⟩:=trodVars_none hV
 obtain⟨l0,hr0,hz0⟩:=openPr u0 _ _ h0
 obtain⟨i1,rfl,rfl,rfl,hi1⟩:=Go.ChangeShapes.open_int Tryz.underlying3 (hval 1 3 v1 rfl rfl) ⟨u1,h1⟩
 simp only [Rows.uptoBulkAll,Rows.uptoBulk] at hk
 simp only [Rows.uptoBulkAll] at hz0
 obtain⟨a0,n0,c0,rfl⟩:=okWide_slice Tryz.underlying22 (hval 0 22 v0 rfl rfl)
 have r0:RepC W (fun _=>False) (.sl (l0.map Cs.at)) (.slice a0 n0 c0):=hr0.2 0 _ rfl
 have hlaw:=(qpe l0 i1 (by omega)).2 W (fun _=>False) [.slice a0 n0 c0,.int .i64 i1] (fun _ h=>h.elim) (fun w' hs hb=>?_) rfl (fun i d' hd=>?_)
 ·refine hlaw.mono fun e W' ⟨v,he,hg,hv⟩=>?_
  obtain⟨rfl,_⟩:=hv.v_inv
  subst he
  exact⟨_,rfl,law_end laidOut (by kernel_rfl) hW' rfl (by kernel_rfl) Tryz.underlying4 rfl hg.below⟩
 ·exact hw.keep fun b hlt hC=>hb b hlt (fun h=>h) hC
 ·match i with
  | 0=>simp at hd;subst hd;exact .a _ _ r0.toOut
  | 1=>simp at hd;subst hd;exact .a _ _ (.c _ _ (.v _ rfl))
  | i+2=>simp at hd
end
end Go.Proofs.YthkojpnjdpbcgaaGreatDoor
