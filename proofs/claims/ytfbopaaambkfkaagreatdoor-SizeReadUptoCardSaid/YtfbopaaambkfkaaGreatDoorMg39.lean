/- The document's reader of classes: members where fields stand. Conditions: at most 2^14 tokens, at most 2^20 parameters. -/
import Derived.Test.YtfbopaaambkfkaaGreatDoorMg37
set_option linter.unusedVariables false
set_option maxRecDepth 100000
set_option maxHeartbeats 8000000
set_option linter.unusedSimpArgs false
namespace Go.Proofs.YtfbopaaambkfkaaGreatDoor
open Go.RowKit
section
set_option maxRecDepth 100000
def moR (c:Cs) (x ow xf xm xf' xm':A):Mo→List A
 | .bad g=>G9.at g
 | .flt e f=>g9E e f
 | .met _ n=>g9N (cR c x ow xf xm') n
 | .fld _ n=>g9N (cR c x ow xf' xm) n
def moS (bd:List Bx) (fm:Me→List Bx) (ff:Vr→List Bx):Mo→List Bx
 | .bad _=>bd
 | .flt _ _=>bd
 | .met m _=>fm m
 | .fld v _=>ff v
attribute [local irreducible] nowT isT bad9 met9 par7
theorem member_f (l:List Tok) (hl:Toks l) (ps:List (List UInt8)) (hn:ps.length≤1048576) (a:Int) (c:Cs) (ow:List (Int×Int)) (sum:Int) (vf:Nat) (fs:List Vr) (hfs:fs.length≤12) (h0:0≤a) (h1:a≤l.length) (s0:0≤sum) (s1:sum≤400) (hp:isT (nowT l a) [112,117,114,101]=false):DM Tryz.prog 35 [.a (.sl (l.map Tok.at)),.a (.v (.int .i64 a)),.r (cR c (.sl (ps.map qaj)) (.sl (ow.map owAt)) (.own 0 vf) .nl),.a (.v (.int .i64 sum))] [.arr vf 13 (fs.map Vr.at)] (.r (moR c (.sl (ps.map qaj)) (.sl (ow.map owAt)) (.own 0 vf) .nl (.own 0 (vf+1)) (.own 7 0) (mem9 l ps a sum false ((fs.map Vr.at).length) 0 a))) (moS [.gone] (fun m=>[.arr vf 13 (fs.map Vr.at),.gone,.gone,.gone,.gone,.gone,.gone,.arr 0 17 [Me.at m]]) (fun v=>[.arr (vf+1) 13 (fs.map Vr.at++[Vr.at v])]) (mem9 l ps a sum false ((fs.map Vr.at).length) 0 a)):=by
 have hlen:=hl.len
 have hL:l.length≤1048576:=by omega
 have ht:=qbh l a hL
 have hi:qaa Tryz.prog 13 [.a (.sl (l.map Tok.at)),.a (.v (.int .i64 a)),.a (.v (.string (bs [112,117,114,101])))] (.a (.v (.bool false))):=by rw [←hp];exact qbx l _ _ hL
 have h7:=qcf l ps a true (by omega) hn (by omega) (by omega)
 have h7o:=qb1 (qad l) hl.name (ps:=ps) a true
 obtain⟨o,ho⟩:∃o,mem9 l ps a sum false ((fs.map Vr.at).length) 0 a=o:=⟨_,rfl⟩
 rw [ho]
 unfold mem9 at ho
 generalize par7 l ps a true=q at *
 have hu:=qbh l q.next hL
 have e3:=qas l 3 q.next hL
 have w1:(q.err != 0)=false→IntKind.i64.wrap (q.next+1)=q.next+1:=fun h=>by
  obtain⟨_,_,q1,q2,_⟩:=h7o (by simpa using h)
  exact qah (by omega) (by omega)
 have hi2:(q.err != 0)=false→∀s,qaa Tryz.prog 13 [.a (.sl (l.map Tok.at)),.a (.v (.int .i64 (IntKind.i64.wrap (q.next+1)))),.a (.v (.string (bs s)))] (.a (.v (.bool (isT (nowT l (q.next+1)) s)))):=fun h s=>by rw [w1 h];exact qbx l _ s hL
 have e32:(q.err != 0)=false→∀z,qaa Tryz.prog 32 [.a (.v (.int .i64 z)),.a (.sl (l.map Tok.at)),.a (.v (.int .i64 (IntKind.i64.wrap (q.next+1))))] (.r (G9.at (bad9 l z (q.next+1)))):=fun h z=>by rw [w1 h];exact qas l z _ hL
 have hm:(q.err != 0)=false→isT (nowT l (q.next+1)) [40]=true→qaa Tryz.prog 63 [.a (.sl (l.map Tok.at)),.a (.v (.int .i64 (IntKind.i64.wrap (q.next+1)))),.a (.sl (ps.map qaj)),.r (mR ⟨(nowT l q.next).text,false,q.t,[],[],[],(nowT l a).pos⟩ .nl .nl .nl),.a (.v (.int .i64 sum))] (.r (G9.at (met9 l ps (q.next+1) ⟨(nowT l q.next).text,false,q.t,[],[],[],(nowT l a).pos⟩ sum))):=fun h h2=>by
  rw [w1 h]
  obtain⟨_,_,q1,q2,_⟩:=h7o (by simpa using h)
  have hlt:=qam (qad l) h2
  exact qck l hl ps hn _ _ .nl .nl sum (by omega) (by omega) s0 s1
 refine qd2 [0,1,2,3,6,8,9,10,11,12,13,24,35,45,61,65,79,105,112] Tryz.func35 rfl Tryz.ntmps35 rfl rfl rfl (by cases o<;>rfl) (fun C hro=>?_)
 repeat' ((conv=>whnf);first|(show VD ..;refine .q ?_)|(show VK ..;refine xK ?_)|(show VB ..;first|refine VB.tt (by decide) ?_|refine VB.ff (by decide) ?_|refine VB.mk (fun hc=>?_) fun hc=>?_)|(show VC ..;first|refine xC (fun hg=>by first|exact ht|exact hi|exact h7|exact hu|exact e3|exact hi2 (by assumption) _|exact e32 (by assumption) _|exact hm (by assumption) (by assumption)) ?_|refine xL (fun hg=>by first|exact ht|exact hi|exact h7|exact hu|exact e3|exact hi2 (by assumption) _|exact e32 (by assumption) _|exact hm (by assumption) (by assumption)) ?_)|(show VI ..;refine xJ ?_)|(show VG ..;refine xG ?_)|(show VA ..;refine xA ?_)|(show VZ ..;refine .n ?_)|(show VE ..;refine .mk ?_))
 all_goals clear hm e32 hi2 ht hi h7 hu e3
 all_goals (conv=>whnf)
 ·rw [hc] at ho;subst ho
  exact⟨rfl,[true],_,rfl⟩
 ·rename_i z1
  rw [z1,hc] at ho;subst ho
  exact⟨rfl,[true],_,rfl⟩
 ·rename_i z1 z2 z3
  rw [z1,z2,z3,hc] at ho;subst ho
  exact⟨rfl,[true],_,rfl⟩
 ·rename_i z1 z2 z3
  rw [z1,z2,z3,hc] at ho;subst ho
  exact⟨rfl,[false,true,true,true,true,true,true],_,rfl⟩
 ·rename_i z1 z2 z3
  rw [z1,z2,z3,hc] at ho;subst ho
  exact⟨rfl,[true],_,rfl⟩
 ·rename_i z1 z2 z3 z4
  rw [z1,z2,z3,z4,hc] at ho;subst ho
  exact⟨rfl,[true],_,rfl⟩
 ·rename_i z1 z2 z3 z4
  rw [z1,z2,z3,z4,hc] at ho;subst ho
  obtain⟨_,_,q1,q2,_⟩:=h7o (by simpa using z1)
  have w2:IntKind.i64.wrap (q.next+1+1)=q.next+2:=(qah (by omega) (by omega)).trans (by omega)
  exact⟨by rw [w1 z1,w2];rfl,[false],_,rfl⟩
theorem member_fp (l:List Tok) (hl:Toks l) (ps:List (List UInt8)) (hn:ps.length≤1048576) (a:Int) (c:Cs) (ow:List (Int×Int)) (sum:Int) (vf:Nat) (fs:List Vr) (hfs:fs.length≤12) (h0:0≤a) (h1:a≤l.length) (s0:0≤sum) (s1:sum≤400) (hp:isT (nowT l a) [112,117,114,101]=true):DM Tryz.prog 35 [.a (.sl (l.map Tok.at)),.a (.v (.int .i64 a)),.r (cR c (.sl (ps.map qaj)) (.sl (ow.map owAt)) (.own 0 vf) .nl),.a (.v (.int .i64 sum))] [.arr vf 13 (fs.map Vr.at)] (.r (moR c (.sl (ps.map qaj)) (.sl (ow.map owAt)) (.own 0 vf) .nl (.own 0 (vf+1)) (.own 7 0) (mem9 l ps a sum true ((fs.map Vr.at).length) 0 (a+1)))) (moS [.gone] (fun m=>[.arr vf 13 (fs.map Vr.at),.gone,.gone,.gone,.gone,.gone,.gone,.arr 0 17 [Me.at m]]) (fun v=>[.arr (vf+1) 13 (fs.map Vr.at++[Vr.at v])]) (mem9 l ps a sum true ((fs.map Vr.at).length) 0 (a+1))):=by
 have hlen:=hl.len
 have hL:l.length≤1048576:=by omega
 have ht:=qbh l a hL
 have hi:qaa Tryz.prog 13 [.a (.sl (l.map Tok.at)),.a (.v (.int .i64 a)),.a (.v (.string (bs [112,117,114,101])))] (.a (.v (.bool true))):=by rw [←hp];exact qbx l _ _ hL
 have h1:=qam (qad l) hp
 have w0:IntKind.i64.wrap (a+1)=a+1:=qah (by omega) (by omega)
 have h7:=qcf l ps (a+1) true (by omega) hn (by omega) (by omega)
 have h7o:=qb1 (qad l) hl.name (ps:=ps) (a+1) true
 obtain⟨o,ho⟩:∃o,mem9 l ps a sum true ((fs.map Vr.at).length) 0 (a+1)=o:=⟨_,rfl⟩
 rw [ho]
 unfold mem9 at ho
 generalize par7 l ps (a+1) true=q at *
 rw [←w0] at h7
 have hu:=qbh l q.next hL
 have e3:=qas l 3 q.next hL
 have w1:(q.err != 0)=false→IntKind.i64.wrap (q.next+1)=q.next+1:=fun h=>by
  obtain⟨_,_,q1,q2,_⟩:=h7o (by simpa using h)
  exact qah (by omega) (by omega)
 have hi2:(q.err != 0)=false→∀s,qaa Tryz.prog 13 [.a (.sl (l.map Tok.at)),.a (.v (.int .i64 (IntKind.i64.wrap (q.next+1)))),.a (.v (.string (bs s)))] (.a (.v (.bool (isT (nowT l (q.next+1)) s)))):=fun h s=>by rw [w1 h];exact qbx l _ s hL
 have e32:(q.err != 0)=false→∀z,qaa Tryz.prog 32 [.a (.v (.int .i64 z)),.a (.sl (l.map Tok.at)),.a (.v (.int .i64 (IntKind.i64.wrap (q.next+1))))] (.r (G9.at (bad9 l z (q.next+1)))):=fun h z=>by rw [w1 h];exact qas l z _ hL
 have hm:(q.err != 0)=false→isT (nowT l (q.next+1)) [40]=true→qaa Tryz.prog 63 [.a (.sl (l.map Tok.at)),.a (.v (.int .i64 (IntKind.i64.wrap (q.next+1)))),.a (.sl (ps.map qaj)),.r (mR ⟨(nowT l q.next).text,true,q.t,[],[],[],(nowT l a).pos⟩ .nl .nl .nl),.a (.v (.int .i64 sum))] (.r (G9.at (met9 l ps (q.next+1) ⟨(nowT l q.next).text,true,q.t,[],[],[],(nowT l a).pos⟩ sum))):=fun h h2=>by
  rw [w1 h]
  obtain⟨_,_,q1,q2,_⟩:=h7o (by simpa using h)
  have hlt:=qam (qad l) h2
  exact qck l hl ps hn _ _ .nl .nl sum (by omega) (by omega) s0 s1
 refine qd2 [0,1,2,3,6,8,9,10,11,12,13,24,35,45,61,65,79,105,112] Tryz.func35 rfl Tryz.ntmps35 rfl rfl rfl (by cases o<;>rfl) (fun C hro=>?_)
 repeat' ((conv=>whnf);first|(show VD ..;refine .q ?_)|(show VK ..;refine xK ?_)|(show VB ..;first|refine VB.tt (by decide) ?_|refine VB.ff (by decide) ?_|refine VB.mk (fun hc=>?_) fun hc=>?_)|(show VC ..;first|refine xC (fun hg=>by first|exact ht|exact hi|exact h7|exact hu|exact e3|exact hi2 (by assumption) _|exact e32 (by assumption) _|exact hm (by assumption) (by assumption)) ?_|refine xL (fun hg=>by first|exact ht|exact hi|exact h7|exact hu|exact e3|exact hi2 (by assumption) _|exact e32 (by assumption) _|exact hm (by assumption) (by assumption)) ?_)|(show VI ..;refine xJ ?_)|(show VG ..;refine xG ?_)|(show VA ..;refine xA ?_)|(show VZ ..;refine .n ?_)|(show VE ..;refine .mk ?_))
 all_goals clear hm e32 hi2 ht hi h7 hu e3
 all_goals (conv=>whnf)
 ·rw [hc] at ho;subst ho
  exact⟨rfl,[true],_,rfl⟩
 ·rename_i z1
  rw [z1,hc] at ho;subst ho
  exact⟨rfl,[true],_,rfl⟩
 ·rename_i z1 z2 z3
  rw [z1,z2,z3,hc] at ho;subst ho
  exact⟨rfl,[true],_,rfl⟩
 ·rename_i z1 z2 z3
  rw [z1,z2,z3,hc] at ho;subst ho
  exact⟨rfl,[false,true,true,true,true,true,true],_,rfl⟩
 ·rename_i z1 z2 z3
  rw [z1,z2,z3,hc] at ho;subst ho
  exact⟨rfl,[true],_,rfl⟩
 ·rename_i z1 z2 z3 z4
  rw [z1,z2,z3,z4,hc] at ho;subst ho
  exact⟨rfl,[true],_,rfl⟩
 ·rename_i z1 z2 z3 z4
  rw [z1,z2,z3,z4,hc] at ho;subst ho
  obtain⟨_,_,q1,q2,_⟩:=h7o (by simpa using z1)
  have w2:IntKind.i64.wrap (q.next+1+1)=q.next+2:=(qah (by omega) (by omega)).trans (by omega)
  exact⟨by rw [w1 z1,w2];rfl,[false],_,rfl⟩
end
section
set_option maxRecDepth 100000
attribute [local irreducible] nowT isT bad9 met9 par7
theorem member_m (l:List Tok) (hl:Toks l) (ps:List (List UInt8)) (hn:ps.length≤1048576) (a:Int) (c:Cs) (ow:List (Int×Int)) (sum:Int) (vm:Nat) (ms:List Me) (hms:ms.length≤12) (h0:0≤a) (h1:a≤l.length) (s0:0≤sum) (s1:sum≤400) (hp:isT (nowT l a) [112,117,114,101]=false):DM Tryz.prog 35 [.a (.sl (l.map Tok.at)),.a (.v (.int .i64 a)),.r (cR c (.sl (ps.map qaj)) (.sl (ow.map owAt)) .nl (.own 0 vm)),.a (.v (.int .i64 sum))] [.arr vm 17 (ms.map Me.at)] (.r (moR c (.sl (ps.map qaj)) (.sl (ow.map owAt)) .nl (.own 0 vm) (.own 6 0) (.own 0 (vm+1)) (mem9 l ps a sum false 0 ((ms.map Me.at).length) a))) (moS [.gone] (fun m=>[.arr (vm+1) 17 (ms.map Me.at++[Me.at m])]) (fun v=>[.arr vm 17 (ms.map Me.at),.gone,.gone,.gone,.gone,.gone,.arr 0 13 [Vr.at v]]) (mem9 l ps a sum false 0 ((ms.map Me.at).length) a)):=by
 have hlen:=hl.len
 have hL:l.length≤1048576:=by omega
 have ht:=qbh l a hL
 have hi:qaa Tryz.prog 13 [.a (.sl (l.map Tok.at)),.a (.v (.int .i64 a)),.a (.v (.string (bs [112,117,114,101])))] (.a (.v (.bool false))):=by rw [←hp];exact qbx l _ _ hL
 have h7:=qcf l ps a true (by omega) hn (by omega) (by omega)
 have h7o:=qb1 (qad l) hl.name (ps:=ps) a true
 obtain⟨o,ho⟩:∃o,mem9 l ps a sum false 0 ((ms.map Me.at).length) a=o:=⟨_,rfl⟩
 rw [ho]
 unfold mem9 at ho
 generalize par7 l ps a true=q at *
 have hu:=qbh l q.next hL
 have e3:=qas l 3 q.next hL
 have w1:(q.err != 0)=false→IntKind.i64.wrap (q.next+1)=q.next+1:=fun h=>by
  obtain⟨_,_,q1,q2,_⟩:=h7o (by simpa using h)
  exact qah (by omega) (by omega)
 have hi2:(q.err != 0)=false→∀s,qaa Tryz.prog 13 [.a (.sl (l.map Tok.at)),.a (.v (.int .i64 (IntKind.i64.wrap (q.next+1)))),.a (.v (.string (bs s)))] (.a (.v (.bool (isT (nowT l (q.next+1)) s)))):=fun h s=>by rw [w1 h];exact qbx l _ s hL
 have e32:(q.err != 0)=false→∀z,qaa Tryz.prog 32 [.a (.v (.int .i64 z)),.a (.sl (l.map Tok.at)),.a (.v (.int .i64 (IntKind.i64.wrap (q.next+1))))] (.r (G9.at (bad9 l z (q.next+1)))):=fun h z=>by rw [w1 h];exact qas l z _ hL
 have hm:(q.err != 0)=false→isT (nowT l (q.next+1)) [40]=true→qaa Tryz.prog 63 [.a (.sl (l.map Tok.at)),.a (.v (.int .i64 (IntKind.i64.wrap (q.next+1)))),.a (.sl (ps.map qaj)),.r (mR ⟨(nowT l q.next).text,false,q.t,[],[],[],(nowT l a).pos⟩ .nl .nl .nl),.a (.v (.int .i64 sum))] (.r (G9.at (met9 l ps (q.next+1) ⟨(nowT l q.next).text,false,q.t,[],[],[],(nowT l a).pos⟩ sum))):=fun h h2=>by
  rw [w1 h]
  obtain⟨_,_,q1,q2,_⟩:=h7o (by simpa using h)
  have hlt:=qam (qad l) h2
  exact qck l hl ps hn _ _ .nl .nl sum (by omega) (by omega) s0 s1
 refine qd2 [0,1,2,3,6,8,9,10,11,12,13,24,35,45,61,65,79,105,112] Tryz.func35 rfl Tryz.ntmps35 rfl rfl rfl (by cases o<;>rfl) (fun C hro=>?_)
 repeat' ((conv=>whnf);first|(show VD ..;refine .q ?_)|(show VK ..;refine xK ?_)|(show VB ..;first|refine VB.tt (by decide) ?_|refine VB.ff (by decide) ?_|refine VB.mk (fun hc=>?_) fun hc=>?_)|(show VC ..;first|refine xC (fun hg=>by first|exact ht|exact hi|exact h7|exact hu|exact e3|exact hi2 (by assumption) _|exact e32 (by assumption) _|exact hm (by assumption) (by assumption)) ?_|refine xL (fun hg=>by first|exact ht|exact hi|exact h7|exact hu|exact e3|exact hi2 (by assumption) _|exact e32 (by assumption) _|exact hm (by assumption) (by assumption)) ?_)|(show VI ..;refine xJ ?_)|(show VG ..;refine xG ?_)|(show VA ..;refine xA ?_)|(show VZ ..;refine .n ?_)|(show VE ..;refine .mk ?_))
 all_goals clear hm e32 hi2 ht hi h7 hu e3
 all_goals (conv=>whnf)
 ·rw [hc] at ho;subst ho
  exact⟨rfl,[true],_,rfl⟩
 ·rename_i z1
  rw [z1,hc] at ho;subst ho
  exact⟨rfl,[true],_,rfl⟩
 ·rename_i z1 z2 z3
  rw [z1,z2,z3,hc] at ho;subst ho
  exact⟨rfl,[true],_,rfl⟩
 ·rename_i z1 z2 z3 z4
  rw [z1,z2,z3,z4,hc] at ho;subst ho
  exact⟨rfl,[true],_,rfl⟩
 ·rename_i z1 z2 z3 z4
  rw [z1,z2,z3,z4,hc] at ho;subst ho
  exact⟨rfl,[false],_,rfl⟩
 ·rename_i z1 z2 z3
  rw [z1,z2,z3,hc] at ho;subst ho
  exact⟨rfl,[true],_,rfl⟩
 ·rename_i z1 z2 z3
  rw [z1,z2,z3,hc] at ho;subst ho
  obtain⟨_,_,q1,q2,_⟩:=h7o (by simpa using z1)
  have w2:IntKind.i64.wrap (q.next+1+1)=q.next+2:=(qah (by omega) (by omega)).trans (by omega)
  exact⟨by rw [w1 z1,w2];rfl,[false,true,true,true,true,true],_,rfl⟩
theorem member_mp (l:List Tok) (hl:Toks l) (ps:List (List UInt8)) (hn:ps.length≤1048576) (a:Int) (c:Cs) (ow:List (Int×Int)) (sum:Int) (vm:Nat) (ms:List Me) (hms:ms.length≤12) (h0:0≤a) (h1:a≤l.length) (s0:0≤sum) (s1:sum≤400) (hp:isT (nowT l a) [112,117,114,101]=true):DM Tryz.prog 35 [.a (.sl (l.map Tok.at)),.a (.v (.int .i64 a)),.r (cR c (.sl (ps.map qaj)) (.sl (ow.map owAt)) .nl (.own 0 vm)),.a (.v (.int .i64 sum))] [.arr vm 17 (ms.map Me.at)] (.r (moR c (.sl (ps.map qaj)) (.sl (ow.map owAt)) .nl (.own 0 vm) (.own 6 0) (.own 0 (vm+1)) (mem9 l ps a sum true 0 ((ms.map Me.at).length) (a+1)))) (moS [.gone] (fun m=>[.arr (vm+1) 17 (ms.map Me.at++[Me.at m])]) (fun v=>[.arr vm 17 (ms.map Me.at),.gone,.gone,.gone,.gone,.gone,.arr 0 13 [Vr.at v]]) (mem9 l ps a sum true 0 ((ms.map Me.at).length) (a+1))):=by
 have hlen:=hl.len
 have hL:l.length≤1048576:=by omega
 have ht:=qbh l a hL
 have hi:qaa Tryz.prog 13 [.a (.sl (l.map Tok.at)),.a (.v (.int .i64 a)),.a (.v (.string (bs [112,117,114,101])))] (.a (.v (.bool true))):=by rw [←hp];exact qbx l _ _ hL
 have h1:=qam (qad l) hp
 have w0:IntKind.i64.wrap (a+1)=a+1:=qah (by omega) (by omega)
 have h7:=qcf l ps (a+1) true (by omega) hn (by omega) (by omega)
 have h7o:=qb1 (qad l) hl.name (ps:=ps) (a+1) true
 obtain⟨o,ho⟩:∃o,mem9 l ps a sum true 0 ((ms.map Me.at).length) (a+1)=o:=⟨_,rfl⟩
 rw [ho]
 unfold mem9 at ho
 generalize par7 l ps (a+1) true=q at *
 rw [←w0] at h7
 have hu:=qbh l q.next hL
 have e3:=qas l 3 q.next hL
 have w1:(q.err != 0)=false→IntKind.i64.wrap (q.next+1)=q.next+1:=fun h=>by
  obtain⟨_,_,q1,q2,_⟩:=h7o (by simpa using h)
  exact qah (by omega) (by omega)
 have hi2:(q.err != 0)=false→∀s,qaa Tryz.prog 13 [.a (.sl (l.map Tok.at)),.a (.v (.int .i64 (IntKind.i64.wrap (q.next+1)))),.a (.v (.string (bs s)))] (.a (.v (.bool (isT (nowT l (q.next+1)) s)))):=fun h s=>by rw [w1 h];exact qbx l _ s hL
 have e32:(q.err != 0)=false→∀z,qaa Tryz.prog 32 [.a (.v (.int .i64 z)),.a (.sl (l.map Tok.at)),.a (.v (.int .i64 (IntKind.i64.wrap (q.next+1))))] (.r (G9.at (bad9 l z (q.next+1)))):=fun h z=>by rw [w1 h];exact qas l z _ hL
 have hm:(q.err != 0)=false→isT (nowT l (q.next+1)) [40]=true→qaa Tryz.prog 63 [.a (.sl (l.map Tok.at)),.a (.v (.int .i64 (IntKind.i64.wrap (q.next+1)))),.a (.sl (ps.map qaj)),.r (mR ⟨(nowT l q.next).text,true,q.t,[],[],[],(nowT l a).pos⟩ .nl .nl .nl),.a (.v (.int .i64 sum))] (.r (G9.at (met9 l ps (q.next+1) ⟨(nowT l q.next).text,true,q.t,[],[],[],(nowT l a).pos⟩ sum))):=fun h h2=>by
  rw [w1 h]
  obtain⟨_,_,q1,q2,_⟩:=h7o (by simpa using h)
  have hlt:=qam (qad l) h2
  exact qck l hl ps hn _ _ .nl .nl sum (by omega) (by omega) s0 s1
 refine qd2 [0,1,2,3,6,8,9,10,11,12,13,24,35,45,61,65,79,105,112] Tryz.func35 rfl Tryz.ntmps35 rfl rfl rfl (by cases o<;>rfl) (fun C hro=>?_)
 repeat' ((conv=>whnf);first|(show VD ..;refine .q ?_)|(show VK ..;refine xK ?_)|(show VB ..;first|refine VB.tt (by decide) ?_|refine VB.ff (by decide) ?_|refine VB.mk (fun hc=>?_) fun hc=>?_)|(show VC ..;first|refine xC (fun hg=>by first|exact ht|exact hi|exact h7|exact hu|exact e3|exact hi2 (by assumption) _|exact e32 (by assumption) _|exact hm (by assumption) (by assumption)) ?_|refine xL (fun hg=>by first|exact ht|exact hi|exact h7|exact hu|exact e3|exact hi2 (by assumption) _|exact e32 (by assumption) _|exact hm (by assumption) (by assumption)) ?_)|(show VI ..;refine xJ ?_)|(show VG ..;refine xG ?_)|(show VA ..;refine xA ?_)|(show VZ ..;refine .n ?_)|(show VE ..;refine .mk ?_))
 all_goals clear hm e32 hi2 ht hi h7 hu e3
 all_goals (conv=>whnf)
 ·rw [hc] at ho;subst ho
  exact⟨rfl,[true],_,rfl⟩
 ·rename_i z1
  rw [z1,hc] at ho;subst ho
  exact⟨rfl,[true],_,rfl⟩
 ·rename_i z1 z2 z3
  rw [z1,z2,z3,hc] at ho;subst ho
  exact⟨rfl,[true],_,rfl⟩
 ·rename_i z1 z2 z3 z4
  rw [z1,z2,z3,z4,hc] at ho;subst ho
  exact⟨rfl,[true],_,rfl⟩
 ·rename_i z1 z2 z3 z4
  rw [z1,z2,z3,z4,hc] at ho;subst ho
  exact⟨rfl,[false],_,rfl⟩
 ·rename_i z1 z2 z3
  rw [z1,z2,z3,hc] at ho;subst ho
  exact⟨rfl,[true],_,rfl⟩
 ·rename_i z1 z2 z3
  rw [z1,z2,z3,hc] at ho;subst ho
  obtain⟨_,_,q1,q2,_⟩:=h7o (by simpa using z1)
  have w2:IntKind.i64.wrap (q.next+1+1)=q.next+2:=(qah (by omega) (by omega)).trans (by omega)
  exact⟨by rw [w1 z1,w2];rfl,[false,true,true,true,true,true],_,rfl⟩
end
section
set_option maxRecDepth 100000
attribute [local irreducible] nowT isT bad9 met9 par7
theorem member_fm (l:List Tok) (hl:Toks l) (ps:List (List UInt8)) (hn:ps.length≤1048576) (a:Int) (c:Cs) (ow:List (Int×Int)) (sum:Int) (vf:Nat) (fs:List Vr) (hfs:fs.length≤12) (vm:Nat) (ms:List Me) (hms:ms.length≤12) (h0:0≤a) (h1:a≤l.length) (s0:0≤sum) (s1:sum≤400) (hp:isT (nowT l a) [112,117,114,101]=false):DM Tryz.prog 35 [.a (.sl (l.map Tok.at)),.a (.v (.int .i64 a)),.r (cR c (.sl (ps.map qaj)) (.sl (ow.map owAt)) (.own 0 vf) (.own 1 vm)),.a (.v (.int .i64 sum))] [.arr vf 13 (fs.map Vr.at),.arr vm 17 (ms.map Me.at)] (.r (moR c (.sl (ps.map qaj)) (.sl (ow.map owAt)) (.own 0 vf) (.own 1 vm) (.own 0 (vf+1)) (.own 1 (vm+1)) (mem9 l ps a sum false ((fs.map Vr.at).length) ((ms.map Me.at).length) a))) (moS [.gone,.gone] (fun m=>[.arr vf 13 (fs.map Vr.at),.arr (vm+1) 17 (ms.map Me.at++[Me.at m])]) (fun v=>[.arr (vf+1) 13 (fs.map Vr.at++[Vr.at v]),.arr vm 17 (ms.map Me.at)]) (mem9 l ps a sum false ((fs.map Vr.at).length) ((ms.map Me.at).length) a)):=by
 have hlen:=hl.len
 have hL:l.length≤1048576:=by omega
 have ht:=qbh l a hL
 have hi:qaa Tryz.prog 13 [.a (.sl (l.map Tok.at)),.a (.v (.int .i64 a)),.a (.v (.string (bs [112,117,114,101])))] (.a (.v (.bool false))):=by rw [←hp];exact qbx l _ _ hL
 have h7:=qcf l ps a true (by omega) hn (by omega) (by omega)
 have h7o:=qb1 (qad l) hl.name (ps:=ps) a true
 obtain⟨o,ho⟩:∃o,mem9 l ps a sum false ((fs.map Vr.at).length) ((ms.map Me.at).length) a=o:=⟨_,rfl⟩
 rw [ho]
 unfold mem9 at ho
 generalize par7 l ps a true=q at *
 have hu:=qbh l q.next hL
 have e3:=qas l 3 q.next hL
 have w1:(q.err != 0)=false→IntKind.i64.wrap (q.next+1)=q.next+1:=fun h=>by
  obtain⟨_,_,q1,q2,_⟩:=h7o (by simpa using h)
  exact qah (by omega) (by omega)
 have hi2:(q.err != 0)=false→∀s,qaa Tryz.prog 13 [.a (.sl (l.map Tok.at)),.a (.v (.int .i64 (IntKind.i64.wrap (q.next+1)))),.a (.v (.string (bs s)))] (.a (.v (.bool (isT (nowT l (q.next+1)) s)))):=fun h s=>by rw [w1 h];exact qbx l _ s hL
 have e32:(q.err != 0)=false→∀z,qaa Tryz.prog 32 [.a (.v (.int .i64 z)),.a (.sl (l.map Tok.at)),.a (.v (.int .i64 (IntKind.i64.wrap (q.next+1))))] (.r (G9.at (bad9 l z (q.next+1)))):=fun h z=>by rw [w1 h];exact qas l z _ hL
 have hm:(q.err != 0)=false→isT (nowT l (q.next+1)) [40]=true→qaa Tryz.prog 63 [.a (.sl (l.map Tok.at)),.a (.v (.int .i64 (IntKind.i64.wrap (q.next+1)))),.a (.sl (ps.map qaj)),.r (mR ⟨(nowT l q.next).text,false,q.t,[],[],[],(nowT l a).pos⟩ .nl .nl .nl),.a (.v (.int .i64 sum))] (.r (G9.at (met9 l ps (q.next+1) ⟨(nowT l q.next).text,false,q.t,[],[],[],(nowT l a).pos⟩ sum))):=fun h h2=>by
  rw [w1 h]
  obtain⟨_,_,q1,q2,_⟩:=h7o (by simpa using h)
  have hlt:=qam (qad l) h2
  exact qck l hl ps hn _ _ .nl .nl sum (by omega) (by omega) s0 s1
 refine qd2 [0,1,2,3,6,8,9,10,11,12,13,24,35,45,61,65,79,105,112] Tryz.func35 rfl Tryz.ntmps35 rfl rfl rfl (by cases o<;>rfl) (fun C hro=>?_)
 repeat' ((conv=>whnf);first|(show VD ..;refine .q ?_)|(show VK ..;refine xK ?_)|(show VB ..;first|refine VB.tt (by decide) ?_|refine VB.ff (by decide) ?_|refine VB.mk (fun hc=>?_) fun hc=>?_)|(show VC ..;first|refine xC (fun hg=>by first|exact ht|exact hi|exact h7|exact hu|exact e3|exact hi2 (by assumption) _|exact e32 (by assumption) _|exact hm (by assumption) (by assumption)) ?_|refine xL (fun hg=>by first|exact ht|exact hi|exact h7|exact hu|exact e3|exact hi2 (by assumption) _|exact e32 (by assumption) _|exact hm (by assumption) (by assumption)) ?_)|(show VI ..;refine xJ ?_)|(show VG ..;refine xG ?_)|(show VA ..;refine xA ?_)|(show VZ ..;refine .n ?_)|(show VE ..;refine .mk ?_))
 all_goals clear hm e32 hi2 ht hi h7 hu e3
 all_goals (conv=>whnf)
 ·rw [hc] at ho;subst ho
  exact⟨rfl,[true,true],_,rfl⟩
 ·rename_i z1
  rw [z1,hc] at ho;subst ho
  exact⟨rfl,[true,true],_,rfl⟩
 ·rename_i z1 z2 z3
  rw [z1,z2,z3,hc] at ho;subst ho
  exact⟨rfl,[true,true],_,rfl⟩
 ·rename_i z1 z2 z3 z4
  rw [z1,z2,z3,z4,hc] at ho;subst ho
  exact⟨rfl,[true,true],_,rfl⟩
 ·rename_i z1 z2 z3 z4
  rw [z1,z2,z3,z4,hc] at ho;subst ho
  exact⟨rfl,[false,false],_,rfl⟩
 ·rename_i z1 z2 z3
  rw [z1,z2,z3,hc] at ho;subst ho
  exact⟨rfl,[true,true],_,rfl⟩
 ·rename_i z1 z2 z3 z4
  rw [z1,z2,z3,z4,hc] at ho;subst ho
  exact⟨rfl,[true,true],_,rfl⟩
 ·rename_i z1 z2 z3 z4
  rw [z1,z2,z3,z4,hc] at ho;subst ho
  obtain⟨_,_,q1,q2,_⟩:=h7o (by simpa using z1)
  have w2:IntKind.i64.wrap (q.next+1+1)=q.next+2:=(qah (by omega) (by omega)).trans (by omega)
  exact⟨by rw [w1 z1,w2];rfl,[false,false],_,rfl⟩
theorem qmt (l:List Tok) (hl:Toks l) (ps:List (List UInt8)) (hn:ps.length≤1048576) (a:Int) (c:Cs) (ow:List (Int×Int)) (sum:Int) (vf:Nat) (fs:List Vr) (hfs:fs.length≤12) (vm:Nat) (ms:List Me) (hms:ms.length≤12) (h0:0≤a) (h1:a≤l.length) (s0:0≤sum) (s1:sum≤400) (hp:isT (nowT l a) [112,117,114,101]=true):DM Tryz.prog 35 [.a (.sl (l.map Tok.at)),.a (.v (.int .i64 a)),.r (cR c (.sl (ps.map qaj)) (.sl (ow.map owAt)) (.own 0 vf) (.own 1 vm)),.a (.v (.int .i64 sum))] [.arr vf 13 (fs.map Vr.at),.arr vm 17 (ms.map Me.at)] (.r (moR c (.sl (ps.map qaj)) (.sl (ow.map owAt)) (.own 0 vf) (.own 1 vm) (.own 0 (vf+1)) (.own 1 (vm+1)) (mem9 l ps a sum true ((fs.map Vr.at).length) ((ms.map Me.at).length) (a+1)))) (moS [.gone,.gone] (fun m=>[.arr vf 13 (fs.map Vr.at),.arr (vm+1) 17 (ms.map Me.at++[Me.at m])]) (fun v=>[.arr (vf+1) 13 (fs.map Vr.at++[Vr.at v]),.arr vm 17 (ms.map Me.at)]) (mem9 l ps a sum true ((fs.map Vr.at).length) ((ms.map Me.at).length) (a+1))):=by
 have hlen:=hl.len
 have hL:l.length≤1048576:=by omega
 have ht:=qbh l a hL
 have hi:qaa Tryz.prog 13 [.a (.sl (l.map Tok.at)),.a (.v (.int .i64 a)),.a (.v (.string (bs [112,117,114,101])))] (.a (.v (.bool true))):=by rw [←hp];exact qbx l _ _ hL
 have h1:=qam (qad l) hp
 have w0:IntKind.i64.wrap (a+1)=a+1:=qah (by omega) (by omega)
 have h7:=qcf l ps (a+1) true (by omega) hn (by omega) (by omega)
 have h7o:=qb1 (qad l) hl.name (ps:=ps) (a+1) true
 obtain⟨o,ho⟩:∃o,mem9 l ps a sum true ((fs.map Vr.at).length) ((ms.map Me.at).length) (a+1)=o:=⟨_,rfl⟩
 rw [ho]
 unfold mem9 at ho
 generalize par7 l ps (a+1) true=q at *
 rw [←w0] at h7
 have hu:=qbh l q.next hL
 have e3:=qas l 3 q.next hL
 have w1:(q.err != 0)=false→IntKind.i64.wrap (q.next+1)=q.next+1:=fun h=>by
  obtain⟨_,_,q1,q2,_⟩:=h7o (by simpa using h)
  exact qah (by omega) (by omega)
 have hi2:(q.err != 0)=false→∀s,qaa Tryz.prog 13 [.a (.sl (l.map Tok.at)),.a (.v (.int .i64 (IntKind.i64.wrap (q.next+1)))),.a (.v (.string (bs s)))] (.a (.v (.bool (isT (nowT l (q.next+1)) s)))):=fun h s=>by rw [w1 h];exact qbx l _ s hL
 have e32:(q.err != 0)=false→∀z,qaa Tryz.prog 32 [.a (.v (.int .i64 z)),.a (.sl (l.map Tok.at)),.a (.v (.int .i64 (IntKind.i64.wrap (q.next+1))))] (.r (G9.at (bad9 l z (q.next+1)))):=fun h z=>by rw [w1 h];exact qas l z _ hL
 have hm:(q.err != 0)=false→isT (nowT l (q.next+1)) [40]=true→qaa Tryz.prog 63 [.a (.sl (l.map Tok.at)),.a (.v (.int .i64 (IntKind.i64.wrap (q.next+1)))),.a (.sl (ps.map qaj)),.r (mR ⟨(nowT l q.next).text,true,q.t,[],[],[],(nowT l a).pos⟩ .nl .nl .nl),.a (.v (.int .i64 sum))] (.r (G9.at (met9 l ps (q.next+1) ⟨(nowT l q.next).text,true,q.t,[],[],[],(nowT l a).pos⟩ sum))):=fun h h2=>by
  rw [w1 h]
  obtain⟨_,_,q1,q2,_⟩:=h7o (by simpa using h)
  have hlt:=qam (qad l) h2
  exact qck l hl ps hn _ _ .nl .nl sum (by omega) (by omega) s0 s1
 refine qd2 [0,1,2,3,6,8,9,10,11,12,13,24,35,45,61,65,79,105,112] Tryz.func35 rfl Tryz.ntmps35 rfl rfl rfl (by cases o<;>rfl) (fun C hro=>?_)
 repeat' ((conv=>whnf);first|(show VD ..;refine .q ?_)|(show VK ..;refine xK ?_)|(show VB ..;first|refine VB.tt (by decide) ?_|refine VB.ff (by decide) ?_|refine VB.mk (fun hc=>?_) fun hc=>?_)|(show VC ..;first|refine xC (fun hg=>by first|exact ht|exact hi|exact h7|exact hu|exact e3|exact hi2 (by assumption) _|exact e32 (by assumption) _|exact hm (by assumption) (by assumption)) ?_|refine xL (fun hg=>by first|exact ht|exact hi|exact h7|exact hu|exact e3|exact hi2 (by assumption) _|exact e32 (by assumption) _|exact hm (by assumption) (by assumption)) ?_)|(show VI ..;refine xJ ?_)|(show VG ..;refine xG ?_)|(show VA ..;refine xA ?_)|(show VZ ..;refine .n ?_)|(show VE ..;refine .mk ?_))
 all_goals clear hm e32 hi2 ht hi h7 hu e3
 all_goals (conv=>whnf)
 ·rw [hc] at ho;subst ho
  exact⟨rfl,[true,true],_,rfl⟩
 ·rename_i z1
  rw [z1,hc] at ho;subst ho
  exact⟨rfl,[true,true],_,rfl⟩
 ·rename_i z1 z2 z3
  rw [z1,z2,z3,hc] at ho;subst ho
  exact⟨rfl,[true,true],_,rfl⟩
 ·rename_i z1 z2 z3 z4
  rw [z1,z2,z3,z4,hc] at ho;subst ho
  exact⟨rfl,[true,true],_,rfl⟩
 ·rename_i z1 z2 z3 z4
  rw [z1,z2,z3,z4,hc] at ho;subst ho
  exact⟨rfl,[false,false],_,rfl⟩
 ·rename_i z1 z2 z3
  rw [z1,z2,z3,hc] at ho;subst ho
  exact⟨rfl,[true,true],_,rfl⟩
 ·rename_i z1 z2 z3 z4
  rw [z1,z2,z3,z4,hc] at ho;subst ho
  exact⟨rfl,[true,true],_,rfl⟩
 ·rename_i z1 z2 z3 z4
  rw [z1,z2,z3,z4,hc] at ho;subst ho
  obtain⟨_,_,q1,q2,_⟩:=h7o (by simpa using z1)
  have w2:IntKind.i64.wrap (q.next+1+1)=q.next+2:=(qah (by omega) (by omega)).trans (by omega)
  exact⟨by rw [w1 z1,w2];rfl,[false,false],_,rfl⟩
end
end Go.Proofs.YtfbopaaambkfkaaGreatDoor
