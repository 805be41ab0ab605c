/- Types read from tokens, as the document reads them: names, owners. Conditions: at most 2^20 tokens, at most 2^20 parameters. -/
import Derived.Test.YtfbopaaambkfkaaGreatDoorMg31
import Derived.Test.YtfbopaaambkfkaaGreatDoorMg32
set_option linter.unusedVariables false
set_option maxRecDepth 100000
set_option maxHeartbeats 8000000
set_option linter.unusedSimpArgs false
namespace Go.Proofs.YtfbopaaambkfkaaGreatDoor
open Go.RowKit
section
set_option maxRecDepth 100000
attribute [local irreducible] nowT isT fndD wrdD nmdD bad7
theorem pd4Find (s:List UInt8) (ps:List (List UInt8)) (hn:ps.length≤1048576):qaa Tryz.prog 103 [.a (.v (.string (bs s))),.a (.sl (ps.map qaj))] (.a (.v (.int .i64 ((fndD s ps 0:Nat):Int)))):=by
 refine qaa.vx [0,1,4,5,9,17] Tryz.func103 rfl Tryz.ntmps103 rfl rfl rfl (fun C hro hst=>?_)
 repeat' ((conv=>whnf);first|(show VD ..;refine .q ?_)|(show VK ..;refine xK ?_)|(show VB ..;first|refine VB.tt (by decide) ?_|refine VB.ff (by decide) ?_|refine VB.mk (fun hc=>?_) fun hc=>?_)|(show VI ..;refine xJ ?_)|(show VG ..;refine xG ?_)|(show VA ..;refine xA ?_)|(show VZ ..;refine .s ?_)|(show VE ..;refine .mk ?_))
 refine VL.each ps qaj (fun k=>[(0,.a (.v (.string (bs s)))),(1,.a (.sl (ps.map qaj))),(5,.a (.v (.int .i64 (k:Nat))))]) (fun _=>[]) (fun k=>fndD s ps 0=fndD s (ps.drop k) k) ⟨rfl,rfl,rfl,trivial⟩ rfl rfl (by omega) ?_ ?_
 ·intro k z hz hdr htk hlt hI hlt2 hix hwu
  rw [hdr,fndD] at hI
  repeat' ((conv=>whnf);first|(show VD ..;refine .q ?_)|(show VK ..;refine xK ?_)|(show VB ..;first|refine VB.tt (by exact hlt2) ?_|refine VB.ff (by exact hlt2) ?_|refine VB.mk (fun hc=>?_) fun hc=>?_)|(show VI ..;first|refine xI (fun _=>by exact hix) ?_|refine xJ ?_)|(show VG ..;refine xG ?_)|(show VA ..;refine xA ?_)|(show VZ ..;refine .s ?_)|(show VE ..;refine .mk ?_))
  ·rw [hwu,hI]
   simp only [qec] at hc
   rw [hc];rfl
  ·simp only [qec] at hc
   rw [hc,cond_false] at hI
   exact⟨hI,[],⟨rfl,rfl,congrArg (fun z=>D.a (.v (.int .i64 z))) hwu,trivial⟩,rfl,rfl,rfl⟩
 ·intro hI hlt2
  rw [List.drop_length,fndD] at hI
  repeat' ((conv=>whnf);first|(show VD ..;refine .q ?_)|(show VK ..;refine xK ?_)|(show VB ..;first|refine VB.tt (by exact hlt2) ?_|refine VB.ff (by exact hlt2) ?_|refine VB.mk (fun hc=>?_) fun hc=>?_)|(show VI ..;refine xJ ?_)|(show VG ..;refine xG ?_)|(show VA ..;refine xA ?_)|(show VZ ..;refine .s ?_)|(show VE ..;refine .mk ?_))
  rw [hI];rfl
theorem qdo (t:Tok) (ps:List (List UInt8)) (hn:ps.length≤1048576):qaa Tryz.prog 84 [.r (Tok.at t),.a (.sl (ps.map qaj))] (.r (owAt (nmdD t ps))):=by
 refine qaa.vx [0,1,2,4,5,11] Tryz.func84 rfl Tryz.ntmps84 rfl rfl rfl (fun C hro hst=>?_)
 repeat' ((conv=>whnf);first|(show VD ..;refine .q ?_)|(show VK ..;refine xK ?_)|(show VB ..;first|refine VB.tt (by decide) ?_|refine VB.ff (by decide) ?_|refine VB.mk (fun hc=>?_) fun hc=>?_)|(show VC ..;first|refine xC (fun hg=>by exact pd4Find _ _ hn) ?_|refine xL (fun hg=>by exact pd4Find _ _ hn) ?_)|(show VI ..;refine xJ ?_)|(show VG ..;refine xG ?_)|(show VA ..;refine xA ?_)|(show VZ ..;refine .s ?_)|(show VE ..;refine .mk ?_))
 ·have h0:fndD t.text ps 0=0:=by simpa using hc
  unfold nmdD
  rw [if_pos h0]
  rfl
 ·have h0:¬fndD t.text ps 0=0:=by simpa using hc
  unfold nmdD
  rw [if_neg h0]
  rfl
end
section
set_option maxRecDepth 100000
def ouE (i:Nat):List (Int×Int)→D
 | []=>.a .nl
 | _::r=>.a (.own i r.length)
def ouB (z:List A) (t:Tok) (o:Int×Int):List (Int×Int)→List Bx
 | []=>[.cell z]
 | x::r=>[.cell z,.cell (Tok.at t),.cell (owAt o),.arr r.length 2 ((x::r).map owAt)]
attribute [local irreducible] nowT isT fndD wrdD nmdD bad7
theorem qfc (l:List Tok) (ps:List (List UInt8)) (a:Int) (hl:l.length≤1048576) (hn:ps.length≤1048576) (h0:0≤a) (h1:a≤1048576):qaa Tryz.prog 61 [.a (.sl (l.map Tok.at)),.a (.v (.int .i64 a)),.a (.sl (ps.map qaj))] (.r (G7.at (own7 l ps a))):=by
 unfold own7
 refine qaa.vx [0,1,2,6,7,8,9,14,27,33,44,50,63,72] Tryz.func61 rfl Tryz.ntmps61 rfl rfl rfl (fun C hro hst=>?_)
 repeat' ((conv=>whnf);first|(show VD ..;refine .q ?_)|(show VK ..;refine xK ?_)|(show VB ..;first|refine VB.tt (by decide) ?_|refine VB.ff (by decide) ?_|refine VB.mk (fun hc=>?_) fun hc=>?_)|(show VC ..;first|refine xC (fun hg=>by first|exact qbs _ _ hl|exact pdIs _ _|exact qc4 _ _ _ hl) ?_|refine xL (fun hg=>by first|exact qbs _ _ hl|exact pdIs _ _|exact qc4 _ _ _ hl) ?_)|(show VI ..;refine xJ ?_)|(show VG ..;refine xG ?_)|(show VA ..;refine xA ?_)|(show VZ ..;refine .s ?_)|(show VE ..;refine .mk ?_))
 ·rw [hc];rfl
 rw [hc,cond_false]
 obtain⟨g,hg⟩:∃g,qes l ps 3 a []=g:=⟨_,rfl⟩
 rw [hg]
 refine VL.g (α:={ y:(Int×List (Int×Int))×(Tok×(Int×Int)) // y.1.2.length≤3∧0≤y.1.1∧y.1.1+2*(3-(y.1.2.length:Int))≤a+6∧qes l ps (3-y.1.2.length) y.1.1 y.1.2=g }) (fun y=>[(0,.a (.sl (l.map Tok.at))),(1,.a (.v (.int .i64 y.1.1.1))),(2,.a (.sl (ps.map qaj))),(6,.a (.ptr 0 0)),(7,ouE 3 y.1.1.2)]) (fun y=>ouB (G7.at G7.zero) y.1.2.1 y.1.2.2 y.1.1.2) (fun y=>3-y.1.1.2.length) ⟨((a,[]),(nowT l a,(0,0))),Nat.zero_le _,h0,by simp,hg⟩ ⟨rfl,rfl,rfl,rfl,rfl,trivial⟩ rfl ?_
 clear hg hc
 rintro⟨⟨⟨b,out⟩,⟨t0,o0⟩⟩,hol,hb0,hb1,hg⟩
 dsimp only at hol hb0 hb1 hg ⊢
 have w1:IntKind.i64.wrap (b+1)=b+1:=qah (by omega) (by omega)
 have w2:IntKind.i64.wrap (b+1+1)=b+2:=(qah (by omega) (by omega)).trans (by omega)
 have w3:IntKind.i64.wrap (b+2+1)=b+3:=(qah (by omega) (by omega)).trans (by omega)
 have ht1:qaa Tryz.prog 30 [.a (.sl (l.map Tok.at)),.a (.v (.int .i64 (IntKind.i64.wrap (b+1))))] (.r (Tok.at (nowT l (b+1)))):=by rw [w1];exact qbs l (b+1) hl
 have ht2:qaa Tryz.prog 30 [.a (.sl (l.map Tok.at)),.a (.v (.int .i64 (IntKind.i64.wrap (IntKind.i64.wrap (b+1)+1))))] (.r (Tok.at (nowT l (b+2)))):=by rw [w1,w2];exact qbs l (b+2) hl
 have e1:∀e,qaa Tryz.prog 82 [.a (.v (.int .i64 e)),.a (.sl (l.map Tok.at)),.a (.v (.int .i64 (IntKind.i64.wrap (b+1))))] (.r (G7.at (bad7 l e (b+1)))):=fun e=>by rw [w1];exact qc4 l e (b+1) hl
 have e2:∀e,qaa Tryz.prog 82 [.a (.v (.int .i64 e)),.a (.sl (l.map Tok.at)),.a (.v (.int .i64 (IntKind.i64.wrap (IntKind.i64.wrap (b+1)+1))))] (.r (G7.at (bad7 l e (b+2)))):=fun e=>by rw [w1,w2];exact qc4 l e (b+2) hl
 have hgo:qes l ps (3-out.length) b out=g:=hg
 rw [qij] at hg
 cases out with
 | nil =>
  simp only [ouE,ouB]
  repeat' ((conv=>whnf);first|(show VD ..;refine .q ?_)|(show VK ..;refine xK ?_)|(show VB ..;first|refine VB.tt (by decide) ?_|refine VB.ff (by decide) ?_|refine VB.mk (fun hc=>?_) fun hc=>?_)|(show VC ..;first|refine xC (fun hg=>by first|exact ht1|exact ht2|exact pdIs _ _|exact e1 _|exact e2 _|exact qdn _|exact qdo _ _ hn) ?_|refine xL (fun hg=>by first|exact ht1|exact ht2|exact pdIs _ _|exact e1 _|exact e2 _|exact qdn _|exact qdo _ _ hn) ?_)|(show VI ..;refine xJ ?_)|(show VG ..;refine xG ?_)|(show VA ..;refine xA ?_)|(show VZ ..;refine .s ?_)|(show VE ..;refine .mk ?_))
  all_goals clear ht1 ht2 e1 e2 hgo
  all_goals try (conv=>whnf)
  all_goals simp_all only [ow1D,cond_true,cond_false,Bool.true_and,Bool.false_and,Bool.not_true,Bool.not_false,Bool.not_eq_true',Bool.not_eq_false',List.length_nil,List.nil_append,List.length_map,List.length_cons]
  all_goals first|(subst hg;rfl)|exact⟨⟨((b+2,[_]),(nowT l (b+1),_)),Nat.le_of_ble_eq_true rfl,by dsimp only;omega,by dsimp only [List.length_cons,List.length_nil] at *;omega,hg⟩,[],Nat.le_of_ble_eq_true rfl,Nat.le_of_ble_eq_true rfl,⟨rfl,rfl,rfl,rfl,rfl,trivial⟩,rfl,rfl,rfl⟩|trace_state
 | cons x r =>
  have hrl:r.length≤2:=by simpa using hol
  simp only [ouE,ouB]
  rcases (show r.length=2∨r.length≤1 by omega) with h3|h3
  ·have h4:(((List.map owAt (x::r)).length:Int)==3)=true:=by rw [List.length_map,List.length_cons,h3];rfl
   have h5:(((x::r).length:Int)==3)=true:=by rw [List.length_cons,h3];rfl
   repeat' ((conv=>whnf);first|(show VD ..;refine .q ?_)|(show VK ..;refine xK ?_)|(show VB ..;first|refine VB.tt (by exact h4) ?_|refine VB.ff (by exact h4) ?_|refine VB.mk (fun hc=>?_) fun hc=>?_)|(show VC ..;first|refine xC (fun hg=>by first|exact ht1|exact ht2|exact pdIs _ _|exact e1 _|exact e2 _|exact qdn _|exact qdo _ _ hn) ?_|refine xL (fun hg=>by first|exact ht1|exact ht2|exact pdIs _ _|exact e1 _|exact e2 _|exact qdn _|exact qdo _ _ hn) ?_)|(show VI ..;refine xJ ?_)|(show VG ..;refine xG ?_)|(show VA ..;refine xA ?_)|(show VZ ..;refine .s ?_)|(show VE ..;refine .mk ?_))
   all_goals clear ht1 ht2 e1 e2 hgo h4
   all_goals simp_all only [ow1D,cond_true,cond_false,Bool.true_and,Bool.false_and]
   all_goals subst hg;rfl
  ·have h4:(((List.map owAt (x::r)).length:Int)==3)=false:=by simp only [List.length_map,List.length_cons,beq_eq_false_iff_ne];omega
   have h5:(((x::r).length:Int)==3)=false:=by simp only [List.length_cons,beq_eq_false_iff_ne];omega
   obtain⟨k,hk,hk2⟩:∃k,3-(x::r).length=k+1∧3-(r.length+2)=k:=⟨1-r.length,by rw [List.length_cons];omega,by omega⟩
   rw [hk] at hg
   repeat' ((conv=>whnf);first|(show VD ..;refine .q ?_)|(show VK ..;refine xK ?_)|(show VB ..;first|refine VB.tt (by exact h4) ?_|refine VB.ff (by exact h4) ?_|refine VB.mk (fun hc=>?_) fun hc=>?_)|(show VC ..;first|refine xC (fun hg=>by first|exact ht1|exact ht2|exact pdIs _ _|exact e1 _|exact e2 _|exact qdn _|exact qdo _ _ hn) ?_|refine xL (fun hg=>by first|exact ht1|exact ht2|exact pdIs _ _|exact e1 _|exact e2 _|exact qdn _|exact qdo _ _ hn) ?_)|(show VI ..;refine xJ ?_)|(show VG ..;refine xG ?_)|(show VA ..;refine xA ?_)|(show VZ ..;refine .s ?_)|(show VE ..;refine .mk ?_))
   all_goals clear ht1 ht2 e1 e2 hgo h4
   all_goals try (conv=>whnf)
   all_goals simp_all only [ow1D,cond_true,cond_false,Bool.true_and,Bool.false_and,Bool.not_true,Bool.not_false,Bool.not_eq_true',Bool.not_eq_false']
   all_goals first|(subst hg;rfl)|(subst hg;unfold G7.at;simp only [List.map_append,List.cons_append,List.map_cons];rfl)|skip
   all_goals first|exact⟨⟨((b+2,x::r++[nmdD (nowT l (b+1)) ps]),(t0,o0)),by simp only [List.length_append,List.length_cons,List.length_nil];omega,by dsimp only;omega,by simp only [List.length_append,List.length_cons,List.length_nil] at *;omega,by simp only [List.length_append,List.length_cons,List.length_nil];rw [hk2];exact hg⟩,[.cell (Tok.at (nowT l (b+1))),.cell (owAt (nmdD (nowT l (b+1)) ps))],by simp only [List.length_append,List.length_cons,List.length_nil] at *;omega,Nat.le_of_ble_eq_true rfl,⟨rfl,rfl,rfl,rfl,by simp only [ouE,List.cons_append,List.length_append,List.length_cons,List.length_nil];rfl,trivial⟩,by simp only [ouB,List.cons_append,List.length_append,List.length_cons,List.length_nil,List.map_cons,List.map_append];rfl,rfl,rfl⟩|exact⟨⟨((b+2,x::r++[(wrdD (nowT l (b+1)),0)]),(t0,o0)),by simp only [List.length_append,List.length_cons,List.length_nil];omega,by dsimp only;omega,by simp only [List.length_append,List.length_cons,List.length_nil] at *;omega,by simp only [List.length_append,List.length_cons,List.length_nil];rw [hk2];exact hg⟩,[.cell (Tok.at (nowT l (b+1))),.cell (owAt (wrdD (nowT l (b+1)),0))],by simp only [List.length_append,List.length_cons,List.length_nil] at *;omega,Nat.le_of_ble_eq_true rfl,⟨rfl,rfl,rfl,rfl,by simp only [ouE,List.cons_append,List.length_append,List.length_cons,List.length_nil];rfl,trivial⟩,by simp only [ouB,List.cons_append,List.length_append,List.length_cons,List.length_nil,List.map_cons,List.map_append];rfl,rfl,rfl⟩|skip
   all_goals trace_state
end
section
set_option maxRecDepth 100000
attribute [local irreducible] nowT isT fndD wrdD nmdD bad7 own7 ty7 par7 qj2
theorem pd7ahead (l:List Tok) (a:Int) (f:Bool) (hl:l.length≤1048576) (h0:0≤a) (h1:a≤1048576):qaa Tryz.prog 85 [.a (.sl (l.map Tok.at)),.a (.v (.int .i64 a)),.a (.v (.bool f))] (.a (.v (.bool (qj2 l a f)))):=by
 have w1:IntKind.i64.wrap (a+1)=a+1:=qah (by omega) (by omega)
 have w2:IntKind.i64.wrap (a+2)=a+2:=qah (by omega) (by omega)
 refine qaa.vx [0,1,2,6,7,8] Tryz.func85 rfl Tryz.ntmps85 rfl rfl rfl (fun C hro hst=>?_)
 repeat' ((conv=>whnf);first|(show VD ..;refine .q ?_)|(show VK ..;refine xK ?_)|(show VB ..;first|refine VB.tt (by decide) ?_|refine VB.ff (by decide) ?_|refine VB.mk (fun hc=>?_) fun hc=>?_)|(show VC ..;first|refine xC (fun hg=>by first|exact qbs _ _ hl|exact pdIs _ _) ?_|refine xL (fun hg=>by first|exact qbs _ _ hl|exact pdIs _ _) ?_)|(show VI ..;refine xJ ?_)|(show VG ..;refine xG ?_)|(show VA ..;refine xA ?_)|(show VZ ..;refine .s ?_)|(show VE ..;refine .mk ?_))
 rw [w1,w2]
 unfold qj2
 simp only [Bool.cond_true_left,Bool.cond_false_right]
theorem pd7Begins (l:List Tok) (a:Int) (hl:l.length≤1048576) (h0:0≤a) (h1:a≤1048576):qaa Tryz.prog 105 [.a (.sl (l.map Tok.at)),.a (.v (.int .i64 a))] (.a (.v (.bool (beg7 l a)))):=by
 have w1:IntKind.i64.wrap (a+1)=a+1:=qah (by omega) (by omega)
 refine qaa.vx [0,1,4,5,6,17,20] Tryz.func105 rfl Tryz.ntmps105 rfl rfl rfl (fun C hro hst=>?_)
 repeat' ((conv=>whnf);first|(show VD ..;refine .q ?_)|(show VK ..;refine xK ?_)|(show VB ..;first|refine VB.tt (by decide) ?_|refine VB.ff (by decide) ?_|refine VB.mk (fun hc=>?_) fun hc=>?_)|(show VC ..;first|refine xC (fun hg=>by first|exact qbs _ _ hl|exact pdIs _ _|exact qdn _) ?_|refine xL (fun hg=>by first|exact qbs _ _ hl|exact pdIs _ _|exact qdn _) ?_)|(show VI ..;refine xJ ?_)|(show VG ..;refine xG ?_)|(show VA ..;refine xA ?_)|(show VZ ..;refine .s ?_)|(show VE ..;refine .mk ?_))
 all_goals unfold beg7
 all_goals simp_all only [Bool.cond_true_left,cond_true,cond_false]
theorem pd7Var (l:List Tok) (ps:List (List UInt8)) (a:Int) (hl:l.length≤1048576) (hx:(par7 l ps a true).err=0→0≤(par7 l ps a true).next∧(par7 l ps a true).next≤1048576) (hp:qaa Tryz.prog 62 [.a (.sl (l.map Tok.at)),.a (.v (.int .i64 a)),.a (.sl (ps.map qaj)),.a (.v (.bool true))] (.r (G7.at (par7 l ps a true)))):qaa Tryz.prog 104 [.a (.sl (l.map Tok.at)),.a (.v (.int .i64 a)),.a (.sl (ps.map qaj))] (.r (G7.at (var7 l ps a))):=by
 unfold var7
 generalize par7 l ps a true=g at *
 have w1:g.err=0→IntKind.i64.wrap (g.next+1)=g.next+1:=fun h=>qah (by have:=hx h;omega) (by have:=hx h;omega)
 refine qaa.vx [0,1,2,6,7,8,16,21,31] Tryz.func104 rfl Tryz.ntmps104 rfl rfl rfl (fun C hro hst=>?_)
 repeat' ((conv=>whnf);first|(show VD ..;refine .q ?_)|(show VK ..;refine xK ?_)|(show VB ..;first|refine VB.tt (by decide) ?_|refine VB.ff (by decide) ?_|refine VB.mk (fun hc=>?_) fun hc=>?_)|(show VC ..;first|refine xC (fun hg=>by first|exact hp|exact qbs _ _ hl|exact qc4 _ _ _ hl) ?_|refine xL (fun hg=>by first|exact hp|exact qbs _ _ hl|exact qc4 _ _ _ hl) ?_)|(show VI ..;refine xJ ?_)|(show VG ..;refine xG ?_)|(show VA ..;refine xA ?_)|(show VZ ..;refine .s ?_)|(show VE ..;refine .mk ?_))
 ·rw [hc];rfl
 ·rename_i h1;rw [h1];rw [show (g.t.kind==0)=true from hc];rfl
 ·rename_i h1 h2;rw [h1,show (g.t.kind==0)=false from h2,hc];rfl
 ·rename_i h1 h2
  rw [w1 (by simpa using h1),h1,show (g.t.kind==0)=false from h2,hc];rfl
end
section
set_option maxRecDepth 100000
attribute [local irreducible] nowT isT fndD wrdD nmdD bad7 own7 qj2
theorem qcf (l:List Tok) (ps:List (List UInt8)) (a:Int) (f:Bool) (hl:l.length≤1048570) (hn:ps.length≤1048576) (h0:0≤a) (h1:a≤1048570):qaa Tryz.prog 62 [.a (.sl (l.map Tok.at)),.a (.v (.int .i64 a)),.a (.sl (ps.map qaj)),.a (.v (.bool f))] (.r (G7.at (par7 l ps a f))):=by
 have w1:IntKind.i64.wrap (a+1)=a+1:=qah (by omega) (by omega)
 have w2:IntKind.i64.wrap (a+1+1)=a+2:=(qah (by omega) (by omega)).trans (by omega)
 have w3:IntKind.i64.wrap (a+2+1)=a+3:=(qah (by omega) (by omega)).trans (by omega)
 have ht0:=qbs l a (by omega)
 have ht1:qaa Tryz.prog 30 [.a (.sl (l.map Tok.at)),.a (.v (.int .i64 (IntKind.i64.wrap (a+1))))] (.r (Tok.at (nowT l (a+1)))):=by rw [w1];exact qbs l (a+1) (by omega)
 have ht2:qaa Tryz.prog 30 [.a (.sl (l.map Tok.at)),.a (.v (.int .i64 (IntKind.i64.wrap (IntKind.i64.wrap (a+1)+1))))] (.r (Tok.at (nowT l (a+2)))):=by rw [w1,w2];exact qbs l (a+2) (by omega)
 have e0:∀e,qaa Tryz.prog 82 [.a (.v (.int .i64 e)),.a (.sl (l.map Tok.at)),.a (.v (.int .i64 a))] (.r (G7.at (bad7 l e a))):=fun e=>qc4 l e a (by omega)
 have e1:∀e,qaa Tryz.prog 82 [.a (.v (.int .i64 e)),.a (.sl (l.map Tok.at)),.a (.v (.int .i64 (IntKind.i64.wrap (a+1))))] (.r (G7.at (bad7 l e (a+1)))):=fun e=>by rw [w1];exact qc4 l e (a+1) (by omega)
 have ho1:qaa Tryz.prog 61 [.a (.sl (l.map Tok.at)),.a (.v (.int .i64 (IntKind.i64.wrap (a+1)))),.a (.sl (ps.map qaj))] (.r (G7.at (own7 l ps (a+1)))):=by rw [w1];exact qfc l ps (a+1) (by omega) hn (by omega) (by omega)
 have ho2:qaa Tryz.prog 61 [.a (.sl (l.map Tok.at)),.a (.v (.int .i64 (IntKind.i64.wrap (IntKind.i64.wrap (a+1)+1)))),.a (.sl (ps.map qaj))] (.r (G7.at (own7 l ps (a+2)))):=by rw [w1,w2];exact qfc l ps (a+2) (by omega) hn (by omega) (by omega)
 have hk1:(own7 l ps (a+1)).err=0→(own7 l ps (a+1)).l≠[]∧(own7 l ps (a+1)).l.length≤3:=fun h=>by have:=qfs (qad l) (ps:=ps) (a+1) h;exact⟨this.1,this.2.1⟩
 have hk2:(own7 l ps (a+2)).err=0→(own7 l ps (a+2)).l≠[]∧(own7 l ps (a+2)).l.length≤3:=fun h=>by have:=qfs (qad l) (ps:=ps) (a+2) h;exact⟨this.1,this.2.1⟩
 have hw:=qdn (nowT l a)
 have hm:=qdo (nowT l a) ps hn
 have hA:=pd7ahead l a f (by omega) h0 (by omega)
 unfold par7 ty7
 rw [show a+1+1=a+2 by omega]
 generalize own7 l ps (a+1)=g1 at *
 generalize own7 l ps (a+2)=g2 at *
 refine qaa.vx [0,1,2,3,8,9,10,11,12,13,18,23,35,50,60,71,84,95,105] Tryz.func62 rfl Tryz.ntmps62 rfl rfl rfl (fun C hro hst=>?_)
 repeat' ((conv=>whnf);first|(show VD ..;refine .q ?_)|(show VK ..;refine xK ?_)|(show VB ..;first|refine VB.tt (by decide) ?_|refine VB.ff (by decide) ?_|refine VB.mk (fun hc=>?_) fun hc=>?_)|(show VC ..;first|refine xC (fun hg=>by first|exact ht0|exact ht1|exact ht2|exact pdIs _ _|exact e0 _|exact e1 _|exact ho1|exact ho2|exact hw|exact hm|exact hA) ?_|refine xL (fun hg=>by first|exact ht0|exact ht1|exact ht2|exact pdIs _ _|exact e0 _|exact e1 _|exact ho1|exact ho2|exact hw|exact hm|exact hA) ?_)|(show VI ..;refine xJ ?_)|(show VG ..;refine xG ?_)|(show VA ..;refine xA ?_)|(show VZ ..;refine .s ?_)|(show VE ..;refine .mk ?_))
 all_goals clear ht0 ht1 ht2 e0 e1 ho1 ho2 hw hm hA
 all_goals simp only [w1,w2,w3] at *
 all_goals try (simp_all only [cond_true,cond_false,Bool.true_and,Bool.false_and,Bool.and_true,Bool.and_false,Bool.not_true,Bool.not_false,Bool.not_eq_true',Bool.not_eq_false',Bool.cond_false_right];rfl)
 ·obtain⟨q1,q2⟩:=hk2 (by simpa using hc)
  clear hk1 hk2
  obtain⟨gl,gt,gv,gn,ge,gf⟩:=g2
  dsimp only at q1 q2
  rcases gl with _|⟨o1,_|⟨o2,_|⟨o3,_|⟨o4,r⟩⟩⟩⟩
  ·exact absurd rfl q1
  ·repeat' ((conv=>whnf);first|(show VD ..;refine .q ?_)|(show VK ..;refine xK ?_)|(show VB ..;first|refine VB.tt (by rfl) ?_|refine VB.ff (by rfl) ?_|refine VB.mk (fun hc=>?_) fun hc=>?_)|(show VI ..;refine xJ ?_)|(show VG ..;refine xG ?_)|(show VA ..;refine xA ?_)|(show VZ ..;refine .s ?_)|(show VE ..;refine .mk ?_)|(show VL ..;refine .un ?_)|(show VLI ..;refine .un ?_))
   simp_all only [cond_true,cond_false,Bool.true_and,Bool.false_and,Bool.and_true,Bool.and_false,Bool.not_true,Bool.not_false,Bool.not_eq_true',Bool.not_eq_false',Bool.cond_false_right];rfl
  ·repeat' ((conv=>whnf);first|(show VD ..;refine .q ?_)|(show VK ..;refine xK ?_)|(show VB ..;first|refine VB.tt (by rfl) ?_|refine VB.ff (by rfl) ?_|refine VB.mk (fun hc=>?_) fun hc=>?_)|(show VI ..;refine xJ ?_)|(show VG ..;refine xG ?_)|(show VA ..;refine xA ?_)|(show VZ ..;refine .s ?_)|(show VE ..;refine .mk ?_)|(show VL ..;refine .un ?_)|(show VLI ..;refine .un ?_))
   simp_all only [cond_true,cond_false,Bool.true_and,Bool.false_and,Bool.and_true,Bool.and_false,Bool.not_true,Bool.not_false,Bool.not_eq_true',Bool.not_eq_false',Bool.cond_false_right];rfl
  ·repeat' ((conv=>whnf);first|(show VD ..;refine .q ?_)|(show VK ..;refine xK ?_)|(show VB ..;first|refine VB.tt (by rfl) ?_|refine VB.ff (by rfl) ?_|refine VB.mk (fun hc=>?_) fun hc=>?_)|(show VI ..;refine xJ ?_)|(show VG ..;refine xG ?_)|(show VA ..;refine xA ?_)|(show VZ ..;refine .s ?_)|(show VE ..;refine .mk ?_)|(show VL ..;refine .un ?_)|(show VLI ..;refine .un ?_))
   simp_all only [cond_true,cond_false,Bool.true_and,Bool.false_and,Bool.and_true,Bool.and_false,Bool.not_true,Bool.not_false,Bool.not_eq_true',Bool.not_eq_false',Bool.cond_false_right];rfl
  ·simp at q2
 ·obtain⟨q1,q2⟩:=hk2 (by simpa using hc)
  clear hk1 hk2
  obtain⟨gl,gt,gv,gn,ge,gf⟩:=g2
  dsimp only at q1 q2
  rcases gl with _|⟨o1,_|⟨o2,_|⟨o3,_|⟨o4,r⟩⟩⟩⟩
  ·exact absurd rfl q1
  ·repeat' ((conv=>whnf);first|(show VD ..;refine .q ?_)|(show VK ..;refine xK ?_)|(show VB ..;first|refine VB.tt (by rfl) ?_|refine VB.ff (by rfl) ?_|refine VB.mk (fun hc=>?_) fun hc=>?_)|(show VI ..;refine xJ ?_)|(show VG ..;refine xG ?_)|(show VA ..;refine xA ?_)|(show VZ ..;refine .s ?_)|(show VE ..;refine .mk ?_)|(show VL ..;refine .un ?_)|(show VLI ..;refine .un ?_))
   simp_all only [cond_true,cond_false,Bool.true_and,Bool.false_and,Bool.and_true,Bool.and_false,Bool.not_true,Bool.not_false,Bool.not_eq_true',Bool.not_eq_false',Bool.cond_false_right];rfl
  ·repeat' ((conv=>whnf);first|(show VD ..;refine .q ?_)|(show VK ..;refine xK ?_)|(show VB ..;first|refine VB.tt (by rfl) ?_|refine VB.ff (by rfl) ?_|refine VB.mk (fun hc=>?_) fun hc=>?_)|(show VI ..;refine xJ ?_)|(show VG ..;refine xG ?_)|(show VA ..;refine xA ?_)|(show VZ ..;refine .s ?_)|(show VE ..;refine .mk ?_)|(show VL ..;refine .un ?_)|(show VLI ..;refine .un ?_))
   simp_all only [cond_true,cond_false,Bool.true_and,Bool.false_and,Bool.and_true,Bool.and_false,Bool.not_true,Bool.not_false,Bool.not_eq_true',Bool.not_eq_false',Bool.cond_false_right];rfl
  ·repeat' ((conv=>whnf);first|(show VD ..;refine .q ?_)|(show VK ..;refine xK ?_)|(show VB ..;first|refine VB.tt (by rfl) ?_|refine VB.ff (by rfl) ?_|refine VB.mk (fun hc=>?_) fun hc=>?_)|(show VI ..;refine xJ ?_)|(show VG ..;refine xG ?_)|(show VA ..;refine xA ?_)|(show VZ ..;refine .s ?_)|(show VE ..;refine .mk ?_)|(show VL ..;refine .un ?_)|(show VLI ..;refine .un ?_))
   simp_all only [cond_true,cond_false,Bool.true_and,Bool.false_and,Bool.and_true,Bool.and_false,Bool.not_true,Bool.not_false,Bool.not_eq_true',Bool.not_eq_false',Bool.cond_false_right];rfl
  ·simp at q2
 ·obtain⟨q1,q2⟩:=hk1 (by simpa using hc)
  clear hk1 hk2
  obtain⟨gl,gt,gv,gn,ge,gf⟩:=g1
  dsimp only at q1 q2
  rcases gl with _|⟨o1,_|⟨o2,_|⟨o3,_|⟨o4,r⟩⟩⟩⟩
  ·exact absurd rfl q1
  ·repeat' ((conv=>whnf);first|(show VD ..;refine .q ?_)|(show VK ..;refine xK ?_)|(show VB ..;first|refine VB.tt (by rfl) ?_|refine VB.ff (by rfl) ?_|refine VB.mk (fun hc=>?_) fun hc=>?_)|(show VI ..;refine xJ ?_)|(show VG ..;refine xG ?_)|(show VA ..;refine xA ?_)|(show VZ ..;refine .s ?_)|(show VE ..;refine .mk ?_)|(show VL ..;refine .un ?_)|(show VLI ..;refine .un ?_))
   simp_all only [cond_true,cond_false,Bool.true_and,Bool.false_and,Bool.and_true,Bool.and_false,Bool.not_true,Bool.not_false,Bool.not_eq_true',Bool.not_eq_false',Bool.cond_false_right];rfl
  ·repeat' ((conv=>whnf);first|(show VD ..;refine .q ?_)|(show VK ..;refine xK ?_)|(show VB ..;first|refine VB.tt (by rfl) ?_|refine VB.ff (by rfl) ?_|refine VB.mk (fun hc=>?_) fun hc=>?_)|(show VI ..;refine xJ ?_)|(show VG ..;refine xG ?_)|(show VA ..;refine xA ?_)|(show VZ ..;refine .s ?_)|(show VE ..;refine .mk ?_)|(show VL ..;refine .un ?_)|(show VLI ..;refine .un ?_))
   simp_all only [cond_true,cond_false,Bool.true_and,Bool.false_and,Bool.and_true,Bool.and_false,Bool.not_true,Bool.not_false,Bool.not_eq_true',Bool.not_eq_false',Bool.cond_false_right];rfl
  ·repeat' ((conv=>whnf);first|(show VD ..;refine .q ?_)|(show VK ..;refine xK ?_)|(show VB ..;first|refine VB.tt (by rfl) ?_|refine VB.ff (by rfl) ?_|refine VB.mk (fun hc=>?_) fun hc=>?_)|(show VI ..;refine xJ ?_)|(show VG ..;refine xG ?_)|(show VA ..;refine xA ?_)|(show VZ ..;refine .s ?_)|(show VE ..;refine .mk ?_)|(show VL ..;refine .un ?_)|(show VLI ..;refine .un ?_))
   simp_all only [cond_true,cond_false,Bool.true_and,Bool.false_and,Bool.and_true,Bool.and_false,Bool.not_true,Bool.not_false,Bool.not_eq_true',Bool.not_eq_false',Bool.cond_false_right];rfl
  ·simp at q2
end
section
set_option maxRecDepth 100000
def Ex.rw (e:Ex):List A:=[.v (.int .i64 e.kind),.v (.int .i64 e.num),.v (.string (bs e.name)),.sl (e.kids.map Ex.at)]
theorem Ex.at_rw (e:Ex):Ex.at e=Ex.rw e:=by obtain⟨k,n,s,l⟩:=e;simp only [Ex.rw,Ex.at,Ex.ats_map]
def St.rw (s:St):List A:=[.v (.int .i64 s.kind),.v (.string (bs s.x)),.v (.string (bs s.y)),.v (.string (bs s.name))]++Ty.at s.ty++Ex.rw s.e++[.sl (s.args.map Ex.at),.sl (s.body.map St.at),.sl (s.els.map St.at),.v (.int .i64 s.at_)]
theorem St.at_rw (s:St):St.at s=St.rw s:=by
 obtain⟨kind,x,y,name,ty,⟨ek,en,es,el⟩,args,body,els,at_⟩:=s
 simp only [St.rw,St.at,Ex.rw,Ex.at,Ex.ats_map,St.ats_map]
def G6.rw (g:G6):List A:=Ex.rw g.e++[.v (.int .i64 g.next),.v (.int .i64 g.err),.v (.int .i64 g.fat)]
theorem G6.at_rw (g:G6):G6.at g=G6.rw g:=by unfold G6.at G6.rw;rw [Ex.at_rw]
theorem qaa.row {P:Program} {f:FuncId} {ds:List D} {r r':List A} (h:qaa P f ds (.r r)) (e:r=r'):qaa P f ds (.r r'):=e▸h
structure G8 where
 s:St
 l:List St
 a:List Ex
 next:Int
 err:Int
 fat:Int
def G8.at (g:G8):List A:=St.rw g.s++[.sl (g.l.map St.at),.sl (g.a.map Ex.at),.v (.int .i64 g.next),.v (.int .i64 g.err),.v (.int .i64 g.fat)]
section
variable (l:List Tok)
def bad8 (e a:Int):G8:=⟨St.zero,[],[],0,e,(nowT l a).pos⟩
def flt8 (e f:Int):G8:=⟨St.zero,[],[],0,e,f⟩
def end8 (a:Int) (s:St):G8:=bif !isT (nowT l a) [59] then bad8 l 3 a else ⟨s,[],[],a+1,0,0⟩
def whoD (a:Int):Bool:=(nowT l a).kind==1||isT (nowT l a) [116,104,105,115]
open Classical in
noncomputable def p6 (a:Int):G6:=if h:∃f g,qbo l f a 0 0=some g then par6 h.choose_spec.choose else ⟨Ex.zero,0,0,0⟩
end
theorem p6_spec (l:List Tok) (hl:l.length≤16385) (hx:∀a,(nowT l a).text.length≤1048576) (hT:∀a,(nowT l a).kind=1→qan (nowT l a).text=true) (a:Int) (h0:0≤a) (h1:a≤l.length):qaa Tryz.prog 114 [.a (.sl (l.map Tok.at)),.a (.v (.int .i64 a))] (.r (G6.rw (p6 l a)))∧Got6 l.length a (p6 l a):=by
 obtain⟨f,g,hg⟩:=(endD (qad l) hT (l.length) a h1 (by omega)).2.1 4 0 0 (by omega)
 have hex:∃f g,qbo l f a 0 0=some g:=⟨f,g,hg⟩
 have hp:p6 l a=par6 hex.choose_spec.choose:=by unfold p6;rw [dif_pos hex]
 rw [hp]
 have hc:=hex.choose_spec.choose_spec
 generalize hex.choose_spec.choose=g at *
 generalize hex.choose=f at *
 have hw:=(pdAll l hl hx hT f f (Nat.le_refl _)).1 a 0 0 g h0 h1 (by omega) (by omega) (by omega) (by omega) hc
 have gg:=(qed (qad l) hT f).1 _ _ _ _ hc
 refine⟨(pdParse l a g hw).row (G6.at_rw _),?_⟩
 unfold par6
 split
 ·rename_i h;exact fun h2=>absurd h2 h
 ·exact gg
attribute [local irreducible] nowT isT
theorem qdx (l:List Tok) (a:Int) (hl:l.length≤1048576):qaa Tryz.prog 106 [.a (.sl (l.map Tok.at)),.a (.v (.int .i64 a))] (.r (Tok.at (nowT l a))):=by
 refine qaa.vx [0,1,4] Tryz.func106 rfl Tryz.ntmps106 rfl rfl rfl (fun C hro hst=>?_)
 repeat' ((conv=>whnf);first|(show VD ..;refine .q ?_)|(show VK ..;refine xK ?_)|(show VB ..;first|refine VB.tt (by decide) ?_|refine VB.ff (by decide) ?_|refine VB.mk (fun hc=>?_) fun hc=>?_)|(show VC ..;first|refine xC (fun hg=>by exact qbs _ _ hl) ?_|refine xL (fun hg=>by exact qbs _ _ hl) ?_)|(show VI ..;refine xJ ?_)|(show VG ..;refine xG ?_)|(show VA ..;refine xA ?_)|(show VZ ..;refine .s ?_)|(show VE ..;refine .mk ?_))
 rfl
theorem qdf (l:List Tok) (a:Int) (s:List UInt8) (hl:l.length≤1048576):qaa Tryz.prog 109 [.a (.sl (l.map Tok.at)),.a (.v (.int .i64 a)),.a (.v (.string (bs s)))] (.a (.v (.bool (isT (nowT l a) s)))):=by
 refine qaa.vx [0,1,2,6] Tryz.func109 rfl Tryz.ntmps109 rfl rfl rfl (fun C hro hst=>?_)
 repeat' ((conv=>whnf);first|(show VD ..;refine .q ?_)|(show VK ..;refine xK ?_)|(show VB ..;first|refine VB.tt (by decide) ?_|refine VB.ff (by decide) ?_|refine VB.mk (fun hc=>?_) fun hc=>?_)|(show VC ..;first|refine xC (fun hg=>by first|exact qdx _ _ hl|exact pdIs _ _) ?_|refine xL (fun hg=>by first|exact qdx _ _ hl|exact pdIs _ _) ?_)|(show VI ..;refine xJ ?_)|(show VG ..;refine xG ?_)|(show VA ..;refine xA ?_)|(show VZ ..;refine .s ?_)|(show VE ..;refine .mk ?_))
 rfl
theorem qbc (l:List Tok) (e a:Int) (hl:l.length≤1048576):qaa Tryz.prog 107 [.a (.v (.int .i64 e)),.a (.sl (l.map Tok.at)),.a (.v (.int .i64 a))] (.r (G8.at (bad8 l e a))):=by
 refine qaa.vx [0,1,2,6] Tryz.func107 rfl Tryz.ntmps107 rfl rfl rfl (fun C hro hst=>?_)
 repeat' ((conv=>whnf);first|(show VD ..;refine .q ?_)|(show VK ..;refine xK ?_)|(show VB ..;first|refine VB.tt (by decide) ?_|refine VB.ff (by decide) ?_|refine VB.mk (fun hc=>?_) fun hc=>?_)|(show VC ..;first|refine xC (fun hg=>by exact qdx _ _ hl) ?_|refine xL (fun hg=>by exact qdx _ _ hl) ?_)|(show VI ..;refine xJ ?_)|(show VG ..;refine xG ?_)|(show VA ..;refine xA ?_)|(show VZ ..;refine .s ?_)|(show VE ..;refine .mk ?_))
 rfl
theorem qd6 (l:List Tok) (a:Int) (s:St) (hl:l.length≤1048576) (h0:0≤a) (h1:a≤1048576):qaa Tryz.prog 112 [.a (.sl (l.map Tok.at)),.a (.v (.int .i64 a)),.r (St.rw s)] (.r (G8.at (end8 l a s))):=by
 have w1:IntKind.i64.wrap (a+1)=a+1:=qah (by omega) (by omega)
 unfold end8
 refine qaa.vx [0,1,2,5,6,10] Tryz.func112 rfl Tryz.ntmps112 rfl rfl rfl (fun C hro hst=>?_)
 repeat' ((conv=>whnf);first|(show VD ..;refine .q ?_)|(show VK ..;refine xK ?_)|(show VB ..;first|refine VB.tt (by decide) ?_|refine VB.ff (by decide) ?_|refine VB.mk (fun hc=>?_) fun hc=>?_)|(show VC ..;first|refine xC (fun hg=>by first|exact qdf _ _ _ hl|exact qbc _ _ _ hl) ?_|refine xL (fun hg=>by first|exact qdf _ _ _ hl|exact qbc _ _ _ hl) ?_)|(show VI ..;refine xJ ?_)|(show VG ..;refine xG ?_)|(show VA ..;refine xA ?_)|(show VZ ..;refine .s ?_)|(show VE ..;refine .mk ?_))
 ·rw [hc];rfl
 ·rw [hc,w1];rfl
theorem qlt (l:List Tok) (a:Int) (hl:l.length≤1048576):qaa Tryz.prog 108 [.a (.sl (l.map Tok.at)),.a (.v (.int .i64 a))] (.a (.v (.bool (whoD l a)))):=by
 refine qaa.vx [0,1,4] Tryz.func108 rfl Tryz.ntmps108 rfl rfl rfl (fun C hro hst=>?_)
 repeat' ((conv=>whnf);first|(show VD ..;refine .q ?_)|(show VK ..;refine xK ?_)|(show VB ..;first|refine VB.tt (by decide) ?_|refine VB.ff (by decide) ?_|refine VB.mk (fun hc=>?_) fun hc=>?_)|(show VC ..;first|refine xC (fun hg=>by first|exact qdx _ _ hl|exact qdf _ _ _ hl) ?_|refine xL (fun hg=>by first|exact qdx _ _ hl|exact qdf _ _ _ hl) ?_)|(show VI ..;refine xJ ?_)|(show VG ..;refine xG ?_)|(show VA ..;refine xA ?_)|(show VZ ..;refine .s ?_)|(show VE ..;refine .mk ?_))
 unfold whoD
 simp only [Bool.cond_true_left]
end
section
set_option maxRecDepth 100000
def oE {α:Type} (i:Nat):List α→D
 | []=>.a .nl
 | _::r=>.a (.own i r.length)
def oB {α:Type} (pre mid:List Bx) (n:Nat) (enc:α→List A):List α→List Bx
 | []=>pre
 | x::r=>pre++(mid++[.arr r.length n ((x::r).map enc)])
section
variable (l:List Tok)
noncomputable def qe0:Nat→Int→List Ex→G8
 | k,a,out =>
  bif (out.length:Int)==5 then bad8 l 6 a
  else bif (p6 l a).err != 0 then flt8 (p6 l a).err (p6 l a).fat
  else bif isT (nowT l (p6 l a).next) [41] then ⟨St.zero,[],out++[(p6 l a).e],(p6 l a).next+1,0,0⟩
  else bif !isT (nowT l (p6 l a).next) [44] then bad8 l 3 (p6 l a).next
  else match k with
   | 0=>bad8 l 6 a
   | k+1=>qe0 k ((p6 l a).next+1) (out++[(p6 l a).e])
theorem qiy (k:Nat) (a:Int) (out:List Ex):qe0 l k a out =
  bif (out.length:Int)==5 then bad8 l 6 a
  else bif (p6 l a).err != 0 then flt8 (p6 l a).err (p6 l a).fat
  else bif isT (nowT l (p6 l a).next) [41] then ⟨St.zero,[],out++[(p6 l a).e],(p6 l a).next+1,0,0⟩
  else bif !isT (nowT l (p6 l a).next) [44] then bad8 l 3 (p6 l a).next
  else match k with
   | 0=>bad8 l 6 a
   | k+1=>qe0 l k ((p6 l a).next+1) (out++[(p6 l a).e]):=by cases k<;>rfl
noncomputable def qdz (a:Int):G8:=bif isT (nowT l (a+1)) [41] then ⟨St.zero,[],[],a+2,0,0⟩ else qe0 l 5 (a+1) []
end
structure Toks (l:List Tok):Prop where
 len:l.length≤16385
 short:∀a,(nowT l a).text.length≤1048576
 name:∀a,(nowT l a).kind=1→qan (nowT l a).text=true
theorem Toks.p6 {l:List Tok} (h:Toks l) (a:Int) (h0:0≤a) (h1:a≤l.length):qaa Tryz.prog 114 [.a (.sl (l.map Tok.at)),.a (.v (.int .i64 a))] (.r (G6.rw (p6 l a)))∧Got6 l.length a (p6 l a):=p6_spec l h.len h.short h.name a h0 h1
attribute [local irreducible] nowT isT bad8 p6
theorem pd8args (l:List Tok) (hl:Toks l) (a:Int) (h0:0≤a) (h1:a<l.length):qaa Tryz.prog 120 [.a (.sl (l.map Tok.at)),.a (.v (.int .i64 a))] (.r (G8.at (qdz l a))):=by
 have hlen:=hl.len
 have hL:l.length≤1048576:=by omega
 have w1:IntKind.i64.wrap (a+1)=a+1:=qah (by omega) (by omega)
 have w2:IntKind.i64.wrap (a+1+1)=a+2:=(qah (by omega) (by omega)).trans (by omega)
 have hi1:∀s,qaa Tryz.prog 109 [.a (.sl (l.map Tok.at)),.a (.v (.int .i64 (IntKind.i64.wrap (a+1)))),.a (.v (.string (bs s)))] (.a (.v (.bool (isT (nowT l (a+1)) s)))):=fun s=>by rw [w1];exact qdf l (a+1) s hL
 unfold qdz
 refine qaa.vx [0,1,4,5,6,11,17,27,39,49] Tryz.func120 rfl Tryz.ntmps120 rfl rfl rfl (fun C hro hst=>?_)
 repeat' ((conv=>whnf);first|(show VD ..;refine .q ?_)|(show VK ..;refine xK ?_)|(show VB ..;first|refine VB.tt (by decide) ?_|refine VB.ff (by decide) ?_|refine VB.mk (fun hc=>?_) fun hc=>?_)|(show VC ..;first|refine xC (fun hg=>by exact hi1 _) ?_|refine xL (fun hg=>by exact hi1 _) ?_)|(show VI ..;refine xJ ?_)|(show VG ..;refine xG ?_)|(show VA ..;refine xA ?_)|(show VZ ..;refine .s ?_)|(show VE ..;refine .mk ?_))
 ·rw [hc,w1,w2];rfl
 rw [hc,cond_false,w1]
 obtain⟨g,hg⟩:∃g,qe0 l 5 (a+1) []=g:=⟨_,rfl⟩
 rw [hg]
 clear hi1 hc w1 w2
 refine VL.g (α:={ y:(Int×List Ex)×G6 // y.1.2.length≤5∧0≤y.1.1∧y.1.1≤l.length∧qe0 l (5-y.1.2.length) y.1.1 y.1.2=g }) (fun y=>[(0,.a (.sl (l.map Tok.at))),(1,.a (.v (.int .i64 y.1.1.1))),(4,.a (.ptr 0 0)),(5,oE 2 y.1.1.2)]) (fun y=>oB [.cell (G8.at ⟨St.zero,[],[],0,0,0⟩)] [.cell (G6.rw y.1.2)] 4 Ex.at y.1.1.2) (fun y=>5-y.1.1.2.length) ⟨((a+1,[]),⟨Ex.zero,0,0,0⟩),Nat.zero_le _,by dsimp only;omega,by dsimp only;omega,hg⟩ ⟨rfl,rfl,rfl,rfl,trivial⟩ rfl ?_
 clear hg h0 h1
 rintro⟨⟨⟨b,out⟩,g0⟩,hol,hb0,hb1,hg⟩
 dsimp only at hol hb0 hb1 hg ⊢
 obtain⟨hp,gp⟩:=hl.p6 b hb0 hb1
 rw [qiy] at hg
 generalize p6 l b=q at *
 have hi:=fun s=>qdf l q.next s hL
 have eb:=qbc l 6 b hL
 have en:=qbc l 3 q.next hL
 have wn:q.err=0→IntKind.i64.wrap (q.next+1)=q.next+1:=fun h=>by obtain⟨_,_,g1,g2,_⟩:=gp h;exact qah (by omega) (by omega)
 cases out with
 | nil =>
  rw [show ((([]:List Ex).length:Int)==5)=false from rfl,cond_false] at hg
  simp only [oE,oB]
  repeat' ((conv=>whnf);first|(show VD ..;refine .q ?_)|(show VK ..;refine xK ?_)|(show VB ..;first|refine VB.tt (by decide) ?_|refine VB.ff (by decide) ?_|refine VB.mk (fun hc=>?_) fun hc=>?_)|(show VC ..;first|refine xC (fun hg=>by first|exact hp|exact hi _|exact eb|exact en) ?_|refine xL (fun hg=>by first|exact hp|exact hi _|exact eb|exact en) ?_)|(show VI ..;refine xJ ?_)|(show VG ..;refine xG ?_)|(show VA ..;refine xA ?_)|(show VZ ..;refine .s ?_)|(show VE ..;refine .mk ?_))
  all_goals clear hp hi eb en
  all_goals try (conv=>whnf)
  ·rw [hc] at hg;subst hg;rfl
  ·rename_i e1
   rw [e1,hc] at hg
   subst hg
   rw [wn (by simpa using e1)]
   simp only [G8.at,cond_true,cond_false,List.nil_append,List.map_cons,List.map_nil,Ex.at_rw];rfl
  ·rename_i e1 e2
   rw [e1,e2,hc] at hg;subst hg;rfl
  ·rename_i e1 e2
   obtain⟨_,_,g1,g2,_⟩:=gp (by simpa using e1)
   have w:=wn (by simpa using e1)
   have hlt:=qam (qad l) (a:=q.next) (by simpa using hc)
   rw [e1,e2,hc] at hg
   exact⟨⟨((q.next+1,[q.e]),q),Nat.le_of_ble_eq_true rfl,by dsimp only;omega,by dsimp only;omega,hg⟩,[],Nat.le_of_ble_eq_true rfl,Nat.le_of_ble_eq_true rfl,⟨rfl,congrArg (fun z=>D.a (.v (.int .i64 z))) w,rfl,rfl,trivial⟩,by simp only [oB,List.map_cons,List.map_nil,Ex.at_rw];rfl,rfl,rfl⟩
 | cons x r =>
  have hrl:r.length≤4:=by simpa using hol
  simp only [oE,oB]
  rcases (show r.length=4∨r.length≤3 by omega) with h3|h3
  ·have h4:(((List.map Ex.at (x::r)).length:Int)==5)=true:=by rw [List.length_map,List.length_cons,h3];rfl
   have h5:(((x::r).length:Int)==5)=true:=by rw [List.length_cons,h3];rfl
   repeat' ((conv=>whnf);first|(show VD ..;refine .q ?_)|(show VK ..;refine xK ?_)|(show VB ..;first|refine VB.tt (by exact h4) ?_|refine VB.ff (by exact h4) ?_|refine VB.mk (fun hc=>?_) fun hc=>?_)|(show VC ..;first|refine xC (fun hg=>by first|exact hp|exact hi _|exact eb|exact en) ?_|refine xL (fun hg=>by first|exact hp|exact hi _|exact eb|exact en) ?_)|(show VI ..;refine xJ ?_)|(show VG ..;refine xG ?_)|(show VA ..;refine xA ?_)|(show VZ ..;refine .s ?_)|(show VE ..;refine .mk ?_))
   rw [h5] at hg;subst hg;rfl
  ·have h4:(((List.map Ex.at (x::r)).length:Int)==5)=false:=by simp only [List.length_map,List.length_cons,beq_eq_false_iff_ne];omega
   have h5:(((x::r).length:Int)==5)=false:=by simp only [List.length_cons,beq_eq_false_iff_ne];omega
   obtain⟨k,hk,hk2⟩:∃k,5-(x::r).length=k+1∧5-(r.length+2)=k:=⟨3-r.length,by rw [List.length_cons];omega,by omega⟩
   rw [hk,h5] at hg
   repeat' ((conv=>whnf);first|(show VD ..;refine .q ?_)|(show VK ..;refine xK ?_)|(show VB ..;first|refine VB.tt (by exact h4) ?_|refine VB.ff (by exact h4) ?_|refine VB.mk (fun hc=>?_) fun hc=>?_)|(show VC ..;first|refine xC (fun hg=>by first|exact hp|exact hi _|exact eb|exact en) ?_|refine xL (fun hg=>by first|exact hp|exact hi _|exact eb|exact en) ?_)|(show VI ..;refine xJ ?_)|(show VG ..;refine xG ?_)|(show VA ..;refine xA ?_)|(show VZ ..;refine .s ?_)|(show VE ..;refine .mk ?_))
   all_goals clear hp hi eb en
   all_goals try (conv=>whnf)
   ·rw [hc] at hg;subst hg;rfl
   ·rename_i e1
    rw [e1,hc] at hg
    subst hg
    rw [wn (by simpa using e1)]
    simp only [G8.at,cond_true,cond_false,List.map_append,List.cons_append,List.map_cons,List.map_nil,Ex.at_rw];rfl
   ·rename_i e1 e2
    rw [e1,e2,hc] at hg;subst hg;rfl
   ·rename_i e1 e2
    obtain⟨_,_,g1,g2,_⟩:=gp (by simpa using e1)
    have w:=wn (by simpa using e1)
    have hlt:=qam (qad l) (a:=q.next) (by simpa using hc)
    rw [e1,e2,hc] at hg
    exact⟨⟨((q.next+1,x::r++[q.e]),g0),by simp only [List.length_append,List.length_cons,List.length_nil];omega,by dsimp only;omega,by dsimp only;omega,by simp only [List.length_append,List.length_cons,List.length_nil];rw [hk2];exact hg⟩,[.cell (G6.rw q)],by simp only [List.length_append,List.length_cons,List.length_nil] at *;omega,Nat.le_of_ble_eq_true rfl,⟨rfl,congrArg (fun z=>D.a (.v (.int .i64 z))) w,rfl,by simp only [oE,List.cons_append,List.length_append,List.length_cons,List.length_nil];rfl,trivial⟩,by simp only [oB,List.cons_append,List.nil_append,List.length_append,List.length_cons,List.length_nil,List.map_cons,List.map_append,List.map_nil,Ex.at_rw];rfl,rfl,rfl⟩
end
section
section
variable (l:List Tok) (ps:List (List UInt8))
def pyS (a:Int) (s:St):St:={ s with y:=(nowT l a).text,name:=(nowT l (a+2)).text }
noncomputable def pt8 (a:Int) (s:St):G8 :=
 bif (nowT l (a+2)).kind != 1 then bad8 l 3 (a+2)
 else bif isT (nowT l (a+3)) [40] then
  (bif (qdz l (a+3)).err != 0 then qdz l (a+3) else end8 l (qdz l (a+3)).next { pyS l a s with kind:=4,args:=(qdz l (a+3)).a })
 else bif !(s.x==[]) then end8 l (a+3) { pyS l a s with kind:=2 }
 else bif !isT (nowT l (a+3)) [61] then bad8 l 3 (a+3)
 else bif (p6 l (a+4)).err != 0 then flt8 (p6 l (a+4)).err (p6 l (a+4)).fat
 else end8 l (p6 l (a+4)).next { pyS l a s with kind:=3,e:=(p6 l (a+4)).e }
def typ8 (a:Int) (s:St):G8 :=
 bif (par7 l ps (a+1) (isT (nowT l a) [99,97,115,116])).err != 0 then flt8 (par7 l ps (a+1) (isT (nowT l a) [99,97,115,116])).err (par7 l ps (a+1) (isT (nowT l a) [99,97,115,116])).fat
 else bif (par7 l ps (a+1) (isT (nowT l a) [99,97,115,116])).t.kind != 2 then bad8 l 3 (a+1)
 else bif !isT (nowT l a) [99,97,115,116] then end8 l (par7 l ps (a+1) (isT (nowT l a) [99,97,115,116])).next { s with kind:=5,ty:=(par7 l ps (a+1) (isT (nowT l a) [99,97,115,116])).t }
 else bif (nowT l (par7 l ps (a+1) (isT (nowT l a) [99,97,115,116])).next).kind==1 then end8 l ((par7 l ps (a+1) (isT (nowT l a) [99,97,115,116])).next+1) { s with kind:=6,ty:=(par7 l ps (a+1) (isT (nowT l a) [99,97,115,116])).t,e:=⟨2,0,(nowT l (par7 l ps (a+1) (isT (nowT l a) [99,97,115,116])).next).text,[]⟩ }
 else bif isT (nowT l (par7 l ps (a+1) (isT (nowT l a) [99,97,115,116])).next) [116,104,105,115] then end8 l ((par7 l ps (a+1) (isT (nowT l a) [99,97,115,116])).next+1) { s with kind:=6,ty:=(par7 l ps (a+1) (isT (nowT l a) [99,97,115,116])).t,e:=⟨3,0,[],[]⟩ }
 else bif isT (nowT l (par7 l ps (a+1) (isT (nowT l a) [99,97,115,116])).next) [110,117,108,108] then end8 l ((par7 l ps (a+1) (isT (nowT l a) [99,97,115,116])).next+1) { s with kind:=6,ty:=(par7 l ps (a+1) (isT (nowT l a) [99,97,115,116])).t,e:=⟨4,0,[],[]⟩ }
 else bad8 l 3 (par7 l ps (a+1) (isT (nowT l a) [99,97,115,116])).next
noncomputable def set8 (a:Int) (s:St):G8 :=
 bif isT (nowT l a) [110,101,119]||isT (nowT l a) [99,97,115,116] then typ8 l ps a s
 else bif isT (nowT l a) [109,111,118,101] then (bif (nowT l (a+1)).kind != 1 then bad8 l 3 (a+1) else end8 l (a+2) { s with kind:=7,y:=(nowT l (a+1)).text })
 else bif whoD l a&&isT (nowT l (a+1)) [46] then pt8 l a s
 else bif (p6 l a).err != 0 then flt8 (p6 l a).err (p6 l a).fat
 else end8 l (p6 l a).next { s with kind:=1,e:=(p6 l a).e }
end
/-! ### What was read -/
def GotA (N a:Int) (g:G8):Prop:=g.err=0→g.a.length≤5∧(∀e∈g.a,e.rightB=true)∧a+1<g.next∧g.next≤N∧(Ex.szs g.a:Int)≤21*(g.next-a-1)∧g.fat=0
theorem szs_app:∀(l m:List Ex),Ex.szs (l++m)=Ex.szs l+Ex.szs m
 | [],m=>by rw [List.nil_append,Ex.szs];omega
 | e::r,m=>by rw [List.cons_append,Ex.szs,Ex.szs,szs_app r m];omega
theorem Got6.right {N a:Int} {g:G6} (h:Got6 N a g) (he:g.err=0):g.e.rightB=true:=by
 obtain⟨h1,h2,_⟩:=h he
 unfold Ex.rightB
 rw [h1];simp [h2]
section
variable {l:List Tok} (hl:Toks l)
include hl
theorem argsF_ok:∀(k:Nat) (a:Int) (out:List Ex) (b:Int),out.length+k=5→0≤a→a≤l.length→b≤a→(∀e∈out,e.rightB=true)→(Ex.szs out:Int)≤21*(a-b)→(qe0 l k a out).err=0→(qe0 l k a out).a.length≤5∧(∀e∈(qe0 l k a out).a,e.rightB=true)∧a<(qe0 l k a out).next∧(qe0 l k a out).next≤l.length∧(Ex.szs (qe0 l k a out).a:Int)≤21*((qe0 l k a out).next-b)∧(qe0 l k a out).fat=0:=by
 intro k
 induction k with
 | zero =>
  intro a out b hk h0 h1 hb ho hs h
  rw [qiy] at h
  rw [show ((out.length:Int)==5)=true by simp;omega,cond_true] at h
  exact absurd h (by show (6:Int)≠0;decide)
 | succ k ih =>
  intro a out b hk h0 h1 hb ho hs h
  rw [qiy] at h ⊢
  obtain⟨_,gp⟩:=hl.p6 a h0 h1
  rw [show ((out.length:Int)==5)=false by simp;omega,cond_false] at h ⊢
  cases c1:(p6 l a).err != 0 with
  | true=>rw [c1,cond_true] at h;exact absurd h (by show ¬(p6 l a).err=0;simpa using c1)
  | false =>
   rw [c1,cond_false] at h
   rw [cond_false]
   have e0:(p6 l a).err=0:=by simpa using c1
   obtain⟨_,_,g3,g4,g5,_⟩:=gp e0
   have hr:=gp.right e0
   have ho2:∀e∈out++[(p6 l a).e],e.rightB=true:=fun e hm=>by
    rcases List.mem_append.1 hm with hm|hm
    ·exact ho e hm
    ·rw [List.mem_singleton] at hm;subst hm;exact hr
   have hs2:Ex.szs (out++[(p6 l a).e])=Ex.szs out+(p6 l a).e.sz:=by rw [szs_app,Ex.szs,Ex.szs];omega
   cases c2:isT (nowT l (p6 l a).next) [41] with
   | true =>
    have hlt:=qam (qad l) c2
    rw [cond_true]
    refine⟨by rw [List.length_append,List.length_singleton];omega,ho2,by dsimp only;omega,by dsimp only;omega,?_,rfl⟩
    dsimp only
    rw [hs2];push_cast;omega
   | false =>
    rw [c2,cond_false] at h
    rw [cond_false]
    cases c3:isT (nowT l (p6 l a).next) [44] with
    | false=>rw [c3] at h;exact absurd h (by show (3:Int)≠0;decide)
    | true =>
     have hlt:=qam (qad l) c3
     rw [c3] at h
     have:=ih ((p6 l a).next+1) (out++[(p6 l a).e]) b (by rw [List.length_append,List.length_singleton];omega) (by omega) (by omega) (by omega) ho2 (by rw [hs2];push_cast;omega) h
     obtain⟨q1,q2,q3,q4,q5,q6⟩:=this
     exact⟨q1,q2,by show a<(qe0 l k ((p6 l a).next+1) (out++[(p6 l a).e])).next;omega,q4,q5,q6⟩
theorem qiz (a:Int) (h0:0≤a) (h1:a<l.length):GotA l.length a (qdz l a):=by
 unfold qdz
 cases c1:isT (nowT l (a+1)) [41] with
 | true =>
  have hlt:=qam (qad l) c1
  rw [cond_true]
  exact fun _=>⟨Nat.zero_le _,fun e he=>by simp at he,by dsimp only;omega,by dsimp only;omega,by show ((Ex.szs []:Nat):Int)≤_;rw [Ex.szs];dsimp only;omega,rfl⟩
 | false =>
  rw [cond_false]
  intro h
  obtain⟨q1,q2,q3,q4,q5,q6⟩:=argsF_ok hl 5 (a+1) [] (a+1) rfl (by omega) (by omega) (by omega) (fun _ h=>by cases h) (by rw [Ex.szs];omega) h
  exact⟨q1,q2,by omega,q4,by omega,q6⟩
end
end
section
set_option maxRecDepth 100000
attribute [local irreducible] nowT isT bad8 p6 qdz par7 end8 pt8 typ8
theorem qlu (l:List Tok) (hl:Toks l) (a:Int) (s:St) (h0:0≤a) (h1:a≤l.length):qaa Tryz.prog 110 [.a (.sl (l.map Tok.at)),.a (.v (.int .i64 a)),.r (St.rw s)] (.r (G8.at (pt8 l a s))):=by
 have hlen:=hl.len
 have hL:l.length≤1048576:=by omega
 have w2:IntKind.i64.wrap (a+2)=a+2:=qah (by omega) (by omega)
 have w3:IntKind.i64.wrap (a+3)=a+3:=qah (by omega) (by omega)
 have w4:IntKind.i64.wrap (a+4)=a+4:=qah (by omega) (by omega)
 have hT0:=qdx l a hL
 have hT2:qaa Tryz.prog 106 [.a (.sl (l.map Tok.at)),.a (.v (.int .i64 (IntKind.i64.wrap (a+2))))] (.r (Tok.at (nowT l (a+2)))):=by rw [w2];exact qdx l (a+2) hL
 have hi:∀s,qaa Tryz.prog 109 [.a (.sl (l.map Tok.at)),.a (.v (.int .i64 (IntKind.i64.wrap (a+3)))),.a (.v (.string (bs s)))] (.a (.v (.bool (isT (nowT l (a+3)) s)))):=fun s=>by rw [w3];exact qdf l (a+3) s hL
 have e2:qaa Tryz.prog 107 [.a (.v (.int .i64 3)),.a (.sl (l.map Tok.at)),.a (.v (.int .i64 (IntKind.i64.wrap (a+2))))] (.r (G8.at (bad8 l 3 (a+2)))):=by rw [w2];exact qbc l 3 (a+2) hL
 have e3:qaa Tryz.prog 107 [.a (.v (.int .i64 3)),.a (.sl (l.map Tok.at)),.a (.v (.int .i64 (IntKind.i64.wrap (a+3))))] (.r (G8.at (bad8 l 3 (a+3)))):=by rw [w3];exact qbc l 3 (a+3) hL
 have hA:isT (nowT l (a+3)) [40]=true→qaa Tryz.prog 120 [.a (.sl (l.map Tok.at)),.a (.v (.int .i64 (IntKind.i64.wrap (a+3))))] (.r (G8.at (qdz l (a+3))))∧GotA l.length (a+3) (qdz l (a+3)):=fun h=>by
  have hlt:=qam (qad l) h
  rw [w3];exact⟨pd8args l hl (a+3) (by omega) hlt,qiz hl (a+3) (by omega) hlt⟩
 have hP:(!isT (nowT l (a+3)) [61])=false→qaa Tryz.prog 114 [.a (.sl (l.map Tok.at)),.a (.v (.int .i64 (IntKind.i64.wrap (a+4))))] (.r (G6.rw (p6 l (a+4))))∧Got6 l.length (a+4) (p6 l (a+4)):=fun h=>by
  have hlt:=qam (qad l) (a:=a+3) (by simpa using h)
  rw [w4];exact hl.p6 (a+4) (by omega) (by omega)
 have hE2:=qd6 l (a+3) { pyS l a s with kind:=2 } hL (by omega) (by omega)
 rw [←w3] at hE2
 unfold pt8
 generalize qdz l (a+3)=ga at *
 generalize p6 l (a+4)=gq at *
 have hE1:isT (nowT l (a+3)) [40]=true→(ga.err != 0)=false→qaa Tryz.prog 112 [.a (.sl (l.map Tok.at)),.a (.v (.int .i64 ga.next)),.r (St.rw { pyS l a s with kind:=4,args:=ga.a })] (.r (G8.at (end8 l ga.next { pyS l a s with kind:=4,args:=ga.a }))):=fun hi he=>by
  obtain⟨_,_,q3,q4,_⟩:=(hA hi).2 (by simpa using he)
  exact qd6 l _ _ hL (by omega) (by omega)
 have hE3:(!isT (nowT l (a+3)) [61])=false→(gq.err != 0)=false→qaa Tryz.prog 112 [.a (.sl (l.map Tok.at)),.a (.v (.int .i64 gq.next)),.r (St.rw { pyS l a s with kind:=3,e:=gq.e })] (.r (G8.at (end8 l gq.next { pyS l a s with kind:=3,e:=gq.e }))):=fun hi he=>by
  obtain⟨_,_,q3,q4,_⟩:=(hP hi).2 (by simpa using he)
  exact qd6 l _ _ hL (by omega) (by omega)
 refine qaa.vx [0,1,2,5,6,7,8,19,33,41,54,65,77] Tryz.func110 rfl Tryz.ntmps110 rfl rfl rfl (fun C hro hst=>?_)
 repeat' ((conv=>whnf);first|(show VD ..;refine .q ?_)|(show VK ..;refine xK ?_)|(show VB ..;first|refine VB.tt (by decide) ?_|refine VB.ff (by decide) ?_|refine VB.mk (fun hc=>?_) fun hc=>?_)|(show VC ..;first|refine xC (fun hg=>by first|exact hT0|exact hT2|exact hi _|exact e2|exact e3|exact (hA hc).1|exact (hP hc).1|exact hE2|exact hE1 (by assumption) hc|exact hE3 (by assumption) hc) ?_|refine xL (fun hg=>by first|exact hT0|exact hT2|exact hi _|exact e2|exact e3|exact (hA hc).1|exact (hP hc).1|exact hE2|exact hE1 (by assumption) hc|exact hE3 (by assumption) hc) ?_)|(show VI ..;refine xJ ?_)|(show VG ..;refine xG ?_)|(show VA ..;refine xA ?_)|(show VZ ..;refine .s ?_)|(show VE ..;refine .mk ?_))
 all_goals clear hT0 hT2 hi e2 e3 hA hP hE1 hE2 hE3
 all_goals simp only [w2,w3,w4,qec,qac] at *
 all_goals simp_all only [cond_true,cond_false,Bool.not_true,Bool.not_false,Bool.not_eq_true',Bool.not_eq_false']
 all_goals first|rfl|trace_state
end
section
set_option maxRecDepth 100000
attribute [local irreducible] nowT isT bad8 p6 qdz par7 end8 pt8 typ8
theorem pd8typed (l:List Tok) (hl:Toks l) (ps:List (List UInt8)) (hn:ps.length≤1048576) (a:Int) (s:St) (h0:0≤a) (h1:a<l.length):qaa Tryz.prog 121 [.a (.sl (l.map Tok.at)),.a (.v (.int .i64 a)),.r (St.rw s),.a (.sl (ps.map qaj))] (.r (G8.at (typ8 l ps a s))):=by
 have hlen:=hl.len
 have hL:l.length≤1048576:=by omega
 have w1:IntKind.i64.wrap (a+1)=a+1:=qah (by omega) (by omega)
 have hi0:=qdf l a [99,97,115,116] hL
 have e1:qaa Tryz.prog 107 [.a (.v (.int .i64 3)),.a (.sl (l.map Tok.at)),.a (.v (.int .i64 (IntKind.i64.wrap (a+1))))] (.r (G8.at (bad8 l 3 (a+1)))):=by rw [w1];exact qbc l 3 (a+1) hL
 have hG:∀b,qaa Tryz.prog 62 [.a (.sl (l.map Tok.at)),.a (.v (.int .i64 (IntKind.i64.wrap (a+1)))),.a (.sl (ps.map qaj)),.a (.v (.bool b))] (.r (G7.at (par7 l ps (a+1) b))):=fun b=>by rw [w1];exact qcf l ps (a+1) b (by omega) hn (by omega) (by omega)
 have gg:∀b,GotT l.length (a+1) ps.length (par7 l ps (a+1) b):=fun b=>qb1 (qad l) hl.name (a+1) b
 have hend:∀(z:Int) (s:St),0≤z→z≤1048576→qaa Tryz.prog 112 [.a (.sl (l.map Tok.at)),.a (.v (.int .i64 z)),.r (St.rw s)] (.r (G8.at (end8 l z s))):=fun z s h1 h2=>qd6 l z s hL h1 h2
 unfold typ8
 cases c:isT (nowT l a) [99,97,115,116] with
 | false =>
  rw [c] at hi0
  have hG:=hG false
  have gg:=gg false
  generalize par7 l ps (a+1) false=g at *
  have hE:(g.err != 0)=false→qaa Tryz.prog 112 [.a (.sl (l.map Tok.at)),.a (.v (.int .i64 g.next)),.r (St.rw { s with kind:=5,ty:=g.t })] (.r (G8.at (end8 l g.next { s with kind:=5,ty:=g.t }))):=fun h=>by
   obtain⟨_,_,q3,q4,_⟩:=gg (by simpa using h)
   exact hend _ _ (by omega) (by omega)
  refine qaa.vx [0,1,2,3,6,8,9,10,14,27,34,44,56,64,70] Tryz.func121 rfl Tryz.ntmps121 rfl rfl rfl (fun C hro hst=>?_)
  repeat' ((conv=>whnf);first|(show VD ..;refine .q ?_)|(show VK ..;refine xK ?_)|(show VB ..;first|refine VB.tt (by first|decide|rfl) ?_|refine VB.ff (by first|decide|rfl) ?_|refine VB.mk (fun hc=>?_) fun hc=>?_)|(show VC ..;first|refine xC (fun hg=>by first|exact hi0|exact e1|exact hG|exact hE (by assumption)) ?_|refine xL (fun hg=>by first|exact hi0|exact e1|exact hG|exact hE (by assumption)) ?_)|(show VI ..;refine xJ ?_)|(show VG ..;refine xG ?_)|(show VA ..;refine xA ?_)|(show VZ ..;refine .s ?_)|(show VE ..;refine .mk ?_))
  all_goals clear hi0 e1 hG gg hE hend
  all_goals simp_all only [cond_true,cond_false,Bool.not_true,Bool.not_false,Bool.not_eq_true',Bool.not_eq_false']
  all_goals first|rfl|trace_state
 | true =>
  rw [c] at hi0
  have hG:=hG true
  have gg:=gg true
  generalize par7 l ps (a+1) true=g at *
  have hT:=qdx l g.next hL
  have hi:=fun s=>qdf l g.next s hL
  have e2:=qbc l 3 g.next hL
  have wg:(g.err != 0)=false→IntKind.i64.wrap (g.next+1)=g.next+1:=fun h=>by
   obtain⟨_,_,q3,q4,_⟩:=gg (by simpa using h)
   exact qah (by omega) (by omega)
  have hE:∀e,(g.err != 0)=false→qaa Tryz.prog 112 [.a (.sl (l.map Tok.at)),.a (.v (.int .i64 (IntKind.i64.wrap (g.next+1)))),.r (St.rw { s with kind:=6,ty:=g.t,e:=e })] (.r (G8.at (end8 l (g.next+1) { s with kind:=6,ty:=g.t,e:=e }))):=fun e h=>by
   rw [wg h]
   obtain⟨_,_,q3,q4,_⟩:=gg (by simpa using h)
   exact hend _ _ (by omega) (by omega)
  have hE2:=hE ⟨2,0,(nowT l g.next).text,[]⟩
  have hE3:=hE ⟨3,0,[],[]⟩
  have hE4:=hE ⟨4,0,[],[]⟩
  refine qaa.vx [0,1,2,3,6,8,9,10,14,27,34,44,56,64,70] Tryz.func121 rfl Tryz.ntmps121 rfl rfl rfl (fun C hro hst=>?_)
  repeat' ((conv=>whnf);first|(show VD ..;refine .q ?_)|(show VK ..;refine xK ?_)|(show VB ..;first|refine VB.tt (by first|decide|rfl) ?_|refine VB.ff (by first|decide|rfl) ?_|refine VB.mk (fun hc=>?_) fun hc=>?_)|(show VC ..;first|refine xC (fun hg=>by first|exact hi0|exact e1|exact e2|exact hG|exact hT|exact hi _|exact hE2 (by assumption)|exact hE3 (by assumption)|exact hE4 (by assumption)) ?_|refine xL (fun hg=>by first|exact hi0|exact e1|exact e2|exact hG|exact hT|exact hi _|exact hE2 (by assumption)|exact hE3 (by assumption)|exact hE4 (by assumption)) ?_)|(show VI ..;refine xJ ?_)|(show VG ..;refine xG ?_)|(show VA ..;refine xA ?_)|(show VZ ..;refine .s ?_)|(show VE ..;refine .mk ?_))
  all_goals clear hi0 e1 e2 hG hT hi gg hE hE2 hE3 hE4 hend
  all_goals simp_all only [cond_true,cond_false,Bool.not_true,Bool.not_false,Bool.not_eq_true',Bool.not_eq_false']
  all_goals first|rfl|trace_state
theorem pd8sets (l:List Tok) (hl:Toks l) (ps:List (List UInt8)) (hn:ps.length≤1048576) (a:Int) (s:St) (h0:0≤a) (h1:a≤l.length):qaa Tryz.prog 111 [.a (.sl (l.map Tok.at)),.a (.v (.int .i64 a)),.r (St.rw s),.a (.sl (ps.map qaj))] (.r (G8.at (set8 l ps a s))):=by
 have hlen:=hl.len
 have hL:l.length≤1048576:=by omega
 have w1:IntKind.i64.wrap (a+1)=a+1:=qah (by omega) (by omega)
 have w2:IntKind.i64.wrap (a+2)=a+2:=qah (by omega) (by omega)
 have hi0:=fun s=>qdf l a s hL
 have hi1:∀s,qaa Tryz.prog 109 [.a (.sl (l.map Tok.at)),.a (.v (.int .i64 (IntKind.i64.wrap (a+1)))),.a (.v (.string (bs s)))] (.a (.v (.bool (isT (nowT l (a+1)) s)))):=fun s=>by rw [w1];exact qdf l (a+1) s hL
 have hT1:qaa Tryz.prog 106 [.a (.sl (l.map Tok.at)),.a (.v (.int .i64 (IntKind.i64.wrap (a+1))))] (.r (Tok.at (nowT l (a+1)))):=by rw [w1];exact qdx l (a+1) hL
 have e1:qaa Tryz.prog 107 [.a (.v (.int .i64 3)),.a (.sl (l.map Tok.at)),.a (.v (.int .i64 (IntKind.i64.wrap (a+1))))] (.r (G8.at (bad8 l 3 (a+1)))):=by rw [w1];exact qbc l 3 (a+1) hL
 have hW:=qlt l a hL
 have hT:(bif isT (nowT l a) [110,101,119] then true else isT (nowT l a) [99,97,115,116])=true→qaa Tryz.prog 121 [.a (.sl (l.map Tok.at)),.a (.v (.int .i64 a)),.r (St.rw s),.a (.sl (ps.map qaj))] (.r (G8.at (typ8 l ps a s))):=fun h=>by
  have hlt:a<l.length:=by
   rw [Bool.cond_true_left,Bool.or_eq_true] at h
   rcases h with h|h<;>exact qam (qad l) h
  exact pd8typed l hl ps hn a s h0 hlt
 have hP:=qlu l hl a s h0 h1
 obtain⟨hQ,gq⟩:=hl.p6 a h0 h1
 have hE7:qaa Tryz.prog 112 [.a (.sl (l.map Tok.at)),.a (.v (.int .i64 (IntKind.i64.wrap (a+2)))),.r (St.rw { s with kind:=7,y:=(nowT l (a+1)).text })] (.r (G8.at (end8 l (a+2) { s with kind:=7,y:=(nowT l (a+1)).text }))):=by rw [w2];exact qd6 l _ _ hL (by omega) (by omega)
 unfold set8
 generalize p6 l a=q at *
 have hE1:(q.err != 0)=false→qaa Tryz.prog 112 [.a (.sl (l.map Tok.at)),.a (.v (.int .i64 q.next)),.r (St.rw { s with kind:=1,e:=q.e })] (.r (G8.at (end8 l q.next { s with kind:=1,e:=q.e }))):=fun h=>by
  obtain⟨_,_,q3,q4,_⟩:=gq (by simpa using h)
  exact qd6 l _ _ hL (by omega) (by omega)
 refine qaa.vx [0,1,2,3,6,8,9,17,25,31,56,67] Tryz.func111 rfl Tryz.ntmps111 rfl rfl rfl (fun C hro hst=>?_)
 repeat' ((conv=>whnf);first|(show VD ..;refine .q ?_)|(show VK ..;refine xK ?_)|(show VB ..;first|refine VB.tt (by decide) ?_|refine VB.ff (by decide) ?_|refine VB.mk (fun hc=>?_) fun hc=>?_)|(show VC ..;first|refine xC (fun hg=>by first|exact hi0 _|exact hi1 _|exact hT1|exact e1|exact hW|exact hT (by assumption)|exact hP|exact hQ|exact hE7|exact hE1 (by assumption)) ?_|refine xL (fun hg=>by first|exact hi0 _|exact hi1 _|exact hT1|exact e1|exact hW|exact hT (by assumption)|exact hP|exact hQ|exact hE7|exact hE1 (by assumption)) ?_)|(show VI ..;refine xJ ?_)|(show VG ..;refine xG ?_)|(show VA ..;refine xA ?_)|(show VZ ..;refine .s ?_)|(show VE ..;refine .mk ?_))
 all_goals clear hi0 hi1 hT1 e1 hW hT hP hQ gq hE7 hE1
 all_goals simp only [Bool.cond_true_left,Bool.cond_false_right] at *
 all_goals simp_all only [cond_true,cond_false,Bool.not_true,Bool.not_false,Bool.not_eq_true',Bool.not_eq_false']
 all_goals first|rfl|trace_state
end
section
section
variable (l:List Tok) (ps:List (List UInt8))
noncomputable def ask8 (bl:Int→Int→G8) (a nest:Int) (s:St):G8 :=
 bif !isT (nowT l (a+1)) [40] then bad8 l 3 (a+1)
 else bif (p6 l (a+2)).err != 0 then flt8 (p6 l (a+2)).err (p6 l (a+2)).fat
 else bif !isT (nowT l (p6 l (a+2)).next) [41] then bad8 l 3 (p6 l (a+2)).next
 else bif (bl ((p6 l (a+2)).next+1) (nest+1)).err != 0 then bl ((p6 l (a+2)).next+1) (nest+1)
 else bif !isT (nowT l a) [119,104,105,108,101]&&isT (nowT l (bl ((p6 l (a+2)).next+1) (nest+1)).next) [101,108,115,101] then
  (bif (bl ((bl ((p6 l (a+2)).next+1) (nest+1)).next+1) (nest+1)).err != 0 then bl ((bl ((p6 l (a+2)).next+1) (nest+1)).next+1) (nest+1)
  else ⟨{ s with kind:=9,e:=(p6 l (a+2)).e,body:=(bl ((p6 l (a+2)).next+1) (nest+1)).l,els:=(bl ((bl ((p6 l (a+2)).next+1) (nest+1)).next+1) (nest+1)).l },[],[],(bl ((bl ((p6 l (a+2)).next+1) (nest+1)).next+1) (nest+1)).next,0,0⟩)
 else ⟨{ s with kind:=bif isT (nowT l a) [119,104,105,108,101] then 10 else 9,e:=(p6 l (a+2)).e,body:=(bl ((p6 l (a+2)).next+1) (nest+1)).l },[],[],(bl ((p6 l (a+2)).next+1) (nest+1)).next,0,0⟩
def s0D (a:Int):St:={ St.zero with at_:=(nowT l a).pos }
noncomputable def par8 (ask:Int→Int→St→G8) (a nest:Int):G8 :=
 bif decide (nest≥20) then bad8 l 5 a
 else bif whoD l a&&isT (nowT l (a+1)) [46] then pt8 l a (s0D l a)
 else bif (nowT l a).kind==1 then (bif !isT (nowT l (a+1)) [61] then bad8 l 3 (a+1) else set8 l ps (a+2) { s0D l a with x:=(nowT l a).text })
 else bif isT (nowT l a) [116,104,105,115] then bad8 l 3 (a+1)
 else bif isT (nowT l a) [100,101,108,101,116,101] then (bif (nowT l (a+1)).kind != 1 then bad8 l 3 (a+1) else end8 l (a+2) { s0D l a with kind:=8,y:=(nowT l (a+1)).text })
 else bif isT (nowT l a) [105,102]||isT (nowT l a) [119,104,105,108,101] then ask a (max nest 0) (s0D l a)
 else bif !isT (nowT l a) [114,101,116,117,114,110] then bad8 l 3 a
 else bif isT (nowT l (a+1)) [59] then ⟨{ s0D l a with kind:=11 },[],[],a+2,0,0⟩
 else bif (p6 l (a+1)).err != 0 then flt8 (p6 l (a+1)).err (p6 l (a+1)).fat
 else end8 l (p6 l (a+1)).next { s0D l a with kind:=11,e:=(p6 l (a+1)).e }
def blk8 (r:Int→Int→List St→G8) (b m:Int):G8:=bif !isT (nowT l b) [123] then bad8 l 3 b else r (b+1) m []
noncomputable def row8:Nat→Int→Int→List St→G8
 | 0,a,_,_=>bad8 l 3 a
 | n+1,a,nest,out =>
  bif isT (nowT l a) [125] then ⟨St.zero,out,[],a+1,0,0⟩
  else bif (par8 l ps (ask8 l (blk8 l (row8 n))) a nest).err != 0 then par8 l ps (ask8 l (blk8 l (row8 n))) a nest
  else row8 n (par8 l ps (ask8 l (blk8 l (row8 n))) a nest).next nest (out++[(par8 l ps (ask8 l (blk8 l (row8 n))) a nest).s])
end
/-! ### It goes on -/
def Fw (N a:Int) (g:G8):Prop:=g.err=0→a<g.next∧g.next≤N
section
variable {l:List Tok} {ps:List (List UInt8)} (hl:Toks l)
theorem qcz {z a:Int} {s:St} (h:a≤z):Fw l.length a (end8 l z s):=by
 unfold end8
 cases c:isT (nowT l z) [59] with
 | false=>exact fun h=>absurd h (by show (3:Int)≠0;decide)
 | true =>
  have hlt:=qam (qad l) c
  exact fun _=>⟨by show a<z+1;omega,by show z+1≤_;omega⟩
theorem qbt {z a e:Int} (he:e≠0):Fw l.length a (bad8 l e z):=fun h=>absurd h he
theorem qg8 {N a e f:Int} (he:e≠0):Fw N a (flt8 e f):=fun h=>absurd h he
include hl
theorem pt8_fw {a:Int} {s:St} (h0:0≤a) (h1:a≤l.length):Fw l.length a (pt8 l a s):=by
 unfold pt8
 cases c1:(nowT l (a+2)).kind != 1 with
 | true=>exact qbt (by decide)
 | false =>
 cases c2:isT (nowT l (a+3)) [40] with
 | true =>
  have hlt:=qam (qad l) c2
  have hA:=qiz hl (a+3) (by omega) hlt
  simp only [cond_true,cond_false]
  cases c3:(qdz l (a+3)).err != 0 with
  | true=>exact fun h=>absurd h (by simpa using c3)
  | false =>
   obtain⟨_,_,q,_⟩:=hA (by simpa using c3)
   exact qcz (by omega)
 | false =>
 simp only [cond_true,cond_false]
 cases c3:s.x==[] with
 | false=>exact qcz (by omega)
 | true =>
 cases c4:isT (nowT l (a+3)) [61] with
 | false=>exact qbt (by decide)
 | true =>
 have hlt:=qam (qad l) c4
 have hq:=(hl.p6 (a+4) (by omega) (by omega)).2
 simp only [Bool.not_true,cond_false]
 cases c5:(p6 l (a+4)).err != 0 with
 | true=>exact qg8 (by simpa using c5)
 | false =>
  obtain⟨_,_,q,_⟩:=hq (by simpa using c5)
  exact qcz (by omega)
theorem typ8_fw {a:Int} {s:St}:Fw l.length a (typ8 l ps a s):=by
 have hg:=qb1 (qad l) hl.name (ps:=ps) (a+1) (isT (nowT l a) [99,97,115,116])
 unfold typ8
 generalize par7 l ps (a+1) (isT (nowT l a) [99,97,115,116])=g at *
 cases c1:g.err != 0 with
 | true=>exact qg8 (by simpa using c1)
 | false =>
 obtain⟨_,_,q,_⟩:=hg (by simpa using c1)
 cases c2:g.t.kind != 2 with
 | true=>exact qbt (by decide)
 | false =>
 cases c3:isT (nowT l a) [99,97,115,116] with
 | false=>exact qcz (by omega)
 | true =>
 cases c4:(nowT l g.next).kind==1 with
 | true=>exact qcz (by omega)
 | false =>
 cases c5:isT (nowT l g.next) [116,104,105,115] with
 | true=>exact qcz (by omega)
 | false =>
 cases c6:isT (nowT l g.next) [110,117,108,108] with
 | true=>exact qcz (by omega)
 | false=>exact qbt (by decide)
theorem set8_fw {a:Int} {s:St} (h0:0≤a) (h1:a≤l.length):Fw l.length a (set8 l ps a s):=by
 unfold set8
 cases c1:isT (nowT l a) [110,101,119]||isT (nowT l a) [99,97,115,116] with
 | true=>exact typ8_fw hl
 | false =>
 cases c2:isT (nowT l a) [109,111,118,101] with
 | true =>
  simp only [cond_true,cond_false]
  cases c3:(nowT l (a+1)).kind != 1 with
  | true=>exact qbt (by decide)
  | false=>exact qcz (by omega)
 | false =>
 cases c3:whoD l a&&isT (nowT l (a+1)) [46] with
 | true=>exact pt8_fw hl h0 h1
 | false =>
 have hq:=(hl.p6 a h0 h1).2
 simp only [cond_true,cond_false]
 cases c5:(p6 l a).err != 0 with
 | true=>exact qg8 (by simpa using c5)
 | false =>
  obtain⟨_,_,q,_⟩:=hq (by simpa using c5)
  exact qcz (by omega)
theorem qix {bl:Int→Int→G8} {a nest:Int} {s:St} (h0:0≤a) (hb:∀b,a<b→b≤l.length→Fw l.length b (bl b (nest+1))):Fw l.length a (ask8 l bl a nest s):=by
 unfold ask8
 cases c1:isT (nowT l (a+1)) [40] with
 | false=>exact qbt (by decide)
 | true =>
 have hlt:=qam (qad l) c1
 have hq:=(hl.p6 (a+2) (by omega) (by omega)).2
 simp only [Bool.not_true,cond_false]
 cases c2:(p6 l (a+2)).err != 0 with
 | true=>exact qg8 (by simpa using c2)
 | false =>
 obtain⟨_,_,q,q2,_⟩:=hq (by simpa using c2)
 cases c3:isT (nowT l (p6 l (a+2)).next) [41] with
 | false=>exact qbt (by decide)
 | true =>
 have hlt2:=qam (qad l) c3
 have hb1:=hb ((p6 l (a+2)).next+1) (by omega) (by omega)
 generalize hb1e:bl ((p6 l (a+2)).next+1) (nest+1)=b at *
 simp only [Bool.not_true,cond_false]
 cases c4:b.err != 0 with
 | true=>exact fun h=>absurd h (by simpa using c4)
 | false =>
 obtain⟨q3,q4⟩:=hb1 (by simpa using c4)
 cases c5 : !isT (nowT l a) [119,104,105,108,101]&&isT (nowT l b.next) [101,108,115,101] with
 | false=>exact fun _=>⟨by show a<b.next;omega,by show b.next≤_;omega⟩
 | true =>
  rw [Bool.and_eq_true] at c5
  have hlt3:=qam (qad l) c5.2
  have hb2:=hb (b.next+1) (by omega) (by omega)
  simp only [cond_true,cond_false]
  generalize bl (b.next+1) (nest+1)=e at *
  cases c6:e.err != 0 with
  | true=>exact fun h=>absurd h (by simpa using c6)
  | false =>
   obtain⟨q5,q6⟩:=hb2 (by simpa using c6)
   exact fun _=>⟨by show a<e.next;omega,by show e.next≤_;omega⟩
theorem qii {ask:Int→Int→St→G8} {a nest:Int} (h0:0≤a) (ha:∀s,a<l.length→Fw l.length a (ask a (max nest 0) s)):Fw l.length a (par8 l ps ask a nest):=by
 unfold par8
 cases c1:decide (nest≥20) with
 | true=>exact qbt (by decide)
 | false =>
 cases c2:whoD l a&&isT (nowT l (a+1)) [46] with
 | true =>
  rw [Bool.and_eq_true] at c2
  have hlt:=qam (qad l) c2.2
  exact pt8_fw hl h0 (by omega)
 | false =>
 cases c3:(nowT l a).kind==1 with
 | true =>
  simp only [cond_true,cond_false]
  cases c4:isT (nowT l (a+1)) [61] with
  | false=>exact qbt (by decide)
  | true =>
   have hlt:=qam (qad l) c4
   intro h
   have:=set8_fw hl (ps:=ps) (a:=a+2) (by omega) (by omega) h
   exact⟨Int.lt_trans (show a<a+2 by omega) this.1,this.2⟩
 | false =>
 cases c4:isT (nowT l a) [116,104,105,115] with
 | true=>exact qbt (by decide)
 | false =>
 cases c5:isT (nowT l a) [100,101,108,101,116,101] with
 | true =>
  simp only [cond_true,cond_false]
  cases c6:(nowT l (a+1)).kind != 1 with
  | true=>exact qbt (by decide)
  | false=>exact qcz (by omega)
 | false =>
 cases c6:isT (nowT l a) [105,102]||isT (nowT l a) [119,104,105,108,101] with
 | true =>
  have hlt:a<l.length:=by
   rw [Bool.or_eq_true] at c6
   rcases c6 with h|h<;>exact qam (qad l) h
  exact ha _ hlt
 | false =>
 cases c7:isT (nowT l a) [114,101,116,117,114,110] with
 | false=>exact qbt (by decide)
 | true =>
 have hlt:=qam (qad l) c7
 simp only [Bool.not_true,cond_false]
 cases c8:isT (nowT l (a+1)) [59] with
 | true =>
  have hlt2:=qam (qad l) c8
  exact fun _=>⟨by show a<a+2;omega,by show a+2≤_;omega⟩
 | false =>
 have hq:=(hl.p6 (a+1) (by omega) (by omega)).2
 simp only [cond_false]
 cases c9:(p6 l (a+1)).err != 0 with
 | true=>exact qg8 (by simpa using c9)
 | false =>
  obtain⟨_,_,q,_⟩:=hq (by simpa using c9)
  exact qcz (by omega)
theorem qic:∀(n:Nat) (a nest:Int) (out:List St),0≤a→Fw l.length a (row8 l ps n a nest out)
 | 0,a,nest,out,h0=>qbt (by decide)
 | n+1,a,nest,out,h0=>by
  rw [row8]
  cases c1:isT (nowT l a) [125] with
  | true =>
   have hlt:=qam (qad l) c1
   exact fun _=>⟨by show a<a+1;omega,by show a+1≤_;omega⟩
  | false =>
  have hb:∀b m,0≤b→Fw l.length b (blk8 l (row8 l ps n) b m):=fun b m hb=>by
   unfold blk8
   cases c:isT (nowT l b) [123] with
   | false=>exact qbt (by decide)
   | true =>
    intro h
    have:=qic n (b+1) m [] (by omega) h
    exact⟨by have:=this.1;show b<(row8 l ps n (b+1) m []).next;omega,this.2⟩
  have hp:=qii hl (ps:=ps) (ask:=ask8 l (blk8 l (row8 l ps n))) (a:=a) (nest:=nest) h0 fun s hlt=>qix hl h0 fun b h1 h2=>hb b _ (by omega)
  generalize par8 l ps (ask8 l (blk8 l (row8 l ps n))) a nest=g at *
  simp only [cond_false]
  cases c2:g.err != 0 with
  | true=>exact fun h=>absurd h (by simpa using c2)
  | false =>
   obtain⟨q1,q2⟩:=hp (by simpa using c2)
   intro h
   have:=qic n g.next nest (out++[g.s]) (by omega) h
   exact⟨by have:=this.1;show a<(row8 l ps n g.next nest (out++[g.s])).next;omega,this.2⟩
end
end
end Go.Proofs.YtfbopaaambkfkaaGreatDoor
