/- The document's reader of statements: if, while; statements. Conditions: at most 2^14 tokens, at most 2^20 parameters. -/
import Derived.Test.YtfbopaaambkfkaaGreatDoorMg33
set_option linter.unusedVariables false
set_option maxRecDepth 100000
set_option maxHeartbeats 8000000
set_option linter.unusedSimpArgs false
namespace Go.Proofs.YtfbopaaambkfkaaGreatDoor
open Go.RowKit
section
set_option maxRecDepth 100000
attribute [local irreducible] nowT isT bad8 p6 qdz par7 end8 pt8 typ8 set8 whoD
def Blk (l:List Tok) (ps:List (List UInt8)) (bl:Int→Int→G8) (a:Int):Prop:=∀b m:Int,a<b→b≤l.length→0≤m→m≤20→qaa Tryz.prog 122 [.a (.sl (l.map Tok.at)),.a (.v (.int .i64 b)),.a (.sl (ps.map qaj)),.a (.v (.int .i64 m))] (.r (G8.at (bl b m)))∧Fw l.length b (bl b m)
theorem pd8asks (l:List Tok) (hl:Toks l) (ps:List (List UInt8)) (bl:Int→Int→G8) (a nest:Int) (s:St) (h0:0≤a) (h1:a<l.length) (n0:0≤nest) (n1:nest<20) (hB:Blk l ps bl a):qaa Tryz.prog 113 [.a (.sl (l.map Tok.at)),.a (.v (.int .i64 a)),.r (St.rw s),.a (.sl (ps.map qaj)),.a (.v (.int .i64 nest))] (.r (G8.at (ask8 l bl a nest s))):=by
 have hlen:=hl.len
 have hL:l.length≤1048576:=by omega
 have w1:IntKind.i64.wrap (a+1)=a+1:=qah (by omega) (by omega)
 have w2:IntKind.i64.wrap (a+2)=a+2:=qah (by omega) (by omega)
 have wn:IntKind.i64.wrap (nest+1)=nest+1:=qah (by omega) (by omega)
 have hi0:=fun s=>qdf l a s hL
 have hi1:∀s,qaa Tryz.prog 109 [.a (.sl (l.map Tok.at)),.a (.v (.int .i64 (IntKind.i64.wrap (a+1)))),.a (.v (.string (bs s)))] (.a (.v (.bool (isT (nowT l (a+1)) s)))):=fun s=>by rw [w1];exact qdf l (a+1) s hL
 have e1:qaa Tryz.prog 107 [.a (.v (.int .i64 3)),.a (.sl (l.map Tok.at)),.a (.v (.int .i64 (IntKind.i64.wrap (a+1))))] (.r (G8.at (bad8 l 3 (a+1)))):=by rw [w1];exact qbc l 3 (a+1) hL
 have hP:(!isT (nowT l (a+1)) [40])=false→qaa Tryz.prog 114 [.a (.sl (l.map Tok.at)),.a (.v (.int .i64 (IntKind.i64.wrap (a+2))))] (.r (G6.rw (p6 l (a+2))))∧Got6 l.length (a+2) (p6 l (a+2)):=fun h=>by
  have hlt:=qam (qad l) (a:=a+1) (by simpa using h)
  rw [w2];exact hl.p6 (a+2) (by omega) (by omega)
 unfold ask8
 generalize p6 l (a+2)=q at *
 have hi2:=fun s=>qdf l q.next s hL
 have e2:=qbc l 3 q.next hL
 have hB1:(!isT (nowT l (a+1)) [40])=false→(q.err != 0)=false→(!isT (nowT l q.next) [41])=false→qaa Tryz.prog 122 [.a (.sl (l.map Tok.at)),.a (.v (.int .i64 (IntKind.i64.wrap (q.next+1)))),.a (.sl (ps.map qaj)),.a (.v (.int .i64 (IntKind.i64.wrap (nest+1))))] (.r (G8.at (bl (q.next+1) (nest+1))))∧Fw l.length (q.next+1) (bl (q.next+1) (nest+1)):=fun h2 h3 h4=>by
  obtain⟨_,_,q3,q4,_⟩:=(hP h2).2 (by simpa using h3)
  have hlt:=qam (qad l) (a:=q.next) (by simpa using h4)
  rw [wn,show IntKind.i64.wrap (q.next+1)=q.next+1 from qah (by omega) (by omega)]
  exact hB _ _ (by omega) (by omega) (by omega) (by omega)
 have hqa:(!isT (nowT l (a+1)) [40])=false→(q.err != 0)=false→a<q.next:=fun h2 h3=>by
  obtain⟨_,_,q3,q4,_⟩:=(hP h2).2 (by simpa using h3)
  omega
 generalize bl (q.next+1) (nest+1)=b at *
 have hi3:=fun s=>qdf l b.next s hL
 have hB2:(!isT (nowT l (a+1)) [40])=false→(q.err != 0)=false→(!isT (nowT l q.next) [41])=false→(b.err != 0)=false→isT (nowT l b.next) [101,108,115,101]=true→qaa Tryz.prog 122 [.a (.sl (l.map Tok.at)),.a (.v (.int .i64 (IntKind.i64.wrap (b.next+1)))),.a (.sl (ps.map qaj)),.a (.v (.int .i64 (IntKind.i64.wrap (nest+1))))] (.r (G8.at (bl (b.next+1) (nest+1)))):=fun h2 h3 h4 h5 h6=>by
  obtain⟨q5,q6⟩:=(hB1 h2 h3 h4).2 (by simpa using h5)
  have hlt:=qam (qad l) (a:=b.next) h6
  have:=hqa h2 h3
  rw [wn,show IntKind.i64.wrap (b.next+1)=b.next+1 from qah (by omega) (by omega)]
  exact (hB _ _ (by omega) (by omega) (by omega) (by omega)).1
 generalize bl (b.next+1) (nest+1)=e at *
 cases c:isT (nowT l a) [119,104,105,108,101] with
 | true =>
  have hiw:=hi0 [119,104,105,108,101]
  rw [c] at hiw
  refine qaa.vx [0,1,2,3,4,7,10,11,12,13,17,23,35,46,62,75,87] Tryz.func113 rfl Tryz.ntmps113 rfl rfl rfl (fun C hro hst=>?_)
  repeat' ((conv=>whnf);first|(show VD ..;refine .q ?_)|(show VK ..;refine xK ?_)|(show VB ..;first|refine VB.tt (by first|decide|rfl) ?_|refine VB.ff (by first|decide|rfl) ?_|refine VB.mk (fun hc=>?_) fun hc=>?_)|(show VC ..;first|refine xC (fun hg=>by first|exact hiw|exact hi1 _|exact e1|exact (hP (by assumption)).1|exact hi2 _|exact e2|exact (hB1 (by assumption) (by assumption) (by assumption)).1|exact hi3 _) ?_|refine xL (fun hg=>by first|exact hiw|exact hi1 _|exact e1|exact (hP (by assumption)).1|exact hi2 _|exact e2|exact (hB1 (by assumption) (by assumption) (by assumption)).1|exact hi3 _) ?_)|(show VI ..;refine xJ ?_)|(show VG ..;refine xG ?_)|(show VA ..;refine xA ?_)|(show VZ ..;refine .s ?_)|(show VE ..;refine .mk ?_))
  all_goals clear hi0 hi1 e1 hP hi2 e2 hB1 hi3 hB2 hB hqa hiw
  all_goals simp_all only [cond_true,cond_false,Bool.not_true,Bool.not_false,Bool.false_and,Bool.true_and,Bool.not_eq_true',Bool.not_eq_false']
  all_goals first|rfl|trace_state
 | false =>
  have hiw:=hi0 [119,104,105,108,101]
  rw [c] at hiw
  cases c2:isT (nowT l b.next) [101,108,115,101] with
  | true =>
   have hi4:=hi3 [101,108,115,101]
   rw [c2] at hi4
   refine qaa.vx [0,1,2,3,4,7,10,11,12,13,17,23,35,46,62,75,87] Tryz.func113 rfl Tryz.ntmps113 rfl rfl rfl (fun C hro hst=>?_)
   repeat' ((conv=>whnf);first|(show VD ..;refine .q ?_)|(show VK ..;refine xK ?_)|(show VB ..;first|refine VB.tt (by first|decide|rfl) ?_|refine VB.ff (by first|decide|rfl) ?_|refine VB.mk (fun hc=>?_) fun hc=>?_)|(show VC ..;first|refine xC (fun hg=>by first|exact hiw|exact hi1 _|exact e1|exact (hP (by assumption)).1|exact hi2 _|exact e2|exact (hB1 (by assumption) (by assumption) (by assumption)).1|exact hi4|exact hB2 (by assumption) (by assumption) (by assumption) (by assumption) c2) ?_|refine xL (fun hg=>by first|exact hiw|exact hi1 _|exact e1|exact (hP (by assumption)).1|exact hi2 _|exact e2|exact (hB1 (by assumption) (by assumption) (by assumption)).1|exact hi4|exact hB2 (by assumption) (by assumption) (by assumption) (by assumption) c2) ?_)|(show VI ..;refine xJ ?_)|(show VG ..;refine xG ?_)|(show VA ..;refine xA ?_)|(show VZ ..;refine .s ?_)|(show VE ..;refine .mk ?_))
   all_goals clear hi0 hi1 e1 hP hi2 e2 hB1 hi3 hB2 hB hqa hiw hi4
   all_goals simp_all only [cond_true,cond_false,Bool.not_true,Bool.not_false,Bool.false_and,Bool.true_and,Bool.not_eq_true',Bool.not_eq_false']
   all_goals first|rfl|trace_state
  | false =>
   have hi4:=hi3 [101,108,115,101]
   rw [c2] at hi4
   refine qaa.vx [0,1,2,3,4,7,10,11,12,13,17,23,35,46,62,75,87] Tryz.func113 rfl Tryz.ntmps113 rfl rfl rfl (fun C hro hst=>?_)
   repeat' ((conv=>whnf);first|(show VD ..;refine .q ?_)|(show VK ..;refine xK ?_)|(show VB ..;first|refine VB.tt (by first|decide|rfl) ?_|refine VB.ff (by first|decide|rfl) ?_|refine VB.mk (fun hc=>?_) fun hc=>?_)|(show VC ..;first|refine xC (fun hg=>by first|exact hiw|exact hi1 _|exact e1|exact (hP (by assumption)).1|exact hi2 _|exact e2|exact (hB1 (by assumption) (by assumption) (by assumption)).1|exact hi4) ?_|refine xL (fun hg=>by first|exact hiw|exact hi1 _|exact e1|exact (hP (by assumption)).1|exact hi2 _|exact e2|exact (hB1 (by assumption) (by assumption) (by assumption)).1|exact hi4) ?_)|(show VI ..;refine xJ ?_)|(show VG ..;refine xG ?_)|(show VA ..;refine xA ?_)|(show VZ ..;refine .s ?_)|(show VE ..;refine .mk ?_))
   all_goals clear hi0 hi1 e1 hP hi2 e2 hB1 hi3 hB2 hB hqa hiw hi4
   all_goals simp_all only [cond_true,cond_false,Bool.not_true,Bool.not_false,Bool.false_and,Bool.true_and,Bool.not_eq_true',Bool.not_eq_false']
   all_goals first|rfl|trace_state
end
section
set_option maxRecDepth 100000
attribute [local irreducible] nowT isT bad8 p6 qdz par7 end8 pt8 typ8 set8 whoD ask8 s0D
theorem qlv (l:List Tok) (hl:Toks l) (ps:List (List UInt8)) (hn:ps.length≤1048576) (bl:Int→Int→G8) (a nest:Int) (h0:0≤a) (h1:a≤l.length) (n0:0≤nest) (n1:nest≤20) (hB:Blk l ps bl a):qaa Tryz.prog 88 [.a (.sl (l.map Tok.at)),.a (.v (.int .i64 a)),.a (.sl (ps.map qaj)),.a (.v (.int .i64 nest))] (.r (G8.at (par8 l ps (ask8 l bl) a nest))):=by
 have hlen:=hl.len
 have hL:l.length≤1048576:=by omega
 have w1:IntKind.i64.wrap (a+1)=a+1:=qah (by omega) (by omega)
 have w2:IntKind.i64.wrap (a+2)=a+2:=qah (by omega) (by omega)
 have hmx:max nest 0=nest:=by omega
 have hT0:=qdx l a hL
 have hi0:=fun s=>qdf l a s hL
 have hi1:∀s,qaa Tryz.prog 109 [.a (.sl (l.map Tok.at)),.a (.v (.int .i64 (IntKind.i64.wrap (a+1)))),.a (.v (.string (bs s)))] (.a (.v (.bool (isT (nowT l (a+1)) s)))):=fun s=>by rw [w1];exact qdf l (a+1) s hL
 have hT1:qaa Tryz.prog 106 [.a (.sl (l.map Tok.at)),.a (.v (.int .i64 (IntKind.i64.wrap (a+1))))] (.r (Tok.at (nowT l (a+1)))):=by rw [w1];exact qdx l (a+1) hL
 have e0:=fun e=>qbc l e a hL
 have e1:∀e,qaa Tryz.prog 107 [.a (.v (.int .i64 e)),.a (.sl (l.map Tok.at)),.a (.v (.int .i64 (IntKind.i64.wrap (a+1))))] (.r (G8.at (bad8 l e (a+1)))):=fun e=>by rw [w1];exact qbc l e (a+1) hL
 have hW:=qlt l a hL
 have hs0:∀s:St,s=s0D l a→s={ St.zero with at_:=(nowT l a).pos }:=fun s h=>by rw [h];unfold s0D;rfl
 obtain⟨s0,hse⟩:∃s0,s0=s0D l a:=⟨_,rfl⟩
 have hs1:=hs0 s0 hse
 have hP:=qlu l hl a s0 h0 h1
 have hS:(!isT (nowT l (a+1)) [61])=false→qaa Tryz.prog 111 [.a (.sl (l.map Tok.at)),.a (.v (.int .i64 (IntKind.i64.wrap (a+2)))),.r (St.rw { s0 with x:=(nowT l a).text }),.a (.sl (ps.map qaj))] (.r (G8.at (set8 l ps (a+2) { s0 with x:=(nowT l a).text }))):=fun h=>by
  have hlt:=qam (qad l) (a:=a+1) (by simpa using h)
  rw [w2];exact pd8sets l hl ps hn (a+2) _ (by omega) (by omega)
 have hE8:qaa Tryz.prog 112 [.a (.sl (l.map Tok.at)),.a (.v (.int .i64 (IntKind.i64.wrap (a+2)))),.r (St.rw { s0 with kind:=8,y:=(nowT l (a+1)).text })] (.r (G8.at (end8 l (a+2) { s0 with kind:=8,y:=(nowT l (a+1)).text }))):=by rw [w2];exact qd6 l _ _ hL (by omega) (by omega)
 have hA:(bif isT (nowT l a) [105,102] then true else isT (nowT l a) [119,104,105,108,101])=true→decide (nest≥20)=false→qaa Tryz.prog 113 [.a (.sl (l.map Tok.at)),.a (.v (.int .i64 a)),.r (St.rw s0),.a (.sl (ps.map qaj)),.a (.v (.int .i64 (max nest 0)))] (.r (G8.at (ask8 l bl a nest s0))):=fun h h2=>by
  have hlt:a<l.length:=by
   rw [Bool.cond_true_left,Bool.or_eq_true] at h
   rcases h with h|h<;>exact qam (qad l) h
  have:¬nest≥20:=of_decide_eq_false h2
  rw [hmx]
  exact pd8asks l hl ps bl a nest s0 h0 hlt n0 (by omega) hB
 have hQ:(!isT (nowT l a) [114,101,116,117,114,110])=false→qaa Tryz.prog 114 [.a (.sl (l.map Tok.at)),.a (.v (.int .i64 (IntKind.i64.wrap (a+1))))] (.r (G6.rw (p6 l (a+1))))∧Got6 l.length (a+1) (p6 l (a+1)):=fun h=>by
  have hlt:=qam (qad l) (a:=a) (by simpa using h)
  rw [w1];exact hl.p6 (a+1) (by omega) (by omega)
 unfold par8
 rw [←hse,hmx]
 generalize p6 l (a+1)=q at *
 have hE9:(!isT (nowT l a) [114,101,116,117,114,110])=false→(q.err != 0)=false→qaa Tryz.prog 112 [.a (.sl (l.map Tok.at)),.a (.v (.int .i64 q.next)),.r (St.rw { s0 with kind:=11,e:=q.e })] (.r (G8.at (end8 l q.next { s0 with kind:=11,e:=q.e }))):=fun h h2=>by
  obtain⟨_,_,q3,q4,_⟩:=(hQ h).2 (by simpa using h2)
  exact qd6 l _ _ hL (by omega) (by omega)
 clear hs0 hse
 subst hs1
 refine qaa.vx [0,1,2,3,8,9,10,17,29,38,43,61,68,74,98,109,117,129] Tryz.func88 rfl Tryz.ntmps88 rfl rfl rfl (fun C hro hst=>?_)
 repeat' ((conv=>whnf);first|(show VD ..;refine .q ?_)|(show VK ..;refine xK ?_)|(show VB ..;first|refine VB.tt (by decide) ?_|refine VB.ff (by decide) ?_|refine VB.mk (fun hc=>?_) fun hc=>?_)|(show VC ..;first|refine xC (fun hg=>by first|exact hT0|exact hi0 _|exact hi1 _|exact hT1|exact e0 _|exact e1 _|exact hW|exact hP|exact hS (by assumption)|exact hE8|exact hA (by assumption) (by assumption)|exact (hQ (by assumption)).1|exact hE9 (by assumption) (by assumption)) ?_|refine xL (fun hg=>by first|exact hT0|exact hi0 _|exact hi1 _|exact hT1|exact e0 _|exact e1 _|exact hW|exact hP|exact hS (by assumption)|exact hE8|exact hA (by assumption) (by assumption)|exact (hQ (by assumption)).1|exact hE9 (by assumption) (by assumption)) ?_)|(show VI ..;refine xJ ?_)|(show VG ..;refine xG ?_)|(show VA ..;refine xA ?_)|(show VZ ..;refine .s ?_)|(show VE ..;refine .mk ?_))
 all_goals clear hT0 hi0 hi1 hT1 e0 e1 hW hP hS hE8 hA hQ hE9 hB
 all_goals simp only [w1,w2,Bool.cond_true_left,Bool.cond_false_right] at *
 all_goals simp_all only [cond_true,cond_false,Bool.not_true,Bool.not_false,Bool.not_eq_true',Bool.not_eq_false']
 all_goals first|rfl|trace_state
end
section
set_option maxRecDepth 100000
attribute [local irreducible] nowT isT bad8 p6 qdz par7 end8 pt8 typ8 set8 whoD ask8 s0D par8
theorem qhe {l:List Tok} {ps:List (List UInt8)} (hl:Toks l) (n:Nat) (b m:Int) (h0:0≤b):Fw l.length b (blk8 l (row8 l ps n) b m):=by
 unfold blk8
 cases c:isT (nowT l b) [123] with
 | false=>exact qbt (by decide)
 | true =>
  intro h
  have:=qic hl (ps:=ps) n (b+1) m [] (by omega) h
  exact⟨Int.lt_trans (show b<b+1 by omega) this.1,this.2⟩
theorem pd8Block (l:List Tok) (hl:Toks l) (ps:List (List UInt8)) (hn:ps.length≤1048576):∀(n:Nat) (a m:Int),0≤a→a≤l.length→0≤m→m≤20→(l.length:Int)-a≤n→qaa Tryz.prog 122 [.a (.sl (l.map Tok.at)),.a (.v (.int .i64 a)),.a (.sl (ps.map qaj)),.a (.v (.int .i64 m))] (.r (G8.at (blk8 l (row8 l ps n) a m))):=by
 intro n
 induction n using Nat.strongRecOn with
 | ind n IH =>
 intro a m h0 h1 m0 m1 hna
 have hlen:=hl.len
 have hL:l.length≤1048576:=by omega
 have w1:IntKind.i64.wrap (a+1)=a+1:=qah (by omega) (by omega)
 unfold blk8
 refine qaa.vx [0,1,2,3,8,9,10,14,23,32] Tryz.func122 rfl Tryz.ntmps122 rfl rfl rfl (fun C hro hst=>?_)
 repeat' ((conv=>whnf);first|(show VD ..;refine .q ?_)|(show VK ..;refine xK ?_)|(show VB ..;first|refine VB.tt (by decide) ?_|refine VB.ff (by decide) ?_|refine VB.mk (fun hc=>?_) fun hc=>?_)|(show VC ..;first|refine xC (fun hg=>by first|exact qdf _ _ _ hL|exact qbc _ _ _ hL) ?_|refine xL (fun hg=>by first|exact qdf _ _ _ hL|exact qbc _ _ _ hL) ?_)|(show VI ..;refine xJ ?_)|(show VG ..;refine xG ?_)|(show VA ..;refine xA ?_)|(show VZ ..;refine .s ?_)|(show VE ..;refine .mk ?_))
 ·rw [hc];rfl
 rw [hc,cond_false,w1]
 have hlt:=qam (qad l) (a:=a) (by simpa using hc)
 obtain⟨g,hg⟩:∃g,row8 l ps n (a+1) m []=g:=⟨_,rfl⟩
 rw [hg]
 refine VL.g (α:={ y:(Int×List St)×(Nat×G8) // 0≤y.1.1∧y.1.1≤l.length∧y.2.1≤n∧(l.length:Int)-y.1.1<y.2.1∧(y.1.2.length:Int)≤y.1.1∧row8 l ps y.2.1 y.1.1 m y.1.2=g }) (fun y=>[(0,.a (.sl (l.map Tok.at))),(1,.a (.v (.int .i64 y.1.1.1))),(2,.a (.sl (ps.map qaj))),(3,.a (.v (.int .i64 m))),(8,.a (.ptr 0 0)),(9,oE 2 y.1.1.2)]) (fun y=>oB [.cell (G8.at ⟨St.zero,[],[],0,0,0⟩)] [.cell (G8.at y.1.2.2)] 23 St.at y.1.1.2) (fun y=>y.1.2.1) ⟨((a+1,[]),(n,⟨St.zero,[],[],0,0,0⟩)),by dsimp only;omega,by dsimp only;omega,Nat.le_refl _,by dsimp only;omega,by simp;omega,hg⟩ ⟨rfl,rfl,rfl,rfl,rfl,rfl,trivial⟩ rfl ?_
 clear hg hc w1
 rintro⟨⟨⟨b,out⟩,⟨k,g0⟩⟩,hb0,hb1,hkn,hbk,hob,hg⟩
 dsimp only at hb0 hb1 hkn hbk hob hg ⊢
 obtain⟨k,rfl⟩:∃k',k=k'+1:=⟨k-1,by omega⟩
 have hB:Blk l ps (blk8 l (row8 l ps k)) b:=fun b' m' q1 q2 q3 q4=>⟨IH k (by omega) b' m' (by omega) q2 q3 q4 (by omega),qhe hl k b' m' (by omega)⟩
 have hp:=qlv l hl ps hn (blk8 l (row8 l ps k)) b m hb0 hb1 m0 m1 hB
 have hf:=qii hl (ps:=ps) (ask:=ask8 l (blk8 l (row8 l ps k))) (a:=b) (nest:=m) hb0 fun s hlt=>qix hl hb0 fun b' h1 h2=>qhe hl k b' _ (by omega)
 have hi:=fun s=>qdf l b s hL
 have wb:IntKind.i64.wrap (b+1)=b+1:=qah (by omega) (by omega)
 rw [row8] at hg
 generalize par8 l ps (ask8 l (blk8 l (row8 l ps k))) b m=q at *
 cases out with
 | nil =>
  simp only [oE,oB]
  repeat' ((conv=>whnf);first|(show VD ..;refine .q ?_)|(show VK ..;refine xK ?_)|(show VB ..;first|refine VB.tt (by decide) ?_|refine VB.ff (by decide) ?_|refine VB.mk (fun hc=>?_) fun hc=>?_)|(show VC ..;first|refine xC (fun hg=>by first|exact hp|exact hi _) ?_|refine xL (fun hg=>by first|exact hp|exact hi _) ?_)|(show VI ..;refine xJ ?_)|(show VG ..;refine xG ?_)|(show VA ..;refine xA ?_)|(show VZ ..;refine .s ?_)|(show VE ..;refine .mk ?_))
  all_goals clear hp hi IH hB
  all_goals try (conv=>whnf)
  ·rename_i e1
   rw [show isT (nowT l b) [125]=false by simpa using e1,hc] at hg
   subst hg;rfl
  ·rename_i e1
   obtain⟨q1,q2⟩:=hf (by simpa using hc)
   rw [show isT (nowT l b) [125]=false by simpa using e1,hc] at hg
   exact⟨⟨((q.next,[q.s]),(k,q)),by dsimp only;omega,q2,by dsimp only;omega,by dsimp only;omega,by dsimp only [List.length_cons,List.length_nil];omega,hg⟩,[],Nat.lt_succ_self _,Nat.le_of_ble_eq_true rfl,⟨rfl,rfl,rfl,rfl,rfl,rfl,trivial⟩,by simp only [oB,List.map_cons,List.map_nil,St.at_rw];rfl,rfl,rfl⟩
  ·rw [show isT (nowT l b) [125]=true by simpa using hc] at hg
   subst hg
   rw [wb]
   rfl
 | cons x r =>
  have hrl:r.length≤16385:=by rw [List.length_cons] at hob;omega
  simp only [oE,oB]
  repeat' ((conv=>whnf);first|(show VD ..;refine .q ?_)|(show VK ..;refine xK ?_)|(show VB ..;first|refine VB.tt (by decide) ?_|refine VB.ff (by decide) ?_|refine VB.mk (fun hc=>?_) fun hc=>?_)|(show VC ..;first|refine xC (fun hg=>by first|exact hp|exact hi _) ?_|refine xL (fun hg=>by first|exact hp|exact hi _) ?_)|(show VI ..;refine xJ ?_)|(show VG ..;refine xG ?_)|(show VA ..;refine xA ?_)|(show VZ ..;refine .s ?_)|(show VE ..;refine .mk ?_))
  all_goals clear hp hi IH hB
  all_goals try (conv=>whnf)
  ·rename_i e1
   rw [show isT (nowT l b) [125]=false by simpa using e1,hc] at hg
   subst hg;rfl
  ·rename_i e1
   obtain⟨q1,q2⟩:=hf (by simpa using hc)
   rw [show isT (nowT l b) [125]=false by simpa using e1,hc] at hg
   exact⟨⟨((q.next,x::r++[q.s]),(k,g0)),by dsimp only;omega,q2,by dsimp only;omega,by dsimp only;omega,by simp only [List.length_append,List.length_cons,List.length_nil] at *;omega,hg⟩,[.cell (G8.at q)],Nat.lt_succ_self _,Nat.le_of_ble_eq_true rfl,⟨rfl,rfl,rfl,rfl,rfl,by simp only [oE,List.cons_append,List.length_append,List.length_cons,List.length_nil];rfl,trivial⟩,by simp only [oB,List.cons_append,List.nil_append,List.length_append,List.length_cons,List.length_nil,List.map_cons,List.map_append,List.map_nil,St.at_rw];rfl,rfl,rfl⟩
  ·rw [show isT (nowT l b) [125]=true by simpa using hc] at hg
   subst hg
   rw [wb]
   rfl
end
section
set_option maxRecDepth 100000
structure G9 where
 c:Cs
 m:Me
 v:List Vr
 n:List (List UInt8)
 next:Int
 err:Int
 fat:Int
def G9.at (g:G9):List A:=Cs.at g.c++Me.at g.m++[.sl (g.v.map Vr.at),.sl (g.n.map qaj),.v (.int .i64 g.next),.v (.int .i64 g.err),.v (.int .i64 g.fat)]
section
variable (l:List Tok)
def bad9 (e a:Int):G9:=⟨Cs.zero,Me.zero,[],[],0,e,(nowT l a).pos⟩
def flt9 (e f:Int):G9:=⟨Cs.zero,Me.zero,[],[],0,e,f⟩
def namF:Nat→Int→List (List UInt8)→G9
 | k,a,out =>
  bif (nowT l (a+1)).kind != 1 then bad9 l 3 (a+1)
  else bif (out.length:Int)==3 then bad9 l 10 (a+1)
  else bif isT (nowT l (a+2)) [62] then ⟨Cs.zero,Me.zero,[],out++[(nowT l (a+1)).text],a+3,0,0⟩
  else bif !isT (nowT l (a+2)) [44] then bad9 l 3 (a+2)
  else match k with
   | 0=>bad9 l 10 (a+1)
   | k+1=>namF k (a+2) (out++[(nowT l (a+1)).text])
theorem qkq (k:Nat) (a:Int) (out:List (List UInt8)):namF l k a out =
  bif (nowT l (a+1)).kind != 1 then bad9 l 3 (a+1)
  else bif (out.length:Int)==3 then bad9 l 10 (a+1)
  else bif isT (nowT l (a+2)) [62] then ⟨Cs.zero,Me.zero,[],out++[(nowT l (a+1)).text],a+3,0,0⟩
  else bif !isT (nowT l (a+2)) [44] then bad9 l 3 (a+2)
  else match k with
   | 0=>bad9 l 10 (a+1)
   | k+1=>namF l k (a+2) (out++[(nowT l (a+1)).text]):=by cases k<;>rfl
end
attribute [local irreducible] nowT isT
theorem qbh (l:List Tok) (a:Int) (hl:l.length≤1048576):qaa Tryz.prog 12 [.a (.sl (l.map Tok.at)),.a (.v (.int .i64 a))] (.r (Tok.at (nowT l a))):=by
 refine qaa.vx [0,1,4] Tryz.func12 rfl Tryz.ntmps12 rfl rfl rfl (fun C hro hst=>?_)
 repeat' ((conv=>whnf);first|(show VD ..;refine .q ?_)|(show VK ..;refine xK ?_)|(show VB ..;first|refine VB.tt (by decide) ?_|refine VB.ff (by decide) ?_|refine VB.mk (fun hc=>?_) fun hc=>?_)|(show VC ..;first|refine xC (fun hg=>by exact qbs _ _ hl) ?_|refine xL (fun hg=>by exact qbs _ _ hl) ?_)|(show VI ..;refine xJ ?_)|(show VG ..;refine xG ?_)|(show VA ..;refine xA ?_)|(show VZ ..;refine .s ?_)|(show VE ..;refine .mk ?_))
 rfl
theorem qbx (l:List Tok) (a:Int) (s:List UInt8) (hl:l.length≤1048576):qaa Tryz.prog 13 [.a (.sl (l.map Tok.at)),.a (.v (.int .i64 a)),.a (.v (.string (bs s)))] (.a (.v (.bool (isT (nowT l a) s)))):=by
 refine qaa.vx [0,1,2,6] Tryz.func13 rfl Tryz.ntmps13 rfl rfl rfl (fun C hro hst=>?_)
 repeat' ((conv=>whnf);first|(show VD ..;refine .q ?_)|(show VK ..;refine xK ?_)|(show VB ..;first|refine VB.tt (by decide) ?_|refine VB.ff (by decide) ?_|refine VB.mk (fun hc=>?_) fun hc=>?_)|(show VC ..;first|refine xC (fun hg=>by first|exact qbs _ _ hl|exact pdIs _ _) ?_|refine xL (fun hg=>by first|exact qbs _ _ hl|exact pdIs _ _) ?_)|(show VI ..;refine xJ ?_)|(show VG ..;refine xG ?_)|(show VA ..;refine xA ?_)|(show VZ ..;refine .s ?_)|(show VE ..;refine .mk ?_))
 rfl
theorem qas (l:List Tok) (e a:Int) (hl:l.length≤1048576):qaa Tryz.prog 32 [.a (.v (.int .i64 e)),.a (.sl (l.map Tok.at)),.a (.v (.int .i64 a))] (.r (G9.at (bad9 l e a))):=by
 refine qaa.vx [0,1,2,6] Tryz.func32 rfl Tryz.ntmps32 rfl rfl rfl (fun C hro hst=>?_)
 repeat' ((conv=>whnf);first|(show VD ..;refine .q ?_)|(show VK ..;refine xK ?_)|(show VB ..;first|refine VB.tt (by decide) ?_|refine VB.ff (by decide) ?_|refine VB.mk (fun hc=>?_) fun hc=>?_)|(show VC ..;first|refine xC (fun hg=>by exact qbh _ _ hl) ?_|refine xL (fun hg=>by exact qbh _ _ hl) ?_)|(show VI ..;refine xJ ?_)|(show VG ..;refine xG ?_)|(show VA ..;refine xA ?_)|(show VZ ..;refine .s ?_)|(show VE ..;refine .mk ?_))
 rfl
attribute [local irreducible] bad9
theorem pd9names (l:List Tok) (a:Int) (hL:l.length≤1048576) (h0:0≤a) (h1:a≤1048576):qaa Tryz.prog 33 [.a (.sl (l.map Tok.at)),.a (.v (.int .i64 a))] (.r (G9.at (namF l 3 a []))):=by
 refine qaa.vx [0,1,4,5,12,18,33,41] Tryz.func33 rfl Tryz.ntmps33 rfl rfl rfl (fun C hro hst=>?_)
 repeat' ((conv=>whnf);first|(show VD ..;refine .q ?_)|(show VK ..;refine xK ?_)|(show VB ..;first|refine VB.tt (by decide) ?_|refine VB.ff (by decide) ?_|refine VB.mk (fun hc=>?_) fun hc=>?_)|(show VI ..;refine xJ ?_)|(show VG ..;refine xG ?_)|(show VA ..;refine xA ?_)|(show VZ ..;refine .s ?_)|(show VE ..;refine .mk ?_))
 obtain⟨g,hg⟩:∃g,namF l 3 a []=g:=⟨_,rfl⟩
 rw [hg]
 refine VL.g (α:={ y:Int×List (List UInt8) // y.2.length≤3∧0≤y.1∧y.1+2*(3-(y.2.length:Int))≤a+6∧namF l (3-y.2.length) y.1 y.2=g }) (fun y=>[(0,.a (.sl (l.map Tok.at))),(1,.a (.v (.int .i64 y.1.1))),(4,.a (.ptr 0 0)),(5,oE 1 y.1.2)]) (fun y=>oB [.cell (G9.at ⟨Cs.zero,Me.zero,[],[],0,0,0⟩)] [] 1 qaj y.1.2) (fun y=>3-y.1.2.length) ⟨(a,[]),Nat.zero_le _,h0,by simp,hg⟩ ⟨rfl,rfl,rfl,rfl,trivial⟩ rfl ?_
 clear hg
 rintro⟨⟨b,out⟩,hol,hb0,hb1,hg⟩
 dsimp only at hol hb0 hb1 hg ⊢
 have w1:IntKind.i64.wrap (b+1)=b+1:=qah (by omega) (by omega)
 have w2:IntKind.i64.wrap (b+1+1)=b+2:=(qah (by omega) (by omega)).trans (by omega)
 have w3:IntKind.i64.wrap (b+2+1)=b+3:=(qah (by omega) (by omega)).trans (by omega)
 have ht1:qaa Tryz.prog 12 [.a (.sl (l.map Tok.at)),.a (.v (.int .i64 (IntKind.i64.wrap (b+1))))] (.r (Tok.at (nowT l (b+1)))):=by rw [w1];exact qbh l (b+1) hL
 have hi2:∀s,qaa Tryz.prog 13 [.a (.sl (l.map Tok.at)),.a (.v (.int .i64 (IntKind.i64.wrap (IntKind.i64.wrap (b+1)+1)))),.a (.v (.string (bs s)))] (.a (.v (.bool (isT (nowT l (b+2)) s)))):=fun s=>by rw [w1,w2];exact qbx l (b+2) s hL
 have e1:∀e,qaa Tryz.prog 32 [.a (.v (.int .i64 e)),.a (.sl (l.map Tok.at)),.a (.v (.int .i64 (IntKind.i64.wrap (b+1))))] (.r (G9.at (bad9 l e (b+1)))):=fun e=>by rw [w1];exact qas l e (b+1) hL
 have e2:∀e,qaa Tryz.prog 32 [.a (.v (.int .i64 e)),.a (.sl (l.map Tok.at)),.a (.v (.int .i64 (IntKind.i64.wrap (IntKind.i64.wrap (b+1)+1))))] (.r (G9.at (bad9 l e (b+2)))):=fun e=>by rw [w1,w2];exact qas l e (b+2) hL
 rw [qkq] at hg
 cases out with
 | nil =>
  rw [show ((([]:List (List UInt8)).length:Int)==3)=false from rfl,cond_false] at hg
  simp only [oE,oB]
  repeat' ((conv=>whnf);first|(show VD ..;refine .q ?_)|(show VK ..;refine xK ?_)|(show VB ..;first|refine VB.tt (by decide) ?_|refine VB.ff (by decide) ?_|refine VB.mk (fun hc=>?_) fun hc=>?_)|(show VC ..;first|refine xC (fun hg=>by first|exact ht1|exact hi2 _|exact e1 _|exact e2 _) ?_|refine xL (fun hg=>by first|exact ht1|exact hi2 _|exact e1 _|exact e2 _) ?_)|(show VI ..;refine xJ ?_)|(show VG ..;refine xG ?_)|(show VA ..;refine xA ?_)|(show VZ ..;refine .s ?_)|(show VE ..;refine .mk ?_))
  all_goals clear ht1 hi2 e1 e2
  all_goals try (conv=>whnf)
  all_goals simp_all only [cond_true,cond_false,Bool.not_true,Bool.not_false,Bool.not_eq_true',Bool.not_eq_false',List.nil_append]
  all_goals first|(subst hg;rfl)|exact⟨⟨(b+2,[_]),Nat.le_of_ble_eq_true rfl,by dsimp only;omega,by dsimp only [List.length_cons,List.length_nil] at *;omega,hg⟩,[],Nat.le_of_ble_eq_true rfl,Nat.le_of_ble_eq_true rfl,⟨rfl,rfl,rfl,rfl,trivial⟩,rfl,rfl,rfl⟩|trace_state
 | cons x r =>
  have hrl:r.length≤2:=by simpa using hol
  simp only [oE,oB]
  rcases (show r.length=2∨r.length≤1 by omega) with h3|h3
  ·have h4:(((List.map qaj (x::r)).length:Int)==3)=true:=by rw [List.length_map,List.length_cons,h3];rfl
   have h5:(((x::r).length:Int)==3)=true:=by rw [List.length_cons,h3];rfl
   repeat' ((conv=>whnf);first|(show VD ..;refine .q ?_)|(show VK ..;refine xK ?_)|(show VB ..;first|refine VB.tt (by exact h4) ?_|refine VB.ff (by exact h4) ?_|refine VB.mk (fun hc=>?_) fun hc=>?_)|(show VC ..;first|refine xC (fun hg=>by first|exact ht1|exact hi2 _|exact e1 _|exact e2 _) ?_|refine xL (fun hg=>by first|exact ht1|exact hi2 _|exact e1 _|exact e2 _) ?_)|(show VI ..;refine xJ ?_)|(show VG ..;refine xG ?_)|(show VA ..;refine xA ?_)|(show VZ ..;refine .s ?_)|(show VE ..;refine .mk ?_))
   all_goals rw [h5] at hg;rw [hc] at hg;subst hg;rfl
  ·have h4:(((List.map qaj (x::r)).length:Int)==3)=false:=by simp only [List.length_map,List.length_cons,beq_eq_false_iff_ne];omega
   have h5:(((x::r).length:Int)==3)=false:=by simp only [List.length_cons,beq_eq_false_iff_ne];omega
   obtain⟨k,hk,hk2⟩:∃k,3-(x::r).length=k+1∧3-(r.length+2)=k:=⟨1-r.length,by rw [List.length_cons];omega,by omega⟩
   rw [hk,h5] at hg
   repeat' ((conv=>whnf);first|(show VD ..;refine .q ?_)|(show VK ..;refine xK ?_)|(show VB ..;first|refine VB.tt (by exact h4) ?_|refine VB.ff (by exact h4) ?_|refine VB.mk (fun hc=>?_) fun hc=>?_)|(show VC ..;first|refine xC (fun hg=>by first|exact ht1|exact hi2 _|exact e1 _|exact e2 _) ?_|refine xL (fun hg=>by first|exact ht1|exact hi2 _|exact e1 _|exact e2 _) ?_)|(show VI ..;refine xJ ?_)|(show VG ..;refine xG ?_)|(show VA ..;refine xA ?_)|(show VZ ..;refine .s ?_)|(show VE ..;refine .mk ?_))
   all_goals clear ht1 hi2 e1 e2 h4
   all_goals try (conv=>whnf)
   all_goals simp_all only [cond_true,cond_false,Bool.not_true,Bool.not_false,Bool.not_eq_true',Bool.not_eq_false']
   all_goals first|(subst hg;rfl)|(subst hg;unfold G9.at;simp only [List.map_append,List.cons_append,List.map_cons];rfl)|exact⟨⟨(b+2,x::r++[(nowT l (b+1)).text]),by simp only [List.length_append,List.length_cons,List.length_nil];omega,by dsimp only;omega,by simp only [List.length_append,List.length_cons,List.length_nil] at *;omega,by simp only [List.length_append,List.length_cons,List.length_nil];rw [hk2];exact hg⟩,[],by simp only [List.length_append,List.length_cons,List.length_nil] at *;omega,Nat.le_of_ble_eq_true rfl,⟨rfl,rfl,rfl,by simp only [oE,List.cons_append,List.length_append,List.length_cons,List.length_nil];rfl,trivial⟩,by simp only [oB,List.cons_append,List.nil_append,List.append_nil,List.length_append,List.length_cons,List.length_nil,List.map_cons,List.map_append,List.map_nil];rfl,rfl,rfl⟩|trace_state
end
section
set_option maxRecDepth 100000
section
variable (l:List Tok) (ps:List (List UInt8))
def parF:Nat→Int→List Vr→G9
 | k,a,out =>
  bif (out.length:Int)==5 then bad9 l 6 a
  else bif (var7 l ps a).err != 0 then flt9 (var7 l ps a).err (var7 l ps a).fat
  else bif isT (nowT l (var7 l ps a).next) [41] then ⟨Cs.zero,Me.zero,out++[(var7 l ps a).v],[],(var7 l ps a).next+1,0,0⟩
  else bif !isT (nowT l (var7 l ps a).next) [44] then bad9 l 3 (var7 l ps a).next
  else match k with
   | 0=>bad9 l 6 a
   | k+1=>parF k ((var7 l ps a).next+1) (out++[(var7 l ps a).v])
theorem qgs (k:Nat) (a:Int) (out:List Vr):parF l ps k a out =
  bif (out.length:Int)==5 then bad9 l 6 a
  else bif (var7 l ps a).err != 0 then flt9 (var7 l ps a).err (var7 l ps a).fat
  else bif isT (nowT l (var7 l ps a).next) [41] then ⟨Cs.zero,Me.zero,out++[(var7 l ps a).v],[],(var7 l ps a).next+1,0,0⟩
  else bif !isT (nowT l (var7 l ps a).next) [44] then bad9 l 3 (var7 l ps a).next
  else match k with
   | 0=>bad9 l 6 a
   | k+1=>parF l ps k ((var7 l ps a).next+1) (out++[(var7 l ps a).v]):=by cases k<;>rfl
def locF:Nat→Int→List Vr→G9
 | k,a,out =>
  bif !beg7 l a then ⟨Cs.zero,Me.zero,out,[],a,0,0⟩
  else bif (out.length:Int)==12 then bad9 l 6 a
  else bif (var7 l ps a).err != 0 then flt9 (var7 l ps a).err (var7 l ps a).fat
  else bif !isT (nowT l (var7 l ps a).next) [59] then bad9 l 3 (var7 l ps a).next
  else match k with
   | 0=>bad9 l 6 a
   | k+1=>locF k ((var7 l ps a).next+1) (out++[(var7 l ps a).v])
theorem qgz (k:Nat) (a:Int) (out:List Vr):locF l ps k a out =
  bif !beg7 l a then ⟨Cs.zero,Me.zero,out,[],a,0,0⟩
  else bif (out.length:Int)==12 then bad9 l 6 a
  else bif (var7 l ps a).err != 0 then flt9 (var7 l ps a).err (var7 l ps a).fat
  else bif !isT (nowT l (var7 l ps a).next) [59] then bad9 l 3 (var7 l ps a).next
  else match k with
   | 0=>bad9 l 6 a
   | k+1=>locF l ps k ((var7 l ps a).next+1) (out++[(var7 l ps a).v]):=by cases k<;>rfl
def par9 (a:Int):G9:=bif isT (nowT l (a+1)) [41] then ⟨Cs.zero,Me.zero,[],[],a+2,0,0⟩ else parF l ps 5 (a+1) []
end
theorem pd7VarT (l:List Tok) (hl:Toks l) (ps:List (List UInt8)) (hn:ps.length≤1048576) (a:Int) (h0:0≤a) (h1:a≤l.length):qaa Tryz.prog 104 [.a (.sl (l.map Tok.at)),.a (.v (.int .i64 a)),.a (.sl (ps.map qaj))] (.r (G7.at (var7 l ps a)))∧GotV l.length a ps.length (var7 l ps a):=by
 have hlen:=hl.len
 refine⟨pd7Var l ps a (by omega) (fun h=>?_) (qcf l ps a true (by omega) hn h0 (by omega)),qgi (qad l) hl.name a⟩
 obtain⟨_,_,q1,q2,_⟩:=qb1 (qad l) hl.name (ps:=ps) a true h
 omega
attribute [local irreducible] nowT isT bad9 var7 beg7
theorem pd9params (l:List Tok) (hl:Toks l) (ps:List (List UInt8)) (hn:ps.length≤1048576) (a:Int) (h0:0≤a) (h1:a<l.length):qaa Tryz.prog 86 [.a (.sl (l.map Tok.at)),.a (.v (.int .i64 a)),.a (.sl (ps.map qaj))] (.r (G9.at (par9 l ps a))):=by
 have hlen:=hl.len
 have hL:l.length≤1048576:=by omega
 have w1:IntKind.i64.wrap (a+1)=a+1:=qah (by omega) (by omega)
 have w2:IntKind.i64.wrap (a+1+1)=a+2:=(qah (by omega) (by omega)).trans (by omega)
 have hi1:∀s,qaa Tryz.prog 13 [.a (.sl (l.map Tok.at)),.a (.v (.int .i64 (IntKind.i64.wrap (a+1)))),.a (.v (.string (bs s)))] (.a (.v (.bool (isT (nowT l (a+1)) s)))):=fun s=>by rw [w1];exact qbx l (a+1) s hL
 unfold par9
 refine qaa.vx [0,1,2,6,7,8,13,19,30,42,52] Tryz.func86 rfl Tryz.ntmps86 rfl rfl rfl (fun C hro hst=>?_)
 repeat' ((conv=>whnf);first|(show VD ..;refine .q ?_)|(show VK ..;refine xK ?_)|(show VB ..;first|refine VB.tt (by decide) ?_|refine VB.ff (by decide) ?_|refine VB.mk (fun hc=>?_) fun hc=>?_)|(show VC ..;first|refine xC (fun hg=>by exact hi1 _) ?_|refine xL (fun hg=>by exact hi1 _) ?_)|(show VI ..;refine xJ ?_)|(show VG ..;refine xG ?_)|(show VA ..;refine xA ?_)|(show VZ ..;refine .s ?_)|(show VE ..;refine .mk ?_))
 ·rw [hc,w1,w2];rfl
 rw [hc,cond_false,w1]
 obtain⟨g,hg⟩:∃g,parF l ps 5 (a+1) []=g:=⟨_,rfl⟩
 rw [hg]
 clear hi1 hc w1 w2
 refine VL.g (α:={ y:(Int×List Vr)×G7 // y.1.2.length≤5∧0≤y.1.1∧y.1.1≤l.length∧parF l ps (5-y.1.2.length) y.1.1 y.1.2=g }) (fun y=>[(0,.a (.sl (l.map Tok.at))),(1,.a (.v (.int .i64 y.1.1.1))),(2,.a (.sl (ps.map qaj))),(6,.a (.ptr 0 0)),(7,oE 2 y.1.1.2)]) (fun y=>oB [.cell (G9.at ⟨Cs.zero,Me.zero,[],[],0,0,0⟩)] [.cell (G7.at y.1.2)] 13 Vr.at y.1.1.2) (fun y=>5-y.1.1.2.length) ⟨((a+1,[]),⟨[],Ty.zero,Vr.zero,0,0,0⟩),Nat.zero_le _,by dsimp only;omega,by dsimp only;omega,hg⟩ ⟨rfl,rfl,rfl,rfl,rfl,trivial⟩ rfl ?_
 clear hg h0 h1
 rintro⟨⟨⟨b,out⟩,g0⟩,hol,hb0,hb1,hg⟩
 dsimp only at hol hb0 hb1 hg ⊢
 obtain⟨hv,gv⟩:=pd7VarT l hl ps hn b hb0 hb1
 rw [qgs] at hg
 generalize var7 l ps b=q at *
 have hi:=fun s=>qbx l q.next s hL
 have eb:=qas l 6 b hL
 have en:=qas l 3 q.next hL
 have wn:q.err=0→IntKind.i64.wrap (q.next+1)=q.next+1:=fun h=>by obtain⟨_,g1,g2,_⟩:=gv h;exact qah (by omega) (by omega)
 cases out with
 | nil =>
  obtain⟨k,hk,hk2⟩:∃k,5-([]:List Vr).length=k+1∧5-1=k:=⟨5-1,rfl,rfl⟩
  rw [hk,show ((([]:List Vr).length:Int)==5)=false from rfl] at hg
  simp only [oE,oB]
  repeat' ((conv=>whnf);first|(show VD ..;refine .q ?_)|(show VK ..;refine xK ?_)|(show VB ..;first|refine VB.tt (by decide) ?_|refine VB.ff (by decide) ?_|refine VB.mk (fun hc=>?_) fun hc=>?_)|(show VC ..;first|refine xC (fun hg=>by first|exact hv|exact hi _|exact eb|exact en) ?_|refine xL (fun hg=>by first|exact hv|exact hi _|exact eb|exact en) ?_)|(show VI ..;refine xJ ?_)|(show VG ..;refine xG ?_)|(show VA ..;refine xA ?_)|(show VZ ..;refine .s ?_)|(show VE ..;refine .mk ?_))
  all_goals clear hv hi eb en
  all_goals try (conv=>whnf)
  ·rw [hc] at hg;subst hg;rfl
  ·rename_i e1
   rw [e1,hc] at hg
   subst hg
   rw [wn (by simpa using e1)]
   simp only [G9.at,cond_true,cond_false,List.nil_append,List.map_append,List.cons_append,List.map_cons,List.map_nil];rfl
  ·rename_i e1 e2
   rw [e1,e2,hc] at hg;subst hg;rfl
  ·rename_i e1 e2
   obtain⟨_,g1,g2,_⟩:=gv (by simpa using e1)
   have w:=wn (by simpa using e1)
   have hlt:=qam (qad l) (a:=q.next) (by simpa using hc)
   rw [e1,e2,hc] at hg
   simp only [cond_true,cond_false,Bool.not_true,Bool.not_false] at hg
   exact⟨⟨((q.next+1,[q.v]),q),Nat.le_of_ble_eq_true rfl,by dsimp only;omega,by dsimp only;omega,by show parF l ps (5-1) _ _=g;rw [hk2];exact hg⟩,[],Nat.le_of_ble_eq_true rfl,Nat.le_of_ble_eq_true rfl,⟨rfl,congrArg (fun z=>D.a (.v (.int .i64 z))) w,rfl,rfl,rfl,trivial⟩,rfl,rfl,rfl⟩
 | cons x r =>
  have hrl:r.length≤4:=by simpa using hol
  simp only [oE,oB]
  rcases (show r.length=4∨r.length≤3 by omega) with h3|h3
  ·have h4:(((List.map Vr.at (x::r)).length:Int)==5)=true:=by rw [List.length_map,List.length_cons,h3];rfl
   have h5:(((x::r).length:Int)==5)=true:=by rw [List.length_cons,h3];rfl
   repeat' ((conv=>whnf);first|(show VD ..;refine .q ?_)|(show VK ..;refine xK ?_)|(show VB ..;first|refine VB.tt (by exact h4) ?_|refine VB.ff (by exact h4) ?_|refine VB.mk (fun hc=>?_) fun hc=>?_)|(show VC ..;first|refine xC (fun hg=>by first|exact hv|exact hi _|exact eb|exact en) ?_|refine xL (fun hg=>by first|exact hv|exact hi _|exact eb|exact en) ?_)|(show VI ..;refine xJ ?_)|(show VG ..;refine xG ?_)|(show VA ..;refine xA ?_)|(show VZ ..;refine .s ?_)|(show VE ..;refine .mk ?_))
   rw [h5] at hg;subst hg;rfl
  ·have h4:(((List.map Vr.at (x::r)).length:Int)==5)=false:=by simp only [List.length_map,List.length_cons,beq_eq_false_iff_ne];omega
   have h5:(((x::r).length:Int)==5)=false:=by simp only [List.length_cons,beq_eq_false_iff_ne];omega
   obtain⟨k,hk,hk2⟩:∃k,5-(x::r).length=k+1∧5-(r.length+2)=k:=⟨3-r.length,by rw [List.length_cons];omega,by omega⟩
   rw [hk,h5] at hg
   repeat' ((conv=>whnf);first|(show VD ..;refine .q ?_)|(show VK ..;refine xK ?_)|(show VB ..;first|refine VB.tt (by exact h4) ?_|refine VB.ff (by exact h4) ?_|refine VB.mk (fun hc=>?_) fun hc=>?_)|(show VC ..;first|refine xC (fun hg=>by first|exact hv|exact hi _|exact eb|exact en) ?_|refine xL (fun hg=>by first|exact hv|exact hi _|exact eb|exact en) ?_)|(show VI ..;refine xJ ?_)|(show VG ..;refine xG ?_)|(show VA ..;refine xA ?_)|(show VZ ..;refine .s ?_)|(show VE ..;refine .mk ?_))
   all_goals clear hv hi eb en
   all_goals try (conv=>whnf)
   ·rw [hc] at hg;subst hg;rfl
   ·rename_i e1
    rw [e1,hc] at hg
    subst hg
    rw [wn (by simpa using e1)]
    simp only [G9.at,cond_true,cond_false,List.nil_append,List.map_append,List.cons_append,List.map_cons,List.map_nil];rfl
   ·rename_i e1 e2
    rw [e1,e2,hc] at hg;subst hg;rfl
   ·rename_i e1 e2
    obtain⟨_,g1,g2,_⟩:=gv (by simpa using e1)
    have w:=wn (by simpa using e1)
    have hlt:=qam (qad l) (a:=q.next) (by simpa using hc)
    rw [e1,e2,hc] at hg
    simp only [cond_true,cond_false,Bool.not_true,Bool.not_false] at hg
    exact⟨⟨((q.next+1,x::r++[q.v]),g0),by simp only [List.length_append,List.length_cons,List.length_nil];omega,by dsimp only;omega,by dsimp only;omega,by simp only [List.length_append,List.length_cons,List.length_nil];rw [hk2];exact hg⟩,[.cell (G7.at q)],by simp only [List.length_append,List.length_cons,List.length_nil] at *;omega,Nat.le_of_ble_eq_true rfl,⟨rfl,congrArg (fun z=>D.a (.v (.int .i64 z))) w,rfl,rfl,by simp only [oE,List.cons_append,List.length_append,List.length_cons,List.length_nil];rfl,trivial⟩,by simp only [oB,List.cons_append,List.nil_append,List.length_append,List.length_cons,List.length_nil,List.map_cons,List.map_append,List.map_nil];rfl,rfl,rfl⟩
theorem pd9locals (l:List Tok) (hl:Toks l) (ps:List (List UInt8)) (hn:ps.length≤1048576) (a:Int) (h0:0≤a) (h1:a≤l.length):qaa Tryz.prog 87 [.a (.sl (l.map Tok.at)),.a (.v (.int .i64 a)),.a (.sl (ps.map qaj))] (.r (G9.at (locF l ps 12 a []))):=by
 have hlen:=hl.len
 have hL:l.length≤1048576:=by omega
 refine qaa.vx [0,1,2,6,7,8,11,14,25,33] Tryz.func87 rfl Tryz.ntmps87 rfl rfl rfl (fun C hro hst=>?_)
 repeat' ((conv=>whnf);first|(show VD ..;refine .q ?_)|(show VK ..;refine xK ?_)|(show VB ..;first|refine VB.tt (by decide) ?_|refine VB.ff (by decide) ?_|refine VB.mk (fun hc=>?_) fun hc=>?_)|(show VI ..;refine xJ ?_)|(show VG ..;refine xG ?_)|(show VA ..;refine xA ?_)|(show VZ ..;refine .s ?_)|(show VE ..;refine .mk ?_))
 obtain⟨g,hg⟩:∃g,locF l ps 12 a []=g:=⟨_,rfl⟩
 rw [hg]
 refine VL.g (α:={ y:(Int×List Vr)×G7 // y.1.2.length≤12∧0≤y.1.1∧y.1.1≤l.length∧locF l ps (12-y.1.2.length) y.1.1 y.1.2=g }) (fun y=>[(0,.a (.sl (l.map Tok.at))),(1,.a (.v (.int .i64 y.1.1.1))),(2,.a (.sl (ps.map qaj))),(6,.a (.ptr 0 0)),(7,oE 2 y.1.1.2)]) (fun y=>oB [.cell (G9.at ⟨Cs.zero,Me.zero,[],[],0,0,0⟩)] [.cell (G7.at y.1.2)] 13 Vr.at y.1.1.2) (fun y=>12-y.1.1.2.length) ⟨((a,[]),⟨[],Ty.zero,Vr.zero,0,0,0⟩),Nat.zero_le _,by dsimp only;omega,by dsimp only;omega,hg⟩ ⟨rfl,rfl,rfl,rfl,rfl,trivial⟩ rfl ?_
 clear hg h0 h1
 rintro⟨⟨⟨b,out⟩,g0⟩,hol,hb0,hb1,hg⟩
 dsimp only at hol hb0 hb1 hg ⊢
 obtain⟨hv,gv⟩:=pd7VarT l hl ps hn b hb0 hb1
 rw [qgz] at hg
 have hbg:=pd7Begins l b hL hb0 (by omega)
 generalize beg7 l b=bg at *
 generalize var7 l ps b=q at *
 have hi:=fun s=>qbx l q.next s hL
 have eb:=qas l 6 b hL
 have en:=qas l 3 q.next hL
 have wn:q.err=0→IntKind.i64.wrap (q.next+1)=q.next+1:=fun h=>by obtain⟨_,g1,g2,_⟩:=gv h;exact qah (by omega) (by omega)
 cases out with
 | nil =>
  obtain⟨k,hk,hk2⟩:∃k,12-([]:List Vr).length=k+1∧12-1=k:=⟨12-1,rfl,rfl⟩
  rw [hk,show ((([]:List Vr).length:Int)==12)=false from rfl] at hg
  simp only [oE,oB]
  repeat' ((conv=>whnf);first|(show VD ..;refine .q ?_)|(show VK ..;refine xK ?_)|(show VB ..;first|refine VB.tt (by decide) ?_|refine VB.ff (by decide) ?_|refine VB.mk (fun hc=>?_) fun hc=>?_)|(show VC ..;first|refine xC (fun hg=>by first|exact hv|exact hi _|exact eb|exact en|exact hbg) ?_|refine xL (fun hg=>by first|exact hv|exact hi _|exact eb|exact en|exact hbg) ?_)|(show VI ..;refine xJ ?_)|(show VG ..;refine xG ?_)|(show VA ..;refine xA ?_)|(show VZ ..;refine .s ?_)|(show VE ..;refine .mk ?_))
  all_goals clear hv hi eb en hbg
  all_goals try (conv=>whnf)
  ·rename_i e0
   rw [e0,hc] at hg;subst hg;rfl
  ·rename_i e0 e1
   rw [e0,e1,hc] at hg;subst hg;rfl
  ·rename_i e0 e1
   obtain⟨_,g1,g2,_⟩:=gv (by simpa using e1)
   have w:=wn (by simpa using e1)
   have hlt:=qam (qad l) (a:=q.next) (by simpa using hc)
   rw [e0,e1,hc] at hg
   simp only [cond_true,cond_false,Bool.not_true,Bool.not_false] at hg
   exact⟨⟨((q.next+1,[q.v]),q),Nat.le_of_ble_eq_true rfl,by dsimp only;omega,by dsimp only;omega,by show locF l ps (12-1) _ _=g;rw [hk2];exact hg⟩,[],Nat.le_of_ble_eq_true rfl,Nat.le_of_ble_eq_true rfl,⟨rfl,congrArg (fun z=>D.a (.v (.int .i64 z))) w,rfl,rfl,rfl,trivial⟩,rfl,rfl,rfl⟩
  ·rw [hc] at hg;subst hg;rfl
 | cons x r =>
  have hrl:r.length≤11:=by simpa using hol
  simp only [oE,oB]
  rcases (show r.length=11∨r.length≤10 by omega) with h3|h3
  ·have h4:(((List.map Vr.at (x::r)).length:Int)==12)=true:=by rw [List.length_map,List.length_cons,h3];rfl
   have h5:(((x::r).length:Int)==12)=true:=by rw [List.length_cons,h3];rfl
   repeat' ((conv=>whnf);first|(show VD ..;refine .q ?_)|(show VK ..;refine xK ?_)|(show VB ..;first|refine VB.tt (by exact h4) ?_|refine VB.ff (by exact h4) ?_|refine VB.mk (fun hc=>?_) fun hc=>?_)|(show VC ..;first|refine xC (fun hg=>by first|exact hv|exact hi _|exact eb|exact en|exact hbg) ?_|refine xL (fun hg=>by first|exact hv|exact hi _|exact eb|exact en|exact hbg) ?_)|(show VI ..;refine xJ ?_)|(show VG ..;refine xG ?_)|(show VA ..;refine xA ?_)|(show VZ ..;refine .s ?_)|(show VE ..;refine .mk ?_))
   all_goals (rw [h5,hc] at hg;subst hg;rfl)
  ·have h4:(((List.map Vr.at (x::r)).length:Int)==12)=false:=by simp only [List.length_map,List.length_cons,beq_eq_false_iff_ne];omega
   have h5:(((x::r).length:Int)==12)=false:=by simp only [List.length_cons,beq_eq_false_iff_ne];omega
   obtain⟨k,hk,hk2⟩:∃k,12-(x::r).length=k+1∧12-(r.length+2)=k:=⟨10-r.length,by rw [List.length_cons];omega,by omega⟩
   rw [hk,h5] at hg
   repeat' ((conv=>whnf);first|(show VD ..;refine .q ?_)|(show VK ..;refine xK ?_)|(show VB ..;first|refine VB.tt (by exact h4) ?_|refine VB.ff (by exact h4) ?_|refine VB.mk (fun hc=>?_) fun hc=>?_)|(show VC ..;first|refine xC (fun hg=>by first|exact hv|exact hi _|exact eb|exact en|exact hbg) ?_|refine xL (fun hg=>by first|exact hv|exact hi _|exact eb|exact en|exact hbg) ?_)|(show VI ..;refine xJ ?_)|(show VG ..;refine xG ?_)|(show VA ..;refine xA ?_)|(show VZ ..;refine .s ?_)|(show VE ..;refine .mk ?_))
   all_goals clear hv hi eb en hbg
   all_goals try (conv=>whnf)
   ·rename_i e0
    rw [e0,hc] at hg;subst hg;rfl
   ·rename_i e0 e1
    rw [e0,e1,hc] at hg;subst hg;rfl
   ·rename_i e0 e1
    obtain⟨_,g1,g2,_⟩:=gv (by simpa using e1)
    have w:=wn (by simpa using e1)
    have hlt:=qam (qad l) (a:=q.next) (by simpa using hc)
    rw [e0,e1,hc] at hg
    simp only [cond_true,cond_false,Bool.not_true,Bool.not_false] at hg
    exact⟨⟨((q.next+1,x::r++[q.v]),g0),by simp only [List.length_append,List.length_cons,List.length_nil];omega,by dsimp only;omega,by dsimp only;omega,by simp only [List.length_append,List.length_cons,List.length_nil];rw [hk2];exact hg⟩,[.cell (G7.at q)],by simp only [List.length_append,List.length_cons,List.length_nil] at *;omega,Nat.le_of_ble_eq_true rfl,⟨rfl,congrArg (fun z=>D.a (.v (.int .i64 z))) w,rfl,rfl,by simp only [oE,List.cons_append,List.length_append,List.length_cons,List.length_nil];rfl,trivial⟩,by simp only [oB,List.cons_append,List.nil_append,List.length_append,List.length_cons,List.length_nil,List.map_cons,List.map_append,List.map_nil];rfl,rfl,rfl⟩
   ·rw [hc] at hg;subst hg;rfl
end
end Go.Proofs.YtfbopaaambkfkaaGreatDoor
