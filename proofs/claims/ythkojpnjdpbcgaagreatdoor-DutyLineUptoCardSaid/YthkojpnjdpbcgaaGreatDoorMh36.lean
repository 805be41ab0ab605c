/- The document's shape of expressions, and what fits, on plain data. Conditions: at most 2^20 of anything. -/
import Derived.Test.YthkojpnjdpbcgaaGreatDoorMh32
import Derived.Test.YthkojpnjdpbcgaaGreatDoorMh25
import Derived.Test.YthkojpnjdpbcgaaGreatDoorMh26
import Derived.Test.YthkojpnjdpbcgaaGreatDoorMh35
import Derived.Test.YthkojpnjdpbcgaaGreatDoorMh22
set_option linter.unusedVariables false
set_option maxRecDepth 100000
set_option maxHeartbeats 8000000
set_option linter.unusedSimpArgs false
namespace Go.Proofs.YthkojpnjdpbcgaaGreatDoor
open Go.RowKit
theorem thisC (c:Cs):(c.params.length=0∧qbv c=[(2,0)]∧qe5 c=⟨2,c.name,0,(2,0),(0,0),(0,0),(0,0)⟩)∨(c.params.length=1∧qbv c=[(2,0),(3,1)]∧qe5 c=⟨2,c.name,1,(2,0),(3,1),(0,0),(0,0)⟩)∨(c.params.length=2∧qbv c=[(2,0),(3,1),(3,2)]∧qe5 c=⟨2,c.name,2,(2,0),(3,1),(3,2),(0,0)⟩)∨(3≤c.params.length∧(∃r,qbv c=(2,0)::(3,1)::(3,2)::(3,3)::r)∧qe5 c=⟨2,c.name,3,(2,0),(3,1),(3,2),(3,3)⟩):=by
  unfold qe5 qfy qbv
  generalize c.params.length=n
  match n with
  | 0=>exact Or.inl ⟨rfl,rfl,rfl⟩
  | 1=>exact Or.inr (Or.inl ⟨rfl,rfl,rfl⟩)
  | 2=>exact Or.inr (Or.inr (Or.inl ⟨rfl,rfl,rfl⟩))
  | k+3 =>
    refine Or.inr (Or.inr (Or.inr ⟨by omega,⟨(List.range k).map fun i=>(3,((i+3+1:Nat):Int)),?_⟩,?_⟩))
    · simp [List.range_succ_eq_map,Function.comp_def];intros;omega
    · rw [show min (k+3+1) 4=4 by omega];simp [List.range_succ_eq_map]
theorem owIx (l:List (Int×Int)) (i:Nat) (q:Int×Int) (h:l[i]? = some q) (z:Int) (hz:z=(i:Int)):∀q2,ixD (some 2) q2 (.a (.sl (l.map owAt))) (.a (.v (.int .i64 z)))=some (.a (.ref (owAt q) 0)):=fun q2=>by subst hz;exact qaq rfl (by rw [List.getElem?_map,h];rfl) (by simp only [go_sem])
theorem qoc (c:Cs) (hcp:c.params.length≤1048576):qaa Tryz.prog 33 [.r (Cs.at c)] (.r (Ty.at (qe5 c))):=by
  have hq:=pr15This c hcp
  have z1:=zrTy
  have w0:owAt (2,0)=[.v (.int .i64 2),.v (.int .i64 0)]:=rfl
  have w1:owAt (3,1)=[.v (.int .i64 3),.v (.int .i64 1)]:=rfl
  have w2:owAt (3,2)=[.v (.int .i64 3),.v (.int .i64 2)]:=rfl
  have w3:owAt (3,3)=[.v (.int .i64 3),.v (.int .i64 3)]:=rfl
  rcases thisC c with ⟨hn,hL,hT⟩|⟨hn,hL,hT⟩|⟨hn,hL,hT⟩|⟨hn,⟨r,hL⟩,hT⟩
  · rw [hT]
    have hm:min (3:Int) (c.params.length:Int)=0:=by omega
    have x0:=owIx (qbv c) 0 (2,0) (by rw [hL];rfl) 0 rfl
    generalize qbv c=L at hq x0
    refine qaa.go Tryz.func33 rfl Tryz.ntmps33 rfl rfl rfl (fun C hro=>?_)
    have fx:=trivial
    replace fx:=ai15 hm (ai15 x0 (ai15 w0 (ai15 z1 trivial)))
    repeat' (first|refine stp [0,1,2,3,4,5,18] ?_|(refine stc (r1:=by exact hq) (r2:=?_);refine rnx ?_)|refine WP.loop_in ?_|refine WPIn.unroll ?_|fail)
    all_goals first|rfl|trace_state
  · rw [hT]
    have hm:min (3:Int) (c.params.length:Int)=1:=by omega
    have x0:=owIx (qbv c) 0 (2,0) (by rw [hL];rfl) 0 rfl
    have x1:=owIx (qbv c) 1 (3,1) (by rw [hL];rfl) 1 rfl
    generalize qbv c=L at hq x0 x1
    refine qaa.go Tryz.func33 rfl Tryz.ntmps33 rfl rfl rfl (fun C hro=>?_)
    have fx:=trivial
    replace fx:=ai15 hm (ai15 x0 (ai15 x1 (ai15 w0 (ai15 w1 (ai15 z1 trivial)))))
    repeat' (first|refine stp [0,1,2,3,4,5,18] ?_|(refine stc (r1:=by exact hq) (r2:=?_);refine rnx ?_)|refine WP.loop_in ?_|refine WPIn.unroll ?_|fail)
    all_goals first|rfl|trace_state
  · rw [hT]
    have hm:min (3:Int) (c.params.length:Int)=2:=by omega
    have x0:=owIx (qbv c) 0 (2,0) (by rw [hL];rfl) 0 rfl
    have x1:=owIx (qbv c) 1 (3,1) (by rw [hL];rfl) 1 rfl
    have x2:=owIx (qbv c) 2 (3,2) (by rw [hL];rfl) 2 rfl
    generalize qbv c=L at hq x0 x1 x2
    refine qaa.go Tryz.func33 rfl Tryz.ntmps33 rfl rfl rfl (fun C hro=>?_)
    have fx:=trivial
    replace fx:=ai15 hm (ai15 x0 (ai15 x1 (ai15 x2 (ai15 w0 (ai15 w1 (ai15 w2 (ai15 z1 trivial)))))))
    repeat' (first|refine stp [0,1,2,3,4,5,18] ?_|(refine stc (r1:=by exact hq) (r2:=?_);refine rnx ?_)|refine WP.loop_in ?_|refine WPIn.unroll ?_|fail)
    all_goals first|rfl|trace_state
  · rw [hT]
    have hm:min (3:Int) (c.params.length:Int)=3:=by omega
    have x0:=owIx (qbv c) 0 (2,0) (by rw [hL];rfl) 0 rfl
    have x1:=owIx (qbv c) 1 (3,1) (by rw [hL];rfl) 1 rfl
    have x2:=owIx (qbv c) 2 (3,2) (by rw [hL];rfl) 2 rfl
    have x3:=owIx (qbv c) 3 (3,3) (by rw [hL];rfl) 3 rfl
    generalize qbv c=L at hq x0 x1 x2 x3
    refine qaa.go Tryz.func33 rfl Tryz.ntmps33 rfl rfl rfl (fun C hro=>?_)
    have fx:=trivial
    replace fx:=ai15 hm (ai15 x0 (ai15 x1 (ai15 x2 (ai15 x3 (ai15 w0 (ai15 w1 (ai15 w2 (ai15 w3 (ai15 z1 trivial)))))))))
    repeat' (first|refine stp [0,1,2,3,4,5,18] ?_|(refine stc (r1:=by exact hq) (r2:=?_);refine rnx ?_)|refine WP.loop_in ?_|refine WPIn.unroll ?_|fail)
    all_goals first|rfl|trace_state
theorem qke (c:Cs) (m:Me) (s:List UInt8) (hc:c.params.length≤1048576) (ha:m.params.length≤1048576) (hb:m.locals.length≤1048576):qaa Tryz.prog 13 [.r (Cs.at c),.r (Me.at m),.a (.v (.string (bs s)))] (.t [.r (Ty.at (qam c m s).1),.a (.v (.bool (qam c m s).2))]):=by
  have z1:=zrTy
  cases hT:(s==qdm) with
  | true =>
    have hts:(s==[116,104,105,115])=true:=hT
    rw [show qam c m s=(qe5 c,true) by unfold qam;rw [if_pos hT]]
    have hq:=qoc c hc
    generalize qe5 c=T at hq ⊢
    dsimp only
    refine qaa.go Tryz.func13 rfl Tryz.ntmps13 rfl rfl rfl (fun C hro=>?_)
    have fx:=trivial
    replace fx:=ai15 hts trivial
    repeat' (first|refine stp [0,1,2,3,4,6,7,8,10,17] ?_|(refine stc (r1:=by exact hq) (r2:=?_);refine rnx ?_)|fail)
    all_goals rfl
  | false =>
    have hts:(s==[116,104,105,115])=false:=hT
    rcases qge m s with hp|⟨j,z,hz,_,hp⟩
    · have hd:decide (qa3 m s<0)=true:=decide_eq_true (by omega)
      rw [show qam c m s=(Ty.zero,false) by unfold qam;rw [if_neg (by rw [hT];exact Bool.false_ne_true),if_pos (by omega)]]
      refine qaa.go Tryz.func13 rfl Tryz.ntmps13 rfl rfl rfl (fun C hro=>?_)
      have fx:=trivial
      replace fx:=ai15 hts (ai15 hd trivial)
      repeat' (first|refine stp [0,1,2,3,4,6,7,8,10,17] ?_|(refine stc (r1:=by exact qht m s ha hb) (r2:=?_);refine rnx ?_)|fail)
      all_goals rfl
    · have hd:decide ((j:Int)<0)=false:=decide_eq_false (by omega)
      have hjx:∀q2,ixD (some 13) q2 (.a (.sl ((m.params++m.locals).map Vr.at))) (.a (.v (.int .i64 (j:Int))))=some (.a (.ref (Vr.at z) 0)):=fun q2=>qaq rfl (by rw [List.getElem?_map,hz];rfl) (by simp only [go_sem])
      have hma:List.map Vr.at m.params++List.map Vr.at m.locals=(m.params++m.locals).map Vr.at:=List.map_append.symm
      rw [show qam c m s=(z.ty,true) by unfold qam;rw [if_neg (by rw [hT];exact Bool.false_ne_true),if_neg (by omega),hp,Int.toNat_natCast,hz];rfl]
      refine qaa.go Tryz.func13 rfl Tryz.ntmps13 rfl rfl rfl (fun C hro=>?_)
      have fx:=trivial
      replace fx:=ai15 hts (ai15 hp (ai15 hd (ai15 hjx trivial)))
      repeat' (first|refine stp [0,1,2,3,4,6,7,8,10,17] ?_|(refine stc (r1:=by first|exact qht m s ha hb|exact qkf m ha hb) (r2:=?_);refine rnx ?_)|fail)
      all_goals rfl
theorem qpd:qaa Tryz.prog 183 [] (.r (Ty.at (tyK 1))):=by
  have z1:=zrTy
  refine qaa.go Tryz.func183 rfl Tryz.ntmps183 rfl rfl rfl (fun C hro=>?_)
  have fx:=trivial
  replace fx:=ai15 z1 trivial
  repeat' (first|refine stp [0] ?_|fail)
  rfl
theorem qeo (p:List Cs) (f t:Ty) (hn:p.length≤1048576):qaa Tryz.prog 68 [.a (.sl (p.map Cs.at)),.r (Ty.at f),.r (Ty.at t)] (.a (.v (.int .i64 (qc5 p f t)))):=by
  refine qaa.go Tryz.func68 rfl Tryz.ntmps68 rfl rfl rfl (fun C hro=>?_)
  have fx:=trivial
  repeat' (first|refine stp [0,1,2,4,5,6,7,8,9,39,56,63,64] ?_|(refine stc (r1:=by first|exact qbg f|exact qbg t|exact qfv p f.cls t.cls hn) (r2:=?_);refine rnx ?_)|refine WP.cn (fun hc=>?_) (fun hc=>?_)|((refine WP.dw (id:=1) 6 [0,1,2,4,5,6,7,8,9,39,56,63,64] ?_);simp only [qbd,List.drop_succ_cons,List.drop_zero,List.drop_nil])|fail)
  all_goals (refine qaw ?_;unfold qc5;generalize qar f=a at *;generalize qar t=b at *;generalize qb1 p f.cls t.cls=d at *;by_cases q1:f.kind=1<;>by_cases q2:f.kind=2<;>by_cases q3:f.kind=3<;>by_cases q4:t.kind=1<;>by_cases q5:t.kind=2<;>first|(exfalso;omega)|(cases a<;>cases b<;>cases d<;>simp_all))
theorem qhs (p:List Cs) (f t:Ty) (hn:p.length≤1048576):qaa Tryz.prog 66 [.a (.sl (p.map Cs.at)),.r (Ty.at f),.r (Ty.at t)] (.a (.v (.int .i64 (qej p f t)))):=by
  refine qaa.go Tryz.func66 rfl Tryz.ntmps66 rfl rfl rfl (fun C hro=>?_)
  have fx:=trivial
  repeat' (first|refine stp [0,1,2,4,5,6,14,17,24] ?_|(refine stc (r1:=by first|exact qbg f|exact qfv p f.cls t.cls hn) (r2:=?_);refine rnx ?_)|refine WP.cn (fun hc=>?_) (fun hc=>?_)|fail)
  all_goals (refine qaw ?_;unfold qej;generalize qar f=a at *;generalize qb1 p f.cls t.cls=d at *;by_cases q2:f.kind=2<;>by_cases q5:t.kind=2<;>cases a<;>cases d<;>simp_all)
theorem pickOr:∀a b c:Bool,(bif a&&c then true else bif c then b else false)=((a||b)&&c):=by decide
theorem pr19of (c:Cs) (m:Me) (hcp:c.params.length≤1048576) (ha:m.params.length≤1048576) (hb:m.locals.length≤1048576):∀(n:Nat) (e:Ex),e.sz≤n→e.sz≤1048576→qaa Tryz.prog 128 [.r (Cs.at c),.r (Me.at m),.r (Ex.at e)] (.t [.r (Ty.at (shT c m e).1),.a (.v (.int .i64 (shT c m e).2))])
  | 0,e,h,_=>by have:=e.sz_pos;omega
  | n+1,e,h,hz=>by
    have IH:∀k∈e.kids,qaa Tryz.prog 128 [.r (Cs.at c),.r (Me.at m),.r (Ex.rw k)] (.t [.r (Ty.at (shT c m k).1),.a (.v (.int .i64 (shT c m k).2))]):=fun k hk=>by rw [←Ex.at_rw];exact pr19of c m hcp ha hb n k (by have:=Ex.kid_lt hk;omega) (by have:=Ex.kid_lt hk;omega)
    have hlen:e.kids.length≤1048576:=by have:=Ex.szs_len e.kids;have:=e.sz_eq;omega
    have g1:=qke c m e.name hcp ha hb
    have g2:=qoc c hcp
    have g3:=qpd
    rw [shT_eq,Ex.at_rv]
    generalize qam c m e.name=R at *
    generalize qe5 c=th at *
    refine qaa.vx [0,1,2,3,4,5,6,7,8,9,10,11,12,13,14,17,27,32,37,43,58,66,72,82,94] Tryz.func128 rfl Tryz.ntmps128 rfl rfl rfl (fun C hro hst=>?_)
    repeat' ((conv=>whnf);first|refine stv ?_|(show VB ..;refine VB.mk (fun hc=>?_) fun hc=>?_)|(show VC ..;refine xC (fun hg=>by first|exact g1|exact g2) ?_))
    · rename_i h1;rw [if_pos h1,if_neg (by simpa using hc)];rfl
    · rename_i h1;rw [if_pos h1,if_pos (by simpa using hc)];rfl
    · rename_i h2;rw [if_neg (by simp [h2]),if_pos hc];rfl
    · rename_i h2 h3;rw [if_neg (by simp [h2]),if_neg (by simp [h3]),if_pos hc];rfl
    rename_i h2 h3
    rw [if_neg (by simp [h2]),if_neg (by simp [h3]),if_neg (by simp [hc])]
    clear h2 h3 hc
    conv=>whnf
    refine VL.g (fun y:{ y:Nat×Bool // y.1≤e.kids.length∧shsT c m e.kind false e.kids=shsT c m e.kind y.2 (e.kids.drop y.1) }=>[(3,.a (.ptr 0 0)),(4,.a (.ptr 1 0)),(5,.a (.ptr 2 0)),(6,.a (.ptr 3 0)),(10,.a (.v (.bool (y.1.2&&e.kind==14)))),(11,.a (.v (.int .i64 (y.1.1:Nat))))]) (fun _=>[.cell (Cs.at c),.cell (Me.at m),.cell (Ex.rv e),.cell (Ty.at Ty.zero)]) (fun y=>e.kids.length-y.1.1) ⟨(0,false),by omega,rfl⟩ ⟨rfl,rfl,rfl,rfl,rfl,rfl,trivial⟩ rfl ?_
    rintro⟨⟨k,u⟩,hk,hinv⟩
    dsimp only at hk hinv ⊢
    by_cases hlt:k<e.kids.length
    · obtain⟨z,hz⟩:∃z,e.kids[k]? = some z:=⟨_,List.getElem?_eq_getElem hlt⟩
      have hix:(e.kids.map Ex.rw)[k]? = some (Ex.rw z):=by rw [List.getElem?_map,hz];rfl
      have hlt2:decide ((k:Int)<(((e.kids.map Ex.rw).length:Nat):Int))=true:=decide_eq_true (by rw [List.length_map];omega)
      have hw:IntKind.i64.wrap ((k:Int)+1)=((k+1:Nat):Int):=qap (by omega)
      have hdr:e.kids.drop k=z::e.kids.drop (k+1):=by rw [List.drop_eq_getElem_cons hlt];congr 1;exact (List.getElem?_eq_some_iff.1 hz).2
      rw [hdr,shsT] at hinv
      have hIz:=IH z (lm4 hz)
      generalize shT c m z=Q at hIz hinv
      clear IH
      have hA:(Q.2 != 0)=true→shsT c m e.kind false e.kids=(Ty.zero,Q.2):=fun h=>by rw [hinv,if_neg (by simp at h;simp [h]),if_pos h]
      have hB:(Q.2 != 0)=false→qmq e.kind Q.1=false→shsT c m e.kind false e.kids=(Ty.zero,14):=fun h h'=>by rw [hinv,if_pos (by simp at h;simp [h,h'])]
      have hC:(Q.2 != 0)=false→qmq e.kind Q.1=true→shsT c m e.kind false e.kids=shsT c m e.kind (u||qar Q.1) (e.kids.drop (k+1)):=fun h h'=>by rw [hinv,if_neg (by simp [h']),if_neg (by rw [h];exact Bool.false_ne_true)]
      clear hinv
      have hU:=qbg Q.1
      have hWd:qmq e.kind Q.1=(bif e.kind==13 then Q.1.kind==2 else bif e.kind==14 then Q.1.kind==2||Q.1.kind==3 else Q.1.kind==1):=by unfold qmq;cases e.kind==13<;>cases e.kind==14<;>rfl
      generalize qar Q.1=un at *
      repeat' ((conv=>whnf);first|(show VD ..;refine VD.dl [99999] ?_)|(show VI ..;refine xI (fun _=>by exact hix) ?_)|refine stv ?_|(show VB ..;first|refine VB.tt (by exact hlt2) ?_|refine VB.mk (fun hc=>?_) fun hc=>?_)|(show VC ..;refine xC (fun hg=>by exact hU) ?_)|(show VCc ..;refine xO (fun hg=>by exact hIz) ?_))
      · rw [hA hc];rfl
      all_goals first
      | (rw [hB (by assumption) (by rw [hWd];simp_all<;>omega)];rfl)
      | (conv=>whnf
         exact⟨⟨(k+1,u||un),by dsimp only;omega,hC (by assumption) (by rw [hWd];simp_all<;>omega)⟩,_,by dsimp only;omega,Nat.le_refl _,⟨rfl,rfl,rfl,rfl,congrArg (fun b=>D.a (.v (.bool b))) (pickOr u un (e.kind==14)),congrArg (fun z=>D.a (.v (.int .i64 z))) hw,trivial⟩,rfl,rfl,rfl⟩)
    · obtain rfl:k=e.kids.length:=by omega
      have hlt2:decide ((e.kids.length:Int)<(((e.kids.map Ex.rw).length:Nat):Int))=false:=decide_eq_false (by rw [List.length_map];omega)
      rw [List.drop_length,shsT] at hinv
      clear IH
      repeat' ((conv=>whnf);first|refine stv ?_|(show VB ..;first|refine VB.ff (by exact hlt2) ?_|refine VB.mk (fun hc=>?_) fun hc=>?_)|(show VC ..;refine xC (fun hg=>by exact g3) ?_))
      · rw [hinv,if_pos hc];rfl
      · rw [hinv,if_neg (by simp [hc])];rfl
theorem qjd (c:Cs) (m:Me) (e:Ex) (hcp:c.params.length≤1048576) (ha:m.params.length≤1048576) (hb:m.locals.length≤1048576) (hz:e.sz≤1048576):qaa Tryz.prog 67 [.r (Cs.at c),.r (Me.at m),.r (Ex.at e)] (.t [.r (Ty.at (oneT c m e).1),.a (.v (.int .i64 (oneT c m e).2))]):=by
  have hq:=pr19of c m hcp ha hb _ e (Nat.le_refl _) hz
  unfold oneT
  generalize shT c m e=R at hq
  have hr:=qm6 e hz
  rw [Ex.at_rw] at hr hq ⊢
  refine qaa.vx [0,1,2,3,4,5,6,7,10] Tryz.func67 rfl Tryz.ntmps67 rfl rfl rfl (fun C hro hst=>?_)
  repeat' ((conv=>whnf);first|refine stv ?_|(show VB ..;refine VB.mk (fun hc=>?_) fun hc=>?_)|(show VC ..;refine xC (fun hg=>by first|exact hr|exact hq) ?_))
  · rw [if_neg (by simpa using hc)];rfl
  · rw [if_pos (by simpa using hc)];rfl
structure Fs where
  cls:List UInt8
  var:Vr
def Fs.at:Fs→List A
  | ⟨cls,var⟩=>[.v (.string (bs cls))]++Vr.at var
section
variable (s:Fs)
theorem Fs.row:Fs.at s=[.v (.string (bs s.cls)),.v (.string (bs s.var.name)),.v (.int .i64 s.var.ty.kind),.v (.string (bs s.var.ty.cls)),.v (.int .i64 s.var.ty.n),.v (.int .i64 s.var.ty.o0.1),.v (.int .i64 s.var.ty.o0.2),.v (.int .i64 s.var.ty.o1.1),.v (.int .i64 s.var.ty.o1.2),.v (.int .i64 s.var.ty.o2.1),.v (.int .i64 s.var.ty.o2.2),.v (.int .i64 s.var.ty.o3.1),.v (.int .i64 s.var.ty.o3.2),.v (.int .i64 s.var.at_)]:=by obtain⟨cls,⟨var_name,⟨var_ty_kind,var_ty_cls,var_ty_n,var_ty_o0,var_ty_o1,var_ty_o2,var_ty_o3⟩,var_at_⟩⟩:=s;simp only [Fs.at,Vr.at,Ty.at];rfl
@[go_sem] theorem Fs.len:(Fs.at s).length=14:=by rw [Fs.row];rfl
@[go_sem] theorem Fs.cl:(Fs.at s).all clA=true:=by rw [Fs.row];rfl
@[go_sem] theorem Fs.see (st:List Bx):(Fs.at s).map (seeA st)=Fs.at s:=by rw [Fs.row];rfl
@[go_sem] theorem Fs.nr (m:Nat):(Fs.at s).all (nrA m)=true:=by rw [Fs.row];rfl
@[go_sem] theorem Fs.w:qaf (some 14) (Fs.at s) 0=some (.r (Fs.at s)):=qby (Fs.len s)
@[go_sem] theorem Fs.pw (t:Fs):qai (Fs.at s) 0 (Fs.at t)=Fs.at t:=qbq (by rw [Fs.len,Fs.len])
@[go_sem] theorem Fs.g1:qaf none (Fs.at s) 1=some (.a (.v (.string (bs s.var.name)))):=by rw [Fs.row];rfl
@[go_sem] theorem Fs.s2:qaf (some 11) (Fs.at s) 2=some (.r (Ty.at s.var.ty)):=by obtain⟨_,⟨_,⟨_,_,_,_,_,_,_⟩,_⟩⟩:=s;simp only [Fs.at,Vr.at,Ty.at];rfl
end
def Fs.zero:Fs:=⟨[],Vr.zero⟩
theorem Fs.z0:[A.v (.string ⟨#[]⟩),.v (.string ⟨#[]⟩),.v (.int .i64 0),.v (.string ⟨#[]⟩),.v (.int .i64 0),.v (.int .i64 0),.v (.int .i64 0),.v (.int .i64 0),.v (.int .i64 0),.v (.int .i64 0),.v (.int .i64 0),.v (.int .i64 0),.v (.int .i64 0),.v (.int .i64 0)]=Fs.at Fs.zero:=by unfold Fs.zero;simp only [Fs.at,Vr.zero,Vr.at,Ty.zero,Ty.at];rfl
def mkF (c:Cs) (v:Vr):Fs:=⟨c.name,v⟩
def fsOf (p:List Cs) (i:Int):List Fs:=((p[i.toNat]?).map fun c=>c.fields.map (mkF c)).getD []
def allT (p:List Cs) (l:List Int) (t:Nat):List Fs:=(l.reverse.take t).flatMap (fsOf p)
def allF (p:List Cs) (s:List UInt8):List Fs:=(qa5 p s).reverse.flatMap (fsOf p)
theorem qk6 (p:List Cs) (l:List Int):allT p l l.length=l.reverse.flatMap (fsOf p):=by unfold allT;rw [List.take_of_length_le (by simp)]
theorem qmk {p:List Cs} {l:List Int} {t j:Nat} {c:Cs} (h:l[l.length-1-t]? = some (j:Int)) (ht:t<l.length) (hj:p[j]? = some c):allT p l (t+1)=allT p l t++c.fields.map (mkF c):=by
  have hr:l.reverse[t]? = some (j:Int):=by rw [List.getElem?_reverse ht];exact h
  unfold allT
  rw [List.take_add_one,hr,List.flatMap_append]
  congr 1
  simp [fsOf,hj]
def wsum (f:Cs→Nat) (p:List Cs):List Nat→Nat
  | []=>0
  | i::m=>((p[i]?).map f).getD 0+wsum f p m
def dnL:List Nat→List Nat
  | []=>[]
  | 0::r=>dnL r
  | (k+1)::r=>k::dnL r
theorem qnl:∀(m:List Nat) (k:Nat),k∈dnL m→k+1∈m
  | [],k,h=>by simp [dnL] at h
  | 0::r,k,h=>by rw [dnL] at h;exact List.mem_cons_of_mem _ (qnl r k h)
  | (j+1)::r,k,h=>by
    rw [dnL,List.mem_cons] at h
    rcases h with rfl|h
    · exact List.mem_cons_self
    · exact List.mem_cons_of_mem _ (qnl r k h)
theorem qib:∀(m:List Nat),m.Nodup→(dnL m).Nodup
  | [],_=>by rw [dnL];exact List.nodup_nil
  | 0::r,h=>by rw [dnL];exact qib r (List.nodup_cons.1 h).2
  | (j+1)::r,h=>by
    rw [dnL]
    exact List.nodup_cons.2 ⟨fun hm=>(List.nodup_cons.1 h).1 (qnl r j hm),qib r (List.nodup_cons.1 h).2⟩
theorem wsum_no (f:Cs→Nat) (c:Cs) (r:List Cs):∀m:List Nat,0∉m→wsum f (c::r) m=wsum f r (dnL m)
  | [],_=>rfl
  | 0::m,h=>absurd List.mem_cons_self h
  | (k+1)::m,h=>by rw [wsum,dnL,wsum,List.getElem?_cons_succ,wsum_no f c r m fun h'=>h (List.mem_cons_of_mem _ h')]
theorem qns (f:Cs→Nat) (c:Cs) (r:List Cs):∀m:List Nat,m.Nodup→wsum f (c::r) m≤f c+wsum f r (dnL m)
  | [],_=>Nat.zero_le _
  | 0::m,h=>by
    rw [wsum,dnL,wsum_no f c r m (List.nodup_cons.1 h).1];simp
  | (k+1)::m,h=>by
    have:=qns f c r m (List.nodup_cons.1 h).2
    rw [wsum,dnL,wsum,List.getElem?_cons_succ];omega
theorem wsum_le (f:Cs→Nat):∀(p:List Cs) (m:List Nat),m.Nodup→wsum f p m≤qad f p
  | [],m,_=>by
    have:∀m:List Nat,wsum f [] m=0:=by intro m;induction m with|nil=>rfl|cons x r ih=>rw [wsum,ih];rfl
    rw [this];exact Nat.zero_le _
  | c::r,m,h=>by
    have h1:=qns f c r m h
    have h2:=wsum_le f r (dnL m) (qib m h)
    have h3:qad f (c::r)=f c+qad f r:=by first|rfl|simp [qad]
    omega
theorem qk5 {p:List Cs} {l:List Int} (h:PlN p l) (t:Nat):(allT p l t).length≤qad (fun c=>c.fields.length) p:=by
  have key:∀m:List Int,(m.flatMap (fsOf p)).length=wsum (fun c=>c.fields.length) p (m.map Int.toNat):=by
    intro m
    induction m with
    | nil=>rfl
    | cons x r ih =>
      rw [List.flatMap_cons,List.length_append,ih,List.map_cons,wsum]
      congr 1
      unfold fsOf
      cases p[x.toNat]?<;>simp
  unfold allT
  rw [key]
  refine wsum_le _ p _ ?_
  have hs:(List.take t l.reverse).Nodup:=List.Nodup.sublist (List.take_sublist t _) (List.pairwise_reverse.2 (List.Pairwise.imp (fun q=>Ne.symm q) h.1))
  refine List.pairwise_map.2 (List.Pairwise.imp_of_mem (fun {a b} ha hb hab=>?_) hs)
  obtain⟨k1,_,rfl,_⟩:=h.2 a (List.mem_reverse.1 (List.mem_of_mem_take ha))
  obtain⟨k2,_,rfl,_⟩:=h.2 b (List.mem_reverse.1 (List.mem_of_mem_take hb))
  intro he
  simp at he
  exact hab (by rw [he])
structure WayL (α:Type) (n:Nat) (Q:Nat→List α) where
  k:Nat
  q:List α
  v:Option Nat
  hk:k≤n
  hq:q=Q k
  hv:v=none→q=[]
def ouE (i:Nat):Option Nat→D
  | none=>.a .nl
  | some v=>.a (.own i v)
def ouC {α:Type} (n:Nat) (enc:α→List A) (q:List α):Option Nat→List Bx
  | none=>[]
  | some v=>[.arr v n (q.map enc)]
set_option maxRecDepth 100000
theorem pr16All (p:List Cs) (s:List UInt8) (hn:p.length≤1048576) (hF:qad (fun c=>c.fields.length) p≤1048576):qaa Tryz.prog 70 [.a (.sl (p.map Cs.at)),.a (.v (.string (bs s)))] (.a (.sl ((allF p s).map Fs.at))):=by
  have hch:=qfu p s hn
  have hok:=qbr p s
  unfold allF
  rw [←qk6]
  generalize qa5 p s=l at hch hok ⊢
  have hll:=hok.len
  have hTl:=fun t=>Nat.le_trans (qk5 hok t) hF
  have hw0:IntKind.i64.wrap (((l.map inAt).length:Int)-1)=(l.length:Int)-1-(0:Nat):=by rw [List.length_map,qbl (by omega) (by omega)];omega
  refine qaa.vx [0,1,4,5,6,7,8,9,17,31] Tryz.func70 rfl Tryz.ntmps70 rfl rfl rfl (fun C hro hst=>?_)
  repeat' ((conv=>whnf);first|refine stv ?_|(show VC ..;refine xC (fun hg=>by exact hch) ?_))
  conv=>whnf
  refine VL.gW (fun y:WayL Fs l.length (fun t=>allT p l t)=>[(0,.a (.sl (p.map Cs.at))),(5,.a (.sl (l.map inAt))),(6,ouE 0 y.v),(7,.a (.v (.int .i64 ((l.length:Int)-1-(y.k:Nat)))))]) (fun y=>ouC 14 Fs.at y.q y.v) (fun y=>l.length-y.k) ⟨0,[],none,Nat.zero_le _,rfl,fun _=>rfl⟩ ?_ ?_
  · dsimp only;rw [←hw0];exact Wk.agree ⟨rfl,rfl,rfl,rfl,trivial⟩
  rintro⟨t,q,ov,ht,hq,hv⟩
  dsimp only at ht ⊢
  by_cases hlt:t<l.length
  · have hzz:(l.length:Int)-1-(t:Nat)=((l.length-1-t:Nat):Int):=by omega
    have hge:decide (((l.length-1-t:Nat):Int)≥0)=true:=decide_eq_true (by omega)
    have hwd:IntKind.i64.wrap (((l.length-1-t:Nat):Int)-1)=(l.length:Int)-1-((t+1:Nat):Int):=by rw [qbl (by omega) (by omega)];omega
    obtain⟨i,hi⟩:∃i,l[l.length-1-t]? = some i:=⟨_,List.getElem?_eq_getElem (by omega)⟩
    obtain⟨j,c,rfl,hj⟩:=hok.2 i (lm4 hi)
    have hcf:c.fields.length≤1048576:=Nat.le_trans (qas (f:=fun c:Cs=>c.fields.length) (lm4 hj)) hF
    have hix:(l.map inAt)[l.length-1-t]? = some (inAt (j:Int)):=by rw [List.getElem?_map,hi];rfl
    have hjx:(p.map Cs.at)[j]? = some (Cs.at c):=by rw [List.getElem?_map,hj];rfl
    have hsu:=qmk hi hlt hj
    have hTt:=hTl (t+1)
    rw [hsu,List.length_append,List.length_map] at hTt
    rw [←hq] at hsu hTt
    rw [hzz]
    generalize l.length-1-t=u at *
    cases ov
    all_goals
      repeat' ((conv=>whnf);first|(show VI ..;refine xI (fun _=>by first|exact hix|exact hjx) ?_)|refine stv ?_|(show VB ..;refine VB.tt (by exact hge) ?_))
      conv=>whnf
      refine VL.gW (fun y:WayL Fs c.fields.length (fun k=>q++(c.fields.take k).map (mkF c))=>[(0,.a (.sl (p.map Cs.at))),(5,.a (.sl (l.map inAt))),(6,ouE 1 y.v),(7,.a (.v (.int .i64 (u:Nat)))),(8,.a (.ptr 0 0)),(9,.a (.v (.int .i64 (y.k:Nat))))]) (fun y=>[.cell (Cs.at c)]++ouC 14 Fs.at y.q y.v) (fun y=>c.fields.length-y.k) ⟨0,q,_,Nat.zero_le _,by simp,hv⟩ ?_ ?_
      · first|exact Wk.use [0] ⟨rfl,rfl,rfl,rfl,rfl,rfl,trivial⟩ ⟨by simp,rfl,rfl,rfl,rfl⟩ hst|exact Wk.use [1,0] ⟨rfl,rfl,rfl,rfl,rfl,rfl,trivial⟩ ⟨by simp,rfl,rfl,rfl,rfl⟩ hst
      rintro⟨k,q2,ov2,hk,hq2,hv2⟩
      by_cases hlk:k<c.fields.length
      · obtain⟨z,hz⟩:∃z,c.fields[k]? = some z:=⟨_,List.getElem?_eq_getElem hlk⟩
        have hiz:(c.fields.map Vr.at)[k]? = some (Vr.at z):=by rw [List.getElem?_map,hz];rfl
        have hlt2:decide ((k:Int)<(((c.fields.map Vr.at).length:Nat):Int))=true:=decide_eq_true (by rw [List.length_map];omega)
        have hw:IntKind.i64.wrap ((k:Nat)+1)=((k+1:Nat):Int):=qap (by omega)
        have hsn:q++(c.fields.take (k+1)).map (mkF c)=q2++[⟨c.name,z⟩]:=by rw [qan hz,List.map_append,hq2,List.append_assoc];rfl
        have hql:q2.length≤1048576:=by rw [hq2,List.length_append,List.length_map,List.length_take];omega
        obtain⟨y,hy1,hy2,hy3,hy4⟩:∃y:WayL Fs c.fields.length (fun k=>q++(c.fields.take k).map (mkF c)),c.fields.length-y.k<c.fields.length-k∧y.k=k+1∧y.q=q2++[⟨c.name,z⟩]∧y.v=some (match ov2 with|none=>0|some v=>v+1):=⟨⟨k+1,q2++[⟨c.name,z⟩],some _,by omega,hsn.symm,fun h=>by cases h⟩,by dsimp only;omega,rfl,rfl,rfl⟩
        cases ov2 with
        | none =>
          obtain rfl:=hv2 rfl
          repeat' ((conv=>whnf);first|(show VD ..;refine .q ?_)|(show VI ..;refine xI (fun _=>by exact hiz) ?_)|refine stv ?_|(show VB ..;refine VB.tt (by exact hlt2) ?_))
          conv=>whnf
          refine⟨y,hy1,?_⟩
          rw [hy2,hy3,hy4,←hw]
          exact Wk.agree ⟨rfl,rfl,rfl,rfl,rfl,rfl,trivial⟩
        | some v =>
          repeat' ((conv=>whnf);first|(show VD ..;refine .q ?_)|(show VI ..;refine xI (fun _=>by exact hiz) ?_)|refine stv ?_|(show VB ..;refine VB.tt (by exact hlt2) ?_))
          conv=>whnf
          refine⟨y,hy1,?_⟩
          rw [hy2,hy3,hy4,←hw]
          unfold ouC
          dsimp only
          rw [List.map_append]
          exact Wk.agree ⟨rfl,rfl,rfl,rfl,rfl,rfl,trivial⟩
      · obtain rfl:k=c.fields.length:=by omega
        have hlt2:decide (((c.fields.length:Nat):Int)<(((c.fields.map Vr.at).length:Nat):Int))=false:=decide_eq_false (by rw [List.length_map];omega)
        rw [List.take_length,←hsu] at hq2
        obtain⟨y,hy1,hy2,hy3,hy4⟩:∃y:WayL Fs l.length (fun t=>allT p l t),l.length-y.k<l.length-t∧y.k=t+1∧y.q=q2∧y.v=ov2:=⟨⟨t+1,q2,ov2,by omega,hq2,hv2⟩,by dsimp only;omega,rfl,rfl,rfl⟩
        cases ov2
        all_goals
          repeat' ((conv=>whnf);first|refine stv ?_|(show VB ..;refine VB.ff (by exact hlt2) ?_))
          conv=>whnf
          refine⟨y,hy1,?_⟩
          rw [hy2,hy3,hy4,←hwd]
          first|exact Wk.use [] ⟨rfl,rfl,rfl,rfl,trivial⟩ ⟨by simp,rfl,rfl,rfl,rfl⟩ hst|exact Wk.use [1] ⟨rfl,rfl,rfl,rfl,trivial⟩ ⟨by simp,rfl,rfl,rfl,rfl⟩ hst
  · obtain rfl:t=l.length:=by omega
    have hge:decide ((l.length:Int)-1-(l.length:Int)≥0)=false:=decide_eq_false (by omega)
    try dsimp only at hq
    subst hq
    cases ov with
    | none =>
      repeat' ((conv=>whnf);first|refine stv ?_|(show VB ..;refine VB.ff (by exact hge) ?_))
      rw [hv rfl];rfl
    | some v =>
      repeat' ((conv=>whnf);first|refine stv ?_|(show VB ..;refine VB.ff (by exact hge) ?_))
      rfl
theorem qo1 (p:List Cs) (s:List UInt8):(allF p s).length≤qad (fun c=>c.fields.length) p:=by
  have:=qk5 (qbr p s) (qa5 p s).length
  rwa [qk6] at this
def qme (p:List Cs) (s n:List UInt8):Int:=ixOf (fun f:Fs=>f.var.name==n) (allF p s) 0
def qa2 (p:List Cs) (s n:List UInt8):Fs×Bool:=if qme p s n<0 then (Fs.zero,false) else (((allF p s)[(qme p s n).toNat]?).getD Fs.zero,true)
theorem pr16Find (p:List Cs) (s n:List UInt8) (hn:p.length≤1048576) (hF:qad (fun c=>c.fields.length) p≤1048576):qaa Tryz.prog 69 [.a (.sl (p.map Cs.at)),.a (.v (.string (bs s))),.a (.v (.string (bs n)))] (.a (.v (.int .i64 (qme p s n)))):=by
  have hA:=pr16All p s hn hF
  have hlen:=Nat.le_trans (qo1 p s) hF
  unfold qme
  generalize allF p s=l at hA hlen ⊢
  refine qaa.vx [0,1,2,6,7,8,15,25] Tryz.func69 rfl Tryz.ntmps69 rfl rfl rfl (fun C hro hst=>?_)
  repeat' ((conv=>whnf);first|refine stv ?_|(show VC ..;refine xC (fun hg=>by exact hA) ?_))
  conv=>whnf
  refine VL.each l Fs.at (fun k=>[(2,.a (.v (.string (bs n)))),(7,.a (.sl (l.map Fs.at))),(8,.a (.v (.int .i64 (k:Nat))))]) (fun _=>[]) (fun k=>(l.take k).any (fun f:Fs=>f.var.name==n)=false) ⟨rfl,rfl,rfl,trivial⟩ rfl rfl (by omega) ?_ ?_
  · intro k z hz hd htk hlt hI hlt2 hix hw
    repeat' ((conv=>whnf);first|(show VI ..;refine xI (fun _=>by exact hix) ?_)|refine stv ?_|(show VB ..;first|refine VB.tt (by exact hlt2) ?_|refine VB.mk (fun hc=>?_) fun hc=>?_))
    all_goals rw [qao,qao] at hc
    · exact qaw (by rw [qdb _ l k 0 z hz hI hc,Nat.zero_add])
    · conv=>whnf
      exact⟨qmj htk hI hc,[],⟨rfl,rfl,congrArg (fun z=>D.a (.v (.int .i64 z))) hw,trivial⟩,rfl,rfl,rfl⟩
  · intro hI hlt2
    rw [List.take_length] at hI
    repeat' ((conv=>whnf);first|refine stv ?_|(show VB ..;refine VB.ff (by exact hlt2) ?_))
    exact qaw (by rw [qbz _ l 0 hI])
theorem pr16Of (p:List Cs) (s n:List UInt8) (hn:p.length≤1048576) (hF:qad (fun c=>c.fields.length) p≤1048576):qaa Tryz.prog 26 [.a (.sl (p.map Cs.at)),.a (.v (.string (bs s))),.a (.v (.string (bs n)))] (.t [.r (Fs.at (qa2 p s n).1),.a (.v (.bool (qa2 p s n).2))]):=by
  have hA:=pr16All p s hn hF
  have hf:=pr16Find p s n hn hF
  rcases qev (fun f:Fs=>f.var.name==n) (allF p s) 0 with hp|⟨j,z,hz,_,hp⟩
  · have hp':qme p s n = -1:=hp
    rw [hp'] at hf
    rw [show qa2 p s n=(Fs.zero,false) by unfold qa2;rw [hp',if_pos (by omega)]]
    refine qaa.vx [0,1,2,6,7,8,14] Tryz.func26 rfl Tryz.ntmps26 rfl rfl rfl (fun C hro hst=>?_)
    repeat' ((conv=>whnf);first|refine stv ?_|(show VB ..;refine VB.tt (by decide) ?_)|(show VC ..;refine xC (fun hg=>by exact hf) ?_))
    rfl
  · have hp':qme p s n=(j:Int):=by rw [Nat.zero_add] at hp;exact hp
    rw [hp'] at hf
    rw [show qa2 p s n=(z,true) by unfold qa2;rw [hp',if_neg (by omega),Int.toNat_natCast,hz];rfl]
    have hd:decide ((j:Int)<0)=false:=decide_eq_false (by omega)
    have hjx:((allF p s).map Fs.at)[j]? = some (Fs.at z):=by rw [List.getElem?_map,hz];rfl
    refine qaa.vx [0,1,2,6,7,8,14] Tryz.func26 rfl Tryz.ntmps26 rfl rfl rfl (fun C hro hst=>?_)
    repeat' ((conv=>whnf);first|(show VI ..;refine xI (fun _=>by exact hjx) ?_)|refine stv ?_|(show VB ..;refine VB.ff (by exact hd) ?_)|(show VC ..;refine xC (fun hg=>by first|exact hf|exact hA) ?_))
    rfl
theorem pIxSlot (q:Fs→Bool) (l:List Fs) (fn:FuncId) (caps:List A) (hcl:caps.all clA=true) (hn:l.length≤1048576) (hf:∀k∈l,qaa Tryz.prog fn (.r (Fs.at k)::caps.map D.a) (.a (.v (.bool (q k))))):qaa Tryz.prog 174 [.a (.sl (l.map Fs.at)),.a (.fn fn caps)] (.a (.v (.int .i64 (ixOf q l 0)))):=by
  have hcd:=qif hcl
  have hld:=qig hcl
  refine qaa.go Tryz.func174 rfl Tryz.ntmps174 rfl rfl rfl (fun C hro=>?_)
  have fx:=trivial
  repeat' (first|refine stp [0,1,4,5,7,8,9,16] ?_|fail)
  refine WP.loop (α:={ k:Nat // k≤l.length∧(l.take k).any q=false }) (fun y=>[(0,.a (.sl (l.map Fs.at))),(1,.a (.fn fn caps)),(7,.a (.v (.int .i64 (l.length:Nat)))),(8,.a (.v (.int .i64 (y.1:Nat))))]) (fun _=>[]) (fun y=>l.length-y.1) ⟨0,by omega,rfl⟩ (by simp only [qag,go_sem,simprocAttr];first|done|rfl) rfl ?_
  rintro⟨k,hk,hinv⟩
  dsimp only
  by_cases hlt:k<l.length
  · have hlt2:decide ((k:Int)<((l.length:Nat):Int))=true:=decide_eq_true (by omega)
    obtain⟨z,hz⟩:∃z,l[k]? = some z:=⟨_,List.getElem?_eq_getElem hlt⟩
    have hzm:z∈l:=lm4 hz
    have hzt:=qan hz
    have hix:∀q2,ixD (some 14) q2 (.a (.sl (l.map Fs.at))) (.a (.v (.int .i64 (k:Int))))=some (.a (.ref (Fs.at z) 0)):=fun q2=>qaq rfl (by rw [List.getElem?_map,hz];rfl) (by simp only [go_sem])
    have hw:k<9223372036854775807:=by omega
    have hwu:=qap (k:=k) (by omega)
    replace fx:=ai15 hlt2 (ai15 hix (ai15 hwu (ai15 hcd (ai15 hld trivial))))
    repeat' (first|refine stp [0,1,4,5,7,8,9,16] ?_|(refine stc (r1:=by exact hf z hzm) (r2:=?_);refine rnx ?_)|refine WP.cn (fun hc=>?_) (fun hc=>?_)|fail)
    · rw [qdb q l k 0 z hz hinv hc,Nat.zero_add]
    · refine⟨⟨k+1,by omega,by rw [hzt,List.any_append,hinv];simpa using hc⟩,by dsimp only;omega,?_,rfl⟩
      simp only [qag,go_sem,simprocAttr]
  obtain rfl:k=l.length:=by omega
  rw [List.take_length] at hinv
  have hlt2:decide ((l.length:Int)<(l.length:Int))=false:=decide_eq_false (by omega)
  replace fx:=ai15 hlt2 trivial
  repeat' (first|refine stp [0,1,4,5,7,8,9,16] ?_|fail)
  rw [qbz q l 0 hinv]
theorem pfNamed1 (f:Fs) (s:List UInt8):qaa Tryz.prog 207 [.r (Fs.at f),.a (.ref [.v (.string (bs s))] 0)] (.a (.v (.bool (f.var.name==s)))):=by
  refine qaa.go Tryz.func207 rfl Tryz.ntmps207 rfl rfl rfl (fun C hro=>?_)
  have fx:=trivial
  repeat' (first|refine stp [0,1,2,3] ?_|fail)
  rfl
theorem pfNamed (s:List UInt8):DM Tryz.prog 175 [.a (.v (.string (bs s)))] [] (.a (.fn 207 [.ptr 0 0])) [.cell [.v (.string (bs s))]]:=by
  refine DM.intro Tryz.func175 rfl Tryz.ntmps175 rfl rfl rfl (by simp only [go_sem,simprocAttr]) (fun V0 Kb Nx=>?_)
  have fx:=trivial
  repeat' (first|refine stp [0,1,2] ?_|fail)
  exact qay ⟨rfl,_,rfl⟩
end Go.Proofs.YthkojpnjdpbcgaaGreatDoor
