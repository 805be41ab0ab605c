/- A slice from behind; an expression and all under it; on plain data. Conditions: at most 2^20 of anything. -/
import Derived.Test.YthkojpnjdpbcgaaGreatDoorMl27
import Derived.Test.YthkojpnjdpbcgaaGreatDoorMl7
import Derived.Test.YthkojpnjdpbcgaaGreatDoorMl9
set_option linter.unusedVariables false
set_option maxRecDepth 100000
set_option maxHeartbeats 8000000
set_option linter.unusedSimpArgs false
namespace Go.Proofs.YthkojpnjdpbcgaaGreatDoor
open Go.RowKit
theorem retG0 {P:Program} {n:Nat} {O:D→List Bx→D→Prop} {e:Nat→D} {st:List Bx} (h:O (.t []) st (e 1000000)):retG P n [] O .ret e st:=⟨.t [],⟨[],rfl,rfl,rfl⟩,rfl,h⟩
theorem retG0n {P:Program} {n:Nat} {O:D→List Bx→D→Prop} {e:Nat→D} {st:List Bx} (h:O (.t []) st (e 1000000)):retG P n [] O .normal e st:=⟨.t [],⟨[],rfl,rfl,rfl⟩,rfl,h⟩
theorem retG1 {P:Program} {n t:Nat} {z:Value} {O:D→List Bx→D→Prop} {e:Nat→D} {st:List Bx} (ht:decide (t<n)=true) (he:e t=.a (.v z)) (h:O (.a (.v z)) st (e 1000000)):retG P n [.tmp t] O .ret e st:=by
 refine⟨.a (.v z),⟨?_,rfl⟩,rfl,h⟩
 simp only [res1]
 rw [if_pos (of_decide_eq_true ht),he];rfl
theorem qia {α:Type} {l:List α} {m:Nat} {p:α} (h:l[m]? = some p):l.take (m+1)=l.take m++[p]:=by
 obtain⟨h1,h2⟩:=List.getElem?_eq_some_iff.1 h
 rw [List.take_add_one,h];rfl
def bwdL {α:Type} (f:α→List A) (l:List α):List (List D):=(List.range l.length).map fun k=>[.a (.v (.int .i64 ((l.length-1-k:Nat):Int))),.r ((l[l.length-1-k]?.map f).getD [])]
theorem bwdL_at {α:Type} (f:α→List A) (l:List α) {k:Nat} {z:α} (hk:k<l.length) (hz:l[l.length-1-k]? = some z):(bwdL f l)[k]? = some [.a (.v (.int .i64 ((l.length-1-k:Nat):Int))),.r (f z)]:=by
 unfold bwdL
 rw [List.getElem?_map,List.getElem?_range hk,Option.map_some,hz];rfl
theorem qnk {α:Type} {f:α→List A} {l:List α} {k:Nat} {xs:List D} (h:(bwdL f l)[k]? = some xs):∃z,l.reverse[k]? = some z∧xs=[.a (.v (.int .i64 ((l.length-1-k:Nat):Int))),.r (f z)]:=by
 unfold bwdL at h
 rw [List.getElem?_map,Option.map_eq_some_iff] at h
 obtain⟨j,hj,rfl⟩:=h
 obtain⟨h1,h2⟩:=List.getElem?_eq_some_iff.1 hj
 rw [List.length_range] at h1
 rw [List.getElem_range] at h2
 subst h2
 have h3:k<l.reverse.length:=by simpa using h1
 refine⟨l.reverse[k],List.getElem?_eq_getElem h3,?_⟩
 have h4:l[l.length-1-k]? = some l.reverse[k]:=by
  rw [List.getElem_reverse];exact List.getElem?_eq_getElem _
 rw [h4];rfl
theorem pBwd (l:List Ex):qaa Tryz.prog 236 [.a (.sl (l.map Ex.at))] (.a (.fn 249 [.ref [.sl (l.map Ex.at)] 0])):=by
 refine qaa.go Tryz.func236 rfl Tryz.ntmps236 rfl rfl rfl (fun C hro=>?_)
 have fx:=trivial
 repeat' (first|refine WP.seq ?_|(refine WP.reg [0,1,2] (by kernel_rfl) (by kernel_rfl) ?_;refine RS.run2 (by simp only [go_sem,simprocAttr,qab];rfl) ?_;simp only [qai])|(refine RS.finT (by simp only [go_sem,simprocAttr];rfl) ?_))
 refine WP.freeze 0 [.sl (l.map Ex.at)] [(2,.a (.fn 249 [.ref [.sl (l.map Ex.at)] 0]))] rfl rfl ?_ ?_
 ·simp only [qal,go_sem,simprocAttr]
 refine WP.ret ?_;(try simp only [qbc,qa0]);refine ret1 rfl (by simp only [go_sem,simprocAttr,qab];first|done|rfl) (by simp only [go_sem,qab]) ?_
 rfl
theorem pBwd1 (l:List Ex) (hl:l.length≤1048576):DIt Tryz.prog 249 [.ref [.sl (l.map Ex.at)] 0] (bwdL Ex.at l):=by
 intro E hE
 have hbl:(bwdL Ex.at l).length=l.length:=by simp [bwdL]
 have hw0:IntKind.i64.wrap ((l.length:Nat)-1:Int)=(l.length:Int)-1:=qbk (by omega) (by omega)
 refine DG.intro Tryz.func249 rfl Tryz.ntmps249 rfl rfl rfl (fun V0 Kb Nx=>?_)
 repeat' (first|refine WP.seq ?_|(refine WP.reg (1000000::[0,1,3,8,18]) (by kernel_rfl) (by kernel_rfl) ?_;refine RS.run2 (by simp only [go_sem,simprocAttr,hw0];rfl) ?_;simp only [qai])|(refine RS.finT (by simp only [go_sem,simprocAttr];rfl) ?_)|refine WP.block ?_)
 refine WP.loop (α:={ k:Nat // k≤l.length }) (fun y=>[(0,yv E.l),(1,.a (.ref [.sl (l.map Ex.at)] 0)),(3,.a (.v (.int .i64 ((l.length:Int)-1-(y.1:Nat))))),(1000000,.a (.v (.int .i64 (y.1:Nat))))]) (fun _=>[]) (fun y=>l.length-y.1) ⟨0,by omega⟩ (by simp only [qal,go_sem,simprocAttr];first|done|simp) rfl ?_
 rintro⟨k,hk⟩
 dsimp only
 by_cases hlt:k<l.length
 ·have hge:decide ((l.length:Int)-1-(k:Nat)≥0)=true:=decide_eq_true (by omega)
  have hj:(l.length:Int)-1-(k:Nat)=((l.length-1-k:Nat):Int):=by omega
  obtain⟨z,hz⟩:∃z,l[l.length-1-k]? = some z:=⟨_,List.getElem?_eq_getElem (by omega)⟩
  have hix:∀q2,ixD (some 4) q2 (.a (.sl (l.map Ex.at))) (.a (.v (.int .i64 ((l.length-1-k:Nat):Int))))=some (.a (.ref (Ex.at z) 0)):=fun q2=>qaq rfl (by rw [List.getElem?_map,hz];rfl) (by simp only [go_sem])
  have hw1:IntKind.i64.wrap (((l.length-1-k:Nat):Int)-1)=(l.length:Int)-1-((k+1:Nat):Int):=(qbk (by omega) (by omega)).trans (by omega)
  have hgs:decide (((l.length-1-k:Nat):Int)≥0)=true:=decide_eq_true (by omega)
  rw [hj]
  repeat' (first|refine WP.seq ?_|(refine WP.reg (1000000::[0,1,3,8,18]) (by kernel_rfl) (by kernel_rfl) ?_;refine RS.run2 (by simp only [go_sem,simprocAttr,hix,hw1,hgs];rfl) ?_;simp only [qai])|(refine RS.finT (by simp only [go_sem,simprocAttr];rfl) ?_)|refine WP.block ?_|((refine WP.cond rfl (by simp only [go_sem,simprocAttr,hgs];rfl) (fun hc=>?_) (fun hc=>?_))<;>try exact Bool.noConfusion hc)|(refine WP.skip ?_;(try simp only [qab,qac]))|(refine RS.yield (by simp only [go_sem,simprocAttr,hix];done) (by simp only [go_sem,simprocAttr,hix];rfl) (by simp only [go_sem,simprocAttr,hix];rfl) (by simp only [go_sem,simprocAttr,List.all_cons,List.all_nil,Bool.and_true,hix];done) (by rw [hE];exact bwdL_at Ex.at l hlt hz) ?_ ?_;all_goals refine RS.run2 (by simp only [go_sem,simprocAttr,hix];rfl) ?_;simp only [qai])|(refine WP.ret ?_;(try simp only [qbc,qa0]);(refine retG0 ?_);simp only [go_sem,simprocAttr,hix]))
  ·refine⟨⟨k+1,by omega⟩,by dsimp only;omega,?_,rfl⟩
   simp only [qal,go_sem,simprocAttr,and_true,and_self]
  ·exact .inr trivial
 ·obtain rfl:k=l.length:=by omega
  have hge:decide ((l.length:Int)-1-(l.length:Nat)≥0)=false:=decide_eq_false (by omega)
  repeat' (first|refine WP.seq ?_|(refine WP.reg (1000000::[0,1,3,8,18]) (by kernel_rfl) (by kernel_rfl) ?_;refine RS.run2 (by simp only [go_sem,simprocAttr,hge];rfl) ?_;simp only [qai])|(refine RS.finT (by simp only [go_sem,simprocAttr];rfl) ?_)|((refine WP.cond rfl (by simp only [go_sem,simprocAttr,hge];rfl) (fun hc=>?_) (fun hc=>?_))<;>try exact Bool.noConfusion hc)|(refine WP.exit ?_;(try simp only [qds,qcz,qcy,ne_eq,Nat.reduceEqDiff,not_false_eq_true,reduceCtorEq,qab,qac]))|fail)
  exact retG0n (.inl (by simp only [go_sem,hbl]))
theorem peAll (e:Ex):qaa Tryz.prog 204 [.r (Ex.at e)] (.a (.fn 235 [.ref (Ex.at e) 0])):=by
 refine qaa.go Tryz.func204 rfl Tryz.ntmps204 rfl rfl rfl (fun C hro=>?_)
 have fx:=trivial
 repeat' (first|refine WP.seq ?_|(refine WP.reg [0,1,2] (by kernel_rfl) (by kernel_rfl) ?_;refine RS.run2 (by simp only [go_sem,simprocAttr,qab];rfl) ?_;simp only [qai])|(refine RS.finT (by simp only [go_sem,simprocAttr];rfl) ?_))
 refine WP.freeze 0 (Ex.at e) [(2,.a (.fn 235 [.ref (Ex.at e) 0]))] rfl (Ex.cl e) ?_ ?_
 ·simp only [qal,go_sem,simprocAttr]
 refine WP.ret ?_;(try simp only [qbc,qa0]);refine ret1 rfl (by simp only [go_sem,simprocAttr,qab];first|done|rfl) (by simp only [go_sem,qab]) ?_
 rfl
mutual
def Ex.pre:Ex→List Ex
 | ⟨kind,num,name,kids⟩=>⟨kind,num,name,kids⟩::Ex.pres kids
def Ex.pres:List Ex→List Ex
 | []=>[]
 | e::r=>Ex.pre e++Ex.pres r
end
theorem Ex.pre_eq (e:Ex):e.pre=e::Ex.pres e.kids:=by cases e;rfl
theorem Ex.pres_app (l m:List Ex):Ex.pres (l++m)=Ex.pres l++Ex.pres m:=by
 induction l with
 | nil=>rfl
 | cons x l ih=>rw [List.cons_append,Ex.pres,Ex.pres,ih,List.append_assoc]
theorem Ex.pres_len (l:List Ex):l.length≤(Ex.pres l).length:=by
 induction l with
 | nil=>exact Nat.le_refl _
 | cons x l ih=>rw [Ex.pres,Ex.pre_eq];simp;omega
theorem Ex.zlit:[A.v (.int .i64 0),.v (.int .i64 0),.v (.string ⟨#[]⟩),.sl []]=Ex.at Ex.zero:=by simp only [Ex.zero,Ex.at,Ex.ats];rfl
def preL (l:List Ex):List (List D):=l.map fun x=>[.r (Ex.at x)]
structure AllS (e:Ex) where
 k:Nat
 ver:Nat
 s:List Ex
 h:e.pre.drop k=Ex.pres s.reverse
 hk:k≤e.pre.length
theorem peAll1 (e:Ex) (he:e.pre.length≤1048576):DIt Tryz.prog 235 [.ref (Ex.at e) 0] (preL e.pre):=by
 intro E hE
 refine DG.introU Tryz.func235 rfl Tryz.ntmps235 rfl rfl rfl (fun V0 Kb Nx hV=>?_)
 repeat' (first|refine WP.seq ?_|(refine WP.reg (1000000::[0,1,3,4,6,11,26,29,30,31]) (by kernel_rfl) (by kernel_rfl) ?_;refine RS.run2 (by simp only [go_sem,simprocAttr,qab];rfl) ?_;simp only [qai])|(refine RS.finT (by simp only [go_sem,simprocAttr];rfl) ?_)|(refine RS.lit (by simp only [go_sem];rfl) (by decide) (by decide) (by simp only [go_sem];rfl) (by simp only [go_sem];done) (by simp only [go_sem];done) (by simp only [go_sem];rfl) (by decide) (by simp only [go_sem,simprocAttr,List.replicate_succ,List.replicate_zero,qab];rfl) ?_;refine RS.run2 (by simp only [go_sem,simprocAttr,qab];rfl) ?_;simp only [qai])|refine WP.block ?_)
 refine WP.loopX (α:=AllS e) (fun y=>[(0,yv E.l),(1,.a (.ref (Ex.at e) 0)),(3,.a (.ptr 1 0)),(1000000,.a (.v (.int .i64 (y.k:Nat))))]) (fun y=>[.arr y.ver 4 (y.s.map Ex.at),.cell [.own 0 y.ver]]) (fun y=>e.pre.length-y.k) ⟨0,0,[e],by simp only [List.drop_zero,List.reverse_singleton,Ex.pres,List.append_nil],Nat.zero_le _⟩ (by simp only [qal,go_sem,simprocAttr];first|done|simp) (by first|done|rfl) ?_
 rintro⟨k,ver,s,h,hk⟩
 dsimp only
 rcases List.eq_nil_or_concat s with rfl|⟨s',x,rfl⟩
 ·have hke:k=e.pre.length:=by
   rw [List.reverse_nil,Ex.pres,List.drop_eq_nil_iff] at h;omega
  subst hke
  have hel:(preL e.pre).length=e.pre.length:=by simp [preL]
  repeat' (first|refine WP.seq ?_|(refine WP.reg (1000000::[0,1,3,4,6,11,26,29,30,31]) (by kernel_rfl) (by kernel_rfl) ?_;refine RS.run2 (by simp only [go_sem,simprocAttr,qab];rfl) ?_;simp only [qai])|(refine RS.finT (by simp only [go_sem,simprocAttr];rfl) ?_)|((refine WP.cond rfl (by simp only [go_sem,simprocAttr,qab];rfl) (fun hc=>?_) (fun hc=>?_))<;>try exact Bool.noConfusion hc)|(refine WP.exit ?_;(try simp only [qds,qcz,qcy,ne_eq,Nat.reduceEqDiff,not_false_eq_true,reduceCtorEq,qab,qac]))|fail)
  all_goals exact retG0n (.inl (by simp only [go_sem,hel]))
 ·rw [List.concat_eq_append] at h ⊢
  have hrev:Ex.pres (s'++[x]).reverse=x::(Ex.pres x.kids++Ex.pres s'.reverse):=by
   rw [List.reverse_append,List.reverse_singleton,List.singleton_append,Ex.pres,Ex.pre_eq,List.cons_append]
  rw [hrev] at h
  have hk1:e.pre[k]? = some x:=by
   have:=congrArg (fun l=>l[0]?) h
   simpa [List.getElem?_drop] using this
  have hkl:k<e.pre.length:=(List.getElem?_eq_some_iff.1 hk1).1
  have hd1:e.pre.drop (k+1)=Ex.pres x.kids++Ex.pres s'.reverse:=by
   have:=congrArg (List.drop 1) h
   simpa [List.drop_drop] using this
  have hsl:s'.length≤1048576:=by
   have h1:=congrArg List.length h
   have h2:=Ex.pres_len s'.reverse
   simp at h1 h2;omega
  have hkn:x.kids.length≤1048576:=by
   have h1:=congrArg List.length h
   have h2:=Ex.pres_len x.kids
   simp at h1;omega
  have htl:E.tl[k]? = some [.r (Ex.at x)]:=by rw [hE,preL,List.getElem?_map,hk1];rfl
  have hgt:decide (((s'.length+1:Nat):Int)>0)=true:=decide_eq_true (by omega)
  have hw:IntKind.i64.wrap (((s'.length+1:Nat):Int)-1)=((s'.length:Nat):Int):=(qbk (by omega) (by omega)).trans (by omega)
  have hgx:((s'++[x]).map Ex.at)[s'.length]? = some (Ex.at x):=by simp
  have hle:((s'.length:Nat):Int)≤((s'.length+1:Nat):Int):=by omega
  have htk:((s'++[x]).map Ex.at).take s'.length=s'.map Ex.at:=by simp [List.map_append,List.take_append_of_le_length]
  have hixo:∀q2 r,ixS (.arr ver 4 ((s'++[x]).map Ex.at)::r) (some 4) q2 (.a (.own 0 ver)) (.a (.v (.int .i64 (s'.length:Nat))))=some (.a (.ep 0 ver s'.length 0)):=fun q2 r=>qjr rfl rfl (by simp) rfl
  repeat' (first|refine WP.seq ?_|(refine WP.reg (1000000::[0,1,3,4,6,11,26,29,30,31]) (by kernel_rfl) (by kernel_rfl) ?_;refine RS.run2 (by simp only [go_sem,simprocAttr,hgt,hw,hgx,hle,htk,hixo];rfl) ?_;simp only [qai])|(refine RS.finT (by simp only [go_sem,simprocAttr];rfl) ?_)|(refine RS.pop (by simp only [go_sem,simprocAttr,hgt,hw,hgx,hle,htk,hixo];rfl) (by simp only [go_sem,simprocAttr,hgt,hw,hgx,hle,htk,hixo];rfl) (by simp only [go_sem];done) (by simp only [go_sem,simprocAttr,bndD,hgt,hw,hgx,hle,htk,hixo];rfl) (by simp only [go_sem,simprocAttr,hgt,hw,hgx,hle,htk,hixo];rfl) ?_;refine RS.run2 (by simp only [go_sem,simprocAttr,hgt,hw,hgx,hle,htk,hixo];rfl) ?_;simp only [qai])|refine WP.block ?_|((refine WP.cond rfl (by simp only [go_sem,simprocAttr,hgt];rfl) (fun hc=>?_) (fun hc=>?_))<;>try exact Bool.noConfusion hc)|(refine WP.skip ?_;(try simp only [qab,qac]))|(refine RS.yield (by simp only [go_sem,simprocAttr,hgt];done) (by simp only [go_sem,simprocAttr,hgt];rfl) (by simp only [go_sem,simprocAttr,hgt];rfl) (by simp only [go_sem,simprocAttr,List.all_cons,List.all_nil,Bool.and_true,hgt];done) (by exact htl) ?_ ?_;all_goals refine RS.run2 (by simp only [go_sem,simprocAttr,hgt];rfl) ?_;simp only [qai])|(refine WP.ret ?_;(try simp only [qbc,qa0]);(refine retG0 ?_);simp only [go_sem,simprocAttr,hgt])|(refine RS.call (by simp only [go_sem,simprocAttr,hgt];rfl) (by simp only [go_sem,List.all_cons,List.all_nil,Bool.and_true,hgt]) (by exact pBwd x.kids) ?_;refine RS.run2 (by simp only [go_sem,simprocAttr,hgt];rfl) ?_;simp only [qai]))
  ·refine WP.range2 [(0,yv E.l),(1,.a (.ref (Ex.at e) 0)),(3,.a (.ptr 1 0)),(4,.a (.ptr 2 0)),(29,.a (.fn 249 [.ref [.sl (x.kids.map Ex.at)] 0]))] (fun j=>[.arr (ver+1+j) 4 ((s'++x.kids.reverse.take j).map Ex.at),.cell [.own 0 (ver+1+j)],.cell (Ex.at x)]) [] (bwdL Ex.at x.kids) (fun _=>.a (.v (.int .i64 ((k+1:Nat):Int)))) (fun _=>True) trivial rfl (by simp only [go_sem,simprocAttr]) rfl ?_ ?_ (.inl rfl) (.inl rfl) rfl rfl (by rw [show (⟨V0,Kb,True,none,E,Nx⟩:Cx Tryz.prog).V0=V0 from rfl,hV];exact Nat.zero_le _) (fun _=>Nat.le_refl _) ?_ ?_ (by simp only [go_sem,simprocAttr]<;>rfl) rfl rfl (pBwd1 x.kids ?_).toM (.inl rfl) rfl ?_ ?_ ?_
   ·simp only [qal,go_sem,simprocAttr]
   ·simp only [List.take_zero,List.append_nil,Nat.add_zero,List.map_nil]
   ·intro j
    simp only [go_sem,simprocAttr,qda (Ex.cl x)]
   ·first|rfl|(simp only [nrE,nrD,List.all_cons,List.all_nil,go_sem,simprocAttr,qda (Ex.cl e)];first|done|rfl)
   ·exact hkn
   ·intro j xs hxs
    obtain⟨_,_,rfl⟩:=qnk hxs
    rfl
   ·intro C1 j xs _ _ hxs _
    obtain⟨z,hz,rfl⟩:=qnk hxs
    have hjl:j<x.kids.length:=by have:=(List.getElem?_eq_some_iff.1 hz).1;simpa using this
    simp only [bindE_2]
    repeat' (first|(refine WP.reg (1000000::[0,1,3,4,6,11,26,29,30,31]) (by kernel_rfl) (by kernel_rfl) ?_;refine RS.run2 (by simp only [go_sem,simprocAttr,qab];rfl) ?_;simp only [qai])|(refine RS.finT (by simp only [go_sem,simprocAttr];rfl) ?_))
    intro C2 _ _
    refine WP.block ?_
    obtain⟨L,hL⟩:∃L,L=s'++x.kids.reverse.take j:=⟨_,rfl⟩
    have hL1:s'++x.kids.reverse.take (j+1)=L++[z]:=by rw [hL,List.append_assoc,←qia hz]
    have hLl:L.length≤2097152:=by rw [hL];simp;omega
    rw [hL1,←hL]
    have hix:∀q2 r,ixS (.arr (ver+1+j+1) 4 (L.map Ex.at++[Ex.zero.at])::r) (some 4) q2 (.a (.own 0 (ver+1+j+1))) (.a (.v (.int .i64 (L.length:Nat))))=some (.a (.ep 0 (ver+1+j+1) L.length 0)):=fun q2 r=>qjr rfl rfl (by simp) rfl
    have hgz:(L.map Ex.at++[Ex.zero.at])[L.length]? = some Ex.zero.at:=by simp
    have hsz:(L.map Ex.at++[Ex.zero.at]).set L.length z.at=L.map Ex.at++[z.at]:=by simp
    have hfin:L.map Ex.at++[z.at]=(L++[z]).map Ex.at:=by simp
    refine WP.drwT (id:=7) 4 [4,5,6,7] (1000000::[0,1,3,4,6,11,26,29,30,31]) (by kernel_rfl) rfl rfl (by kernel_rfl) tb_mix ?_
    simp only [List.take_succ_cons,List.take_zero]
    refine RQ.run2 (by simp only [go_sem,simprocAttr,hgz];first|done|rfl) ?_;simp only [qbh]
    refine RQ.lit (by simp only [go_sem];first|done|rfl) (by decide) (by decide) (by simp only [go_sem];first|done|rfl) (by simp only [go_sem];first|done|rfl) (by simp only [go_sem];first|done|rfl) (by simp only [go_sem];first|done|rfl) (by decide) (by simp only [go_sem,simprocAttr,List.replicate_succ,List.replicate_zero,Ex.zlit];first|done|rfl) ?_;refine RQ.run2 (by simp only [go_sem,simprocAttr,Ex.zlit];first|done|rfl) ?_;simp only [qbh]
    refine RQ.nil ?_
    repeat' (first|exact TA.nil|(refine TA.no ?_ ?_;(· exact rfl))|refine TA.yesL rfl rfl ?_ ?_|refine RT.go ?_|refine RS.nilT ?_|(refine RS.appO (by simp only [go_sem,simprocAttr,Ex.zlit,hix,hgz,hsz];rfl) (by simp only [go_sem,simprocAttr,Ex.zlit,hix,hgz,hsz];rfl) (by simp only [go_sem,simprocAttr,Ex.zlit,hix,hgz,hsz];rfl) (by simp only [go_sem];done) (by simp only [go_sem];rfl) (by simp only [go_sem];done) (by simp only [go_sem];rfl) (by simp only [go_sem,simprocAttr,qay,List.all_cons,List.all_nil,Bool.and_true,Ex.zlit,hix,hgz,hsz];done) (by (simp only [List.length_map,List.length_cons,List.length_nil];omega)) (by (simp only [List.length_map,List.length_cons,List.length_nil];omega)) (by rfl) ?_;refine RS.run2 (by simp only [go_sem,simprocAttr,Ex.zlit,hix,hgz,hsz];rfl) ?_;simp only [qai])|(refine RS.stoE (x:=.tmp 37) (by simp only [go_sem,simprocAttr,Ex.zlit,hix,hgz,hsz];rfl) (by simp only [go_sem,simprocAttr,Ex.zlit,hix,hgz,hsz];rfl) (by simp only [go_sem,simprocAttr,Ex.zlit,hix,hgz,hsz];rfl) (by simp only [go_sem,simprocAttr,Ex.zlit,hix,hgz,hsz];rfl) (by simp only [go_sem,simprocAttr,Ex.zlit,hix,hgz,hsz];done) (by simp only [go_sem,simprocAttr,Ex.zlit,hix,hgz,hsz];done) (by simp only [go_sem,simprocAttr,Ex.zlit,hix,hgz,hsz];done) (by simp only [go_sem,simprocAttr,Ex.zlit,hix,hgz,hsz];rfl) ?_;refine RS.run2 (by simp only [go_sem,simprocAttr,Ex.zlit,hix,hgz,hsz];rfl) ?_;simp only [qai])|(refine RT.done ?_)|(refine RS.run1 (by simp only [go_sem,simprocAttr,Ex.zlit,hix,hgz,hsz];rfl) ?_))
    all_goals exact⟨trivial,by simp only [go_sem,simprocAttr],[.cell z.at],by simp only [hfin,Nat.add_assoc];rfl⟩
   ·intro _
    simp only [qac,qab]
    have hbl:(bwdL Ex.at x.kids).length=x.kids.reverse.length:=by simp [bwdL]
    refine⟨⟨k+1,ver+1+x.kids.length,s'++x.kids.reverse,?_,by omega⟩,[.cell (Ex.at x)],by dsimp only;omega,?_,?_,?_,?_⟩
    ·rw [hd1,List.reverse_append,List.reverse_reverse,Ex.pres_app]
    ·simp only [qal,go_sem,simprocAttr]
    ·rw [hbl,List.take_length];simp
    ·rfl
    ·rfl
  ·exact .inr trivial
def kidP (k z:Int):Bool:=z != 2&&z != 3&&(z != 4||k==13)
def qdx (e:Ex):Bool :=
 if ((e.kids.length:Int) != qlw e.kind||(e.kind != 1&&e.num != 0)||(e.kind != 2&&!(e.name==[])))=true then false
 else if e.kind=1 then decide (e.num≥0)&&decide (e.num≤999999999)
 else if e.kind=2 then qaw e.name
 else if e.kind=13∨e.kind=14 then !e.kids.any fun k=>kidP e.kind k.kind
 else true
theorem pePlain1 (e k:Ex):qaa Tryz.prog 238 [.r (Ex.at k),.a (.ref (Ex.at e) 0)] (.a (.v (.bool (kidP e.kind k.kind)))):=by
 refine qaa.go Tryz.func238 rfl Tryz.ntmps238 rfl rfl rfl (fun C hro=>?_)
 have fx:=trivial
 repeat' (first|refine stp [0,1,2,3] ?_|fail)
 exact qam rfl
theorem pePlain (e:Ex) (hz:e.sz≤1048576):qaa Tryz.prog 205 [.r (Ex.at e)] (.a (.v (.bool (qdx e)))):=by
 have hlen:e.kids.length≤1048576:=by have:=Ex.szs_len e.kids;have:=e.sz_eq;omega
 have hnl:e.name.length≤1000000000:=by have:=e.sz_eq;omega
 refine qaa.go Tryz.func205 rfl Tryz.ntmps205 rfl rfl rfl (fun C hro=>?_)
 have fx:=trivial
 repeat' (first|refine stp [0,1,2,29,31,32,42,47] ?_|(refine stc (r1:=by first|exact peKids _|exact qdw _ hnl|exact qls (fun k=>kidP e.kind k.kind) e.kids 238 [.ref (Ex.at e) 0] rfl hlen fun k _=>pePlain1 e k) (r2:=?_);refine rnx ?_)|refine WP.cn (fun hc=>?_) (fun hc=>?_)|((refine WP.dw (id:=1) 27 [0,1,2,29,31,32,42,47] ?_);simp only [qbh,List.drop_succ_cons,List.drop_zero,List.drop_nil])|fail)
 all_goals
  refine qam ?_
  unfold qdx
  simp_all
mutual
theorem Ex.pre_len:∀e:Ex,e.pre.length≤e.sz
 | ⟨k,n,s,l⟩=>by
  have:=Ex.pres_len2 l
  rw [Ex.pre,Ex.sz_eq,List.length_cons]
  dsimp only;omega
theorem Ex.pres_len2:∀l:List Ex,(Ex.pres l).length≤Ex.szs l
 | []=>by simp [Ex.pres]
 | e::r=>by
  have h1:=Ex.pre_len e
  have h2:=Ex.pres_len2 r
  rw [Ex.pres,Ex.szs,List.length_append];omega
end
mutual
theorem Ex.pre_sz:∀(e x:Ex),x∈e.pre→x.sz≤e.sz
 | ⟨k,n,s,l⟩,x,h=>by
  rw [Ex.pre,List.mem_cons] at h
  rcases h with rfl|h
  ·exact Nat.le_refl _
  ·have:=Ex.pres_sz l x h
   have h2:=Ex.sz_eq ⟨k,n,s,l⟩
   dsimp only at h2;omega
theorem Ex.pres_sz:∀(l:List Ex) (x:Ex),x∈Ex.pres l→x.sz≤Ex.szs l
 | [],x,h=>by simp [Ex.pres] at h
 | e::r,x,h=>by
  rw [Ex.pres,List.mem_append] at h
  rw [Ex.szs]
  rcases h with h|h
  ·have:=Ex.pre_sz e x h;omega
  ·have:=Ex.pres_sz r x h;omega
end
theorem plain_law (e:Ex):qdx e=(Ex.plainB e&&e.kids.all fun k=>Ex.kidB e.kind k.kind):=by
 obtain⟨k,n,s,l⟩:=e
 by_cases hin:1≤k∧k≤14
 ·have:k=1∨k=2∨k=3∨k=4∨k=5∨k=6∨k=7∨k=8∨k=9∨k=10∨k=11∨k=12∨k=13∨k=14:=by omega
  clear hin
  rcases this with rfl|rfl|rfl|rfl|rfl|rfl|rfl|rfl|rfl|rfl|rfl|rfl|rfl|rfl
  all_goals
   simp [qdx,Ex.plainB,qlw,Ex.kidsN,Ex.kidB,kidP]
   rw [Bool.eq_iff_iff]
   simp
   try (constructor<;>intro h<;>simp_all<;>omega)
  ·exact fun _=>⟨fun ⟨a,b⟩=>⟨⟨⟨a,b⟩,by omega⟩,by omega⟩,fun h=>h.1.1⟩
  ·exact⟨fun ⟨⟨⟨a,b⟩,c⟩,d⟩=>⟨⟨⟨⟨⟨a,b⟩,c⟩,by omega⟩,by omega⟩,fun x hx=>by have:=d x hx;omega⟩,fun h=>⟨h.1.1.1,fun x hx=>by have:=h.2 x hx;omega⟩⟩
  ·exact⟨fun ⟨⟨⟨a,b⟩,c⟩,d⟩=>⟨⟨⟨⟨⟨a,b⟩,c⟩,by omega⟩,by omega⟩,fun x hx=>by have:=d x hx;omega⟩,fun h=>⟨h.1.1.1,fun x hx=>by have:=h.2 x hx;omega⟩⟩
 ·have hk:qlw k = -1:=by unfold qlw;rw [if_neg (by omega),if_neg (by omega),if_neg (by omega)]
  have h1:qdx ⟨k,n,s,l⟩=false:=by
   unfold qdx
   rw [if_pos]
   have h2:((l.length:Int) != qlw k)=true:=by rw [hk,bne_iff_ne];omega
   dsimp only
   rw [h2];rfl
  have h2:Ex.plainB ⟨k,n,s,l⟩=false:=by
   unfold Ex.plainB
   dsimp only
   have:(decide (k<1)||decide (k>14))=true:=by rw [Bool.or_eq_true,decide_eq_true_iff,decide_eq_true_iff];omega
   rw [this];rfl
  rw [h1,h2];rfl
theorem qhg (k:Int):∀l:List Ex,Ex.formsB k l=(l.all Ex.formB&&l.all fun x=>Ex.kidB k x.kind)
 | []=>rfl
 | e::r=>by
  rw [Ex.formsB,qhg k r,List.all_cons,List.all_cons]
  cases e.formB<;>cases Ex.kidB k e.kind<;>simp
mutual
theorem pre_law:∀e:Ex,e.pre.all qdx=e.formB
 | ⟨k,n,s,l⟩=>by
  rw [Ex.pre,List.all_cons,qmz l,plain_law,Ex.form_eq,qhg]
  dsimp only
  cases Ex.plainB ⟨k,n,s,l⟩<;>cases l.all Ex.formB<;>simp
theorem qmz:∀l:List Ex,(Ex.pres l).all qdx=l.all Ex.formB
 | []=>rfl
 | e::r=>by rw [Ex.pres,List.all_append,pre_law e,qmz r,List.all_cons]
end
theorem rngQ_r {e e':Nat→D} {g:D} {I:Prop} {st1 st':List Bx} {Q:Exit→(Nat→D)→List Bx→Prop}:rngQ2 e g I st1 Q .ret e' st'=Q .ret (upd e 1000000 (e' 1000000)) st':=rfl
theorem qlr (e:Ex) (hz:e.sz≤1048576):qaa Tryz.prog 170 [.r (Ex.at e)] (.a (.v (.bool e.rightB))):=by
 have hpl:=Ex.pre_len e
 have hlaw:e.rightB=(decide ((e.deep:Int)≤20)&&e.pre.all qdx):=by
  unfold Ex.rightB
  rw [pre_law,Bool.and_comm]
  congr 1
  rw [Bool.eq_iff_iff,decide_eq_true_iff,decide_eq_true_iff];omega
 refine qaa.goV Tryz.func170 rfl Tryz.ntmps170 rfl rfl rfl (fun C hro hCV=>?_)
 repeat' (first|refine WP.seq ?_|(refine WP.reg [0,1,2,3,6,8,9,12] (by kernel_rfl) (by kernel_rfl) ?_;refine RS.run2 (by simp only [go_sem,simprocAttr,qab];rfl) ?_;simp only [qai])|(refine RS.finT (by simp only [go_sem,simprocAttr];rfl) ?_)|(refine RS.call (by simp only [go_sem,simprocAttr,qab];rfl) (by simp only [go_sem,List.all_cons,List.all_nil,Bool.and_true,qab]) (by first|exact peDeep _ e 20 (Nat.le_refl _) hz (by decide) (by decide)|exact peAll e) ?_;refine RS.run2 (by simp only [go_sem,simprocAttr,qab];rfl) ?_;simp only [qai])|((refine WP.cond rfl (by simp only [go_sem,simprocAttr,qab];rfl) (fun hc=>?_) (fun hc=>?_))<;>try exact Bool.noConfusion hc)|(refine WP.skip ?_;(try simp only [qab,qac]))|refine WP.block ?_|(refine WP.ret ?_;(try simp only [qbc,qa0]);refine retC rfl (by simp only [go_sem,simprocAttr,qab];rfl) (by simp only [go_sem,simprocAttr,qab];rfl) (by simp only [go_sem];rfl) (by simp only [go_sem,simprocAttr,qab];rfl) (by simp only [go_sem,simprocAttr,qab];rfl) (by simp only [go_sem,qab]) ?_))
 ·refine qam ?_
  rw [hlaw]
  simp only [Bool.not_eq_true'] at hc
  rw [hc];rfl
 have hdeep:decide ((e.deep:Int)≤20)=true:=by simpa using hc
 refine WP.range2 [(2,.a (.ptr 1 0)),(8,.a (.fn 235 [.ref (Ex.at e) 0]))] (fun _=>[.cell (Ex.at e),.cell [.v (.bool false)]]) [] (preL e.pre) (fun _=>.junk) (fun k=>(e.pre.take k).all qdx=true) rfl hro (by simp only [go_sem,simprocAttr]) rfl ?_ rfl (.inl rfl) (.inl rfl) rfl rfl (by rw [hCV];exact Nat.zero_le _) (fun _=>Nat.le_refl _) ?_ ?_ (by simp only [go_sem,simprocAttr]<;>rfl) rfl ?_ (peAll1 e (by omega)).toM (.inl rfl) rfl ?_ ?_ ?_
 ·simp only [qal,go_sem,simprocAttr]
 ·intro _
  simp only [go_sem,simprocAttr,qda (Ex.cl e)]
 ·first|rfl|(simp only [nrE,nrD,List.all_cons,List.all_nil,go_sem,simprocAttr,qda (Ex.cl e)];first|done|rfl)
 ·first|rfl|(simp only [nrE,nrD,List.all_cons,List.all_nil,go_sem,simprocAttr,qda (Ex.cl e)];first|done|rfl)
 ·intro j xs hxs
  unfold preL at hxs
  rw [List.getElem?_map,Option.map_eq_some_iff] at hxs
  obtain⟨_,_,rfl⟩:=hxs
  rfl
 ·intro C1 j xs _ _ hxs hI
  unfold preL at hxs
  rw [List.getElem?_map,Option.map_eq_some_iff] at hxs
  obtain⟨x,hx,rfl⟩:=hxs
  have hxm:x∈e.pre:=lm4 hx
  have hxz:x.sz≤1048576:=by have:=Ex.pre_sz e x hxm;omega
  simp only [qma]
  repeat' (first|(refine WP.reg [0,1,2,3,6,8,9,12] (by kernel_rfl) (by kernel_rfl) ?_;refine RS.run2 (by simp only [go_sem,simprocAttr,qab];rfl) ?_;simp only [qai])|(refine RS.finT (by simp only [go_sem,simprocAttr];rfl) ?_))
  intro C2 _ _
  repeat' (first|refine WP.seq ?_|(refine WP.reg [0,1,2,3,6,8,9,12] (by kernel_rfl) (by kernel_rfl) ?_;refine RS.run2 (by simp only [go_sem,simprocAttr,qab];rfl) ?_;simp only [qai])|(refine RS.finT (by simp only [go_sem,simprocAttr];rfl) ?_)|(refine RS.call (by simp only [go_sem,simprocAttr,qab];rfl) (by simp only [go_sem,List.all_cons,List.all_nil,Bool.and_true,qab]) (by exact pePlain x hxz) ?_;refine RS.run2 (by simp only [go_sem,simprocAttr,qab];rfl) ?_;simp only [qai])|((refine WP.cond rfl (by simp only [go_sem,simprocAttr,qab];rfl) (fun hc=>?_) (fun hc=>?_))<;>try exact Bool.noConfusion hc)|(refine WP.skip ?_;(try simp only [qab,qac]))|refine WP.block ?_)
  ·refine WP.ret ?_
   simp only [qbc,qa0,rngQ_r]
   refine retC rfl (by simp only [go_sem,simprocAttr];first|done|rfl) (by simp only [go_sem,simprocAttr];first|done|rfl) (by simp only [go_sem];first|done|rfl) (by simp only [go_sem,simprocAttr];first|done|rfl) (by simp only [go_sem,simprocAttr];first|done|rfl) (by simp only [go_sem]) ?_
   refine qam ?_
   rw [hlaw,show e.pre.all qdx=false by rw [List.all_eq_false];exact⟨x,hxm,by simpa using hc⟩];simp
  ·refine⟨?_,by simp only [go_sem,simprocAttr],[.cell (Ex.at x)],rfl⟩
   rw [qia hx,List.all_append,hI]
   simpa using hc
 ·intro hI
  simp only [qac,qab]
  repeat' (first|refine WP.seq ?_|(refine WP.reg [0,1,2,3,6,8,9,12] (by kernel_rfl) (by kernel_rfl) ?_;refine RS.run2 (by simp only [go_sem,simprocAttr,qab];rfl) ?_;simp only [qai])|(refine RS.finT (by simp only [go_sem,simprocAttr];rfl) ?_)|(refine WP.ret ?_;(try simp only [qbc,qa0]);refine retC rfl (by simp only [go_sem,simprocAttr,qab];rfl) (by simp only [go_sem,simprocAttr,qab];rfl) (by simp only [go_sem];rfl) (by simp only [go_sem,simprocAttr,qab];rfl) (by simp only [go_sem,simprocAttr,qab];rfl) (by simp only [go_sem,qab]) ?_))
  refine qam ?_
  have hel:(preL e.pre).length=e.pre.length:=by simp [preL]
  rw [hel,List.take_length] at hI
  rw [hlaw,hI,hdeep];rfl
end Go.Proofs.YthkojpnjdpbcgaaGreatDoor
