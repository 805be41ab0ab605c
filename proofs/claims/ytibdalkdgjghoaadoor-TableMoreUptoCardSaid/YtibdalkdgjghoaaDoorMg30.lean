/- A slice from behind; an expression and all under it; on plain data. Conditions: at most 2^20 of anything. -/
import Derived.Test.YtibdalkdgjghoaaDoorMg22
import Derived.Test.YtibdalkdgjghoaaDoorMg7
import Derived.Test.YtibdalkdgjghoaaDoorMg24
import Derived.Test.YtibdalkdgjghoaaDoorMg26
import Derived.Test.YtibdalkdgjghoaaDoorMg27
import Derived.Test.YtibdalkdgjghoaaDoorMg8
import Derived.Test.YtibdalkdgjghoaaDoorMg29
import Derived.Test.YtibdalkdgjghoaaDoorMg9
set_option linter.unusedVariables false
set_option maxRecDepth 100000
set_option maxHeartbeats 8000000
set_option linter.unusedSimpArgs false
namespace Go.Proofs.YtibdalkdgjghoaaDoor
open Go.RowKit
theorem retG0 {P:Program} {n:Nat} {O:D→List Bx→D→Prop} {e:Nat→D} {st:List Bx} (h:O (.t []) st (e 1000000)):retG P n [] O .ret e st:=⟨.t [],⟨[],rfl,rfl,rfl⟩,rfl,h⟩
theorem retG0n {P:Program} {n:Nat} {O:D→List Bx→D→Prop} {e:Nat→D} {st:List Bx} (h:O (.t []) st (e 1000000)):retG P n [] O .normal e st:=⟨.t [],⟨[],rfl,rfl,rfl⟩,rfl,h⟩
theorem retG1 {P:Program} {n t:Nat} {z:Value} {O:D→List Bx→D→Prop} {e:Nat→D} {st:List Bx} (ht:decide (t<n)=true) (he:e t=.a (.v z)) (h:O (.a (.v z)) st (e 1000000)):retG P n [.tmp t] O .ret e st:=by
  refine⟨.a (.v z),⟨?_,rfl⟩,rfl,h⟩
  simp only [res1]
  rw [if_pos (of_decide_eq_true ht),he];rfl
theorem take_snoc1 {α:Type} {l:List α} {m:Nat} {p:α} (h:l[m]? = some p):l.take (m+1)=l.take m++[p]:=by
  obtain⟨h1,h2⟩:=List.getElem?_eq_some_iff.1 h
  rw [List.take_add_one,h];rfl
def bwdL {α:Type} (f:α→List A) (l:List α):List (List D):=(List.range l.length).map fun k=>[.a (.v (.int .i64 ((l.length-1-k:Nat):Int))),.r ((l[l.length-1-k]?.map f).getD [])]
theorem bwdL_at {α:Type} (f:α→List A) (l:List α) {k:Nat} {z:α} (hk:k<l.length) (hz:l[l.length-1-k]? = some z):(bwdL f l)[k]? = some [.a (.v (.int .i64 ((l.length-1-k:Nat):Int))),.r (f z)]:=by
  unfold bwdL
  rw [List.getElem?_map,List.getElem?_range hk,Option.map_some,hz];rfl
theorem bwdL_get {α:Type} {f:α→List A} {l:List α} {k:Nat} {xs:List D} (h:(bwdL f l)[k]? = some xs):∃z,l.reverse[k]? = some z∧xs=[.a (.v (.int .i64 ((l.length-1-k:Nat):Int))),.r (f z)]:=by
  unfold bwdL at h
  rw [List.getElem?_map,Option.map_eq_some_iff] at h
  obtain⟨j,hj,rfl⟩:=h
  obtain⟨h1,h2⟩:=List.getElem?_eq_some_iff.1 hj
  rw [List.length_range] at h1
  rw [List.getElem_range] at h2
  subst h2
  have h3:k<l.reverse.length:=by simpa using h1
  refine⟨l.reverse[k],List.getElem?_eq_getElem h3,?_⟩
  have h4:l[l.length-1-k]? = some l.reverse[k]:=by
    rw [List.getElem_reverse];exact List.getElem?_eq_getElem _
  rw [h4];rfl
theorem pBwd (l:List Ex):DPure Tryd.prog 93 [.a (.sl (l.map Ex.at))] (.a (.fn 96 [.ref [.sl (l.map Ex.at)] 0])):=by
  refine DPure.go Tryd.func93 rfl Tryd.ntmps93 rfl rfl rfl (fun C hro=>?_)
  have fx:=trivial
  repeat' (first|refine WP.seq ?_|(refine WP.reg [0,1,2] (by kernel_rfl) (by kernel_rfl) ?_;refine RS.run2 (by simp only [go_sem,simprocAttr,thenQ_n];first|done|rfl) ?_;simp only [RSr_mk])|(first|refine RS.finT (by simp only [go_sem,simprocAttr];first|done|rfl) ?_|refine RS.fin (by simp only [go_sem,simprocAttr];first|done|rfl) ?_;(try simp only [thenQ_n,blockQ_n])))
  refine WP.freeze 0 [.sl (l.map Ex.at)] [(2,.a (.fn 96 [.ref [.sl (l.map Ex.at)] 0]))] rfl rfl ?_ ?_
  · simp only [Agree,go_sem,simprocAttr]
  refine WP.ret ?_;(try simp only [thenQ_r,blockQ_r]);refine ret1 rfl (by simp only [go_sem,simprocAttr,thenQ_n];first|done|rfl) (by simp only [go_sem,thenQ_n]) ?_
  rfl
theorem pBwd1 (l:List Ex) (hl:l.length≤2097152):DIt Tryd.prog 96 [.ref [.sl (l.map Ex.at)] 0] (bwdL Ex.at l):=by
  intro E hE
  have hbl:(bwdL Ex.at l).length=l.length:=by simp [bwdL]
  have hw0:IntKind.i64.wrap ((l.length:Nat)-1:Int)=(l.length:Int)-1:=wrap64 (by omega) (by omega)
  refine DG.intro Tryd.func96 rfl Tryd.ntmps96 rfl rfl rfl (fun V0 Kb Nx=>?_)
  repeat' (first|refine WP.seq ?_|(refine WP.reg (1000000::[0,1,3,8,18]) (by kernel_rfl) (by kernel_rfl) ?_;refine RS.run2 (by simp only [go_sem,simprocAttr,hw0];first|done|rfl) ?_;simp only [RSr_mk])|(first|refine RS.finT (by simp only [go_sem,simprocAttr];first|done|rfl) ?_|refine RS.fin (by simp only [go_sem,simprocAttr];first|done|rfl) ?_;(try simp only [thenQ_n,blockQ_n]))|refine WP.block ?_)
  refine WP.loop (α:={ k:Nat // k≤l.length }) (fun y=>[(0,yv E.l),(1,.a (.ref [.sl (l.map Ex.at)] 0)),(3,.a (.v (.int .i64 ((l.length:Int)-1-(y.1:Nat))))),(1000000,.a (.v (.int .i64 (y.1:Nat))))]) (fun _=>[]) (fun y=>l.length-y.1) ⟨0,by omega⟩ (by simp only [Agree,go_sem,simprocAttr];first|done|simp) rfl ?_
  rintro⟨k,hk⟩
  dsimp only
  by_cases hlt:k<l.length
  · have hge:decide ((l.length:Int)-1-(k:Nat)≥0)=true:=decide_eq_true (by omega)
    have hj:(l.length:Int)-1-(k:Nat)=((l.length-1-k:Nat):Int):=by omega
    obtain⟨z,hz⟩:∃z,l[l.length-1-k]? = some z:=⟨_,List.getElem?_eq_getElem (by omega)⟩
    have hix:∀q2,ixD (some 4) q2 (.a (.sl (l.map Ex.at))) (.a (.v (.int .i64 ((l.length-1-k:Nat):Int))))=some (.a (.ref (Ex.at z) 0)):=fun q2=>ixD_at rfl (by rw [List.getElem?_map,hz];rfl) (by simp only [go_sem])
    have hw1:IntKind.i64.wrap (((l.length-1-k:Nat):Int)-1)=(l.length:Int)-1-((k+1:Nat):Int):=(wrap64 (by omega) (by omega)).trans (by omega)
    have hgs:decide (((l.length-1-k:Nat):Int)≥0)=true:=decide_eq_true (by omega)
    rw [hj]
    repeat' (first|refine WP.seq ?_|(refine WP.reg (1000000::[0,1,3,8,18]) (by kernel_rfl) (by kernel_rfl) ?_;refine RS.run2 (by simp only [go_sem,simprocAttr,hix,hw1,hgs];first|done|rfl) ?_;simp only [RSr_mk])|(first|refine RS.finT (by simp only [go_sem,simprocAttr];first|done|rfl) ?_|refine RS.fin (by simp only [go_sem,simprocAttr];first|done|rfl) ?_;(try simp only [thenQ_n,blockQ_n]))|refine WP.block ?_|((refine WP.cond rfl (by simp only [go_sem,simprocAttr,hgs];first|done|rfl) (fun hc=>?_) (fun hc=>?_))<;>try exact Bool.noConfusion hc)|(refine WP.skip ?_;(try simp only [thenQ_n,blockQ_n]))|(refine WP.exit ?_;(try simp only [thenQ_e,blockQ_e,blockQ_o,ne_eq,Nat.reduceEqDiff,not_false_eq_true,reduceCtorEq,thenQ_n,blockQ_n]))|(refine RS.yield (by simp only [go_sem,simprocAttr,hix];first|done|rfl) (by simp only [go_sem,simprocAttr,hix];first|done|rfl) (by simp only [go_sem,simprocAttr,hix];first|done|rfl) (by simp only [go_sem,simprocAttr,List.all_cons,List.all_nil,Bool.and_true,hix];first|done|rfl) (by rw [hE];exact bwdL_at Ex.at l hlt hz) ?_ ?_;all_goals refine RS.run2 (by simp only [go_sem,simprocAttr,hix];first|done|rfl) ?_;simp only [RSr_mk])|(refine WP.ret ?_;(try simp only [thenQ_r,blockQ_r]);(first|refine retG0 ?_|refine retG1 rfl (by simp only [go_sem,simprocAttr,hix];first|done|rfl) ?_);simp only [go_sem,simprocAttr,hix]))
    · refine⟨⟨k+1,by omega⟩,by dsimp only;omega,?_,rfl⟩
      simp only [Agree,go_sem,simprocAttr,and_true,and_self]
    · exact .inr trivial
  · obtain rfl:k=l.length:=by omega
    have hge:decide ((l.length:Int)-1-(l.length:Nat)≥0)=false:=decide_eq_false (by omega)
    repeat' (first|refine WP.seq ?_|(refine WP.reg (1000000::[0,1,3,8,18]) (by kernel_rfl) (by kernel_rfl) ?_;refine RS.run2 (by simp only [go_sem,simprocAttr,hge];first|done|rfl) ?_;simp only [RSr_mk])|(first|refine RS.finT (by simp only [go_sem,simprocAttr];first|done|rfl) ?_|refine RS.fin (by simp only [go_sem,simprocAttr];first|done|rfl) ?_;(try simp only [thenQ_n,blockQ_n]))|refine WP.block ?_|((refine WP.cond rfl (by simp only [go_sem,simprocAttr,hge];first|done|rfl) (fun hc=>?_) (fun hc=>?_))<;>try exact Bool.noConfusion hc)|(refine WP.skip ?_;(try simp only [thenQ_n,blockQ_n]))|(refine WP.exit ?_;(try simp only [thenQ_e,blockQ_e,blockQ_o,ne_eq,Nat.reduceEqDiff,not_false_eq_true,reduceCtorEq,thenQ_n,blockQ_n]))|(refine WP.ret ?_;(try simp only [thenQ_r,blockQ_r]);(first|refine retG0 ?_|refine retG1 rfl (by simp only [go_sem,simprocAttr,hge];first|done|rfl) ?_);simp only [go_sem,simprocAttr,hge]))
    exact retG0n (.inl (by simp only [go_sem,hbl]))
theorem peAll (e:Ex):DPure Tryd.prog 87 [.r (Ex.at e)] (.a (.fn 92 [.ref (Ex.at e) 0])):=by
  refine DPure.go Tryd.func87 rfl Tryd.ntmps87 rfl rfl rfl (fun C hro=>?_)
  have fx:=trivial
  repeat' (first|refine WP.seq ?_|(refine WP.reg [0,1,2] (by kernel_rfl) (by kernel_rfl) ?_;refine RS.run2 (by simp only [go_sem,simprocAttr,thenQ_n];first|done|rfl) ?_;simp only [RSr_mk])|(first|refine RS.finT (by simp only [go_sem,simprocAttr];first|done|rfl) ?_|refine RS.fin (by simp only [go_sem,simprocAttr];first|done|rfl) ?_;(try simp only [thenQ_n,blockQ_n])))
  refine WP.freeze 0 (Ex.at e) [(2,.a (.fn 92 [.ref (Ex.at e) 0]))] rfl (Ex.cl e) ?_ ?_
  · simp only [Agree,go_sem,simprocAttr]
  refine WP.ret ?_;(try simp only [thenQ_r,blockQ_r]);refine ret1 rfl (by simp only [go_sem,simprocAttr,thenQ_n];first|done|rfl) (by simp only [go_sem,thenQ_n]) ?_
  rfl
mutual
def Ex.pre:Ex→List Ex
  | ⟨kind,num,name,kids⟩=>⟨kind,num,name,kids⟩::Ex.pres kids
def Ex.pres:List Ex→List Ex
  | []=>[]
  | e::r=>Ex.pre e++Ex.pres r
end
theorem Ex.pre_eq (e:Ex):e.pre=e::Ex.pres e.kids:=by cases e;rfl
theorem Ex.pres_app (l m:List Ex):Ex.pres (l++m)=Ex.pres l++Ex.pres m:=by
  induction l with
  | nil=>rfl
  | cons x l ih=>rw [List.cons_append,Ex.pres,Ex.pres,ih,List.append_assoc]
theorem Ex.pres_len (l:List Ex):l.length≤(Ex.pres l).length:=by
  induction l with
  | nil=>exact Nat.le_refl _
  | cons x l ih=>rw [Ex.pres,Ex.pre_eq];simp;omega
theorem Ex.zlit:[A.v (.int .i64 0),.v (.int .i64 0),.v (.string ⟨#[]⟩),.sl []]=Ex.at Ex.zero:=by simp only [Ex.zero,Ex.at,Ex.ats];rfl
def preL (l:List Ex):List (List D):=l.map fun x=>[.r (Ex.at x)]
structure AllS (e:Ex) where
  k:Nat
  ver:Nat
  s:List Ex
  h:e.pre.drop k=Ex.pres s.reverse
  hk:k≤e.pre.length
theorem peAll1 (e:Ex) (he:e.pre.length≤2097152):DIt Tryd.prog 92 [.ref (Ex.at e) 0] (preL e.pre):=by
  intro E hE
  refine DG.intro Tryd.func92 rfl Tryd.ntmps92 rfl rfl rfl (fun V0 Kb Nx=>?_)
  repeat' (first|refine WP.seq ?_|(refine WP.reg (1000000::[0,1,3,4,6,11,26,29,30,31]) (by kernel_rfl) (by kernel_rfl) ?_;refine RS.run2 (by simp only [go_sem,simprocAttr,thenQ_n];first|done|rfl) ?_;simp only [RSr_mk])|(first|refine RS.finT (by simp only [go_sem,simprocAttr];first|done|rfl) ?_|refine RS.fin (by simp only [go_sem,simprocAttr];first|done|rfl) ?_;(try simp only [thenQ_n,blockQ_n]))|(refine RS.lit (by simp only [go_sem];first|done|rfl) (by decide) (by decide) (by simp only [go_sem];first|done|rfl) (by simp only [go_sem];first|done|rfl) (by simp only [go_sem];first|done|rfl) (by simp only [go_sem];first|done|rfl) (by decide) (by simp only [go_sem,simprocAttr,List.replicate_succ,List.replicate_zero,thenQ_n];first|done|rfl) ?_;refine RS.run2 (by simp only [go_sem,simprocAttr,thenQ_n];first|done|rfl) ?_;simp only [RSr_mk])|refine WP.block ?_)
  refine WP.loopX (α:=AllS e) (fun y=>[(0,yv E.l),(1,.a (.ref (Ex.at e) 0)),(3,.a (.ptr 1 0)),(1000000,.a (.v (.int .i64 (y.k:Nat))))]) (fun y=>[.arr y.ver 4 (y.s.map Ex.at),.cell [.own 0 y.ver]]) (fun y=>e.pre.length-y.k) ⟨0,0,[e],by simp only [List.drop_zero,List.reverse_singleton,Ex.pres,List.append_nil],Nat.zero_le _⟩ (by simp only [Agree,go_sem,simprocAttr];first|done|simp) (by first|done|rfl) ?_
  rintro⟨k,ver,s,h,hk⟩
  dsimp only
  rcases List.eq_nil_or_concat s with rfl|⟨s',x,rfl⟩
  · have hke:k=e.pre.length:=by
      rw [List.reverse_nil,Ex.pres,List.drop_eq_nil_iff] at h;omega
    subst hke
    have hel:(preL e.pre).length=e.pre.length:=by simp [preL]
    repeat' (first|refine WP.seq ?_|(refine WP.reg (1000000::[0,1,3,4,6,11,26,29,30,31]) (by kernel_rfl) (by kernel_rfl) ?_;refine RS.run2 (by simp only [go_sem,simprocAttr,thenQ_n];first|done|rfl) ?_;simp only [RSr_mk])|(first|refine RS.finT (by simp only [go_sem,simprocAttr];first|done|rfl) ?_|refine RS.fin (by simp only [go_sem,simprocAttr];first|done|rfl) ?_;(try simp only [thenQ_n,blockQ_n]))|refine WP.block ?_|((refine WP.cond rfl (by simp only [go_sem,simprocAttr,thenQ_n];first|done|rfl) (fun hc=>?_) (fun hc=>?_))<;>try exact Bool.noConfusion hc)|(refine WP.skip ?_;(try simp only [thenQ_n,blockQ_n]))|(refine WP.exit ?_;(try simp only [thenQ_e,blockQ_e,blockQ_o,ne_eq,Nat.reduceEqDiff,not_false_eq_true,reduceCtorEq,thenQ_n,blockQ_n]))|(refine WP.ret ?_;(try simp only [thenQ_r,blockQ_r]);(first|refine retG0 ?_|refine retG1 rfl (by simp only [go_sem,simprocAttr,thenQ_n];first|done|rfl) ?_);simp only [go_sem,simprocAttr,thenQ_n]))
    all_goals exact retG0n (.inl (by simp only [go_sem,hel]))
  · rw [List.concat_eq_append] at h ⊢
    have hrev:Ex.pres (s'++[x]).reverse=x::(Ex.pres x.kids++Ex.pres s'.reverse):=by
      rw [List.reverse_append,List.reverse_singleton,List.singleton_append,Ex.pres,Ex.pre_eq,List.cons_append]
    rw [hrev] at h
    have hk1:e.pre[k]? = some x:=by
      have:=congrArg (fun l=>l[0]?) h
      simpa [List.getElem?_drop] using this
    have hkl:k<e.pre.length:=(List.getElem?_eq_some_iff.1 hk1).1
    have hd1:e.pre.drop (k+1)=Ex.pres x.kids++Ex.pres s'.reverse:=by
      have:=congrArg (List.drop 1) h
      simpa [List.drop_drop] using this
    have hsl:s'.length≤2097152:=by
      have h1:=congrArg List.length h
      have h2:=Ex.pres_len s'.reverse
      simp at h1 h2;omega
    have hkn:x.kids.length≤2097152:=by
      have h1:=congrArg List.length h
      have h2:=Ex.pres_len x.kids
      simp at h1;omega
    have htl:E.tl[k]? = some [.r (Ex.at x)]:=by rw [hE,preL,List.getElem?_map,hk1];rfl
    have hgt:decide (((s'++[x]).length:Int)>0)=true:=decide_eq_true (by simp only [List.length_append,List.length_singleton];omega)
    have hw:IntKind.i64.wrap (((s'++[x]).length:Nat)-1:Int)=((s'.length:Nat):Int):=(wrap64 (by simp only [List.length_append,List.length_singleton];omega) (by simp only [List.length_append,List.length_singleton];omega)).trans (by simp only [List.length_append,List.length_singleton];omega)
    have hgx:((s'++[x]).map Ex.at)[s'.length]? = some (Ex.at x):=by simp
    have hle:((s'.length:Nat):Int)≤(((s'++[x]).length:Nat):Int):=by simp only [List.length_append,List.length_singleton];omega
    have htk:((s'++[x]).map Ex.at).take s'.length=s'.map Ex.at:=by simp [List.map_append,List.take_append_of_le_length]
    have hixo:∀q2 r,ixS (.arr ver 4 ((s'++[x]).map Ex.at)::r) (some 4) q2 (.a (.own 0 ver)) (.a (.v (.int .i64 (s'.length:Nat))))=some (.a (.ep 0 ver s'.length 0)):=fun q2 r=>ixS_own rfl rfl (by simp) rfl
    repeat' (first|refine WP.seq ?_|(refine WP.reg (1000000::[0,1,3,4,6,11,26,29,30,31]) (by kernel_rfl) (by kernel_rfl) ?_;refine RS.run2 (by simp only [go_sem,simprocAttr,hgt,hw,hgx,hle,htk,hixo];first|done|rfl) ?_;simp only [RSr_mk])|(first|refine RS.finT (by simp only [go_sem,simprocAttr];first|done|rfl) ?_|refine RS.fin (by simp only [go_sem,simprocAttr];first|done|rfl) ?_;(try simp only [thenQ_n,blockQ_n]))|(refine RS.pop (by simp only [go_sem,simprocAttr,hgt,hw,hgx,hle,htk,hixo];first|done|rfl) (by simp only [go_sem,simprocAttr,hgt,hw,hgx,hle,htk,hixo];first|done|rfl) (by simp only [go_sem];first|done|rfl) (by simp only [go_sem,simprocAttr,bndD,hgt,hw,hgx,hle,htk,hixo];first|done|rfl) (by simp only [go_sem,simprocAttr,hgt,hw,hgx,hle,htk,hixo];first|done|rfl) ?_;refine RS.run2 (by simp only [go_sem,simprocAttr,hgt,hw,hgx,hle,htk,hixo];first|done|rfl) ?_;simp only [RSr_mk])|refine WP.block ?_|((refine WP.cond rfl (by simp only [go_sem,simprocAttr,hgt];first|done|rfl) (fun hc=>?_) (fun hc=>?_))<;>try exact Bool.noConfusion hc)|(refine WP.skip ?_;(try simp only [thenQ_n,blockQ_n]))|(refine WP.exit ?_;(try simp only [thenQ_e,blockQ_e,blockQ_o,ne_eq,Nat.reduceEqDiff,not_false_eq_true,reduceCtorEq,thenQ_n,blockQ_n]))|(refine RS.yield (by simp only [go_sem,simprocAttr,hgt];first|done|rfl) (by simp only [go_sem,simprocAttr,hgt];first|done|rfl) (by simp only [go_sem,simprocAttr,hgt];first|done|rfl) (by simp only [go_sem,simprocAttr,List.all_cons,List.all_nil,Bool.and_true,hgt];first|done|rfl) (by exact htl) ?_ ?_;all_goals refine RS.run2 (by simp only [go_sem,simprocAttr,hgt];first|done|rfl) ?_;simp only [RSr_mk])|(refine WP.ret ?_;(try simp only [thenQ_r,blockQ_r]);(first|refine retG0 ?_|refine retG1 rfl (by simp only [go_sem,simprocAttr,hgt];first|done|rfl) ?_);simp only [go_sem,simprocAttr,hgt])|(refine RS.call (by simp only [go_sem,simprocAttr,hgt];first|done|rfl) (by simp only [go_sem,List.all_cons,List.all_nil,Bool.and_true,hgt]) (by exact pBwd x.kids) ?_;refine RS.run2 (by simp only [go_sem,simprocAttr,hgt];first|done|rfl) ?_;simp only [RSr_mk]))
    · refine WP.range [(0,yv E.l),(1,.a (.ref (Ex.at e) 0)),(3,.a (.ptr 1 0)),(4,.a (.ptr 2 0)),(29,.a (.fn 96 [.ref [.sl (x.kids.map Ex.at)] 0]))] (fun j=>[.arr (ver+1+j) 4 ((s'++x.kids.reverse.take j).map Ex.at),.cell [.own 0 (ver+1+j)],.cell (Ex.at x)]) (bwdL Ex.at x.kids) (.a (.v (.int .i64 ((k+1:Nat):Int)))) (fun _=>True) trivial rfl (by simp only [go_sem,simprocAttr]) rfl ?_ ?_ (fun _=>rfl) ?_ rfl rfl rfl (pBwd1 x.kids ?_) rfl rfl ?_ ?_ ?_
      · simp only [Agree,go_sem,simprocAttr]
      · simp only [List.take_zero,List.append_nil,Nat.add_zero]
      · intro j
        simp only [go_sem,simprocAttr,nr_of_cl (Ex.cl x)]
      · exact hkn
      · intro j xs hxs
        obtain⟨_,_,rfl⟩:=bwdL_get hxs
        rfl
      · intro C1 j xs hxs _
        obtain⟨z,hz,rfl⟩:=bwdL_get hxs
        have hjl:j<x.kids.length:=by have:=(List.getElem?_eq_some_iff.1 hz).1;simpa using this
        simp only [bindE_2]
        repeat' (first|refine WP.seq ?_|(refine WP.reg [0,1,3,4,6,11,26,29,30,31] (by kernel_rfl) (by kernel_rfl) ?_;refine RS.run2 (by simp only [go_sem,simprocAttr,thenQ_n];first|done|rfl) ?_;simp only [RSr_mk])|(first|refine RS.finT (by simp only [go_sem,simprocAttr];first|done|rfl) ?_|refine RS.fin (by simp only [go_sem,simprocAttr];first|done|rfl) ?_;(try simp only [thenQ_n,blockQ_n])))
        intro C2
        refine WP.block ?_
        obtain⟨L,hL⟩:∃L,L=s'++x.kids.reverse.take j:=⟨_,rfl⟩
        have hL1:s'++x.kids.reverse.take (j+1)=L++[z]:=by rw [hL,List.append_assoc,←take_snoc1 hz]
        have hLl:L.length≤4194304:=by rw [hL];simp;omega
        rw [hL1,←hL]
        have hix:∀q2 r,ixS (.arr (ver+1+j+1) 4 (L.map Ex.at++[Ex.zero.at])::r) (some 4) q2 (.a (.own 0 (ver+1+j+1))) (.a (.v (.int .i64 (L.length:Nat))))=some (.a (.ep 0 (ver+1+j+1) L.length 0)):=fun q2 r=>ixS_own rfl rfl (by simp) rfl
        have hgz:(L.map Ex.at++[Ex.zero.at])[L.length]? = some Ex.zero.at:=by simp
        have hsz:(L.map Ex.at++[Ex.zero.at]).set L.length z.at=L.map Ex.at++[z.at]:=by simp
        have hfin:L.map Ex.at++[z.at]=(L++[z]).map Ex.at:=by simp
        refine WP.drwT (id:=7) 4 [4,5,6,7] [0,1,3,4,6,11,26,29,30,31] (by kernel_rfl) rfl rfl (by kernel_rfl) tb_mix ?_
        simp only [List.take_succ_cons,List.take_zero]
        refine RQ.run2 (by simp only [go_sem,simprocAttr,hgz];first|done|rfl) ?_;simp only [RQr_mk]
        refine RQ.lit (by simp only [go_sem];first|done|rfl) (by decide) (by decide) (by simp only [go_sem];first|done|rfl) (by simp only [go_sem];first|done|rfl) (by simp only [go_sem];first|done|rfl) (by simp only [go_sem];first|done|rfl) (by decide) (by simp only [go_sem,simprocAttr,List.replicate_succ,List.replicate_zero,Ex.zlit];first|done|rfl) ?_;refine RQ.run2 (by simp only [go_sem,simprocAttr,Ex.zlit];first|done|rfl) ?_;simp only [RQr_mk]
        refine RQ.nil ?_
        repeat' (first|exact TA.nil|(refine TA.no ?_ ?_;(· exact rfl))|refine TA.yesL rfl rfl ?_ ?_|refine RT.go ?_|refine RS.nilT ?_|(refine RS.appO (by simp only [go_sem,simprocAttr,Ex.zlit,hix,hgz,hsz];first|done|rfl) (by simp only [go_sem,simprocAttr,Ex.zlit,hix,hgz,hsz];first|done|rfl) (by simp only [go_sem,simprocAttr,Ex.zlit,hix,hgz,hsz];first|done|rfl) (by simp only [go_sem];first|done|rfl) (by simp only [go_sem];first|done|rfl) (by simp only [go_sem];first|done|rfl) (by simp only [go_sem];first|done|rfl) (by simp only [go_sem,simprocAttr,allLen,List.all_cons,List.all_nil,Bool.and_true,Ex.zlit,hix,hgz,hsz];first|done|rfl) (by (simp only [List.length_map,List.length_cons,List.length_nil];omega)) (by (simp only [List.length_map,List.length_cons,List.length_nil];omega)) (by first|(simp only [go_sem,simprocAttr,Ex.zlit,hix,hgz,hsz];first|done|rfl)|rfl) ?_;refine RS.run2 (by simp only [go_sem,simprocAttr,Ex.zlit,hix,hgz,hsz];first|done|rfl) ?_;simp only [RSr_mk])|(refine RS.stoE (x:=.tmp 37) (by simp only [go_sem,simprocAttr,Ex.zlit,hix,hgz,hsz];first|done|rfl) (by simp only [go_sem,simprocAttr,Ex.zlit,hix,hgz,hsz];first|done|rfl) (by simp only [go_sem,simprocAttr,Ex.zlit,hix,hgz,hsz];first|done|rfl) (by simp only [go_sem,simprocAttr,Ex.zlit,hix,hgz,hsz];first|done|rfl) (by simp only [go_sem,simprocAttr,Ex.zlit,hix,hgz,hsz];first|done|rfl) (by simp only [go_sem,simprocAttr,Ex.zlit,hix,hgz,hsz];first|done|rfl) (by simp only [go_sem,simprocAttr,Ex.zlit,hix,hgz,hsz];first|done|decide|omega) (by simp only [go_sem,simprocAttr,Ex.zlit,hix,hgz,hsz];first|done|rfl) ?_;refine RS.run2 (by simp only [go_sem,simprocAttr,Ex.zlit,hix,hgz,hsz];first|done|rfl) ?_;simp only [RSr_mk])|(refine RT.done ?_)|(refine RS.run1 (by simp only [go_sem,simprocAttr,Ex.zlit,hix,hgz,hsz];first|done|rfl) ?_))
        all_goals exact⟨trivial,[.cell z.at],by simp only [hfin,Nat.add_assoc];rfl⟩
      · intro _
        simp only [blockQ_n,thenQ_n]
        have hbl:(bwdL Ex.at x.kids).length=x.kids.reverse.length:=by simp [bwdL]
        refine⟨⟨k+1,ver+1+x.kids.length,s'++x.kids.reverse,?_,by omega⟩,[.cell (Ex.at x)],by dsimp only;omega,?_,?_,?_,?_⟩
        · rw [hd1,List.reverse_append,List.reverse_reverse,Ex.pres_app]
        · simp only [Agree,go_sem,simprocAttr]
        · rw [hbl,List.take_length];simp
        · rfl
        · rfl
    · exact .inr trivial
def kidP (k z:Int):Bool:=z != 2&&z != 3&&(z != 4||k==13)
def plainP (e:Ex):Bool :=
  if ((e.kids.length:Int) != kidsP e.kind||(e.kind != 1&&e.num != 0)||(e.kind != 2&&!(e.name==[])))=true then false
  else if e.kind=1 then decide (e.num≥0)&&decide (e.num≤999999999)
  else if e.kind=2 then nameB e.name
  else if e.kind=13∨e.kind=14 then !e.kids.any fun k=>kidP e.kind k.kind
  else true
theorem pePlain1 (e k:Ex):DPure Tryd.prog 95 [.r (Ex.at k),.a (.ref (Ex.at e) 0)] (.a (.v (.bool (kidP e.kind k.kind)))):=by
  refine DPure.go Tryd.func95 rfl Tryd.ntmps95 rfl rfl rfl (fun C hro=>?_)
  have fx:=trivial
  repeat' (first|refine stp [0,1,2,3] ?_|fail)
  exact bool_eq rfl
theorem pePlain (e:Ex) (hz:e.sz≤2097152):DPure Tryd.prog 88 [.r (Ex.at e)] (.a (.v (.bool (plainP e)))):=by
  have hlen:e.kids.length≤2097152:=by have:=Ex.szs_len e.kids;have:=e.sz_eq;omega
  have hnl:e.name.length≤1000000000:=by have:=e.sz_eq;omega
  refine DPure.go Tryd.func88 rfl Tryd.ntmps88 rfl rfl rfl (fun C hro=>?_)
  have fx:=trivial
  repeat' (first|refine stp [0,1,2,29,31,32,42,47] ?_|(refine stc (r1:=by first|exact peKids _|exact pwName _ hnl|exact pCfExpr (fun k=>kidP e.kind k.kind) e.kids 95 [.ref (Ex.at e) 0] rfl hlen fun k _=>pePlain1 e k) (r2:=?_);refine rnx ?_)|refine WP.cn (fun hc=>?_) (fun hc=>?_)|((first|refine WP.dw (id:=1) 27 [0,1,2,29,31,32,42,47] ?_);simp only [RQr_mk,List.drop_succ_cons,List.drop_zero,List.drop_nil])|fail)
  all_goals
    refine bool_eq ?_
    unfold plainP
    simp_all
mutual
theorem Ex.pre_len:∀e:Ex,e.pre.length≤e.sz
  | ⟨k,n,s,l⟩=>by
    have:=Ex.pres_len2 l
    rw [Ex.pre,Ex.sz_eq,List.length_cons]
    dsimp only;omega
theorem Ex.pres_len2:∀l:List Ex,(Ex.pres l).length≤Ex.szs l
  | []=>by simp [Ex.pres]
  | e::r=>by
    have h1:=Ex.pre_len e
    have h2:=Ex.pres_len2 r
    rw [Ex.pres,Ex.szs,List.length_append];omega
end
mutual
theorem Ex.pre_sz:∀(e x:Ex),x∈e.pre→x.sz≤e.sz
  | ⟨k,n,s,l⟩,x,h=>by
    rw [Ex.pre,List.mem_cons] at h
    rcases h with rfl|h
    · exact Nat.le_refl _
    · have:=Ex.pres_sz l x h
      have h2:=Ex.sz_eq ⟨k,n,s,l⟩
      dsimp only at h2;omega
theorem Ex.pres_sz:∀(l:List Ex) (x:Ex),x∈Ex.pres l→x.sz≤Ex.szs l
  | [],x,h=>by simp [Ex.pres] at h
  | e::r,x,h=>by
    rw [Ex.pres,List.mem_append] at h
    rw [Ex.szs]
    rcases h with h|h
    · have:=Ex.pre_sz e x h;omega
    · have:=Ex.pres_sz r x h;omega
end
theorem plain_law (e:Ex):plainP e=(Ex.plainB e&&e.kids.all fun k=>Ex.kidB e.kind k.kind):=by
  obtain⟨k,n,s,l⟩:=e
  by_cases hin:1≤k∧k≤14
  · have:k=1∨k=2∨k=3∨k=4∨k=5∨k=6∨k=7∨k=8∨k=9∨k=10∨k=11∨k=12∨k=13∨k=14:=by omega
    clear hin
    rcases this with rfl|rfl|rfl|rfl|rfl|rfl|rfl|rfl|rfl|rfl|rfl|rfl|rfl|rfl
    all_goals
      simp [plainP,Ex.plainB,kidsP,Ex.kidsN,Ex.kidB,kidP]
      rw [Bool.eq_iff_iff]
      simp
      try (constructor<;>intro h<;>simp_all<;>omega)
    · exact fun _=>⟨fun ⟨a,b⟩=>⟨⟨⟨a,b⟩,by omega⟩,by omega⟩,fun h=>h.1.1⟩
    · exact⟨fun ⟨⟨⟨a,b⟩,c⟩,d⟩=>⟨⟨⟨⟨⟨a,b⟩,c⟩,by omega⟩,by omega⟩,fun x hx=>by have:=d x hx;omega⟩,fun h=>⟨h.1.1.1,fun x hx=>by have:=h.2 x hx;omega⟩⟩
    · exact⟨fun ⟨⟨⟨a,b⟩,c⟩,d⟩=>⟨⟨⟨⟨⟨a,b⟩,c⟩,by omega⟩,by omega⟩,fun x hx=>by have:=d x hx;omega⟩,fun h=>⟨h.1.1.1,fun x hx=>by have:=h.2 x hx;omega⟩⟩
  · have hk:kidsP k = -1:=by unfold kidsP;rw [if_neg (by omega),if_neg (by omega),if_neg (by omega)]
    have h1:plainP ⟨k,n,s,l⟩=false:=by
      unfold plainP
      rw [if_pos]
      have h2:((l.length:Int) != kidsP k)=true:=by rw [hk,bne_iff_ne];omega
      dsimp only
      rw [h2];rfl
    have h2:Ex.plainB ⟨k,n,s,l⟩=false:=by
      unfold Ex.plainB
      dsimp only
      have:(decide (k<1)||decide (k>14))=true:=by rw [Bool.or_eq_true,decide_eq_true_iff,decide_eq_true_iff];omega
      rw [this];rfl
    rw [h1,h2];rfl
theorem formsB_all2 (k:Int):∀l:List Ex,Ex.formsB k l=(l.all Ex.formB&&l.all fun x=>Ex.kidB k x.kind)
  | []=>rfl
  | e::r=>by
    rw [Ex.formsB,formsB_all2 k r,List.all_cons,List.all_cons]
    cases e.formB<;>cases Ex.kidB k e.kind<;>simp
mutual
theorem pre_law:∀e:Ex,e.pre.all plainP=e.formB
  | ⟨k,n,s,l⟩=>by
    rw [Ex.pre,List.all_cons,pres_law l,plain_law,Ex.form_eq,formsB_all2]
    dsimp only
    cases Ex.plainB ⟨k,n,s,l⟩<;>cases l.all Ex.formB<;>simp
theorem pres_law:∀l:List Ex,(Ex.pres l).all plainP=l.all Ex.formB
  | []=>rfl
  | e::r=>by rw [Ex.pres,List.all_append,pre_law e,pres_law r,List.all_cons]
end
theorem rngQ_r {e e':Nat→D} {I:Prop} {st1 st':List Bx} {Q:Exit→(Nat→D)→List Bx→Prop}:rngQ e I st1 Q .ret e' st'=Q .ret e st':=rfl
theorem peRight (e:Ex) (hz:e.sz≤2097152):DPure Tryd.prog 81 [.r (Ex.at e)] (.a (.v (.bool e.rightB))):=by
  have hpl:=Ex.pre_len e
  have hlaw:e.rightB=(decide ((e.deep:Int)≤20)&&e.pre.all plainP):=by
    unfold Ex.rightB
    rw [pre_law,Bool.and_comm]
    congr 1
    rw [Bool.eq_iff_iff,decide_eq_true_iff,decide_eq_true_iff];omega
  refine DPure.go Tryd.func81 rfl Tryd.ntmps81 rfl rfl rfl (fun C hro=>?_)
  have fx:=trivial
  repeat' (first|refine WP.seq ?_|(refine WP.reg [0,1,2,3,6,8,9,12] (by kernel_rfl) (by kernel_rfl) ?_;refine RS.run2 (by simp only [go_sem,simprocAttr,thenQ_n];first|done|rfl) ?_;simp only [RSr_mk])|(first|refine RS.finT (by simp only [go_sem,simprocAttr];first|done|rfl) ?_|refine RS.fin (by simp only [go_sem,simprocAttr];first|done|rfl) ?_;(try simp only [thenQ_n,blockQ_n]))|(refine RS.call (by simp only [go_sem,simprocAttr,thenQ_n];first|done|rfl) (by simp only [go_sem,List.all_cons,List.all_nil,Bool.and_true,thenQ_n]) (by first|exact peDeep _ e 20 (Nat.le_refl _) hz (by decide) (by decide)|exact peAll e) ?_;refine RS.run2 (by simp only [go_sem,simprocAttr,thenQ_n];first|done|rfl) ?_;simp only [RSr_mk])|((refine WP.cond rfl (by simp only [go_sem,simprocAttr,thenQ_n];first|done|rfl) (fun hc=>?_) (fun hc=>?_))<;>try exact Bool.noConfusion hc)|(refine WP.skip ?_;(try simp only [thenQ_n,blockQ_n]))|refine WP.block ?_|(refine WP.ret ?_;(try simp only [thenQ_r,blockQ_r]);refine retC rfl (by simp only [go_sem,simprocAttr,thenQ_n];first|done|rfl) (by simp only [go_sem,simprocAttr,thenQ_n];first|done|rfl) (by simp only [go_sem];first|done|rfl) (by simp only [go_sem,simprocAttr,thenQ_n];first|done|rfl) (by simp only [go_sem,simprocAttr,thenQ_n];first|done|rfl) (by simp only [go_sem,thenQ_n]) ?_))
  · refine bool_eq ?_
    rw [hlaw]
    simp only [Bool.not_eq_true'] at hc
    rw [hc];rfl
  have hdeep:decide ((e.deep:Int)≤20)=true:=by simpa using hc
  refine WP.range [(2,.a (.ptr 1 0)),(8,.a (.fn 92 [.ref (Ex.at e) 0]))] (fun _=>[.cell (Ex.at e),.cell [.v (.bool false)]]) (preL e.pre) .junk (fun k=>(e.pre.take k).all plainP=true) rfl hro rfl rfl ?_ rfl (fun _=>rfl) ?_ rfl rfl rfl (peAll1 e (by omega)) rfl rfl ?_ ?_ ?_
  · simp only [Agree,go_sem,simprocAttr]
  · intro _
    simp only [go_sem,simprocAttr,nr_of_cl (Ex.cl e)]
  · intro j xs hxs
    unfold preL at hxs
    rw [List.getElem?_map,Option.map_eq_some_iff] at hxs
    obtain⟨_,_,rfl⟩:=hxs
    rfl
  · intro C1 j xs hxs hI
    unfold preL at hxs
    rw [List.getElem?_map,Option.map_eq_some_iff] at hxs
    obtain⟨x,hx,rfl⟩:=hxs
    have hxm:x∈e.pre:=List.mem_of_getElem? hx
    have hxz:x.sz≤2097152:=by have:=Ex.pre_sz e x hxm;omega
    simp only [bindE_1]
    repeat' (first|refine WP.seq ?_|(refine WP.reg [0,1,2,3,6,8,9,12] (by kernel_rfl) (by kernel_rfl) ?_;refine RS.run2 (by simp only [go_sem,simprocAttr,thenQ_n];first|done|rfl) ?_;simp only [RSr_mk])|(first|refine RS.finT (by simp only [go_sem,simprocAttr];first|done|rfl) ?_|refine RS.fin (by simp only [go_sem,simprocAttr];first|done|rfl) ?_;(try simp only [thenQ_n,blockQ_n])))
    intro C2
    repeat' (first|refine WP.seq ?_|(refine WP.reg [0,1,2,3,6,8,9,12] (by kernel_rfl) (by kernel_rfl) ?_;refine RS.run2 (by simp only [go_sem,simprocAttr,thenQ_n];first|done|rfl) ?_;simp only [RSr_mk])|(first|refine RS.finT (by simp only [go_sem,simprocAttr];first|done|rfl) ?_|refine RS.fin (by simp only [go_sem,simprocAttr];first|done|rfl) ?_;(try simp only [thenQ_n,blockQ_n]))|(refine RS.call (by simp only [go_sem,simprocAttr,thenQ_n];first|done|rfl) (by simp only [go_sem,List.all_cons,List.all_nil,Bool.and_true,thenQ_n]) (by exact pePlain x hxz) ?_;refine RS.run2 (by simp only [go_sem,simprocAttr,thenQ_n];first|done|rfl) ?_;simp only [RSr_mk])|((refine WP.cond rfl (by simp only [go_sem,simprocAttr,thenQ_n];first|done|rfl) (fun hc=>?_) (fun hc=>?_))<;>try exact Bool.noConfusion hc)|(refine WP.skip ?_;(try simp only [thenQ_n,blockQ_n]))|refine WP.block ?_)
    · refine WP.ret ?_
      simp only [thenQ_r,blockQ_r,rngQ_r]
      refine retC rfl (by simp only [go_sem,simprocAttr];first|done|rfl) (by simp only [go_sem,simprocAttr];first|done|rfl) (by simp only [go_sem];first|done|rfl) (by simp only [go_sem,simprocAttr];first|done|rfl) (by simp only [go_sem,simprocAttr];first|done|rfl) (by simp only [go_sem]) ?_
      refine bool_eq ?_
      rw [hlaw,show e.pre.all plainP=false by rw [List.all_eq_false];exact⟨x,hxm,by simpa using hc⟩];simp
    · refine⟨?_,[.cell (Ex.at x)],rfl⟩
      rw [take_snoc1 hx,List.all_append,hI]
      simpa using hc
  · intro hI
    simp only [blockQ_n,thenQ_n]
    repeat' (first|refine WP.seq ?_|(refine WP.reg [0,1,2,3,6,8,9,12] (by kernel_rfl) (by kernel_rfl) ?_;refine RS.run2 (by simp only [go_sem,simprocAttr,thenQ_n];first|done|rfl) ?_;simp only [RSr_mk])|(first|refine RS.finT (by simp only [go_sem,simprocAttr];first|done|rfl) ?_|refine RS.fin (by simp only [go_sem,simprocAttr];first|done|rfl) ?_;(try simp only [thenQ_n,blockQ_n]))|(refine WP.ret ?_;(try simp only [thenQ_r,blockQ_r]);refine retC rfl (by simp only [go_sem,simprocAttr,thenQ_n];first|done|rfl) (by simp only [go_sem,simprocAttr,thenQ_n];first|done|rfl) (by simp only [go_sem];first|done|rfl) (by simp only [go_sem,simprocAttr,thenQ_n];first|done|rfl) (by simp only [go_sem,simprocAttr,thenQ_n];first|done|rfl) (by simp only [go_sem,thenQ_n]) ?_))
    refine bool_eq ?_
    have hel:(preL e.pre).length=e.pre.length:=by simp [preL]
    rw [hel,List.take_length] at hI
    rw [hlaw,hI,hdeep];rfl
theorem not_any_not {α:Type} (l:List α) (f:α→Bool):(!l.any fun k=>!f k)=l.all f:=by
  induction l with
  | nil=>rfl
  | cons x r ih=>rw [List.any_cons,List.all_cons,←ih];cases f x<;>simp
def toldQ (b16 b32 b64:Bool) (s:St) (p:Int):Bool :=
  (bif b16 then s.ty.kind==2&&tyB s.ty p else decide (s.ty=Ty.zero)) &&
  ((bif (!b32||(s.kind==11&&s.e.sameB Ex.zero)) then s.e.sameB Ex.zero else s.e.rightB&&!(s.kind==6&&s.e.kind != 2&&s.e.kind != 3&&s.e.kind != 4)) &&
  (bif !b64 then (s.args.length:Int)==0 else decide ((s.args.length:Int)≤5)&&s.args.all Ex.rightB))
def toldP (h:Int) (s:St) (p:Int):Bool:=toldQ (bitOf h 16) (bitOf h 32) (bitOf h 64) s p
theorem psTold1 (e:Ex) (hz:e.sz≤2097152):DPure Tryd.prog 83 [.r (Ex.at e)] (.a (.v (.bool (!e.rightB)))):=by
  refine DPure.go Tryd.func83 rfl Tryd.ntmps83 rfl rfl rfl (fun C hro=>?_)
  have fx:=trivial
  repeat' (first|refine stp [0,1,2] ?_|(refine stc (r1:=by exact peRight e hz) (r2:=?_);refine rnx ?_)|fail)
  rfl
theorem psTold (s:St) (h p:Int) (b16 b32 b64:Bool) (e16:(bitP h 16==0) = !b16) (e32:(bitP h 32==0) = !b32) (e64:(bitP h 64==0) = !b64) (hz:s.sz≤2097152):DPure Tryd.prog 77 [.r (St.at s),.a (.v (.int .i64 h)),.a (.v (.int .i64 p))] (.a (.v (.bool (toldQ b16 b32 b64 s p)))):=by
  have hse:=s.sz_eq
  have f16:(bitP h 16 != 0)=b16:=by unfold bne;rw [e16,Bool.not_not]
  have hasz:∀k∈s.args,k.sz≤2097152:=fun k hk=>by have:=Ex.szs_mem hk;omega
  have hal:s.args.length≤2097152:=by have:=Ex.szs_len s.args;omega
  refine DPure.go Tryd.func77 rfl Tryd.ntmps77 rfl rfl rfl (fun C hro=>?_)
  have fx:=trivial
  replace fx:=And.intro e16 (And.intro f16 (And.intro e32 (And.intro e64 trivial)))
  repeat' (first|refine stp [0,1,2,3,6,33,34,51,52,57,81] ?_|(refine stc (r1:=by first|exact pkRight s.ty p (by omega)|exact psNone s.e (by omega)|exact peRight s.e (by omega)|exact pCfExpr (fun k=>!k.rightB) s.args 83 [] rfl hal fun k hk=>psTold1 k (hasz k hk)) (r2:=?_);refine rnx ?_)|refine WP.cn (fun hc=>?_) (fun hc=>?_)|fail)
  all_goals
    refine bool_eq ?_
    unfold toldQ
    clear e16 e32 e64 f16
    try rw [not_any_not]
    cases b16<;>cases b32<;>cases b64<;>simp_all<;>first|(intros;omega)|(rcases ‹¬s.ty.kind=2∨tyB s.ty p=false› with h|h<;>intro h1 h2<;>simp_all)
def nodeP (s:St) (p:Int):Bool :=
  hasP s.kind != 0&&(namedP (hasP s.kind) s&&(toldP (hasP s.kind) s p&&((bitOf (hasP s.kind) 128||(s.body.length:Int)==0)&&(bitOf (hasP s.kind) 256||(s.els.length:Int)==0))))
theorem len0 {α:Type} (l:List α):((l.length:Int)==0)=l.isEmpty:=by cases l<;>simp;omega
theorem add0 (a b c:Nat):(((a+b+c:Nat):Int)==0)=((a:Int)==0&&((b:Int)==0&&(c:Int)==0)):=by
  rw [Bool.eq_iff_iff];simp;omega
theorem sum3 {α β γ:Type} (l:List α) (m:List β) (n:List γ):((l.length:Int)+(m.length:Int)+(n.length:Int)==0)=(l.isEmpty&&(m.isEmpty&&n.isEmpty)):=by
  rw [←len0,←len0,←len0,Bool.eq_iff_iff];simp only [beq_iff_eq,Bool.and_eq_true];omega
theorem sum2 {α β:Type} (l:List α) (m:List β):((l.length:Int)+(m.length:Int)==0)=(l.isEmpty&&m.isEmpty):=by
  rw [←len0,←len0,Bool.eq_iff_iff];simp only [beq_iff_eq,Bool.and_eq_true];omega
theorem n5 (m:Int):(!decide (5<m))=decide (m≤5):=by
  rw [Bool.eq_iff_iff];simp
theorem zz:Ex.zero.sameB Ex.zero=true:=by decide
theorem node_law (s:St) (p:Int):nodeP s p = !(!St.onlyB s||!St.namesB s p||!St.tellsB s):=by
  obtain⟨k,x,y,n,t,e,args,body,els,a⟩:=s
  by_cases hin:1≤k∧k≤11
  · have:k=1∨k=2∨k=3∨k=4∨k=5∨k=6∨k=7∨k=8∨k=9∨k=10∨k=11:=by omega
    clear hin
    rcases this with rfl|rfl|rfl|rfl|rfl|rfl|rfl|rfl|rfl|rfl|rfl
    all_goals
      simp [nodeP,hasP,namedP,namedQ,toldP,toldQ,bitOf,St.onlyB,St.blank,St.namesB,St.tellsB,St.noneB,zz,len0,add0]
      simp only [sum3,sum2,n5]
      first|(cases args<;>simp [Bool.and_assoc,Bool.and_comm,Bool.and_left_comm,Bool.or_comm];done)|skip
  · have h0:hasP k=0:=by unfold hasP;repeat' (first|omega|(rw [if_neg (by omega)])|rfl)
    have h1:nodeP ⟨k,x,y,n,t,e,args,body,els,a⟩ p=false:=by unfold nodeP;dsimp only;rw [h0];rfl
    have h2:St.onlyB ⟨k,x,y,n,t,e,args,body,els,a⟩=false:=by
      have:(decide (k≥1)&&decide (k≤11))=false:=by
        rw [Bool.and_eq_false_iff,decide_eq_false_iff_not,decide_eq_false_iff_not];omega
      unfold St.onlyB
      dsimp only
      rw [this];rfl
    rw [h1,h2];rfl
theorem psNamedG (s:St) (h:Int) (b1 b2 b4 b8 b512:Bool) (e1:(bitP h 1==0) = !b1) (e2:(bitP h 2==0) = !b2) (e4:(bitP h 4==0) = !b4) (e8:(bitP h 8==0) = !b8) (e512:(bitP h 512==0) = !b512) (hz:s.sz≤2097152):DPure Tryd.prog 76 [.r (St.at s),.a (.v (.int .i64 h))] (.a (.v (.bool (namedQ b1 b2 b4 b8 b512 s)))):=by
  have hse:=s.sz_eq
  have f1:(bitP h 1 != 0)=b1:=by unfold bne;rw [e1,Bool.not_not]
  have f2:(bitP h 2 != 0)=b2:=by unfold bne;rw [e2,Bool.not_not]
  have f4:(bitP h 4 != 0)=b4:=by unfold bne;rw [e4,Bool.not_not]
  have f8:(bitP h 8 != 0)=b8:=by unfold bne;rw [e8,Bool.not_not]
  have f512:(bitP h 512 != 0)=b512:=by unfold bne;rw [e512,Bool.not_not]
  refine DPure.go Tryd.func76 rfl Tryd.ntmps76 rfl rfl rfl (fun C hro=>?_)
  have fx:=trivial
  replace fx:=And.intro e1 (And.intro e2 (And.intro e4 (And.intro e8 (And.intro e512 (And.intro f1 (And.intro f2 (And.intro f4 (And.intro f8 (And.intro f512 trivial)))))))))
  repeat' (first|refine stp [0,1,2,4,5,21,22,27,33,34,51] ?_|(refine stc (r1:=by first|exact pwName s.x (by omega)|exact pwName s.y (by omega)|exact pwName s.name (by omega)) (r2:=?_);refine rnx ?_)|refine WP.cn (fun hc=>?_) (fun hc=>?_)|fail)
  all_goals
    refine bool_eq ?_
    unfold namedQ
    clear e1 e2 e4 e8 e512 f1 f2 f4 f8 f512
    cases hny:nameB s.y<;>cases b1<;>cases b2<;>cases b4<;>cases b8<;>cases b512<;>simp_all
theorem hasP_bits (k:Int):((bitP (hasP k) 1==0) = !bitOf (hasP k) 1)∧((bitP (hasP k) 2==0) = !bitOf (hasP k) 2)∧((bitP (hasP k) 4==0) = !bitOf (hasP k) 4)∧((bitP (hasP k) 8==0) = !bitOf (hasP k) 8)∧((bitP (hasP k) 16==0) = !bitOf (hasP k) 16)∧((bitP (hasP k) 32==0) = !bitOf (hasP k) 32)∧((bitP (hasP k) 64==0) = !bitOf (hasP k) 64)∧((bitP (hasP k) 128==0) = !bitOf (hasP k) 128)∧((bitP (hasP k) 256==0) = !bitOf (hasP k) 256)∧((bitP (hasP k) 512==0) = !bitOf (hasP k) 512):=by
  have key:∀h∈([33,15,46,591,17,49,3,2,416,160,32,0]:List Int),((bitP h 1==0) = !bitOf h 1)∧((bitP h 2==0) = !bitOf h 2)∧((bitP h 4==0) = !bitOf h 4)∧((bitP h 8==0) = !bitOf h 8)∧((bitP h 16==0) = !bitOf h 16)∧((bitP h 32==0) = !bitOf h 32)∧((bitP h 64==0) = !bitOf h 64)∧((bitP h 128==0) = !bitOf h 128)∧((bitP h 256==0) = !bitOf h 256)∧((bitP h 512==0) = !bitOf h 512):=by decide
  refine key _ ?_
  unfold hasP
  repeat' (first|(simp;done)|split)
theorem gt0 {α:Type} (l:List α):decide ((l.length:Int)>0) = !((l.length:Int)==0):=by
  cases l<;>simp;omega
theorem all_deep (p most:Int) (l:List St) (h0:0≤most):(l.all fun k=>St.formB p k&&decide ((k.deep:Int)≤most))=(St.formsB p l&&decide ((St.deeps l:Int)≤most)):=by
  induction l with
  | nil=>rw [List.all_nil,St.formsB,St.deeps,decide_eq_true (show ((0:Nat):Int)≤most by omega)];rfl
  | cons x r ih =>
    rw [List.all_cons,ih,St.formsB,St.deeps]
    have:decide (((max x.deep (St.deeps r):Nat):Int)≤most)=(decide ((x.deep:Int)≤most)&&decide ((St.deeps r:Int)≤most)):=by
      rw [Bool.eq_iff_iff,Bool.and_eq_true,decide_eq_true_iff,decide_eq_true_iff,decide_eq_true_iff];omega
    rw [this]
    cases St.formB p x<;>cases St.formsB p r<;>simp
theorem psR (p:Int):∀(m:Nat) (s:St) (most:Int),s.sz≤m→s.sz≤2097152→0≤most→most≤2097152→DPure Tryd.prog 71 [.r (St.at s),.a (.v (.int .i64 p)),.a (.v (.int .i64 most))] (.a (.v (.bool (St.formB p s&&decide ((s.deep:Int)≤most)))))
  | 0,s,_,h,_,_,_=>by have:=s.sz_pos;omega
  | m+1,s,most,h,hz,h0,h1=>by
    have hse:=s.sz_eq
    have hbl:s.body.length≤2097152:=by have:=St.szs_len s.body;omega
    have hel:s.els.length≤2097152:=by have:=St.szs_len s.els;omega
    obtain⟨e1,e2,e4,e8,e16,e32,e64,e128,e256,e512⟩:=hasP_bits s.kind
    have hw:IntKind.i64.wrap (most-1)=if most=0 then -1 else most-1:=by
      by_cases hm:most=0
      · subst hm;rfl
      · rw [if_neg hm];exact wrap64 (by omega) (by omega)
    by_cases hm:most=0
    · have hmb:(most==0)=true:=beq_iff_eq.2 hm
      refine DPure.go Tryd.func71 rfl Tryd.ntmps71 rfl rfl rfl (fun C hro=>?_)
      have fx:=trivial
      repeat' (first|refine WP.seq ?_|(refine WP.reg [0,1,2,3,4,5,6,7,8,52] (by kernel_rfl) (by kernel_rfl) ?_;refine RS.run2 (by simp only [go_sem,simprocAttr,hmb,thenQ_n,Bool.true_or,e128,e256];first|done|rfl) ?_;simp only [RSr_mk])|(first|refine RS.finT (by simp only [go_sem,simprocAttr];first|done|rfl) ?_|refine RS.fin (by simp only [go_sem,simprocAttr];first|done|rfl) ?_;(try simp only [thenQ_n,blockQ_n]))|(refine RS.callL (by simp only [go_sem,simprocAttr,hmb,thenQ_n,Bool.true_or,e128,e256];first|done|rfl) (by simp only [go_sem,simprocAttr,List.all_cons,List.all_nil,Bool.and_true,hmb,thenQ_n,Bool.true_or,e128,e256]) (by first|exact psHas _|exact psNamedG s _ _ _ _ _ _ e1 e2 e4 e8 e512 hz|exact psTold s _ p _ _ _ e16 e32 e64 hz) ?_;refine RS.run2 (by simp only [go_sem,simprocAttr,hmb,thenQ_n,Bool.true_or,e128,e256];first|done|rfl) ?_;simp only [RSr_mk])|(refine RS.callvL (by simp only [go_sem,simprocAttr,hmb,thenQ_n,Bool.true_or,e128,e256];first|done|rfl) (by simp only [go_sem,simprocAttr,hmb,thenQ_n,Bool.true_or,e128,e256];first|done|rfl) (by simp only [go_sem,simprocAttr,List.all_cons,List.all_nil,Bool.and_true,hmb,thenQ_n,Bool.true_or,e128,e256]) (by first|exact psHas _|exact psNamedG s _ _ _ _ _ _ e1 e2 e4 e8 e512 hz|exact psTold s _ p _ _ _ e16 e32 e64 hz) ?_;refine RS.run2 (by simp only [go_sem,simprocAttr,hmb,thenQ_n,Bool.true_or,e128,e256];first|done|rfl) ?_;simp only [RSr_mk])|((refine WP.cond rfl (by simp only [go_sem,simprocAttr,hmb,thenQ_n,Bool.true_or,e128,e256];first|done|rfl) (fun hc=>?_) (fun hc=>?_))<;>try exact Bool.noConfusion hc)|(refine WP.skip ?_;(try simp only [thenQ_n,blockQ_n]))|(refine WP.exit ?_;(try simp only [thenQ_e,blockQ_e,blockQ_o,ne_eq,Nat.reduceEqDiff,not_false_eq_true,reduceCtorEq,thenQ_n,blockQ_n]))|refine WP.block ?_|(refine WP.ret ?_;(try simp only [thenQ_r,blockQ_r]);refine ret1 rfl (by simp only [go_sem,simprocAttr,hmb,thenQ_n,Bool.true_or,e128,e256];first|done|rfl) (by simp only [go_sem,hmb,thenQ_n,Bool.true_or,e128,e256]) ?_)|(fail;simp only [List.take_succ_cons,List.take_zero,List.drop_succ_cons,List.drop_zero,List.take_nil,List.drop_nil];refine RQ.run2 (by simp only [go_sem,simprocAttr,hmb,thenQ_n,Bool.true_or,e128,e256];first|done|rfl) ?_;simp only [RQr_mk])|(refine RQ.nil ?_;refine RS.run2 (by simp only [go_sem,simprocAttr,hmb,thenQ_n,Bool.true_or,e128,e256];first|done|rfl) ?_;simp only [RSr_mk])|(refine RQ.callL (by simp only [go_sem,simprocAttr,hmb,thenQ_n,Bool.true_or,e128,e256];first|done|rfl) (by simp only [go_sem,simprocAttr,List.all_cons,List.all_nil,Bool.and_true,hmb,thenQ_n,Bool.true_or,e128,e256]) (by first|exact psHas _|exact psNamedG s _ _ _ _ _ _ e1 e2 e4 e8 e512 hz|exact psTold s _ p _ _ _ e16 e32 e64 hz) ?_;refine RQ.run2 (by simp only [go_sem,simprocAttr,hmb,thenQ_n,Bool.true_or,e128,e256];first|done|rfl) ?_;simp only [RQr_mk])|(refine RQ.callvL (by simp only [go_sem,simprocAttr,hmb,thenQ_n,Bool.true_or,e128,e256];first|done|rfl) (by simp only [go_sem,simprocAttr,hmb,thenQ_n,Bool.true_or,e128,e256];first|done|rfl) (by simp only [go_sem,simprocAttr,List.all_cons,List.all_nil,Bool.and_true,hmb,thenQ_n,Bool.true_or,e128,e256]) (by first|exact psHas _|exact psNamedG s _ _ _ _ _ _ e1 e2 e4 e8 e512 hz|exact psTold s _ p _ _ _ e16 e32 e64 hz) ?_;refine RQ.run2 (by simp only [go_sem,simprocAttr,hmb,thenQ_n,Bool.true_or,e128,e256];first|done|rfl) ?_;simp only [RQr_mk]))
      exact bool_eq (by rw [decide_eq_false (show ¬(s.deep:Int)≤most by rw [St.deep_eq];omega),Bool.and_false])
    · have hmb:(most==0)=false:=by simpa using hm
      have hwl:IntKind.i64.wrap (most-1)=most-1:=wrap64 (by omega) (by omega)
      have I0:∀k∈s.body++s.els,DPure Tryd.prog 71 [.r (St.at k),.a (.v (.int .i64 p)),.a (.v (.int .i64 (most-1)))] (.a (.v (.bool (St.formB p k&&decide ((k.deep:Int)≤most-1))))):=fun k hk=>by
        have:k.sz<s.sz:=(List.mem_append.1 hk).elim St.body_lt St.els_lt
        exact psR p m k _ (by omega) (by omega) (by omega) (by omega)
      have I1:∀k∈s.body++s.els,DPure Tryd.prog 78 [.r (St.at k),.a (.ref [.v (.int .i64 p)] 0),.a (.ref [.v (.int .i64 most)] 0)] (.a (.v (.bool (!(St.formB p k&&decide ((k.deep:Int)≤most-1)))))):=fun k hk=>by
        have:=I0 k hk
        refine DPure.go Tryd.func78 rfl Tryd.ntmps78 rfl rfl rfl (fun C hro=>?_)
        have fx:=trivial
        replace fx:=And.intro hwl trivial
        repeat' (first|refine stp [0,1,2,3,4] ?_|(refine stc (r1:=by exact this) (r2:=?_);refine rnx ?_)|fail)
        rfl
      refine DPure.go Tryd.func71 rfl Tryd.ntmps71 rfl rfl rfl (fun C hro=>?_)
      have fx:=trivial
      repeat' (first|refine WP.seq ?_|(refine WP.reg [0,1,2,3,4,5,6,7,8,52] (by kernel_rfl) (by kernel_rfl) ?_;refine RS.run2 (by simp only [go_sem,simprocAttr,hmb,thenQ_n,Bool.false_or,e128,e256];first|done|rfl) ?_;simp only [RSr_mk])|(first|refine RS.finT (by simp only [go_sem,simprocAttr];first|done|rfl) ?_|refine RS.fin (by simp only [go_sem,simprocAttr];first|done|rfl) ?_;(try simp only [thenQ_n,blockQ_n]))|(refine RS.callL (by simp only [go_sem,simprocAttr,hmb,thenQ_n,Bool.false_or,e128,e256];first|done|rfl) (by simp only [go_sem,simprocAttr,List.all_cons,List.all_nil,Bool.and_true,hmb,thenQ_n,Bool.false_or,e128,e256]) (by first|exact psHas _|exact psNamedG s _ _ _ _ _ _ e1 e2 e4 e8 e512 hz|exact psTold s _ p _ _ _ e16 e32 e64 hz|exact pCfStmt (fun k=>!(St.formB p k&&decide ((k.deep:Int)≤most-1))) s.body 78 [.ref [.v (.int .i64 p)] 0,.ref [.v (.int .i64 most)] 0] rfl hbl fun k hk=>I1 k (List.mem_append.2 (.inl hk))|exact pCfStmt (fun k=>!(St.formB p k&&decide ((k.deep:Int)≤most-1))) s.els 78 [.ref [.v (.int .i64 p)] 0,.ref [.v (.int .i64 most)] 0] rfl hel fun k hk=>I1 k (List.mem_append.2 (.inr hk))) ?_;refine RS.run2 (by simp only [go_sem,simprocAttr,hmb,thenQ_n,Bool.false_or,e128,e256];first|done|rfl) ?_;simp only [RSr_mk])|(refine RS.callvL (by simp only [go_sem,simprocAttr,hmb,thenQ_n,Bool.false_or,e128,e256];first|done|rfl) (by simp only [go_sem,simprocAttr,hmb,thenQ_n,Bool.false_or,e128,e256];first|done|rfl) (by simp only [go_sem,simprocAttr,List.all_cons,List.all_nil,Bool.and_true,hmb,thenQ_n,Bool.false_or,e128,e256]) (by first|exact psHas _|exact psNamedG s _ _ _ _ _ _ e1 e2 e4 e8 e512 hz|exact psTold s _ p _ _ _ e16 e32 e64 hz|exact pCfStmt (fun k=>!(St.formB p k&&decide ((k.deep:Int)≤most-1))) s.body 78 [.ref [.v (.int .i64 p)] 0,.ref [.v (.int .i64 most)] 0] rfl hbl fun k hk=>I1 k (List.mem_append.2 (.inl hk))|exact pCfStmt (fun k=>!(St.formB p k&&decide ((k.deep:Int)≤most-1))) s.els 78 [.ref [.v (.int .i64 p)] 0,.ref [.v (.int .i64 most)] 0] rfl hel fun k hk=>I1 k (List.mem_append.2 (.inr hk))) ?_;refine RS.run2 (by simp only [go_sem,simprocAttr,hmb,thenQ_n,Bool.false_or,e128,e256];first|done|rfl) ?_;simp only [RSr_mk])|((refine WP.cond rfl (by simp only [go_sem,simprocAttr,hmb,thenQ_n,Bool.false_or,e128,e256];first|done|rfl) (fun hc=>?_) (fun hc=>?_))<;>try exact Bool.noConfusion hc)|(refine WP.skip ?_;(try simp only [thenQ_n,blockQ_n]))|(refine WP.exit ?_;(try simp only [thenQ_e,blockQ_e,blockQ_o,ne_eq,Nat.reduceEqDiff,not_false_eq_true,reduceCtorEq,thenQ_n,blockQ_n]))|refine WP.block ?_|(refine WP.ret ?_;(try simp only [thenQ_r,blockQ_r]);refine ret1 rfl (by simp only [go_sem,simprocAttr,hmb,thenQ_n,Bool.false_or,e128,e256];first|done|rfl) (by simp only [go_sem,hmb,thenQ_n,Bool.false_or,e128,e256]) ?_)|(fail;simp only [List.take_succ_cons,List.take_zero,List.drop_succ_cons,List.drop_zero,List.take_nil,List.drop_nil];refine RQ.run2 (by simp only [go_sem,simprocAttr,hmb,thenQ_n,Bool.false_or,e128,e256];first|done|rfl) ?_;simp only [RQr_mk])|(refine RQ.nil ?_;refine RS.run2 (by simp only [go_sem,simprocAttr,hmb,thenQ_n,Bool.false_or,e128,e256];first|done|rfl) ?_;simp only [RSr_mk])|(refine RQ.callL (by simp only [go_sem,simprocAttr,hmb,thenQ_n,Bool.false_or,e128,e256];first|done|rfl) (by simp only [go_sem,simprocAttr,List.all_cons,List.all_nil,Bool.and_true,hmb,thenQ_n,Bool.false_or,e128,e256]) (by first|exact psHas _|exact psNamedG s _ _ _ _ _ _ e1 e2 e4 e8 e512 hz|exact psTold s _ p _ _ _ e16 e32 e64 hz|exact pCfStmt (fun k=>!(St.formB p k&&decide ((k.deep:Int)≤most-1))) s.body 78 [.ref [.v (.int .i64 p)] 0,.ref [.v (.int .i64 most)] 0] rfl hbl fun k hk=>I1 k (List.mem_append.2 (.inl hk))|exact pCfStmt (fun k=>!(St.formB p k&&decide ((k.deep:Int)≤most-1))) s.els 78 [.ref [.v (.int .i64 p)] 0,.ref [.v (.int .i64 most)] 0] rfl hel fun k hk=>I1 k (List.mem_append.2 (.inr hk))) ?_;refine RQ.run2 (by simp only [go_sem,simprocAttr,hmb,thenQ_n,Bool.false_or,e128,e256];first|done|rfl) ?_;simp only [RQr_mk])|(refine RQ.callvL (by simp only [go_sem,simprocAttr,hmb,thenQ_n,Bool.false_or,e128,e256];first|done|rfl) (by simp only [go_sem,simprocAttr,hmb,thenQ_n,Bool.false_or,e128,e256];first|done|rfl) (by simp only [go_sem,simprocAttr,List.all_cons,List.all_nil,Bool.and_true,hmb,thenQ_n,Bool.false_or,e128,e256]) (by first|exact psHas _|exact psNamedG s _ _ _ _ _ _ e1 e2 e4 e8 e512 hz|exact psTold s _ p _ _ _ e16 e32 e64 hz|exact pCfStmt (fun k=>!(St.formB p k&&decide ((k.deep:Int)≤most-1))) s.body 78 [.ref [.v (.int .i64 p)] 0,.ref [.v (.int .i64 most)] 0] rfl hbl fun k hk=>I1 k (List.mem_append.2 (.inl hk))|exact pCfStmt (fun k=>!(St.formB p k&&decide ((k.deep:Int)≤most-1))) s.els 78 [.ref [.v (.int .i64 p)] 0,.ref [.v (.int .i64 most)] 0] rfl hel fun k hk=>I1 k (List.mem_append.2 (.inr hk))) ?_;refine RQ.run2 (by simp only [go_sem,simprocAttr,hmb,thenQ_n,Bool.false_or,e128,e256];first|done|rfl) ?_;simp only [RQr_mk]))
      · refine bool_eq ?_
        have hn:nodeP s p=false:=by
          revert hc
          unfold nodeP namedP toldP
          rw [gt0,gt0]
          unfold bne
          generalize (hasP s.kind==0)=g1
          generalize namedQ _ _ _ _ _ s=g2
          generalize toldQ _ _ _ s p=g3
          generalize bitOf (hasP s.kind) 128=g4
          generalize bitOf (hasP s.kind) 256=g5
          generalize ((s.body.length:Int)==0)=g6
          generalize ((s.els.length:Int)==0)=g7
          revert g1 g2 g3 g4 g5 g6 g7
          decide
        rw [St.form_eq,←node_law,hn];rfl
      · refine bool_eq ?_
        have hn:nodeP s p=true:=by
          revert hc
          unfold nodeP namedP toldP
          rw [gt0,gt0]
          unfold bne
          generalize (hasP s.kind==0)=g1
          generalize namedQ _ _ _ _ _ s=g2
          generalize toldQ _ _ _ s p=g3
          generalize bitOf (hasP s.kind) 128=g4
          generalize bitOf (hasP s.kind) 256=g5
          generalize ((s.body.length:Int)==0)=g6
          generalize ((s.els.length:Int)==0)=g7
          revert g1 g2 g3 g4 g5 g6 g7
          decide
        rw [St.form_eq,←node_law,hn,not_any_not,not_any_not,all_deep _ _ _ (by omega),all_deep _ _ _ (by omega),St.deep_eq]
        have:decide (((max (St.deeps s.body) (St.deeps s.els)+1:Nat):Int)≤most)=(decide ((St.deeps s.body:Int)≤most-1)&&decide ((St.deeps s.els:Int)≤most-1)):=by
          rw [Bool.eq_iff_iff,Bool.and_eq_true,decide_eq_true_iff,decide_eq_true_iff,decide_eq_true_iff];omega
        rw [this]
        cases St.formsB p s.body<;>cases St.formsB p s.els<;>simp
theorem psRight (s:St) (p:Int) (hz:s.sz≤2097152):DPure Tryd.prog 66 [.r (St.at s),.a (.v (.int .i64 p))] (.a (.v (.bool (s.rightB p)))):=by
  refine DPure.go Tryd.func66 rfl Tryd.ntmps66 rfl rfl rfl (fun C hro=>?_)
  have fx:=trivial
  repeat' (first|refine stp [0,1,2,4] ?_|(refine stc (r1:=by exact psR p _ s 20 (Nat.le_refl _) hz (by decide) (by decide)) (r2:=?_);refine rnx ?_)|fail)
  refine bool_eq ?_
  unfold St.rightB
  congr 1
  rw [Bool.eq_iff_iff,decide_eq_true_iff,decide_eq_true_iff];omega
theorem pzW1 (o:Int×Int):DPure Tryd.prog 64 [.r (owAt o)] (.a (.v (.bool (o.1==7)))):=by
  obtain⟨k,n⟩:=o
  refine DPure.go Tryd.func64 rfl Tryd.ntmps64 rfl rfl rfl (fun C hro=>?_)
  have fx:=trivial
  repeat' (first|refine stp [0,1,2] ?_|fail)
  rfl
theorem pzW (t:Ty) (p:Int) (h:t.cls.length≤1000000000):DPure Tryd.prog 51 [.r (Ty.at t),.a (.v (.int .i64 p))] (.a (.v (.bool (wrB t p)))):=by
  obtain⟨o0,o1,o2,o3⟩:=ty_own_ld t
  refine DPure.go Tryd.func51 rfl Tryd.ntmps51 rfl rfl rfl (fun C hro=>?_)
  have fx:=trivial
  refine WP.seq ?_
  refine WP.reg [0,1,2,4,5] (by kernel_rfl) (by kernel_rfl) ?_;refine RS.run2 (by simp only [go_sem,simprocAttr,thenQ_n];first|done|rfl) ?_;simp only [RSr_mk]
  first|refine RS.finT (by simp only [go_sem,simprocAttr];first|done|rfl) ?_|refine RS.fin (by simp only [go_sem,simprocAttr];first|done|rfl) ?_;(try simp only [thenQ_n,blockQ_n])
  refine WP.freeze 0 (Ty.at t) [(1,.a (.v (.int .i64 p))),(2,.a (.ref (Ty.at t) 0))] rfl (Ty.cl t) ?_ ?_
  · simp only [Agree,go_sem,simprocAttr]
  replace fx:=And.intro o0 (And.intro o1 (And.intro o2 (And.intro o3 trivial)))
  repeat' (first|refine WP.seq ?_|(refine WP.rg [0,1,2,4,5] ?_;simp only [RSr_mk])|refine RS.fnT ?_|(refine RS.fn ?_;try simp only [thenQ_n,blockQ_n])|(refine RS.cl (hp:=by first|exact pCfOwner (fun o=>o.1==7) [t.o1,t.o2,t.o3] 64 [] rfl (by simp) fun k _=>pzW1 k|exact pkRight t p h) (h:=?_);refine RS.rn ?_;simp only [RSr_mk])|(refine RS.cL (hp:=by first|exact pCfOwner (fun o=>o.1==7) [t.o1,t.o2,t.o3] 64 [] rfl (by simp) fun k _=>pzW1 k|exact pkRight t p h) (h:=?_);refine RS.rn ?_;simp only [RSr_mk])|(refine RS.sA (hc:=by exact ochk1 t) (k:=?_);refine RS.rn ?_;simp only [RSr_mk])|(refine WP.ret ?_;(try simp only [thenQ_r,blockQ_r]);refine ret3 ?_))
  refine bool_eq ?_
  unfold wrB bne
  simp only [List.any_cons,List.any_nil,Bool.or_false]
  generalize (t.o1.1==7)=g1
  generalize (t.o2.1==7)=g2
  generalize (t.o3.1==7)=g3
  generalize (t.o0.1==7)=g4
  generalize (t.o0.2==0)=g5
  generalize tyB t p=g6
  revert g1 g2 g3 g4 g5 g6
  decide
theorem pzVs1 (v:Vr) (p:Int) (h1:v.name.length≤1000000000) (h2:v.ty.cls.length≤1000000000):DPure Tryd.prog 50 [.r (Vr.at v),.a (.ref [.v (.int .i64 p)] 0)] (.a (.v (.bool (!vrB p v)))):=by
  refine DPure.go Tryd.func50 rfl Tryd.ntmps50 rfl rfl rfl (fun C hro=>?_)
  have fx:=trivial
  repeat' (first|refine stp [0,1,2,3] ?_|(refine stc (r1:=by first|exact pwName _ h1|exact pzW _ p h2) (r2:=?_);refine rnx ?_)|fail)
  refine bool_eq ?_
  unfold vrB bne
  cases (v.ty.kind==0)<;>cases nameB v.name<;>cases wrB v.ty p<;>rfl
theorem pzVs (l:List Vr) (most:Nat) (p:Int) (hz:sumOf Vr.sz l≤2097152):DPure Tryd.prog 36 [.a (.sl (l.map Vr.at)),.a (.v (.int .i64 (most:Int))),.a (.v (.int .i64 p))] (.a (.v (.bool (vrsB l most p)))):=by
  obtain⟨hn,hv⟩:=Vr.szM hz
  refine DPure.go Tryd.func36 rfl Tryd.ntmps36 rfl rfl rfl (fun C hro=>?_)
  have fx:=trivial
  repeat' (first|refine stp [0,1,2,5,6] ?_|(refine stc (r1:=by exact pCfVar (fun v=>!vrB p v) l 50 [.ref [.v (.int .i64 p)] 0] rfl hn fun v h=>pzVs1 v p (by have:=(hv v h).1;omega) (by have:=(hv v h).2;omega)) (r2:=?_);refine rnx ?_)|fail)
  refine bool_eq ?_
  unfold vrsB
  rw [not_any_not]
  congr 1
  rw [Bool.eq_iff_iff];simp
mutual
def St.bdB (p:Int):St→Bool
  | ⟨k,x,y,n,t,e,args,body,els,a⟩=>!(!St.rightB ⟨k,x,y,n,t,e,args,body,els,a⟩ p||(t.kind==2&&!wrB t p)||!St.bdsB p body||!St.bdsB p els)
def St.bdsB (p:Int):List St→Bool
  | []=>true
  | e::r=>e.bdB p&&St.bdsB p r
end
theorem St.bd_eq (p:Int) (s:St):s.bdB p = !(!St.rightB s p||(s.ty.kind==2&&!wrB s.ty p)||!St.bdsB p s.body||!St.bdsB p s.els):=by cases s;rfl
theorem St.bdsB_all (p:Int) (l:List St):St.bdsB p l=l.all (St.bdB p):=by
  induction l with
  | nil=>rw [bdsB];rfl
  | cons e r ih=>rw [bdsB,ih];rfl
theorem all_right (p:Int) (l:List St) (h1:St.formsB p l=true) (h2:St.deeps l≤20):(l.all fun s=>St.rightB s p)=true:=by
  induction l with
  | nil=>rfl
  | cons e r ih =>
    rw [St.formsB,Bool.and_eq_true] at h1
    rw [St.deeps] at h2
    rw [List.all_cons,ih h1.2 (by omega)]
    unfold St.rightB
    rw [h1.1,decide_eq_true (by omega)];rfl
theorem kids_right (s:St) (p:Int) (h:St.rightB s p=true):(s.body.all fun s=>St.rightB s p)=true∧(s.els.all fun s=>St.rightB s p)=true:=by
  unfold St.rightB at h
  rw [St.form_eq,Bool.and_eq_true,Bool.and_eq_true,Bool.and_eq_true,decide_eq_true_iff,St.deep_eq] at h
  exact⟨all_right p _ h.1.2.1 (by omega),all_right p _ h.1.2.2 (by omega)⟩
mutual
theorem St.bd_law (p:Int):∀s:St,s.bdB p=(St.rightB s p&&s.openB p)
  | ⟨k,x,y,n,t,e,args,body,els,a⟩=>by
    have h1:=St.bds_law p body
    have h2:=St.bds_law p els
    rw [St.bd_eq,St.open_eq]
    dsimp only
    rw [h1,h2]
    by_cases hr:St.rightB ⟨k,x,y,n,t,e,args,body,els,a⟩ p=true
    · obtain⟨k1,k2⟩:=kids_right _ p hr
      dsimp only at k1 k2
      rw [hr,k1,k2];rfl
    · rw [Bool.not_eq_true] at hr
      rw [hr];rfl
theorem St.bds_law (p:Int):∀l:List St,St.bdsB p l=((l.all fun s=>St.rightB s p)&&St.opensB p l)
  | []=>rfl
  | e::r=>by
    rw [St.bdsB,St.bd_law p e,St.bds_law p r,List.all_cons,St.opensB]
    cases St.rightB e p<;>cases e.openB p<;>simp
end
theorem pzBody (l:List St) (p:Int) (hz:St.szs l≤2097152):DPure Tryd.prog 53 [.a (.sl (l.map St.at)),.a (.v (.int .i64 p))] (.a (.v (.bool (St.bdsB p l)))):=by
  have hll:=St.szs_len l
  have IB:∀k∈l,DPure Tryd.prog 53 [.a (.sl (k.body.map St.at)),.a (.v (.int .i64 p))] (.a (.v (.bool (St.bdsB p k.body)))):=fun k hk=>pzBody k.body p (by have:=St.szs_mem hk;have:=k.sz_eq;omega)
  have IE:∀k∈l,DPure Tryd.prog 53 [.a (.sl (k.els.map St.at)),.a (.v (.int .i64 p))] (.a (.v (.bool (St.bdsB p k.els)))):=fun k hk=>pzBody k.els p (by have:=St.szs_mem hk;have:=k.sz_eq;omega)
  have hse:=St.bdsB_all p l
  refine DPure.go Tryd.func53 rfl Tryd.ntmps53 rfl rfl rfl (fun C hro=>?_)
  have fx:=trivial
  repeat' (first|refine stp [0,1,4,6,7,8,9,10,43] ?_|refine WP.cn (fun hc=>?_) (fun hc=>?_)|fail)
  refine WP.loopX (α:={ k:Nat // k≤(l).length∧((l).take k).all (St.bdB p)=true }) (fun y=>[(1,.a (.v (.int .i64 p))),(7,.a (.sl (l.map St.at))),(8,.a (.v (.int .i64 (l.length:Nat)))),(9,.a (.v (.int .i64 y.1)))]) (fun _=>[]) (fun y=>(l).length-y.1) ⟨0,by omega,rfl⟩ (by simp only [Agree,go_sem,simprocAttr];first|done|simp) (by first|done|rfl) ?_
  rintro⟨k,hk,hinv⟩
  dsimp only
  by_cases hlt:k<(l).length
  · have hlt2:decide ((k:Int)<(((l).length:Nat):Int))=true:=decide_eq_true (by omega)
    obtain⟨z,hz⟩:∃z,(l)[k]? = some z:=⟨_,List.getElem?_eq_getElem hlt⟩
    have hzm:z∈(l):=List.mem_of_getElem? hz
    have hzt:=take_snocA hz
    have hix:∀q2,ixD (some 23) q2 (.a (.sl ((l).map St.at))) (.a (.v (.int .i64 (k:Int))))=some (.a (.ref (St.at z) 0)):=fun q2=>ixD_at rfl (by rw [List.getElem?_map,hz];rfl) (by simp only [go_sem])
    have hw:k<9223372036854775807:=by omega
    replace fx:=And.intro hlt2 (And.intro hix (And.intro hw trivial))
    repeat' (first|refine stp [0,1,4,6,7,8,9,10,43] ?_|(refine stc (r1:=by first|exact psRight z p (by have:=St.szs_mem hzm;omega)|exact pzW z.ty p (by have:=St.szs_mem hzm;have:=z.sz_eq;omega)|exact IB _ hzm|exact IE _ hzm) (r2:=?_);refine rnx ?_)|refine WP.cn (fun hc=>?_) (fun hc=>?_)|fail)
    · refine bool_eq ?_
      rw [hse,show l.all (St.bdB p)=false by rw [List.all_eq_false];exact⟨z,hzm,by rw [St.bd_eq,hc];decide⟩]
    · refine⟨⟨k+1,by omega,by rw [hzt,List.all_append,hinv,List.all_cons,List.all_nil,St.bd_eq,hc];rfl⟩,[.cell (St.at z)],by dsimp only;omega,?_,rfl,rfl,rfl⟩
      simp only [Agree,go_sem,simprocAttr,and_true,and_self]
  obtain rfl:k=(l).length:=by omega
  rw [List.take_length] at hinv
  have hlt2:decide (((l).length:Int)<((l).length:Int))=false:=decide_eq_false (by omega)
  replace fx:=And.intro hlt2 trivial
  repeat' (first|refine stp [0,1,4,6,7,8,9,10,43] ?_|refine WP.cn (fun hc=>?_) (fun hc=>?_)|fail)
  exact bool_eq (by rw [hse,hinv])
  termination_by St.szs l
  decreasing_by all_goals (have:=St.szs_mem hk;have:=k.sz_eq;omega)
theorem pzMeth (m:Me) (p:Int) (hz:m.sz≤2097152):DPure Tryd.prog 39 [.r (Me.at m),.a (.v (.int .i64 p))] (.a (.v (.bool (m.rightB p)))):=by
  obtain⟨z1,z2,z3,z4,z5,z6⟩:=Me.szH hz
  refine DPure.go Tryd.func39 rfl Tryd.ntmps39 rfl rfl rfl (fun C hro=>?_)
  have fx:=trivial
  repeat' (first|refine stp [0,1,2,4] ?_|(refine stc (r1:=by first|exact pwName _ (by omega)|exact pzW _ p (by omega)|exact pzVs m.params 5 p z3|exact pzVs m.locals 12 p z4|exact pzBody _ p z5) (r2:=?_);refine rnx ?_)|fail)
  refine bool_eq ?_
  unfold Me.rightB
  rw [St.bds_law]
  cases nameB m.name<;>cases wrB m.ret p<;>cases vrsB m.params 5 p<;>cases vrsB m.locals 12 p<;>cases (m.body.all fun s=>St.rightB s p)<;>cases St.opensB p m.body<;>rfl
def abQ (p:Int) (o:Int×Int):Bool:=(o.1==2||o.1==3||o.1==4)&&owB o p
theorem abQ_eq (p:Int) (o:Int×Int):abQ p o=abB p o:=by
  unfold abQ abB bne
  cases (o.1==2)<;>cases (o.1==3)<;>cases (o.1==4)<;>cases owB o p<;>rfl
def headQ (c:Cs):Bool :=
  !(!nameB c.name||decide ((c.params.length:Int)>3)||decide ((c.above.length:Int)>3)||c.params.any fun s=>!nameB s)&&(bif c.super==[] then (c.above.length:Int)==0 else (c.above.all (abQ c.params.length)&&nameB c.super))
theorem pzHead1 (t:List UInt8) (h:t.length≤1000000000):DPure Tryd.prog 47 [.a (.v (.string (bs t)))] (.a (.v (.bool (!nameB t)))):=by
  refine DPure.go Tryd.func47 rfl Tryd.ntmps47 rfl rfl rfl (fun C hro=>?_)
  have fx:=trivial
  repeat' (first|refine stp [0,2] ?_|(refine stc (r1:=by exact pwName t h) (r2:=?_);refine rnx ?_)|fail)
  rfl
theorem pzHead (c:Cs) (hz:c.sz≤2097152):DPure Tryd.prog 35 [.r (Cs.at c)] (.a (.v (.bool (headQ c)))):=by
  obtain⟨z1,z2,z3,z4,z5,z6,z7,z8,z9⟩:=Cs.szH hz
  refine DPure.go Tryd.func35 rfl Tryd.ntmps35 rfl rfl rfl (fun C hro=>?_)
  have fx:=trivial
  repeat' (first|refine stp [0,1,2,3,5,27,30,36,37,38,39,43,44,51] ?_|(refine stc (r1:=by first|exact pwName _ (by omega)|exact pCfStr (fun s=>!nameB s) c.params 47 [] rfl z3 fun s h=>pzHead1 s (by have:=z4 s h;omega)) (r2:=?_);refine rnx ?_)|refine WP.cn (fun hc=>?_) (fun hc=>?_)|fail)
  · refine bool_eq ?_
    unfold headQ;rw [hc];rfl
  · refine bool_eq ?_
    unfold headQ;simp_all
  rename_i hcA
  have hfin:headQ c=(c.above.all (abQ c.params.length)&&nameB c.super):=by unfold headQ;rw [hcA,hc];rfl
  clear hcA hc
  refine WP.loopX (α:={ k:Nat // k≤c.above.length∧(c.above.take k).all (abQ c.params.length)=true }) (fun y=>[(1,.a (.ptr 0 0)),(3,.a (.v (.int .i64 (c.params.length:Nat)))),(36,.a (.sl (c.above.map owAt))),(37,.a (.v (.int .i64 (c.above.length:Nat)))),(38,.a (.v (.int .i64 y.1)))]) (fun _=>[.cell (Cs.at c)]) (fun y=>c.above.length-y.1) ⟨0,by omega,rfl⟩ (by simp only [Agree,go_sem,simprocAttr];first|done|simp) (by first|done|rfl) ?_
  rintro⟨k,hk,hinv⟩
  dsimp only
  by_cases hlt:k<c.above.length
  · have hlt2:decide ((k:Int)<((c.above.length:Nat):Int))=true:=decide_eq_true (by omega)
    obtain⟨z,hz⟩:∃z,c.above[k]? = some z:=⟨_,List.getElem?_eq_getElem hlt⟩
    have hzm:z∈c.above:=List.mem_of_getElem? hz
    have hzt:=take_snocA hz
    have hix:∀q2,ixD (some 2) q2 (.a (.sl (c.above.map owAt))) (.a (.v (.int .i64 (k:Int))))=some (.a (.ref (owAt z) 0)):=fun q2=>ixD_at rfl (by rw [List.getElem?_map,hz];rfl) (by simp only [go_sem])
    have hw:k<9223372036854775807:=by omega
    replace fx:=And.intro hlt2 (And.intro hix (And.intro hw trivial))
    repeat' (first|refine stp [0,1,2,3,5,27,30,36,37,38,39,43,44,51] ?_|(refine stc (r1:=by exact poRight z _) (r2:=?_);refine rnx ?_)|refine WP.cn (fun hc=>?_) (fun hc=>?_)|fail)
    all_goals first
      | (refine bool_eq ?_
         rw [hfin,show c.above.all (abQ c.params.length)=false by rw [List.all_eq_false];exact⟨z,hzm,by unfold abQ;simp_all⟩];rfl)
      | (refine⟨⟨k+1,by omega,by rw [hzt,List.all_append,hinv,List.all_cons,List.all_nil];unfold abQ;simp_all⟩,[.cell (owAt z)],by dsimp only;omega,?_,rfl,rfl,rfl⟩
         simp only [Agree,go_sem,simprocAttr,and_true,and_self])
  obtain rfl:k=c.above.length:=by omega
  rw [List.take_length] at hinv
  have hlt2:decide ((c.above.length:Int)<(c.above.length:Int))=false:=decide_eq_false (by omega)
  replace fx:=And.intro hlt2 trivial
  repeat' (first|refine stp [0,1,2,3,5,27,30,36,37,38,39,43,44,51] ?_|(refine stc (r1:=by exact pwName _ (by omega)) (r2:=?_);refine rnx ?_)|refine WP.cn (fun hc=>?_) (fun hc=>?_)|fail)
  exact bool_eq (by rw [hfin,hinv];rfl)
theorem pzClass1 (m:Me) (n:Int) (hz:m.sz≤2097152):DPure Tryd.prog 38 [.r (Me.at m),.a (.ref [.v (.int .i64 n)] 0)] (.a (.v (.bool (!m.rightB n)))):=by
  refine DPure.go Tryd.func38 rfl Tryd.ntmps38 rfl rfl rfl (fun C hro=>?_)
  have fx:=trivial
  repeat' (first|refine stp [0,1,2,3] ?_|(refine stc (r1:=by exact pzMeth m n hz) (r2:=?_);refine rnx ?_)|fail)
  rfl
theorem name_nil:nameB []=false:=by decide
theorem class_law (c:Cs):c.rightB=(headQ c&&(vrsB c.fields 12 c.params.length&&(decide ((c.methods.length:Int)≤12)&&c.methods.all (Me.rightB c.params.length)))):=by
  unfold Cs.rightB headQ
  have h1:(fun o=>abQ c.params.length o)=abB c.params.length:=funext fun o=>abQ_eq _ o
  have h1:abQ (c.params.length:Int)=abB c.params.length:=h1
  have h2:(c.params.any fun s=>!nameB s) = !c.params.all nameB:=by rw [←not_any_not,Bool.not_not]
  have h3:∀n:Nat,decide ((n:Int)>3) = !decide ((n:Int)≤3):=fun n=>by rw [Bool.eq_iff_iff];simp
  rw [h1,h2,h3,h3]
  cases hs:(c.super==[]) with
  | true =>
    have hn:nameB c.super=false:=by rw [beq_iff_eq.1 hs];exact name_nil
    rw [hn]
    cases ha:((c.above.length:Int)==0) with
    | true =>
      have:c.above=[]:=List.length_eq_zero_iff.1 (by have:=beq_iff_eq.1 ha;omega)
      rw [this]
      simp only [List.all_nil,List.length_nil]
      generalize nameB c.name=g1
      generalize c.params.all nameB=g2
      generalize decide ((c.params.length:Int)≤3)=g3
      generalize vrsB _ _ _=g4
      generalize decide ((c.methods.length:Int)≤12)=g5
      generalize c.methods.all _=g6
      revert g1 g2 g3 g4 g5 g6
      decide
    | false =>
      generalize nameB c.name=g1
      generalize c.params.all nameB=g2
      generalize decide ((c.params.length:Int)≤3)=g3
      generalize vrsB _ _ _=g4
      generalize decide ((c.methods.length:Int)≤12)=g5
      generalize c.methods.all _=g6
      generalize c.above.all _=g7
      generalize decide ((c.above.length:Int)≤3)=g8
      revert g1 g2 g3 g4 g5 g6 g7 g8
      decide
  | false =>
    generalize ((c.above.length:Int)==0)=g0
    generalize nameB c.name=g1
    generalize c.params.all nameB=g2
    generalize decide ((c.params.length:Int)≤3)=g3
    generalize vrsB _ _ _=g4
    generalize decide ((c.methods.length:Int)≤12)=g5
    generalize c.methods.all _=g6
    generalize c.above.all _=g7
    generalize decide ((c.above.length:Int)≤3)=g8
    generalize nameB c.super=g9
    cases g0<;>cases g1<;>cases g2<;>cases g3<;>cases g4<;>cases g5<;>(revert g6 g7 g8 g9;decide)
theorem pzCls (c:Cs) (hz:c.sz≤2097152):DPure Tryd.prog 28 [.r (Cs.at c)] (.a (.v (.bool c.rightB))):=by
  obtain⟨z1,z2,z3,z4,z5,z6,z7,z8,z9⟩:=Cs.szH hz
  refine DPure.go Tryd.func28 rfl Tryd.ntmps28 rfl rfl rfl (fun C hro=>?_)
  have fx:=trivial
  repeat' (first|refine stp [0,1,2,3] ?_|(refine stc (r1:=by first|exact pzHead c hz|exact pzVs c.fields 12 _ z6|exact pCfMeth (fun m=>!m.rightB c.params.length) c.methods 38 [.ref [.v (.int .i64 (c.params.length:Nat))] 0] rfl z9 fun m h=>pzClass1 m _ (by have:=sumOf_mem (f:=Me.sz) h;omega)) (r2:=?_);refine rnx ?_)|fail)
  refine bool_eq ?_
  rw [class_law,not_any_not,Bool.and_assoc,Bool.and_assoc]
theorem ixt0 {q2:Option (Nat×Nat)} {t:Ty}:ixD (some 11) q2 (.a (.sl [Ty.at t])) (.a (.v (.int .i64 0)))=some (.a (.ref (Ty.at t) 0)):=by
  refine ixD_at (j:=0) (row:=Ty.at t) ?_ ?_ ?_
  · rfl
  · rfl
  · exact Ty.len t
theorem pnHoles (c:Cn) (t:Ty) (h0:0≤c.holes) (h1:c.holes≤1099511627776):DT Tryd.prog 41 0 [.a (.sl [Ty.at t])] (Cn.at c) (.t []) (Cn.at { c with holes:=c.holes+(t.hole:Int) }):=by
  have hw:IntKind.i64.wrap (c.holes+1)=c.holes+1:=wrap64 (by omega) (by omega)
  obtain⟨o0,o1,o2,o3⟩:=ty_own_ld t
  refine DG.intro Tryd.func41 rfl Tryd.ntmps41 rfl rfl rfl (fun V0 Kb Nx=>?_)
  cases hh:(t.kind==2&&t.o0.1==7) with
  | true =>
    have hv:t.hole=1:=by unfold Ty.hole;rw [hh];rfl
    repeat' (first|refine WP.seq ?_|(refine WP.reg [0,1,5,6,7,8,9,21] (by kernel_rfl) (by kernel_rfl) ?_;refine RS.run2 (by simp only [go_sem,simprocAttr,hw,hh,ixt0,thenQ_n,List.length_cons,List.length_nil];first|done|rfl) ?_;simp only [RSr_mk])|(first|refine RS.finT (by simp only [go_sem,simprocAttr];first|done|rfl) ?_|refine RS.fin (by simp only [go_sem,simprocAttr];first|done|rfl) ?_;(try simp only [thenQ_n,blockQ_n]))|(refine RS.call (by simp only [go_sem,simprocAttr,hw,hh,ixt0,thenQ_n,List.length_cons,List.length_nil];first|done|rfl) (by simp only [go_sem,List.all_cons,List.all_nil,Bool.and_true,hw,hh,ixt0,thenQ_n,List.length_cons,List.length_nil]) (by fail) ?_;refine RS.run2 (by simp only [go_sem,simprocAttr,hw,hh,ixt0,thenQ_n,List.length_cons,List.length_nil];first|done|rfl) ?_;simp only [RSr_mk])|(refine RS.sliceA (by simp only [go_sem,simprocAttr,hw,hh,ixt0,thenQ_n,List.length_cons,List.length_nil];first|done|rfl) (by simp only [go_sem];first|done|rfl) rfl (by simp only [go_sem,simprocAttr,bndD,hw,hh,ixt0,thenQ_n,List.length_cons,List.length_nil];first|done|rfl) (by simp only [go_sem,simprocAttr,bndD,hw,hh,ixt0,thenQ_n,List.length_cons,List.length_nil];first|done|rfl) (by simp only [go_sem,simprocAttr,bndD,lowD,hw,hh,ixt0,thenQ_n,List.length_cons,List.length_nil];first|done|rfl) (by simp only [go_sem,simprocAttr,hw,hh,ixt0,thenQ_n,List.length_cons,List.length_nil];first|done|decide|omega) (by fail) ?_;refine RS.run2 (by simp only [go_sem,simprocAttr,hw,hh,ixt0,thenQ_n,List.length_cons,List.length_nil];first|done|rfl) ?_;simp only [RSr_mk])|((refine WP.cond rfl (by simp only [go_sem,simprocAttr,hw,hh,ixt0,thenQ_n,List.length_cons,List.length_nil];first|done|rfl) (fun hc=>?_) (fun hc=>?_))<;>try exact Bool.noConfusion hc)|(refine WP.skip ?_;(try simp only [thenQ_n,blockQ_n]))|(refine WP.exit ?_;(try simp only [thenQ_e,blockQ_e,blockQ_o,ne_eq,Nat.reduceEqDiff,not_false_eq_true,reduceCtorEq,thenQ_n,blockQ_n]))|refine WP.block ?_|refine WP.loop_in ?_|refine WPIn.unroll ?_|(refine WP.ret ?_;(try simp only [thenQ_r,blockQ_r]);refine ret1 rfl (by simp only [go_sem,simprocAttr,hw,hh,ixt0,thenQ_n,List.length_cons,List.length_nil];first|done|rfl) (by simp only [go_sem,hw,hh,ixt0,thenQ_n,List.length_cons,List.length_nil]) ?_))
    rw [hv]
    exact retG0n ⟨rfl,[.cell (Ty.at t)],rfl⟩
  | false =>
    have hv:t.hole=0:=by unfold Ty.hole;rw [hh];rfl
    repeat' (first|refine WP.seq ?_|(refine WP.reg [0,1,5,6,7,8,9,21] (by kernel_rfl) (by kernel_rfl) ?_;refine RS.run2 (by simp only [go_sem,simprocAttr,hw,hh,ixt0,thenQ_n,List.length_cons,List.length_nil];first|done|rfl) ?_;simp only [RSr_mk])|(first|refine RS.finT (by simp only [go_sem,simprocAttr];first|done|rfl) ?_|refine RS.fin (by simp only [go_sem,simprocAttr];first|done|rfl) ?_;(try simp only [thenQ_n,blockQ_n]))|(refine RS.call (by simp only [go_sem,simprocAttr,hw,hh,ixt0,thenQ_n,List.length_cons,List.length_nil];first|done|rfl) (by simp only [go_sem,List.all_cons,List.all_nil,Bool.and_true,hw,hh,ixt0,thenQ_n,List.length_cons,List.length_nil]) (by fail) ?_;refine RS.run2 (by simp only [go_sem,simprocAttr,hw,hh,ixt0,thenQ_n,List.length_cons,List.length_nil];first|done|rfl) ?_;simp only [RSr_mk])|(refine RS.sliceA (by simp only [go_sem,simprocAttr,hw,hh,ixt0,thenQ_n,List.length_cons,List.length_nil];first|done|rfl) (by simp only [go_sem];first|done|rfl) rfl (by simp only [go_sem,simprocAttr,bndD,hw,hh,ixt0,thenQ_n,List.length_cons,List.length_nil];first|done|rfl) (by simp only [go_sem,simprocAttr,bndD,hw,hh,ixt0,thenQ_n,List.length_cons,List.length_nil];first|done|rfl) (by simp only [go_sem,simprocAttr,bndD,lowD,hw,hh,ixt0,thenQ_n,List.length_cons,List.length_nil];first|done|rfl) (by simp only [go_sem,simprocAttr,hw,hh,ixt0,thenQ_n,List.length_cons,List.length_nil];first|done|decide|omega) (by fail) ?_;refine RS.run2 (by simp only [go_sem,simprocAttr,hw,hh,ixt0,thenQ_n,List.length_cons,List.length_nil];first|done|rfl) ?_;simp only [RSr_mk])|((refine WP.cond rfl (by simp only [go_sem,simprocAttr,hw,hh,ixt0,thenQ_n,List.length_cons,List.length_nil];first|done|rfl) (fun hc=>?_) (fun hc=>?_))<;>try exact Bool.noConfusion hc)|(refine WP.skip ?_;(try simp only [thenQ_n,blockQ_n]))|(refine WP.exit ?_;(try simp only [thenQ_e,blockQ_e,blockQ_o,ne_eq,Nat.reduceEqDiff,not_false_eq_true,reduceCtorEq,thenQ_n,blockQ_n]))|refine WP.block ?_|refine WP.loop_in ?_|refine WPIn.unroll ?_|(refine WP.ret ?_;(try simp only [thenQ_r,blockQ_r]);refine ret1 rfl (by simp only [go_sem,simprocAttr,hw,hh,ixt0,thenQ_n,List.length_cons,List.length_nil];first|done|rfl) (by simp only [go_sem,hw,hh,ixt0,thenQ_n,List.length_cons,List.length_nil]) ?_))
    rw [hv]
    exact retG0n ⟨rfl,[.cell (Ty.at t)],by rw [show c.holes+((0:Nat):Int)=c.holes by omega]⟩
theorem pnVars (c:Cn) (l:List Vr) (hl:l.length≤2097152) (h0:0≤c.holes) (h1:c.holes≤1000000000000):DT Tryd.prog 40 0 [.a (.sl (l.map Vr.at))] (Cn.at c) (.a (.v (.int .i64 (l.length:Nat)))) (Cn.at { c with holes:=c.holes+(holesN l:Int) }):=by
  refine DG.intro Tryd.func40 rfl Tryd.ntmps40 rfl rfl rfl (fun V0 Kb Nx=>?_)
  repeat' (first|refine WP.seq ?_|(refine WP.reg [0,1,4,6,7,8,9,10] (by kernel_rfl) (by kernel_rfl) ?_;refine RS.run2 (by simp only [go_sem,simprocAttr,thenQ_n];first|done|rfl) ?_;simp only [RSr_mk])|(first|refine RS.finT (by simp only [go_sem,simprocAttr];first|done|rfl) ?_|refine RS.fin (by simp only [go_sem,simprocAttr];first|done|rfl) ?_;(try simp only [thenQ_n,blockQ_n]))|(refine RS.callT (by simp only [go_sem,simprocAttr,thenQ_n];first|done|rfl) (by simp only [go_sem,simprocAttr,thenQ_n];first|done|rfl) (by simp only [go_sem,simprocAttr,thenQ_n];first|done|rfl) (by simp only [go_sem]) (by simp only [go_sem,List.all_cons,List.all_nil,Bool.and_true,thenQ_n]) (by simp only [go_sem,simprocAttr];first|done|rfl) (by fail) (by simp only [go_sem]) rfl rfl ?_;refine RS.run2 (by simp only [go_sem,simprocAttr,thenQ_n];first|done|rfl) ?_;simp only [RSr_mk])|(refine RS.litS (by simp only [go_sem];first|done|rfl) (by decide) (by decide) (by simp only [go_sem];first|done|rfl) (by simp only [go_sem];first|done|rfl) (by simp only [go_sem];first|done|rfl) (by simp only [go_sem];first|done|rfl) (by decide) (by simp only [go_sem,simprocAttr,List.replicate_succ,List.replicate_zero,thenQ_n];first|done|rfl) ?_;refine RS.run2 (by simp only [go_sem,simprocAttr,thenQ_n];first|done|rfl) ?_;simp only [RSr_mk])|((refine WP.cond rfl (by simp only [go_sem,simprocAttr,thenQ_n];first|done|rfl) (fun hc=>?_) (fun hc=>?_))<;>try exact Bool.noConfusion hc)|(refine WP.skip ?_;(try simp only [thenQ_n,blockQ_n]))|(refine WP.exit ?_;(try simp only [thenQ_e,blockQ_e,blockQ_o,ne_eq,Nat.reduceEqDiff,not_false_eq_true,reduceCtorEq,thenQ_n,blockQ_n]))|refine WP.block ?_)
  refine WP.loopX (α:={ k:Nat // k≤l.length }) (fun y=>[(0,.a (.ptr 0 0)),(1,.a (.sl (l.map Vr.at))),(7,.a (.sl (l.map Vr.at))),(8,.a (.v (.int .i64 (l.length:Nat)))),(9,.a (.v (.int .i64 y.1)))]) (fun y=>[.cell (Cn.at { c with holes:=c.holes+(holesN (l.take y.1):Int) })]) (fun y=>l.length-y.1) ⟨0,by omega⟩ (by simp only [Agree,go_sem,simprocAttr];first|done|simp) (by simp [holesN,sumOf]) ?_
  rintro⟨k,hk⟩
  dsimp only
  by_cases hlt:k<l.length
  · have hlt2:decide ((k:Int)<((l.length:Nat):Int))=true:=decide_eq_true (by omega)
    obtain⟨z,hz⟩:∃z,l[k]? = some z:=⟨_,List.getElem?_eq_getElem hlt⟩
    have hzm:z∈l:=List.mem_of_getElem? hz
    have hzt:=take_snocA hz
    have hix:∀q2,ixD (some 13) q2 (.a (.sl (l.map Vr.at))) (.a (.v (.int .i64 (k:Int))))=some (.a (.ref (Vr.at z) 0)):=fun q2=>ixD_at rfl (by rw [List.getElem?_map,hz];rfl) (by simp only [go_sem])
    have hw:k<9223372036854775807:=by omega
    have hT:=holesN_le (l.take k)
    rw [List.length_take] at hT
    repeat' (first|refine WP.seq ?_|(refine WP.reg [0,1,4,6,7,8,9,10] (by kernel_rfl) (by kernel_rfl) ?_;refine RS.run2 (by simp only [go_sem,simprocAttr,hlt2,hix,hw,thenQ_n];first|done|rfl) ?_;simp only [RSr_mk])|(first|refine RS.finT (by simp only [go_sem,simprocAttr];first|done|rfl) ?_|refine RS.fin (by simp only [go_sem,simprocAttr];first|done|rfl) ?_;(try simp only [thenQ_n,blockQ_n]))|(refine RS.callT (by simp only [go_sem,simprocAttr,hlt2,hix,hw,thenQ_n];first|done|rfl) (by simp only [go_sem,simprocAttr,hlt2,hix,hw,thenQ_n];first|done|rfl) (by simp only [go_sem,simprocAttr,hlt2,hix,hw,thenQ_n];first|done|rfl) (by simp only [go_sem]) (by simp only [go_sem,List.all_cons,List.all_nil,Bool.and_true,hlt2,hix,hw,thenQ_n]) (by simp only [go_sem,simprocAttr];first|done|rfl) (by exact pnHoles _ z.ty (by dsimp only;omega) (by dsimp only;omega)) (by simp only [go_sem]) rfl rfl ?_;refine RS.run2 (by simp only [go_sem,simprocAttr,hlt2,hix,hw,thenQ_n];first|done|rfl) ?_;simp only [RSr_mk])|(refine RS.litS (by simp only [go_sem];first|done|rfl) (by decide) (by decide) (by simp only [go_sem];first|done|rfl) (by simp only [go_sem];first|done|rfl) (by simp only [go_sem];first|done|rfl) (by simp only [go_sem];first|done|rfl) (by decide) (by simp only [go_sem,simprocAttr,List.replicate_succ,List.replicate_zero,hlt2,hix,hw,thenQ_n];first|done|rfl) ?_;refine RS.run2 (by simp only [go_sem,simprocAttr,hlt2,hix,hw,thenQ_n];first|done|rfl) ?_;simp only [RSr_mk])|((refine WP.cond rfl (by simp only [go_sem,simprocAttr,hlt2,hix,hw,thenQ_n];first|done|rfl) (fun hc=>?_) (fun hc=>?_))<;>try exact Bool.noConfusion hc)|(refine WP.skip ?_;(try simp only [thenQ_n,blockQ_n]))|(refine WP.exit ?_;(try simp only [thenQ_e,blockQ_e,blockQ_o,ne_eq,Nat.reduceEqDiff,not_false_eq_true,reduceCtorEq,thenQ_n,blockQ_n]))|refine WP.block ?_)
    have hsum:holesN (l.take (k+1))=holesN (l.take k)+z.ty.hole:=by unfold holesN;rw [hzt,sumOf_app,sumOf_one];rfl
    refine⟨⟨k+1,by omega⟩,[.cell (Vr.at z)],by dsimp only;omega,by simp only [Agree,go_sem,simprocAttr,and_true,and_self],?_,rfl,by simp only [go_sem,Cn.nr]⟩
    dsimp only
    rw [hsum,show c.holes+((holesN (l.take k)+z.ty.hole:Nat):Int)=c.holes+(holesN (l.take k):Int)+(z.ty.hole:Int) by omega];rfl
  obtain rfl:k=l.length:=by omega
  have hlt2:decide ((l.length:Int)<(l.length:Int))=false:=decide_eq_false (by omega)
  repeat' (first|refine WP.seq ?_|(refine WP.reg [0,1,4,6,7,8,9,10] (by kernel_rfl) (by kernel_rfl) ?_;refine RS.run2 (by simp only [go_sem,simprocAttr,hlt2,List.take_length,thenQ_n];first|done|rfl) ?_;simp only [RSr_mk])|(first|refine RS.finT (by simp only [go_sem,simprocAttr];first|done|rfl) ?_|refine RS.fin (by simp only [go_sem,simprocAttr];first|done|rfl) ?_;(try simp only [thenQ_n,blockQ_n]))|(refine RS.callT (by simp only [go_sem,simprocAttr,hlt2,List.take_length,thenQ_n];first|done|rfl) (by simp only [go_sem,simprocAttr,hlt2,List.take_length,thenQ_n];first|done|rfl) (by simp only [go_sem,simprocAttr,hlt2,List.take_length,thenQ_n];first|done|rfl) (by simp only [go_sem]) (by simp only [go_sem,List.all_cons,List.all_nil,Bool.and_true,hlt2,List.take_length,thenQ_n]) (by simp only [go_sem,simprocAttr];first|done|rfl) (by fail) (by simp only [go_sem]) rfl rfl ?_;refine RS.run2 (by simp only [go_sem,simprocAttr,hlt2,List.take_length,thenQ_n];first|done|rfl) ?_;simp only [RSr_mk])|(refine RS.litS (by simp only [go_sem];first|done|rfl) (by decide) (by decide) (by simp only [go_sem];first|done|rfl) (by simp only [go_sem];first|done|rfl) (by simp only [go_sem];first|done|rfl) (by simp only [go_sem];first|done|rfl) (by decide) (by simp only [go_sem,simprocAttr,List.replicate_succ,List.replicate_zero,hlt2,List.take_length,thenQ_n];first|done|rfl) ?_;refine RS.run2 (by simp only [go_sem,simprocAttr,hlt2,List.take_length,thenQ_n];first|done|rfl) ?_;simp only [RSr_mk])|((refine WP.cond rfl (by simp only [go_sem,simprocAttr,hlt2,List.take_length,thenQ_n];first|done|rfl) (fun hc=>?_) (fun hc=>?_))<;>try exact Bool.noConfusion hc)|(refine WP.skip ?_;(try simp only [thenQ_n,blockQ_n]))|(refine WP.exit ?_;(try simp only [thenQ_e,blockQ_e,blockQ_o,ne_eq,Nat.reduceEqDiff,not_false_eq_true,reduceCtorEq,thenQ_n,blockQ_n]))|refine WP.block ?_)
  refine WP.ret ?_
  exact retG1 rfl (by simp only [go_sem,simprocAttr];first|done|rfl) ⟨rfl,[],rfl⟩
def Cn.add (c:Cn) (l:List St) (deep:Int):Cn:={ c with stmts:=c.stmts+(St.cnts l:Int),deep:=max c.deep (deep+(St.deeps l:Int)-1),holes:=c.holes+(St.inns l:Int) }
def Cn.mid (c:Cn) (m:List St) (deep:Int):Cn:={ c with stmts:=c.stmts+(St.cnts m:Int),deep:=max (max c.deep deep) (deep+(St.deeps m:Int)-1),holes:=c.holes+(St.inns m:Int) }
theorem Cn.mid_nil (c:Cn) (deep:Int):c.mid [] deep={ c with deep:=max c.deep deep }:=by
  unfold Cn.mid;rw [St.cnts,St.deeps,St.inns];congr 1<;>omega
theorem Cn.mid_add (c:Cn) (m:List St) (deep:Int) (h:1≤St.deeps m):c.mid m deep=c.add m deep:=by
  unfold Cn.mid Cn.add;congr 1;omega
theorem St.inns_app1 (m:List St) (z:St):St.inns (m++[z])=St.inns m+z.inn:=by rw [St.inns_sum,St.inns_sum,sumOf_app,sumOf_one]
theorem Cn.mid_snoc (c:Cn) (m:List St) (z:St) (deep:Int) :
    (({ c.mid m deep with stmts:=(c.mid m deep).stmts+1,holes:=(c.mid m deep).holes+(z.ty.hole:Int) }:Cn).add z.body (deep+1)).add z.els (deep+1)=c.mid (m++[z]) deep:=by
  unfold Cn.add Cn.mid
  rw [St.cnts_app,St.cnts_one,St.cnt_eq,St.deeps_app,St.deeps_one,St.deep_eq,St.inns_app1,St.inn_eq]
  dsimp only
  congr 1<;>omega
theorem pnBody (l:List St) (c:Cn) (deep:Int) (hz:St.szs l≤2097152) (s0:0≤c.stmts) (s1:c.stmts+(St.szs l:Int)≤1000000000000) (h0:0≤c.holes) (h1:c.holes+(St.szs l:Int)≤1000000000000) (d0:0≤deep) (d1:deep+(St.szs l:Int)≤1000000000000) (d2:deep-1≤c.deep):DT Tryd.prog 42 0 [.a (.sl (l.map St.at)),.a (.v (.int .i64 deep))] (Cn.at c) (.t []) (Cn.at (c.add l deep)):=by
  have hll:=St.szs_len l
  have hwd:IntKind.i64.wrap (deep+1)=deep+1:=wrap64 (by omega) (by omega)
  refine DG.intro Tryd.func42 rfl Tryd.ntmps42 rfl rfl rfl (fun V0 Kb Nx=>?_)
  by_cases hnil:l=[]
  · subst hnil
    repeat' (first|refine WP.seq ?_|(refine WP.reg [0,1,2,7,10,20,21,22,23] (by kernel_rfl) (by kernel_rfl) ?_;refine RS.run2 (by simp only [go_sem,simprocAttr,thenQ_n,List.map_nil,List.length_nil];first|done|rfl) ?_;simp only [RSr_mk])|(first|refine RS.finT (by simp only [go_sem,simprocAttr];first|done|rfl) ?_|refine RS.fin (by simp only [go_sem,simprocAttr];first|done|rfl) ?_;(try simp only [thenQ_n,blockQ_n]))|(refine RS.call (by simp only [go_sem,simprocAttr,thenQ_n,List.map_nil,List.length_nil];first|done|rfl) (by simp only [go_sem,List.all_cons,List.all_nil,Bool.and_true,thenQ_n,List.map_nil,List.length_nil]) (by fail) ?_;refine RS.run2 (by simp only [go_sem,simprocAttr,thenQ_n,List.map_nil,List.length_nil];first|done|rfl) ?_;simp only [RSr_mk])|(refine RS.sliceA (by simp only [go_sem,simprocAttr,thenQ_n,List.map_nil,List.length_nil];first|done|rfl) (by simp only [go_sem];first|done|rfl) rfl (by simp only [go_sem,simprocAttr,bndD,thenQ_n,List.map_nil,List.length_nil];first|done|rfl) (by simp only [go_sem,simprocAttr,bndD,thenQ_n,List.map_nil,List.length_nil];first|done|rfl) (by simp only [go_sem,simprocAttr,bndD,lowD,thenQ_n,List.map_nil,List.length_nil];first|done|rfl) (by simp only [go_sem,simprocAttr,thenQ_n,List.map_nil,List.length_nil];first|done|decide|omega) (by fail) ?_;refine RS.run2 (by simp only [go_sem,simprocAttr,thenQ_n,List.map_nil,List.length_nil];first|done|rfl) ?_;simp only [RSr_mk])|((refine WP.cond rfl (by simp only [go_sem,simprocAttr,thenQ_n,List.map_nil,List.length_nil];first|done|rfl) (fun hc=>?_) (fun hc=>?_))<;>try exact Bool.noConfusion hc)|(refine WP.skip ?_;(try simp only [thenQ_n,blockQ_n]))|(refine WP.exit ?_;(try simp only [thenQ_e,blockQ_e,blockQ_o,ne_eq,Nat.reduceEqDiff,not_false_eq_true,reduceCtorEq,thenQ_n,blockQ_n]))|refine WP.block ?_|refine WP.loop_in ?_|refine WPIn.unroll ?_|(refine WP.ret ?_;(try simp only [thenQ_r,blockQ_r]);refine ret1 rfl (by simp only [go_sem,simprocAttr,thenQ_n,List.map_nil,List.length_nil];first|done|rfl) (by simp only [go_sem,thenQ_n,List.map_nil,List.length_nil]) ?_))
    refine retG0n ⟨rfl,[],?_⟩
    rw [show c.add [] deep=c by unfold Cn.add;rw [St.cnts,St.deeps,St.inns];obtain⟨q1,q2,q3,q4,q5,q6,q7⟩:=c;dsimp only at *;congr 1<;>omega]
  · have hpos:0<l.length:=List.length_pos_iff.2 hnil
    have hdp:1≤St.deeps l:=by
      cases l with
      | nil=>exact absurd rfl hnil
      | cons s0 r0=>rw [St.deeps,St.deep_eq];omega
    have hgt:decide ((l.length:Int)>0)=true:=decide_eq_true (by omega)
    have IB:∀k∈l,∀(c:Cn) (deep:Int),0≤c.stmts→c.stmts+(St.szs k.body:Int)≤1000000000000→0≤c.holes→c.holes+(St.szs k.body:Int)≤1000000000000→0≤deep→deep+(St.szs k.body:Int)≤1000000000000→deep-1≤c.deep→DT Tryd.prog 42 0 [.a (.sl (k.body.map St.at)),.a (.v (.int .i64 deep))] (Cn.at c) (.t []) (Cn.at (c.add k.body deep)):=fun k hk c deep=>pnBody k.body c deep (by have:=St.szs_mem hk;have:=k.sz_eq;omega)
    have IE:∀k∈l,∀(c:Cn) (deep:Int),0≤c.stmts→c.stmts+(St.szs k.els:Int)≤1000000000000→0≤c.holes→c.holes+(St.szs k.els:Int)≤1000000000000→0≤deep→deep+(St.szs k.els:Int)≤1000000000000→deep-1≤c.deep→DT Tryd.prog 42 0 [.a (.sl (k.els.map St.at)),.a (.v (.int .i64 deep))] (Cn.at c) (.t []) (Cn.at (c.add k.els deep)):=fun k hk c deep=>pnBody k.els c deep (by have:=St.szs_mem hk;have:=k.sz_eq;omega)
    repeat' (first|refine WP.seq ?_|(refine WP.reg [0,1,2,7,10,20,21,22,23] (by kernel_rfl) (by kernel_rfl) ?_;refine RS.run2 (by simp only [go_sem,simprocAttr,hgt,thenQ_n];first|done|rfl) ?_;simp only [RSr_mk])|(first|refine RS.finT (by simp only [go_sem,simprocAttr];first|done|rfl) ?_|refine RS.fin (by simp only [go_sem,simprocAttr];first|done|rfl) ?_;(try simp only [thenQ_n,blockQ_n]))|(refine RS.callT (by simp only [go_sem,simprocAttr,hgt,thenQ_n];first|done|rfl) (by simp only [go_sem,simprocAttr,hgt,thenQ_n];first|done|rfl) (by simp only [go_sem,simprocAttr,hgt,thenQ_n];first|done|rfl) (by simp only [go_sem]) (by simp only [go_sem,List.all_cons,List.all_nil,Bool.and_true,hgt,thenQ_n]) (by simp only [go_sem,simprocAttr];first|done|rfl) (by fail) (by simp only [go_sem]) rfl rfl ?_;refine RS.run2 (by simp only [go_sem,simprocAttr,hgt,thenQ_n];first|done|rfl) ?_;simp only [RSr_mk])|(refine RS.litS (by simp only [go_sem];first|done|rfl) (by decide) (by decide) (by simp only [go_sem];first|done|rfl) (by simp only [go_sem];first|done|rfl) (by simp only [go_sem];first|done|rfl) (by simp only [go_sem];first|done|rfl) (by decide) (by simp only [go_sem,simprocAttr,List.replicate_succ,List.replicate_zero,hgt,thenQ_n];first|done|rfl) ?_;refine RS.run2 (by simp only [go_sem,simprocAttr,hgt,thenQ_n];first|done|rfl) ?_;simp only [RSr_mk])|((refine WP.cond rfl (by simp only [go_sem,simprocAttr,hgt,thenQ_n];first|done|rfl) (fun hc=>?_) (fun hc=>?_))<;>try exact Bool.noConfusion hc)|(refine WP.skip ?_;(try simp only [thenQ_n,blockQ_n]))|(refine WP.exit ?_;(try simp only [thenQ_e,blockQ_e,blockQ_o,ne_eq,Nat.reduceEqDiff,not_false_eq_true,reduceCtorEq,thenQ_n,blockQ_n]))|refine WP.block ?_)
    refine WP.loopX (α:={ k:Nat // k≤l.length }) (fun y=>[(0,.a (.ptr 0 0)),(2,.a (.v (.int .i64 deep))),(20,.a (.sl (l.map St.at))),(21,.a (.v (.int .i64 (l.length:Nat)))),(22,.a (.v (.int .i64 y.1)))]) (fun y=>[.cell (Cn.at (c.mid (l.take y.1) deep))]) (fun y=>l.length-y.1) ⟨0,by omega⟩ (by simp only [Agree,go_sem,simprocAttr];first|done|simp) (by rw [List.take_zero,Cn.mid_nil]) ?_
    rintro⟨k,hk⟩
    dsimp only
    by_cases hlt:k<l.length
    · have hlt2:decide ((k:Int)<((l.length:Nat):Int))=true:=decide_eq_true (by omega)
      obtain⟨z,hz⟩:∃z,l[k]? = some z:=⟨_,List.getElem?_eq_getElem hlt⟩
      have hzm:z∈l:=List.mem_of_getElem? hz
      have hzt:=take_snocA hz
      have hix:∀q2,ixD (some 23) q2 (.a (.sl (l.map St.at))) (.a (.v (.int .i64 (k:Int))))=some (.a (.ref (St.at z) 0)):=fun q2=>ixD_at rfl (by rw [List.getElem?_map,hz];rfl) (by simp only [go_sem])
      have hw:k<9223372036854775807:=by omega
      have hwt:St.szs (l.take k)+z.sz≤St.szs l:=by
        have:=sumOf_take St.sz l (k+1)
        rw [hzt,sumOf_app,sumOf_one,←sumOf_szs,←sumOf_szs] at this
        exact this
      have hzs:=z.sz_eq
      have hc1:=(St.deeps_le (l.take k) fun e _=>St.deep_le _ e (Nat.le_refl _))
      have hc2:=St.inns_le (l.take k)
      have hc3:=(St.deeps_le z.body fun e _=>St.deep_le _ e (Nat.le_refl _))
      have hc4:=St.inns_le z.body
      have hc5:=z.ty.hole_le
      have hw5:IntKind.i64.wrap ((c.mid (l.take k) deep).stmts+1)=(c.mid (l.take k) deep).stmts+1:=wrap64 (by unfold Cn.mid;dsimp only;omega) (by unfold Cn.mid;dsimp only;omega)
      repeat' (first|refine WP.seq ?_|(refine WP.reg [0,1,2,7,10,20,21,22,23] (by kernel_rfl) (by kernel_rfl) ?_;refine RS.run2 (by simp only [go_sem,simprocAttr,hlt2,hix,hw,hw5,hwd,thenQ_n];first|done|rfl) ?_;simp only [RSr_mk])|(first|refine RS.finT (by simp only [go_sem,simprocAttr];first|done|rfl) ?_|refine RS.fin (by simp only [go_sem,simprocAttr];first|done|rfl) ?_;(try simp only [thenQ_n,blockQ_n]))|(refine RS.callT (by simp only [go_sem,simprocAttr,hlt2,hix,hw,hw5,hwd,thenQ_n];first|done|rfl) (by simp only [go_sem,simprocAttr,hlt2,hix,hw,hw5,hwd,thenQ_n];first|done|rfl) (by simp only [go_sem,simprocAttr,hlt2,hix,hw,hw5,hwd,thenQ_n];first|done|rfl) (by simp only [go_sem]) (by simp only [go_sem,List.all_cons,List.all_nil,Bool.and_true,hlt2,hix,hw,hw5,hwd,thenQ_n]) (by simp only [go_sem,simprocAttr];first|done|rfl) (by first|exact pnHoles _ z.ty (by unfold Cn.mid;dsimp only;omega) (by unfold Cn.mid;dsimp only;omega)|(refine IB z hzm _ _ ?_ ?_ ?_ ?_ ?_ ?_ ?_<;>(first|omega|(simp only [Cn.mid];omega)))|(refine IE z hzm _ _ ?_ ?_ ?_ ?_ ?_ ?_ ?_<;>(first|omega|(simp only [Cn.add,Cn.mid];omega)))) (by simp only [go_sem]) rfl rfl ?_;refine RS.run2 (by simp only [go_sem,simprocAttr,hlt2,hix,hw,hw5,hwd,thenQ_n];first|done|rfl) ?_;simp only [RSr_mk])|(refine RS.litS (by simp only [go_sem];first|done|rfl) (by decide) (by decide) (by simp only [go_sem];first|done|rfl) (by simp only [go_sem];first|done|rfl) (by simp only [go_sem];first|done|rfl) (by simp only [go_sem];first|done|rfl) (by decide) (by simp only [go_sem,simprocAttr,List.replicate_succ,List.replicate_zero,hlt2,hix,hw,hw5,hwd,thenQ_n];first|done|rfl) ?_;refine RS.run2 (by simp only [go_sem,simprocAttr,hlt2,hix,hw,hw5,hwd,thenQ_n];first|done|rfl) ?_;simp only [RSr_mk])|((refine WP.cond rfl (by simp only [go_sem,simprocAttr,hlt2,hix,hw,hw5,hwd,thenQ_n];first|done|rfl) (fun hc=>?_) (fun hc=>?_))<;>try exact Bool.noConfusion hc)|(refine WP.skip ?_;(try simp only [thenQ_n,blockQ_n]))|(refine WP.exit ?_;(try simp only [thenQ_e,blockQ_e,blockQ_o,ne_eq,Nat.reduceEqDiff,not_false_eq_true,reduceCtorEq,thenQ_n,blockQ_n]))|refine WP.block ?_)
      refine⟨⟨k+1,by omega⟩,[.cell (St.at z)],by dsimp only;omega,by simp only [Agree,go_sem,simprocAttr,and_true,and_self],?_,rfl,by simp only [go_sem,Cn.nr]⟩
      dsimp only
      rw [hzt,←Cn.mid_snoc];rfl
    obtain rfl:k=l.length:=by omega
    have hlt2:decide ((l.length:Int)<(l.length:Int))=false:=decide_eq_false (by omega)
    repeat' (first|refine WP.seq ?_|(refine WP.reg [0,1,2,7,10,20,21,22,23] (by kernel_rfl) (by kernel_rfl) ?_;refine RS.run2 (by simp only [go_sem,simprocAttr,hlt2,List.take_length,thenQ_n];first|done|rfl) ?_;simp only [RSr_mk])|(first|refine RS.finT (by simp only [go_sem,simprocAttr];first|done|rfl) ?_|refine RS.fin (by simp only [go_sem,simprocAttr];first|done|rfl) ?_;(try simp only [thenQ_n,blockQ_n]))|(refine RS.callT (by simp only [go_sem,simprocAttr,hlt2,List.take_length,thenQ_n];first|done|rfl) (by simp only [go_sem,simprocAttr,hlt2,List.take_length,thenQ_n];first|done|rfl) (by simp only [go_sem,simprocAttr,hlt2,List.take_length,thenQ_n];first|done|rfl) (by simp only [go_sem]) (by simp only [go_sem,List.all_cons,List.all_nil,Bool.and_true,hlt2,List.take_length,thenQ_n]) (by simp only [go_sem,simprocAttr];first|done|rfl) (by fail) (by simp only [go_sem]) rfl rfl ?_;refine RS.run2 (by simp only [go_sem,simprocAttr,hlt2,List.take_length,thenQ_n];first|done|rfl) ?_;simp only [RSr_mk])|(refine RS.litS (by simp only [go_sem];first|done|rfl) (by decide) (by decide) (by simp only [go_sem];first|done|rfl) (by simp only [go_sem];first|done|rfl) (by simp only [go_sem];first|done|rfl) (by simp only [go_sem];first|done|rfl) (by decide) (by simp only [go_sem,simprocAttr,List.replicate_succ,List.replicate_zero,hlt2,List.take_length,thenQ_n];first|done|rfl) ?_;refine RS.run2 (by simp only [go_sem,simprocAttr,hlt2,List.take_length,thenQ_n];first|done|rfl) ?_;simp only [RSr_mk])|((refine WP.cond rfl (by simp only [go_sem,simprocAttr,hlt2,List.take_length,thenQ_n];first|done|rfl) (fun hc=>?_) (fun hc=>?_))<;>try exact Bool.noConfusion hc)|(refine WP.skip ?_;(try simp only [thenQ_n,blockQ_n]))|(refine WP.exit ?_;(try simp only [thenQ_e,blockQ_e,blockQ_o,ne_eq,Nat.reduceEqDiff,not_false_eq_true,reduceCtorEq,thenQ_n,blockQ_n]))|refine WP.block ?_)
    exact retG0n ⟨rfl,[],by rw [Cn.mid_add c l deep hdp]⟩
  termination_by St.szs l
  decreasing_by all_goals (have h7:=St.szs_mem hk;have h8:=k.sz_eq;omega)
def ofM (n:Nat) (l:List Cs) (z:Cs) (ms:List Me):Cn:=⟨n,(sumOf Cs.nf l+z.fields.length:Nat),(sumOf Cs.nm l+z.methods.length:Nat),(sumOf Cs.nv l+sumOf Me.vars ms:Nat),(sumOf Cs.stmts l+sumOf (fun m:Me=>St.cnts m.body) ms:Nat),(max (maxOf Cs.deep l) (maxOf Me.deep ms):Nat),(sumOf Cs.nh l+holesN z.fields+sumOf Me.holes ms:Nat)⟩
theorem ofM_nil (n:Nat) (l:List Cs) (z:Cs):ofM n l z []={ ofT n l with fields:=(ofT n l).fields+(z.fields.length:Int),methods:=(ofT n l).methods+(z.methods.length:Int),holes:=(ofT n l).holes+(holesN z.fields:Int) }:=by
  unfold ofM ofT
  simp only [sumOf,maxOf]
  congr 1<;>omega
theorem ofM_all (n:Nat) (l:List Cs) (z:Cs):ofM n l z z.methods=ofT n (l++[z]):=by
  unfold ofM ofT
  rw [sumOf_app,sumOf_one,sumOf_app,sumOf_one,sumOf_app,sumOf_one,sumOf_app,sumOf_one,sumOf_app,sumOf_one,maxOf_app,maxOf_one]
  unfold Cs.nf Cs.nm Cs.nv Cs.stmts Cs.deep Cs.nh
  congr 1
  omega
theorem ofM_snoc (n:Nat) (l:List Cs) (z:Cs) (ms:List Me) (m:Me) :
    ({ ofM n l z ms with vars:=(ofM n l z ms).vars+((m.params.length:Int)+(m.locals.length:Int)),holes:=(ofM n l z ms).holes+(m.ret.hole:Int)+(holesN m.params:Int)+(holesN m.locals:Int) }:Cn).add m.body 1=ofM n l z (ms++[m]):=by
  unfold Cn.add ofM
  rw [sumOf_app,sumOf_one,sumOf_app,sumOf_one,sumOf_app,sumOf_one,maxOf_app,maxOf_one]
  unfold Me.vars Me.holes Me.deep
  dsimp only
  congr 1<;>omega
theorem czero:[A.v (.int .i64 0),.v (.int .i64 0),.v (.int .i64 0),.v (.int .i64 0),.v (.int .i64 0),.v (.int .i64 0),.v (.int .i64 0)]=Cn.at Cn.zero:=rfl
theorem pzOf (l:List Cs) (hz:sumOf Cs.sz l≤2097152):DPure Tryd.prog 29 [.a (.sl (l.map Cs.at))] (.r (Cn.at (ofP l))):=by
  have hll:=sumOf_len Cs.sz_pos l
  refine DPure.go Tryd.func29 rfl Tryd.ntmps29 rfl rfl rfl (fun C hro=>?_)
  have fx:=trivial
  repeat' (first|refine WP.seq ?_|(refine WP.reg [0,2,3,5,7,11,12,13,14,32,33,34,35] (by kernel_rfl) (by kernel_rfl) ?_;refine RS.run2 (by simp only [go_sem,simprocAttr,czero,thenQ_n];first|done|rfl) ?_;simp only [RSr_mk])|(first|refine RS.finT (by simp only [go_sem,simprocAttr];first|done|rfl) ?_|refine RS.fin (by simp only [go_sem,simprocAttr];first|done|rfl) ?_;(try simp only [thenQ_n,blockQ_n]))|(refine RS.call (by simp only [go_sem,simprocAttr,czero,thenQ_n];first|done|rfl) (by simp only [go_sem,List.all_cons,List.all_nil,Bool.and_true,czero,thenQ_n]) (by fail) ?_;refine RS.run2 (by simp only [go_sem,simprocAttr,czero,thenQ_n];first|done|rfl) ?_;simp only [RSr_mk])|((refine WP.cond rfl (by simp only [go_sem,simprocAttr,czero,thenQ_n];first|done|rfl) (fun hc=>?_) (fun hc=>?_))<;>try exact Bool.noConfusion hc)|(refine WP.skip ?_;(try simp only [thenQ_n,blockQ_n]))|(refine WP.exit ?_;(try simp only [thenQ_e,blockQ_e,blockQ_o,ne_eq,Nat.reduceEqDiff,not_false_eq_true,reduceCtorEq,thenQ_n,blockQ_n]))|refine WP.block ?_|(refine WP.ret ?_;(try simp only [thenQ_r,blockQ_r]);refine retC rfl (by simp only [go_sem,simprocAttr,czero,thenQ_n];first|done|rfl) (by simp only [go_sem,simprocAttr,czero,thenQ_n];first|done|rfl) (by simp only [go_sem];first|done|rfl) (by simp only [go_sem,simprocAttr,czero,thenQ_n];first|done|rfl) (by simp only [go_sem,simprocAttr,czero,thenQ_n];first|done|rfl) (by simp only [go_sem,czero,thenQ_n]) ?_)|((first|refine WP.drw (id:=5) 7 [0,2,3,5,7,11,12,13,14,32,33,34,35] (by kernel_rfl) rfl (by kernel_rfl) tb_mix ?_|refine WP.drw (id:=11) 11 [0,2,3,5,7,11,12,13,14,32,33,34,35] (by kernel_rfl) rfl (by kernel_rfl) tb_mix ?_);simp only [List.take_succ_cons,List.take_zero,List.drop_succ_cons,List.drop_zero,List.take_nil,List.drop_nil];refine RQ.run2 (by simp only [go_sem,simprocAttr,czero,thenQ_n];first|done|rfl) ?_;simp only [RQr_mk])|(refine RQ.nil ?_;refine RS.run2 (by simp only [go_sem,simprocAttr,czero,thenQ_n];first|done|rfl) ?_;simp only [RSr_mk])|(refine RQ.call (by simp only [go_sem,simprocAttr,czero,thenQ_n];first|done|rfl) (by simp only [go_sem,List.all_cons,List.all_nil,Bool.and_true,czero,thenQ_n]) (by fail) ?_;refine RQ.run2 (by simp only [go_sem,simprocAttr,czero,thenQ_n];first|done|rfl) ?_;simp only [RQr_mk]))
  refine WP.loopX (α:={ k:Nat // k≤l.length }) (fun y=>[(2,.a (.ptr 0 0)),(3,.a (.ptr 1 0)),(11,.a (.sl (l.map Cs.at))),(12,.a (.v (.int .i64 (l.length:Nat)))),(13,.a (.v (.int .i64 y.1)))]) (fun y=>[.cell (Cn.at Cn.zero),.cell (Cn.at (ofT l.length (l.take y.1)))]) (fun y=>l.length-y.1) ⟨0,by omega⟩ (by simp only [Agree,go_sem,simprocAttr];first|done|simp) (by first|done|rfl) ?_
  rintro⟨k,hk⟩
  dsimp only
  by_cases hlt:k<l.length
  · have hlt2:decide ((k:Int)<((l.length:Nat):Int))=true:=decide_eq_true (by omega)
    obtain⟨z,hz⟩:∃z,l[k]? = some z:=⟨_,List.getElem?_eq_getElem hlt⟩
    have hzm:z∈l:=List.mem_of_getElem? hz
    have hzt:=take_snocA hz
    have hix:∀q2,ixD (some 7) q2 (.a (.sl (l.map Cs.at))) (.a (.v (.int .i64 (k:Int))))=some (.a (.ref (Cs.at z) 0)):=fun q2=>ixD_at rfl (by rw [List.getElem?_map,hz];rfl) (by simp only [go_sem])
    have hw:k<9223372036854775807:=by omega
    have hzz:z.sz≤2097152:=by have:=sumOf_mem (f:=Cs.sz) hzm;omega
    obtain⟨y1,y2,y3,y4,y5,y6,y7,y8,y9⟩:=Cs.szH hzz
    have hwt:sumOf Cs.sz (l.take k)≤2097152:=by have:=sumOf_take Cs.sz l k;omega
    obtain⟨R,hR⟩:∃R,R=ofT l.length (l.take k):=⟨_,rfl⟩
    have b1:sumOf Cs.nf (l.take k)≤sumOf Cs.sz (l.take k):=sumOf_le _ fun c _=>c.nf_le
    have b2:sumOf Cs.nm (l.take k)≤sumOf Cs.sz (l.take k):=sumOf_le _ fun c _=>c.nm_le
    have b3:sumOf Cs.nv (l.take k)≤sumOf Cs.sz (l.take k):=sumOf_le _ fun c _=>c.nv_le
    have b4:sumOf Cs.stmts (l.take k)≤sumOf Cs.sz (l.take k):=sumOf_le _ fun c _=>c.stmts_le
    have b5:sumOf Cs.nh (l.take k)≤sumOf Cs.sz (l.take k):=sumOf_le _ fun c _=>c.nh_le
    have f1:R.fields=(sumOf Cs.nf (l.take k):Nat):=by rw [hR];rfl
    have f2:R.methods=(sumOf Cs.nm (l.take k):Nat):=by rw [hR];rfl
    have f5:R.holes=(sumOf Cs.nh (l.take k):Nat):=by rw [hR];rfl
    have w1:IntKind.i64.wrap (R.fields+(z.fields.length:Int))=R.fields+(z.fields.length:Int):=wrap64 (by omega) (by omega)
    have w2:IntKind.i64.wrap (R.methods+(z.methods.length:Int))=R.methods+(z.methods.length:Int):=wrap64 (by omega) (by omega)
    rw [←hR]
    repeat' (first|refine WP.seq ?_|(refine WP.reg [0,2,3,5,7,11,12,13,14,32,33,34,35] (by kernel_rfl) (by kernel_rfl) ?_;refine RS.run2 (by simp only [go_sem,simprocAttr,hlt2,hix,hw,thenQ_n];first|done|rfl) ?_;simp only [RSr_mk])|(first|refine RS.finT (by simp only [go_sem,simprocAttr];first|done|rfl) ?_|refine RS.fin (by simp only [go_sem,simprocAttr];first|done|rfl) ?_;(try simp only [thenQ_n,blockQ_n]))|(refine RS.callT (by simp only [go_sem,simprocAttr,hlt2,hix,hw,thenQ_n];first|done|rfl) (by simp only [go_sem,simprocAttr,hlt2,hix,hw,thenQ_n];first|done|rfl) (by simp only [go_sem,simprocAttr,hlt2,hix,hw,thenQ_n];first|done|rfl) (by simp only [go_sem]) (by simp only [go_sem,List.all_cons,List.all_nil,Bool.and_true,hlt2,hix,hw,thenQ_n]) (by simp only [go_sem,simprocAttr];first|done|rfl) (by fail) (by simp only [go_sem]) rfl rfl ?_;refine RS.run2 (by simp only [go_sem,simprocAttr,hlt2,hix,hw,thenQ_n];first|done|rfl) ?_;simp only [RSr_mk])|(refine RS.litS (by simp only [go_sem];first|done|rfl) (by decide) (by decide) (by simp only [go_sem];first|done|rfl) (by simp only [go_sem];first|done|rfl) (by simp only [go_sem];first|done|rfl) (by simp only [go_sem];first|done|rfl) (by decide) (by simp only [go_sem,simprocAttr,List.replicate_succ,List.replicate_zero,hlt2,hix,hw,thenQ_n];first|done|rfl) ?_;refine RS.run2 (by simp only [go_sem,simprocAttr,hlt2,hix,hw,thenQ_n];first|done|rfl) ?_;simp only [RSr_mk])|((refine WP.cond rfl (by simp only [go_sem,simprocAttr,hlt2,hix,hw,thenQ_n];first|done|rfl) (fun hc=>?_) (fun hc=>?_))<;>try exact Bool.noConfusion hc)|(refine WP.skip ?_;(try simp only [thenQ_n,blockQ_n]))|(refine WP.exit ?_;(try simp only [thenQ_e,blockQ_e,blockQ_o,ne_eq,Nat.reduceEqDiff,not_false_eq_true,reduceCtorEq,thenQ_n,blockQ_n]))|refine WP.block ?_)
    refine WP.drwS (id:=5) 7 4 7 [.cell (Cn.at Cn.zero),.cell (Cn.at { R with holes:=R.holes+(holesN z.fields:Int) }),.cell (Cs.at z)] [.cell (Cn.at Cn.zero),.cell (Cn.at { R with holes:=R.holes+(holesN z.fields:Int) }),.cell (Cs.at z)] [.cell (Cn.at Cn.zero),.cell (Cn.at { R with holes:=R.holes+(holesN z.fields:Int) }),.cell (Cs.at z)] [7] [0,2,3,5,7,11,12,13,14,32,33,34,35] (by kernel_rfl) rfl rfl (by kernel_rfl) rfl rfl (by kernel_rfl) tb_mix ?_
    simp only [List.take_succ_cons,List.take_zero]
    refine RW.rd (by simp only [go_sem,simprocAttr,w1];first|done|rfl) (by simp only [go_sem,simprocAttr,w1];first|done|rfl) (by simp only [go_sem,simprocAttr,w1];first|done|rfl) rfl ?_
    refine RW.rd (by simp only [go_sem,simprocAttr,w1];first|done|rfl) (by simp only [go_sem,simprocAttr,w1];first|done|rfl) (by simp only [go_sem,simprocAttr,w1];first|done|rfl) rfl ?_
    refine RW.rd (by simp only [go_sem,simprocAttr,w1];first|done|rfl) (by simp only [go_sem,simprocAttr,w1];first|done|rfl) (by simp only [go_sem,simprocAttr,w1];first|done|rfl) rfl ?_
    refine RW.rd (by simp only [go_sem,simprocAttr,w1];first|done|rfl) (by simp only [go_sem,simprocAttr,w1];first|done|rfl) (by simp only [go_sem,simprocAttr,w1];first|done|rfl) rfl ?_
    refine RW.wr1 rfl (WS.callT (by simp only [go_sem,simprocAttr,w1];first|done|rfl) (by simp only [go_sem,simprocAttr,w1];first|done|rfl) (by simp only [go_sem,simprocAttr,w1];first|done|rfl) (by simp only [go_sem]) (by simp only [go_sem,List.all_cons,List.all_nil,Bool.and_true,w1]) (by simp only [go_sem,simprocAttr];first|done|rfl) (by exact pnVars R z.fields (by omega) (by omega) (by omega)) (by simp only [go_sem]) rfl rfl) ?_
    refine RW.rd (by simp only [go_sem,simprocAttr,w1];first|done|rfl) (by simp only [go_sem,simprocAttr,w1];first|done|rfl) (by simp only [go_sem,simprocAttr,w1];first|done|rfl) rfl ?_
    refine RW.rd (by simp only [go_sem,simprocAttr,w1];first|done|rfl) (by simp only [go_sem,simprocAttr,w1];first|done|rfl) (by simp only [go_sem,simprocAttr,w1];first|done|rfl) rfl ?_
    refine RW.nil ?_
    refine RT.go ?_
    refine TA.yesL rfl rfl ?_ TA.nil
    refine RS.run2 (by simp only [go_sem,simprocAttr,w1];first|done|rfl) ?_;simp only [RSr_mk]
    refine RS.nilT ?_
    refine RT.finT (by simp only [go_sem,simprocAttr];first|done|rfl) ?_
    repeat' (first|refine WP.seq ?_|(refine WP.reg [0,2,3,5,7,11,12,13,14,32,33,34,35] (by kernel_rfl) (by kernel_rfl) ?_;refine RS.run2 (by simp only [go_sem,simprocAttr,w2,thenQ_n];first|done|rfl) ?_;simp only [RSr_mk])|(first|refine RS.finT (by simp only [go_sem,simprocAttr];first|done|rfl) ?_|refine RS.fin (by simp only [go_sem,simprocAttr];first|done|rfl) ?_;(try simp only [thenQ_n,blockQ_n]))|(refine RS.callT (by simp only [go_sem,simprocAttr,w2,thenQ_n];first|done|rfl) (by simp only [go_sem,simprocAttr,w2,thenQ_n];first|done|rfl) (by simp only [go_sem,simprocAttr,w2,thenQ_n];first|done|rfl) (by simp only [go_sem]) (by simp only [go_sem,List.all_cons,List.all_nil,Bool.and_true,w2,thenQ_n]) (by simp only [go_sem,simprocAttr];first|done|rfl) (by fail) (by simp only [go_sem]) rfl rfl ?_;refine RS.run2 (by simp only [go_sem,simprocAttr,w2,thenQ_n];first|done|rfl) ?_;simp only [RSr_mk])|(refine RS.litS (by simp only [go_sem];first|done|rfl) (by decide) (by decide) (by simp only [go_sem];first|done|rfl) (by simp only [go_sem];first|done|rfl) (by simp only [go_sem];first|done|rfl) (by simp only [go_sem];first|done|rfl) (by decide) (by simp only [go_sem,simprocAttr,List.replicate_succ,List.replicate_zero,w2,thenQ_n];first|done|rfl) ?_;refine RS.run2 (by simp only [go_sem,simprocAttr,w2,thenQ_n];first|done|rfl) ?_;simp only [RSr_mk])|((refine WP.cond rfl (by simp only [go_sem,simprocAttr,w2,thenQ_n];first|done|rfl) (fun hc=>?_) (fun hc=>?_))<;>try exact Bool.noConfusion hc)|(refine WP.skip ?_;(try simp only [thenQ_n,blockQ_n]))|(refine WP.exit ?_;(try simp only [thenQ_e,blockQ_e,blockQ_o,ne_eq,Nat.reduceEqDiff,not_false_eq_true,reduceCtorEq,thenQ_n,blockQ_n]))|refine WP.block ?_)
    refine WP.loopX (α:={ j:Nat // j≤z.methods.length }) (fun y=>[(2,.a (.ptr 0 0)),(3,.a (.ptr 1 0)),(11,.a (.sl (l.map Cs.at))),(12,.a (.v (.int .i64 (l.length:Nat)))),(13,.a (.v (.int .i64 k))),(32,.a (.sl (z.methods.map Me.at))),(33,.a (.v (.int .i64 (z.methods.length:Nat)))),(34,.a (.v (.int .i64 y.1)))]) (fun y=>[.cell (Cn.at Cn.zero),.cell (Cn.at (ofM l.length (l.take k) z (z.methods.take y.1))),.cell (Cs.at z)]) (fun y=>z.methods.length-y.1) ⟨0,by omega⟩ (by simp only [Agree,go_sem,simprocAttr];first|done|simp) (by rw [List.take_zero,ofM_nil,←hR]) ?_
    rintro⟨j,hj⟩
    dsimp only
    by_cases hlj:j<z.methods.length
    · have hlt3:decide ((j:Int)<((z.methods.length:Nat):Int))=true:=decide_eq_true (by omega)
      obtain⟨m,hm⟩:∃m,z.methods[j]? = some m:=⟨_,List.getElem?_eq_getElem hlj⟩
      have hmm:m∈z.methods:=List.mem_of_getElem? hm
      have hmt:=take_snocA hm
      have hiz:∀q2,ixD (some 17) q2 (.a (.sl (z.methods.map Me.at))) (.a (.v (.int .i64 (j:Int))))=some (.a (.ref (Me.at m) 0)):=fun q2=>ixD_at rfl (by rw [List.getElem?_map,hm];rfl) (by simp only [go_sem])
      have hw2:j<9223372036854775807:=by omega
      have hmz:m.sz≤2097152:=by have:=sumOf_mem (f:=Me.sz) hmm;omega
      obtain⟨u1,u2,u3,u4,u5,u6⟩:=Me.szH hmz
      have q0:sumOf Me.sz (z.methods.take j)≤sumOf Me.sz z.methods:=sumOf_take Me.sz z.methods j
      have q3:sumOf Me.vars (z.methods.take j)≤sumOf Me.sz (z.methods.take j):=sumOf_le _ fun m _=>m.vars_le
      have q4:sumOf (fun m:Me=>St.cnts m.body) (z.methods.take j)≤sumOf Me.sz (z.methods.take j):=sumOf_le _ fun m _=>by have:=(St.deeps_le m.body fun e _=>St.deep_le _ e (Nat.le_refl _)).2;unfold Me.sz;omega
      have q5:sumOf Me.holes (z.methods.take j)≤sumOf Me.sz (z.methods.take j):=sumOf_le _ fun m _=>m.holes_le
      have hfh:=holesN_le z.fields
      have hph:=holesN_le m.params
      have hlh:=holesN_le m.locals
      have hrh:=m.ret.hole_le
      obtain⟨T,hT⟩:∃T,T=ofM l.length (l.take k) z (z.methods.take j):=⟨_,rfl⟩
      have g3:T.vars=(sumOf Cs.nv (l.take k)+sumOf Me.vars (z.methods.take j):Nat):=by rw [hT];rfl
      have g4:T.stmts=(sumOf Cs.stmts (l.take k)+sumOf (fun m:Me=>St.cnts m.body) (z.methods.take j):Nat):=by rw [hT];rfl
      have g5:T.deep=(max (maxOf Cs.deep (l.take k)) (maxOf Me.deep (z.methods.take j)):Nat):=by rw [hT];rfl
      have g6:T.holes=(sumOf Cs.nh (l.take k)+holesN z.fields+sumOf Me.holes (z.methods.take j):Nat):=by rw [hT];rfl
      have v1:IntKind.i64.wrap ((m.params.length:Int)+(m.locals.length:Int))=(m.params.length:Int)+(m.locals.length:Int):=wrap64 (by omega) (by omega)
      have v2:IntKind.i64.wrap (T.vars+((m.params.length:Int)+(m.locals.length:Int)))=T.vars+((m.params.length:Int)+(m.locals.length:Int)):=wrap64 (by omega) (by omega)
      rw [←hT]
      repeat' (first|refine WP.seq ?_|(refine WP.reg [0,2,3,5,7,11,12,13,14,32,33,34,35] (by kernel_rfl) (by kernel_rfl) ?_;refine RS.run2 (by simp only [go_sem,simprocAttr,hlt3,hiz,hw2,thenQ_n];first|done|rfl) ?_;simp only [RSr_mk])|(first|refine RS.finT (by simp only [go_sem,simprocAttr];first|done|rfl) ?_|refine RS.fin (by simp only [go_sem,simprocAttr];first|done|rfl) ?_;(try simp only [thenQ_n,blockQ_n]))|(refine RS.callT (by simp only [go_sem,simprocAttr,hlt3,hiz,hw2,thenQ_n];first|done|rfl) (by simp only [go_sem,simprocAttr,hlt3,hiz,hw2,thenQ_n];first|done|rfl) (by simp only [go_sem,simprocAttr,hlt3,hiz,hw2,thenQ_n];first|done|rfl) (by simp only [go_sem]) (by simp only [go_sem,List.all_cons,List.all_nil,Bool.and_true,hlt3,hiz,hw2,thenQ_n]) (by simp only [go_sem,simprocAttr];first|done|rfl) (by exact pnHoles T m.ret (by omega) (by omega)) (by simp only [go_sem]) rfl rfl ?_;refine RS.run2 (by simp only [go_sem,simprocAttr,hlt3,hiz,hw2,thenQ_n];first|done|rfl) ?_;simp only [RSr_mk])|(refine RS.litS (by simp only [go_sem];first|done|rfl) (by decide) (by decide) (by simp only [go_sem];first|done|rfl) (by simp only [go_sem];first|done|rfl) (by simp only [go_sem];first|done|rfl) (by simp only [go_sem];first|done|rfl) (by decide) (by simp only [go_sem,simprocAttr,List.replicate_succ,List.replicate_zero,hlt3,hiz,hw2,thenQ_n];first|done|rfl) ?_;refine RS.run2 (by simp only [go_sem,simprocAttr,hlt3,hiz,hw2,thenQ_n];first|done|rfl) ?_;simp only [RSr_mk])|((refine WP.cond rfl (by simp only [go_sem,simprocAttr,hlt3,hiz,hw2,thenQ_n];first|done|rfl) (fun hc=>?_) (fun hc=>?_))<;>try exact Bool.noConfusion hc)|(refine WP.skip ?_;(try simp only [thenQ_n,blockQ_n]))|(refine WP.exit ?_;(try simp only [thenQ_e,blockQ_e,blockQ_o,ne_eq,Nat.reduceEqDiff,not_false_eq_true,reduceCtorEq,thenQ_n,blockQ_n]))|refine WP.block ?_)
      refine WP.drwS (id:=11) 11 4 7 [.cell (Cn.at Cn.zero),.cell (Cn.at { T with holes:=T.holes+(m.ret.hole:Int)+(holesN m.params:Int) }),.cell (Cs.at z),.cell (Me.at m)] [.cell (Cn.at Cn.zero),.cell (Cn.at { T with holes:=T.holes+(m.ret.hole:Int)+(holesN m.params:Int)+(holesN m.locals:Int) }),.cell (Cs.at z),.cell (Me.at m)] [.cell (Cn.at Cn.zero),.cell (Cn.at { T with holes:=T.holes+(m.ret.hole:Int)+(holesN m.params:Int)+(holesN m.locals:Int) }),.cell (Cs.at z),.cell (Me.at m)] [11] [0,2,3,5,7,11,12,13,14,32,33,34,35] (by kernel_rfl) rfl rfl (by kernel_rfl) rfl rfl (by kernel_rfl) tb_mix ?_
      simp only [List.take_succ_cons,List.take_zero]
      refine RW.rd (by simp only [go_sem,simprocAttr,v1];first|done|rfl) (by simp only [go_sem,simprocAttr,v1];first|done|rfl) (by simp only [go_sem,simprocAttr,v1];first|done|rfl) rfl ?_
      refine RW.rd (by simp only [go_sem,simprocAttr,v1];first|done|rfl) (by simp only [go_sem,simprocAttr,v1];first|done|rfl) (by simp only [go_sem,simprocAttr,v1];first|done|rfl) rfl ?_
      refine RW.rd (by simp only [go_sem,simprocAttr,v1];first|done|rfl) (by simp only [go_sem,simprocAttr,v1];first|done|rfl) (by simp only [go_sem,simprocAttr,v1];first|done|rfl) rfl ?_
      refine RW.rd (by simp only [go_sem,simprocAttr,v1];first|done|rfl) (by simp only [go_sem,simprocAttr,v1];first|done|rfl) (by simp only [go_sem,simprocAttr,v1];first|done|rfl) rfl ?_
      refine RW.wr1 rfl (WS.callT (by simp only [go_sem,simprocAttr,v1];first|done|rfl) (by simp only [go_sem,simprocAttr,v1];first|done|rfl) (by simp only [go_sem,simprocAttr,v1];first|done|rfl) (by simp only [go_sem]) (by simp only [go_sem,List.all_cons,List.all_nil,Bool.and_true,v1]) (by simp only [go_sem,simprocAttr];first|done|rfl) (by exact pnVars _ m.params (by omega) (by dsimp only;omega) (by dsimp only;omega)) (by simp only [go_sem]) rfl rfl) ?_
      refine RW.rd (by simp only [go_sem,simprocAttr,v1];first|done|rfl) (by simp only [go_sem,simprocAttr,v1];first|done|rfl) (by simp only [go_sem,simprocAttr,v1];first|done|rfl) rfl ?_
      refine RW.rd (by simp only [go_sem,simprocAttr,v1];first|done|rfl) (by simp only [go_sem,simprocAttr,v1];first|done|rfl) (by simp only [go_sem,simprocAttr,v1];first|done|rfl) rfl ?_
      refine RW.wr2 rfl (WS.callT (by simp only [go_sem,simprocAttr,v1];first|done|rfl) (by simp only [go_sem,simprocAttr,v1];first|done|rfl) (by simp only [go_sem,simprocAttr,v1];first|done|rfl) (by simp only [go_sem]) (by simp only [go_sem,List.all_cons,List.all_nil,Bool.and_true,v1]) (by simp only [go_sem,simprocAttr];first|done|rfl) (by exact pnVars _ m.locals (by omega) (by dsimp only;omega) (by dsimp only;omega)) (by simp only [go_sem]) rfl rfl) ?_
      refine RW.rd (by simp only [go_sem,simprocAttr,v1];first|done|rfl) (by simp only [go_sem,simprocAttr,v1];first|done|rfl) (by simp only [go_sem,simprocAttr,v1];first|done|rfl) rfl ?_
      refine RW.rd (by simp only [go_sem,simprocAttr,v1,v2];first|done|rfl) (by simp only [go_sem,simprocAttr,v1,v2];first|done|rfl) (by simp only [go_sem,simprocAttr,v1,v2];first|done|rfl) rfl ?_
      refine RW.rd (by simp only [go_sem,simprocAttr,v1];first|done|rfl) (by simp only [go_sem,simprocAttr,v1];first|done|rfl) (by simp only [go_sem,simprocAttr,v1];first|done|rfl) rfl ?_
      refine RW.nil ?_
      refine RT.go ?_
      refine TA.yesL rfl rfl ?_ TA.nil
      refine RS.run2 (by simp only [go_sem,simprocAttr,v1];first|done|rfl) ?_;simp only [RSr_mk]
      refine RS.nilT ?_
      refine RT.finT (by simp only [go_sem,simprocAttr];first|done|rfl) ?_
      repeat' (first|refine WP.seq ?_|(refine WP.reg [0,2,3,5,7,11,12,13,14,32,33,34,35] (by kernel_rfl) (by kernel_rfl) ?_;refine RS.run2 (by simp only [go_sem,simprocAttr,hlt3,hiz,hw2,thenQ_n];first|done|rfl) ?_;simp only [RSr_mk])|(first|refine RS.finT (by simp only [go_sem,simprocAttr];first|done|rfl) ?_|refine RS.fin (by simp only [go_sem,simprocAttr];first|done|rfl) ?_;(try simp only [thenQ_n,blockQ_n]))|(refine RS.callT (by simp only [go_sem,simprocAttr,hlt3,hiz,hw2,thenQ_n];first|done|rfl) (by simp only [go_sem,simprocAttr,hlt3,hiz,hw2,thenQ_n];first|done|rfl) (by simp only [go_sem,simprocAttr,hlt3,hiz,hw2,thenQ_n];first|done|rfl) (by simp only [go_sem]) (by simp only [go_sem,List.all_cons,List.all_nil,Bool.and_true,hlt3,hiz,hw2,thenQ_n]) (by simp only [go_sem,simprocAttr];first|done|rfl) (by (refine pnBody m.body _ 1 ?_ ?_ ?_ ?_ ?_ ?_ ?_ ?_<;>(first|omega|(dsimp only;omega)))) (by simp only [go_sem]) rfl rfl ?_;refine RS.run2 (by simp only [go_sem,simprocAttr,hlt3,hiz,hw2,thenQ_n];first|done|rfl) ?_;simp only [RSr_mk])|(refine RS.litS (by simp only [go_sem];first|done|rfl) (by decide) (by decide) (by simp only [go_sem];first|done|rfl) (by simp only [go_sem];first|done|rfl) (by simp only [go_sem];first|done|rfl) (by simp only [go_sem];first|done|rfl) (by decide) (by simp only [go_sem,simprocAttr,List.replicate_succ,List.replicate_zero,hlt3,hiz,hw2,thenQ_n];first|done|rfl) ?_;refine RS.run2 (by simp only [go_sem,simprocAttr,hlt3,hiz,hw2,thenQ_n];first|done|rfl) ?_;simp only [RSr_mk])|((refine WP.cond rfl (by simp only [go_sem,simprocAttr,hlt3,hiz,hw2,thenQ_n];first|done|rfl) (fun hc=>?_) (fun hc=>?_))<;>try exact Bool.noConfusion hc)|(refine WP.skip ?_;(try simp only [thenQ_n,blockQ_n]))|(refine WP.exit ?_;(try simp only [thenQ_e,blockQ_e,blockQ_o,ne_eq,Nat.reduceEqDiff,not_false_eq_true,reduceCtorEq,thenQ_n,blockQ_n]))|refine WP.block ?_)
      refine⟨⟨j+1,by omega⟩,[.cell (Me.at m)],by dsimp only;omega,by simp only [Agree,go_sem,simprocAttr,and_true,and_self],?_,rfl,by simp only [go_sem,Cn.nr,Bool.and_self]⟩
      dsimp only
      rw [hmt,←ofM_snoc,←hT];rfl
    obtain rfl:j=z.methods.length:=by omega
    have hlt3:decide ((z.methods.length:Int)<(z.methods.length:Int))=false:=decide_eq_false (by omega)
    repeat' (first|refine WP.seq ?_|(refine WP.reg [0,2,3,5,7,11,12,13,14,32,33,34,35] (by kernel_rfl) (by kernel_rfl) ?_;refine RS.run2 (by simp only [go_sem,simprocAttr,hlt3,hw,List.take_length,thenQ_n];first|done|rfl) ?_;simp only [RSr_mk])|(first|refine RS.finT (by simp only [go_sem,simprocAttr];first|done|rfl) ?_|refine RS.fin (by simp only [go_sem,simprocAttr];first|done|rfl) ?_;(try simp only [thenQ_n,blockQ_n]))|(refine RS.callT (by simp only [go_sem,simprocAttr,hlt3,hw,List.take_length,thenQ_n];first|done|rfl) (by simp only [go_sem,simprocAttr,hlt3,hw,List.take_length,thenQ_n];first|done|rfl) (by simp only [go_sem,simprocAttr,hlt3,hw,List.take_length,thenQ_n];first|done|rfl) (by simp only [go_sem]) (by simp only [go_sem,List.all_cons,List.all_nil,Bool.and_true,hlt3,hw,List.take_length,thenQ_n]) (by simp only [go_sem,simprocAttr];first|done|rfl) (by fail) (by simp only [go_sem]) rfl rfl ?_;refine RS.run2 (by simp only [go_sem,simprocAttr,hlt3,hw,List.take_length,thenQ_n];first|done|rfl) ?_;simp only [RSr_mk])|(refine RS.litS (by simp only [go_sem];first|done|rfl) (by decide) (by decide) (by simp only [go_sem];first|done|rfl) (by simp only [go_sem];first|done|rfl) (by simp only [go_sem];first|done|rfl) (by simp only [go_sem];first|done|rfl) (by decide) (by simp only [go_sem,simprocAttr,List.replicate_succ,List.replicate_zero,hlt3,hw,List.take_length,thenQ_n];first|done|rfl) ?_;refine RS.run2 (by simp only [go_sem,simprocAttr,hlt3,hw,List.take_length,thenQ_n];first|done|rfl) ?_;simp only [RSr_mk])|((refine WP.cond rfl (by simp only [go_sem,simprocAttr,hlt3,hw,List.take_length,thenQ_n];first|done|rfl) (fun hc=>?_) (fun hc=>?_))<;>try exact Bool.noConfusion hc)|(refine WP.skip ?_;(try simp only [thenQ_n,blockQ_n]))|(refine WP.exit ?_;(try simp only [thenQ_e,blockQ_e,blockQ_o,ne_eq,Nat.reduceEqDiff,not_false_eq_true,reduceCtorEq,thenQ_n,blockQ_n]))|refine WP.block ?_)
    refine⟨⟨k+1,by omega⟩,[.cell (Cs.at z)],by dsimp only;omega,by simp only [Agree,go_sem,simprocAttr,and_true,and_self],?_,rfl,by simp only [go_sem,Cn.nr,Bool.and_self]⟩
    dsimp only
    rw [hzt,←ofM_all];rfl
  obtain rfl:k=l.length:=by omega
  have hlt2:decide ((l.length:Int)<(l.length:Int))=false:=decide_eq_false (by omega)
  repeat' (first|refine WP.seq ?_|(refine WP.reg [0,2,3,5,7,11,12,13,14,32,33,34,35] (by kernel_rfl) (by kernel_rfl) ?_;refine RS.run2 (by simp only [go_sem,simprocAttr,hlt2,List.take_length,thenQ_n];first|done|rfl) ?_;simp only [RSr_mk])|(first|refine RS.finT (by simp only [go_sem,simprocAttr];first|done|rfl) ?_|refine RS.fin (by simp only [go_sem,simprocAttr];first|done|rfl) ?_;(try simp only [thenQ_n,blockQ_n]))|(refine RS.call (by simp only [go_sem,simprocAttr,hlt2,List.take_length,thenQ_n];first|done|rfl) (by simp only [go_sem,List.all_cons,List.all_nil,Bool.and_true,hlt2,List.take_length,thenQ_n]) (by fail) ?_;refine RS.run2 (by simp only [go_sem,simprocAttr,hlt2,List.take_length,thenQ_n];first|done|rfl) ?_;simp only [RSr_mk])|((refine WP.cond rfl (by simp only [go_sem,simprocAttr,hlt2,List.take_length,thenQ_n];first|done|rfl) (fun hc=>?_) (fun hc=>?_))<;>try exact Bool.noConfusion hc)|(refine WP.skip ?_;(try simp only [thenQ_n,blockQ_n]))|(refine WP.exit ?_;(try simp only [thenQ_e,blockQ_e,blockQ_o,ne_eq,Nat.reduceEqDiff,not_false_eq_true,reduceCtorEq,thenQ_n,blockQ_n]))|refine WP.block ?_|(refine WP.ret ?_;(try simp only [thenQ_r,blockQ_r]);refine retC rfl (by simp only [go_sem,simprocAttr,hlt2,List.take_length,thenQ_n];first|done|rfl) (by simp only [go_sem,simprocAttr,hlt2,List.take_length,thenQ_n];first|done|rfl) (by simp only [go_sem];first|done|rfl) (by simp only [go_sem,simprocAttr,hlt2,List.take_length,thenQ_n];first|done|rfl) (by simp only [go_sem,simprocAttr,hlt2,List.take_length,thenQ_n];first|done|rfl) (by simp only [go_sem,hlt2,List.take_length,thenQ_n]) ?_)|((first|refine WP.drw (id:=5) 7 [0,2,3,5,7,11,12,13,14,32,33,34,35] (by kernel_rfl) rfl (by kernel_rfl) tb_mix ?_|refine WP.drw (id:=11) 11 [0,2,3,5,7,11,12,13,14,32,33,34,35] (by kernel_rfl) rfl (by kernel_rfl) tb_mix ?_);simp only [List.take_succ_cons,List.take_zero,List.drop_succ_cons,List.drop_zero,List.take_nil,List.drop_nil];refine RQ.run2 (by simp only [go_sem,simprocAttr,hlt2,List.take_length,thenQ_n];first|done|rfl) ?_;simp only [RQr_mk])|(refine RQ.nil ?_;refine RS.run2 (by simp only [go_sem,simprocAttr,hlt2,List.take_length,thenQ_n];first|done|rfl) ?_;simp only [RSr_mk])|(refine RQ.call (by simp only [go_sem,simprocAttr,hlt2,List.take_length,thenQ_n];first|done|rfl) (by simp only [go_sem,List.all_cons,List.all_nil,Bool.and_true,hlt2,List.take_length,thenQ_n]) (by fail) ?_;refine RQ.run2 (by simp only [go_sem,simprocAttr,hlt2,List.take_length,thenQ_n];first|done|rfl) ?_;simp only [RQr_mk]))
  rfl
theorem pzRight1 (c:Cs) (hz:c.sz≤2097152):DPure Tryd.prog 27 [.r (Cs.at c)] (.a (.v (.bool (!c.rightB)))):=by
  refine DPure.go Tryd.func27 rfl Tryd.ntmps27 rfl rfl rfl (fun C hro=>?_)
  have fx:=trivial
  repeat' (first|refine stp [0,1,2] ?_|(refine stc (r1:=by exact pzCls c hz) (r2:=?_);refine rnx ?_)|fail)
  rfl
theorem pzRight (l:List Cs) (hz:sumOf Cs.sz l≤2097152):DPure Tryd.prog 14 [.a (.sl (l.map Cs.at))] (.a (.v (.bool (rightB l)))):=by
  have hll:=sumOf_len Cs.sz_pos l
  refine DPure.go Tryd.func14 rfl Tryd.ntmps14 rfl rfl rfl (fun C hro=>?_)
  have fx:=trivial
  repeat' (first|refine stp [0,2] ?_|(refine stc (r1:=by first|exact pzOf l hz|exact pCfClass (fun c=>!c.rightB) l 27 [] rfl (by omega) fun c hc=>pzRight1 c (by have:=sumOf_mem (f:=Cs.sz) hc;omega)) (r2:=?_);refine rnx ?_)|fail)
  refine bool_eq ?_
  have h1:(ofP l).stmts=((sumOf Cs.stmts l:Nat):Int):=rfl
  unfold rightB
  rw [h1,not_any_not]
  congr 1
  by_cases hn:(l.length:Int)≤20
  · rw [decide_eq_true hn,decide_eq_false (show ¬(l.length:Int)>20 by omega),Bool.true_and]
    congr 1
    funext c
    simp
  · rw [decide_eq_false hn,decide_eq_true (show (l.length:Int)>20 by omega),Bool.false_and]
    cases l with
    | nil=>simp at hn
    | cons c r=>simp
end Go.Proofs.YtibdalkdgjghoaaDoor
