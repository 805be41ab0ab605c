/- The document's expressions on plain data: how deep, whether they may be. Conditions: at most 2^20 of anything. -/
import Derived.Test.YtfbopaaambkfkaaGreatDoorMg9
set_option linter.unusedVariables false
set_option maxRecDepth 100000
set_option maxHeartbeats 8000000
set_option linter.unusedSimpArgs false
namespace Go.Proofs.YtfbopaaambkfkaaGreatDoor
open Go.RowKit
theorem pDeep:∀(m:Nat) (e:Ex),e.sz≤m→e.sz≤1048576→qaa Tryz.prog 133 [.r (Ex.at e)] (.a (.v (.int .i64 e.deep)))
 | 0,e,h,_=>by have:=e.sz_pos;omega
 | m+1,e,h,hz=>by
  have IH:∀k∈e.kids,qaa Tryz.prog 133 [.r (Ex.at k)] (.a (.v (.int .i64 k.deep))):=fun k hk=>pDeep m k (by have:=Ex.kid_lt hk;omega) (by have:=Ex.kid_lt hk;omega)
  have hlen:e.kids.length≤1048576:=by have:=Ex.szs_len e.kids;have:=e.sz_eq;omega
  have hdz:=Ex.deep_le e.sz e (Nat.le_refl _)
  have hde:=e.deep_eq
  refine qaa.go Tryz.func133 rfl Tryz.ntmps133 rfl rfl rfl (fun C hro=>?_)
  have fx:=trivial
  repeat' (first|refine stp [0,1,2,3,4,9] ?_|refine WP.cn (fun hc=>?_) (fun hc=>?_)|fail)
  refine WP.loop (α:={ k:Nat // k≤e.kids.length }) (fun y=>[(1,.a (.ptr 0 0)),(3,.a (.v (.int .i64 (Ex.deeps (e.kids.take y.1):Nat)))),(4,.a (.v (.int .i64 y.1)))]) (fun _=>[.cell (Ex.at e)]) (fun y=>e.kids.length-y.1) ⟨0,by omega⟩ (by simp only [qal,go_sem,simprocAttr,List.take_zero,Ex.deeps]) rfl ?_
  rintro⟨k,hk⟩
  dsimp only
  by_cases hlt:k<e.kids.length
  ·have hlt2:decide ((k:Int)<((e.kids.length:Nat):Int))=true:=decide_eq_true (by omega)
   obtain⟨z,hz⟩:∃z,e.kids[k]? = some z:=⟨_,List.getElem?_eq_getElem hlt⟩
   have hzm:z∈e.kids:=lm4 hz
   have hzt:=qag hz
   have hix:∀q2,ixD (some 4) q2 (.a (.sl (e.kids.map Ex.at))) (.a (.v (.int .i64 (k:Int))))=some (.a (.ref (Ex.at z) 0)):=fun q2=>qar rfl (by rw [List.getElem?_map,hz];rfl) (by simp only [go_sem])
   have hw:k<9223372036854775807:=by omega
   replace fx:=And.intro hlt2 (And.intro hix (And.intro hw trivial))
   repeat' (first|refine stp [0,1,2,3,4,9] ?_|(refine stc (r1:=by exact IH _ hzm) (r2:=?_);refine rnx ?_)|refine WP.cn (fun hc=>?_) (fun hc=>?_)|fail)
   refine⟨⟨k+1,by omega⟩,by dsimp only;omega,?_,rfl⟩
   simp only [qal,go_sem,simprocAttr,hzt,Ex.deeps_app,Ex.deeps_one]
   refine congrArg (fun z:Int=>D.a (.v (.int .i64 z))) (by omega)
  ·obtain rfl:k=e.kids.length:=by omega
   have hlt2:decide ((e.kids.length:Int)<(e.kids.length:Int))=false:=decide_eq_false (by omega)
   have hw:e.deep-1<9223372036854775807:=by omega
   repeat' (first|refine WP.seq ?_|(refine WP.reg [0,1,2,3,4,9] (by kernel_rfl) (by kernel_rfl) ?_;refine RS.run2 (by simp only [go_sem,simprocAttr,hlt2,List.take_length];first|done|rfl) ?_;simp only [qao])|(first|refine RS.finT (by simp only [go_sem,simprocAttr];first|done|rfl) ?_|refine RS.fin (by simp only [go_sem,simprocAttr];first|done|rfl) ?_;(try simp only [qab,qae]))|(refine RS.call (by simp only [go_sem,simprocAttr,hlt2,List.take_length];first|done|rfl) (by simp only [go_sem,List.all_cons,List.all_nil,Bool.and_true,hlt2,List.take_length]) (by fail) ?_;refine RS.run2 (by simp only [go_sem,simprocAttr,hlt2,List.take_length];first|done|rfl) ?_;simp only [qao])|((refine WP.cond rfl (by simp only [go_sem,simprocAttr,hlt2,List.take_length];first|done|rfl) (fun hc=>?_) (fun hc=>?_))<;>try exact Bool.noConfusion hc)|(refine WP.skip ?_;(try simp only [qab,qae]))|(refine WP.exit ?_;(try simp only [qb8,qbj,qbi,ne_eq,Nat.reduceEqDiff,not_false_eq_true,reduceCtorEq,qab,qae]))|refine WP.block ?_|(refine WP.ret ?_;(try simp only [qa1,qaz]);refine ret1 rfl (by simp only [go_sem,simprocAttr,hlt2,List.take_length];first|done|rfl) (by simp only [go_sem,hlt2,List.take_length]) ?_)|(fail;simp only [List.take_succ_cons,List.take_zero,List.drop_succ_cons,List.drop_zero,List.take_nil,List.drop_nil];refine RQ.run2 (by simp only [go_sem,simprocAttr,hlt2,List.take_length];first|done|rfl) ?_;simp only [qat])|(refine RQ.nil ?_;refine RS.run2 (by simp only [go_sem,simprocAttr,hlt2,List.take_length];first|done|rfl) ?_;simp only [qao])|(refine RQ.call (by simp only [go_sem,simprocAttr,hlt2,List.take_length];first|done|rfl) (by simp only [go_sem,List.all_cons,List.all_nil,Bool.and_true,hlt2,List.take_length]) (by fail) ?_;refine RQ.run2 (by simp only [go_sem,simprocAttr,hlt2,List.take_length];first|done|rfl) ?_;simp only [qat]))
   rw [qa8 (by omega)]
   exact ql9 (by omega)
theorem pESame:∀(m:Nat) (e f:Ex),e.sz≤m→e.sz≤1048576→qaa Tryz.prog 119 [.r (Ex.at e),.r (Ex.at f)] (.a (.v (.bool (e.sameB f))))
 | 0,e,_,h,_=>by have:=e.sz_pos;omega
 | m+1,e,f,h,hz0=>by
  have IH:∀k∈e.kids,∀q,qaa Tryz.prog 119 [.r (Ex.at k),.r (Ex.at q)] (.a (.v (.bool (k.sameB q)))):=fun k hk q=>pESame m k q (by have:=Ex.kid_lt hk;omega) (by have:=Ex.kid_lt hk;omega)
  have hlen:e.kids.length≤1048576:=by have:=Ex.szs_len e.kids;have:=e.sz_eq;omega
  have hse:=e.same_eq f
  refine qaa.go Tryz.func119 rfl Tryz.ntmps119 rfl rfl rfl (fun C hro=>?_)
  have fx:=trivial
  repeat' (first|refine stp [0,1,2,3,4,5,33,38,52] ?_|refine WP.cn (fun hc=>?_) (fun hc=>?_)|((first|refine WP.dw (id:=6) 12 [0,1,2,3,4,5,33,38,52] ?_);simp only [qat,List.drop_succ_cons,List.drop_zero,List.drop_nil])|fail)
  ·refine qaf ?_
   rw [hse]
   by_cases hl:e.kids.length=f.kids.length
   ·have h4:((e.kids.length:Int) != (f.kids.length:Int))=false:=by simp [hl]
    rw [h4,Bool.or_false] at hc
    cases h1:(e.kind==f.kind)<;>cases h2:(e.num==f.num)<;>cases h3:(e.name==f.name)<;>simp_all [bne]
   ·rw [Ex.samesB_len hl];simp
  have hl:e.kids.length=f.kids.length:=by
   simp only [Bool.or_eq_false_iff,bne_eq_false_iff_eq] at hc;omega
  have hse:e.sameB f=(e.kids.zip f.kids).all fun p=>p.1.sameB p.2:=by
   rw [hse,Ex.samesB_zip hl]
   simp only [Bool.or_eq_false_iff,bne_eq_false_iff_eq,Bool.not_eq_false'] at hc
   simp [hc.1.1.1,hc.1.1.2,hc.1.2]
  refine WP.loop (α:={ k:Nat // k≤e.kids.length∧((e.kids.zip f.kids).take k).all (fun p=>p.1.sameB p.2)=true }) (fun y=>[(2,.a (.ptr 0 0)),(3,.a (.ptr 1 0)),(5,.a (.v (.int .i64 y.1)))]) (fun _=>[.cell (Ex.at e),.cell (Ex.at f)]) (fun y=>e.kids.length-y.1) ⟨0,by omega,rfl⟩ (by simp only [qal,go_sem,simprocAttr]) rfl ?_
  rintro⟨k,hk,hinv⟩
  dsimp only
  by_cases hlt:k<e.kids.length
  ·have hlt2:decide ((k:Int)<((e.kids.length:Nat):Int))=true:=decide_eq_true (by omega)
   obtain⟨z,hz⟩:∃z,e.kids[k]? = some z:=⟨_,List.getElem?_eq_getElem hlt⟩
   have hzm:z∈e.kids:=lm4 hz
   have hzt:=qag hz
   have hix:∀q2,ixD (some 4) q2 (.a (.sl (e.kids.map Ex.at))) (.a (.v (.int .i64 (k:Int))))=some (.a (.ref (Ex.at z) 0)):=fun q2=>qar rfl (by rw [List.getElem?_map,hz];rfl) (by simp only [go_sem])
   obtain⟨v,hv⟩:∃z,f.kids[k]? = some z:=⟨_,List.getElem?_eq_getElem (by omega)⟩
   have hvm:v∈f.kids:=lm4 hv
   have hiy:∀q2,ixD (some 4) q2 (.a (.sl (f.kids.map Ex.at))) (.a (.v (.int .i64 (k:Int))))=some (.a (.ref (Ex.at v) 0)):=fun q2=>qar rfl (by rw [List.getElem?_map,hv];rfl) (by simp only [go_sem])
   have hw:k<9223372036854775807:=by omega
   have hzv:(e.kids.zip f.kids)[k]? = some (z,v):=by rw [List.getElem?_zip_eq_some];exact⟨hz,hv⟩
   replace fx:=And.intro hlt2 (And.intro hix (And.intro hiy (And.intro hw trivial)))
   repeat' (first|refine stp [0,1,2,3,4,5,33,38,52] ?_|(refine stc (r1:=by exact IH _ hzm _) (r2:=?_);refine rnx ?_)|refine WP.cn (fun hc=>?_) (fun hc=>?_)|((first|refine WP.dw (id:=6) 12 [0,1,2,3,4,5,33,38,52] ?_);simp only [qat,List.drop_succ_cons,List.drop_zero,List.drop_nil])|fail)
   ·refine qaf ?_
    rw [hse,eq_comm,List.all_eq_false]
    exact⟨(z,v),lm4 hzv,by simpa using hc⟩
   ·refine⟨⟨k+1,by omega,?_⟩,by dsimp only;omega,?_,rfl⟩
    ·rw [qag hzv,List.all_append,hinv];simpa using hc
    ·simp only [qal,go_sem,simprocAttr]
  ·obtain rfl:k=e.kids.length:=by omega
   have hlt2:decide ((e.kids.length:Int)<(e.kids.length:Int))=false:=decide_eq_false (by omega)
   replace fx:=And.intro hlt2 trivial
   repeat' (first|refine stp [0,1,2,3,4,5,33,38,52] ?_|refine WP.cn (fun hc=>?_) (fun hc=>?_)|((first|refine WP.dw (id:=6) 12 [0,1,2,3,4,5,33,38,52] ?_);simp only [qat,List.drop_succ_cons,List.drop_zero,List.drop_nil])|fail)
   rw [List.take_of_length_le (by rw [List.length_zip];omega)] at hinv
   exact qaf (by rw [hse,hinv])
namespace St
mutual
def sz:St→Nat
 | ⟨_,x,y,n,t,e,args,body,els,_⟩=>1+x.length+y.length+n.length+t.cls.length+e.sz+Ex.szs args+szs body+szs els
def szs:List St→Nat
 | []=>0
 | e::r=>e.sz+szs r
end
mutual
def deep:St→Nat
 | ⟨_,_,_,_,_,_,_,body,els,_⟩=>max (deeps body) (deeps els)+1
def deeps:List St→Nat
 | []=>0
 | e::r=>max e.deep (deeps r)
end
mutual
def cnt:St→Nat
 | ⟨_,_,_,_,_,_,_,body,els,_⟩=>1+cnts body+cnts els
def cnts:List St→Nat
 | []=>0
 | e::r=>e.cnt+cnts r
end
theorem sz_eq (s:St):s.sz=1+s.x.length+s.y.length+s.name.length+s.ty.cls.length+s.e.sz+Ex.szs s.args+szs s.body+szs s.els:=by cases s;rfl
theorem deep_eq (s:St):s.deep=max (deeps s.body) (deeps s.els)+1:=by cases s;rfl
theorem cnt_eq (s:St):s.cnt=1+cnts s.body+cnts s.els:=by cases s;rfl
theorem szs_mem:∀{l:List St} {k:St},k∈l→k.sz≤szs l
 | e::r,k,h=>by
  rw [szs]
  rcases List.mem_cons.1 h with rfl|h
  ·omega
  ·have:=szs_mem h;omega
theorem sz_pos (s:St):0<s.sz:=by rw [sz_eq];omega
theorem szs_len:∀l:List St,l.length≤szs l
 | []=>Nat.le_refl _
 | e::r=>by have:=szs_len r;have:=sz_pos e;rw [szs,List.length_cons];omega
theorem body_lt {s k:St} (h:k∈s.body):k.sz<s.sz:=by have:=szs_mem h;rw [sz_eq s];omega
theorem els_lt {s k:St} (h:k∈s.els):k.sz<s.sz:=by have:=szs_mem h;rw [sz_eq s];omega
theorem deeps_app:∀(l m:List St),deeps (l++m)=max (deeps l) (deeps m)
 | [],m=>by rw [List.nil_append,deeps];omega
 | e::r,m=>by rw [List.cons_append,deeps,deeps,deeps_app r m];omega
theorem deeps_one (e:St):deeps [e]=e.deep:=by rw [deeps,deeps];omega
theorem cnts_app:∀(l m:List St),cnts (l++m)=cnts l+cnts m
 | [],m=>by rw [List.nil_append,cnts];omega
 | e::r,m=>by rw [List.cons_append,cnts,cnts,cnts_app r m];omega
theorem cnts_one (e:St):cnts [e]=e.cnt:=by rw [cnts,cnts];omega
theorem deeps_le:∀l:List St,(∀e∈l,e.deep≤e.sz∧e.cnt≤e.sz)→deeps l≤szs l∧cnts l≤szs l
 | [],_=>⟨Nat.le_refl _,Nat.le_refl _⟩
 | e::r,h=>by
  rw [deeps,szs,cnts]
  have:=h e (by simp)
  have:=deeps_le r fun k hk=>h k (by simp [hk])
  omega
theorem deep_le:∀(m:Nat) (e:St),e.sz≤m→e.deep≤e.sz∧e.cnt≤e.sz
 | 0,e,h=>by have:=sz_pos e;omega
 | m+1,e,h=>by
  have h1:=deeps_le e.body fun k hk=>deep_le m k (by have:=body_lt hk;omega)
  have h2:=deeps_le e.els fun k hk=>deep_le m k (by have:=els_lt hk;omega)
  have:=e.sz_eq
  rw [deep_eq,cnt_eq]
  omega
theorem cnts_take:∀(l:List St) (k:Nat),cnts (l.take k)≤cnts l
 | [],k=>by simp
 | e::r,0=>by rw [List.take_zero,cnts];omega
 | e::r,k+1=>by rw [List.take_succ_cons,cnts,cnts];have:=cnts_take r k;omega
def blank (s:St):St :=
 { s with
  x:=if s.kind=1∨s.kind=2∨s.kind=4∨s.kind=5∨s.kind=6∨s.kind=7 then [] else s.x
  y:=if s.kind=2∨s.kind=3∨s.kind=4∨s.kind=7∨s.kind=8 then [] else s.y
  name:=if s.kind=2∨s.kind=3∨s.kind=4 then [] else s.name
  ty:=if s.kind=5∨s.kind=6 then Ty.zero else s.ty
  e:=if s.kind=1∨s.kind=3∨s.kind=6∨s.kind=9∨s.kind=10∨s.kind=11 then Ex.zero else s.e
  args:=if s.kind=4 then [] else s.args
  body:=if s.kind=9∨s.kind=10 then [] else s.body
  els:=if s.kind=9 then [] else s.els }
def onlyB (s:St):Bool :=
 decide (s.kind≥1)&&decide (s.kind≤11)&&s.blank.x==[]&&s.blank.y==[]&&s.blank.name==[]&&decide (s.blank.ty=Ty.zero)&&s.blank.e.sameB Ex.zero&&((s.blank.args.length+s.blank.body.length+s.blank.els.length:Nat):Int)==0
def namesB (s:St) (p:Int):Bool :=
 (qan s.x||s.kind==4&&s.x==[]||s.kind==3||s.kind==8||decide (s.kind≥9)) &&
 (qan s.y||(s.kind==2||s.kind==3||s.kind==4)&&s.y==[116,104,105,115]||s.kind==1||s.kind==5||s.kind==6||decide (s.kind≥9)) &&
 (qan s.name||s.kind != 2&&s.kind != 3&&s.kind != 4)&&(s.ty.kind==2&&tyB s.ty p||s.kind != 5&&s.kind != 6)
def noneB (s:St):Bool:=s.kind==2||s.kind==4||s.kind==5||s.kind==7||s.kind==8||s.kind==11&&s.e.sameB Ex.zero
def tellsB (s:St):Bool :=
 !(!noneB s&&!s.e.rightB||s.kind==6&&s.e.kind != 2&&s.e.kind != 3&&s.e.kind != 4||decide ((s.args.length:Int)>5))&&s.args.all Ex.rightB
mutual
def formB (p:Int):St→Bool
 | ⟨k,x,y,n,t,e,args,body,els,a⟩=>!(!onlyB ⟨k,x,y,n,t,e,args,body,els,a⟩||!namesB ⟨k,x,y,n,t,e,args,body,els,a⟩ p||!tellsB ⟨k,x,y,n,t,e,args,body,els,a⟩)&&(formsB p body&&formsB p els)
def formsB (p:Int):List St→Bool
 | []=>true
 | e::r=>formB p e&&formsB p r
end
theorem form_eq (p:Int) (s:St):formB p s=(!(!onlyB s||!namesB s p||!tellsB s)&&(formsB p s.body&&formsB p s.els)):=by cases s;rfl
theorem formsB_all (p:Int) (l:List St):formsB p l=l.all (formB p):=by
 induction l with
 | nil=>rw [formsB];rfl
 | cons e r ih=>rw [formsB,ih];rfl
def rightB (s:St) (p:Int):Bool:=formB p s&&decide (s.deep≤20)
mutual
def sameB:St→St→Bool
 | ⟨k,x,y,n,t,e,args,body,els,_⟩,⟨k',x',y',n',t',e',args',body',els',_⟩=>k==k'&&(x==x'&&(y==y'&&(n==n'&&(decide (t=t')&&(e.sameB e'&&(Ex.samesB args args'&&(samesB body body'&&samesB els els')))))))
def samesB:List St→List St→Bool
 | [],[]=>true
 | e::r,f::t=>e.sameB f&&samesB r t
 | _,_=>false
end
theorem same_eq (s t:St):s.sameB t=(s.kind==t.kind&&(s.x==t.x&&(s.y==t.y&&(s.name==t.name&&(decide (s.ty=t.ty)&&(s.e.sameB t.e&&(Ex.samesB s.args t.args&&(samesB s.body t.body&&samesB s.els t.els)))))))):=by cases s;cases t;rfl
theorem samesB_zip:∀{l m:List St},l.length=m.length→samesB l m=(l.zip m).all fun p=>p.1.sameB p.2
 | [],[],_=>rfl
 | e::r,f::t,h=>by rw [samesB,List.zip_cons_cons,List.all_cons,samesB_zip (by simpa using h)]
theorem samesB_len:∀{l m:List St},l.length≠m.length→samesB l m=false
 | [],[],h=>absurd rfl h
 | [],_::_,_=>rfl
 | _::_,[],_=>rfl
 | e::r,f::t,h=>by rw [samesB,samesB_len (by simpa using h),Bool.and_false]
end St
end Go.Proofs.YtfbopaaambkfkaaGreatDoor
