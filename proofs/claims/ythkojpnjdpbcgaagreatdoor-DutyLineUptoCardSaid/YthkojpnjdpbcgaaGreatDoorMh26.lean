/- Rows of expressions and statements, laid out by their parts. No program in sight. Conditions: none. -/
import Derived.Test.YthkojpnjdpbcgaaGreatDoorMh5
import Derived.Test.YthkojpnjdpbcgaaGreatDoorMh14
import Derived.Test.YthkojpnjdpbcgaaGreatDoorMh25
set_option linter.unusedVariables false
set_option maxRecDepth 100000
set_option maxHeartbeats 8000000
set_option linter.unusedSimpArgs false
namespace Go.Proofs.YthkojpnjdpbcgaaGreatDoor
open Go.RowKit
def Ex.rw (e:Ex):List A:=[.v (.int .i64 e.kind),.v (.int .i64 e.num),.v (.string (bs e.name)),.sl (e.kids.map Ex.at)]
theorem Ex.at_rw (e:Ex):Ex.at e=Ex.rw e:=by obtain⟨k,n,s,l⟩:=e;simp only [Ex.rw,Ex.at,Ex.ats_map]
def St.rw (s:St):List A:=[.v (.int .i64 s.kind),.v (.string (bs s.x)),.v (.string (bs s.y)),.v (.string (bs s.name))]++Ty.at s.ty++Ex.rw s.e++[.sl (s.args.map Ex.at),.sl (s.body.map St.at),.sl (s.els.map St.at),.v (.int .i64 s.at_)]
theorem St.at_rw (s:St):St.at s=St.rw s:=by
 obtain⟨kind,x,y,name,ty,⟨ek,en,es,el⟩,args,body,els,at_⟩:=s
 simp only [St.rw,St.at,Ex.rw,Ex.at,Ex.ats_map,St.ats_map]
theorem Ex.at_fun:Ex.at=Ex.rw:=funext Ex.at_rw
def St.rv (s:St):List A:=[.v (.int .i64 s.kind),.v (.string (bs s.x)),.v (.string (bs s.y)),.v (.string (bs s.name))]++Ty.at s.ty++Ex.rw s.e++[.sl (s.args.map Ex.rw),.sl (s.body.map St.at),.sl (s.els.map St.at),.v (.int .i64 s.at_)]
theorem St.at_rv (s:St):St.at s=St.rv s:=by
 rw [St.at_rw]
 unfold St.rw St.rv
 rw [Ex.at_fun]
def Ex.rv (e:Ex):List A:=[.v (.int .i64 e.kind),.v (.int .i64 e.num),.v (.string (bs e.name)),.sl (e.kids.map Ex.rw)]
theorem Ex.at_rv (e:Ex):Ex.at e=Ex.rv e:=by rw [Ex.at_rw];unfold Ex.rw Ex.rv;rw [Ex.at_fun]
theorem qoz {α:Type} {f:α→Bool} {l:List α} {z:α} {k:Nat} (h:l[k]? = some z) (hf:f z=true):l.any f=true:=List.any_eq_true.2 ⟨z,lm4 h,hf⟩
theorem qmj {α:Type} {f:α→Bool} {l r:List α} {z:α} (h:l=r++[z]) (hr:r.any f=false) (hf:f z=false):l.any f=false:=by rw [h,List.any_append,hr];simpa using hf
theorem qk3 (a b:Nat):max (a:Int) (b:Int)=((max a b:Nat):Int):=by
 rcases Nat.le_total a b with h|h
 ·rw [Nat.max_eq_right h,Int.max_eq_right (by omega)]
 ·rw [Nat.max_eq_left h,Int.max_eq_left (by omega)]
theorem all_at {α:Type} {f:α→Bool} {l:List α} {z:α} {k:Nat} (h:l[k]? = some z) (hf:(!f z)=true):l.all f=false:=List.all_eq_false.2 ⟨z,lm4 h,by simpa using hf⟩
theorem all_on {α:Type} {f:α→Bool} {l r:List α} {z:α} (h:l=r++[z]) (hr:r.all f=true) (hf:(!f z)=false):l.all f=true:=by rw [h,List.all_append,hr];simpa using hf
theorem orF {a b:Bool} (h:a=false) (h2:b=false):(bif a then true else b)=false:=by rw [h,h2];rfl
def St.rx (s:St):List A:=[.v (.int .i64 s.kind),.v (.string (bs s.x)),.v (.string (bs s.y)),.v (.string (bs s.name))]++Ty.at s.ty++Ex.rw s.e++[.sl (s.args.map Ex.rw),.sl (s.body.map St.rw),.sl (s.els.map St.rw),.v (.int .i64 s.at_)]
theorem St.at_rx (s:St):St.at s=St.rx s:=by
 have h:=St.at_rw s
 unfold St.rw at h
 rw [h,Ex.at_fun,(funext St.at_rw:St.at=St.rw)]
 rfl
theorem pKids (k:Int):qaa Tryz.prog 215 [.a (.v (.int .i64 k))] (.a (.v (.int .i64 (Ex.kidsN k)))):=by
 refine qaa.go Tryz.func215 rfl Tryz.ntmps215 rfl rfl rfl (fun C hro=>?_)
 have fx:=trivial
 repeat' (first|refine stp [0,2,12,18] ?_|refine WP.cn (fun hc=>?_) (fun hc=>?_)|fail)
 all_goals
  refine qaw ?_
  simp only [Ex.kidsN, *,if_true,if_false,Bool.false_eq_true]
theorem pDeep:∀(m:Nat) (e:Ex),e.sz≤m→e.sz≤1048576→qaa Tryz.prog 182 [.r (Ex.at e)] (.a (.v (.int .i64 e.deep)))
 | 0,e,h,_=>by have:=e.sz_pos;omega
 | m+1,e,h,hz=>by
  have IH:∀k∈e.kids,qaa Tryz.prog 182 [.r (Ex.rw k)] (.a (.v (.int .i64 k.deep))):=fun k hk=>by rw [←Ex.at_rw];exact pDeep m k (by have:=Ex.kid_lt hk;omega) (by have:=Ex.kid_lt hk;omega)
  have hlen:e.kids.length≤1048576:=by have:=Ex.szs_len e.kids;have:=e.sz_eq;omega
  have hdz:=Ex.deep_le e.sz e (Nat.le_refl _)
  have hde:=e.deep_eq
  rw [Ex.at_rv]
  refine qaa.vx [0,1,2,3,4,9] Tryz.func182 rfl Tryz.ntmps182 rfl rfl rfl (fun C hro hst=>?_)
  repeat' ((conv=>whnf);first|refine stv ?_|fail)
  conv=>whnf
  refine VL.each e.kids Ex.rw (fun k=>[(1,.a (.ptr 0 0)),(3,.a (.v (.int .i64 (Ex.deeps (e.kids.take k):Nat)))),(4,.a (.v (.int .i64 (k:Nat))))]) (fun _=>[.cell (Ex.rv e)]) (fun _=>True) ⟨rfl,rfl,rfl,trivial⟩ rfl trivial (by omega) ?_ ?_
  ·intro k z hz hd htk hlt _ hlt2 hix hw
   have IH:=IH z (lm4 hz)
   repeat' ((conv=>whnf);first|(show VI ..;refine xI (fun _=>by exact hix) ?_)|refine stv ?_|(show VB ..;refine VB.tt (by exact hlt2) ?_)|(show VC ..;refine xC (fun hg=>by exact IH) ?_))
   conv=>whnf
   exact⟨trivial,[],⟨rfl,congrArg (fun z=>D.a (.v (.int .i64 z))) (by rw [htk,Ex.deeps_app,Ex.deeps_one];exact qk3 _ _),congrArg (fun z=>D.a (.v (.int .i64 z))) hw,trivial⟩,rfl,rfl,rfl⟩
  intro _ hlt2
  rw [List.take_length]
  repeat' ((conv=>whnf);first|refine stv ?_|(show VB ..;refine VB.ff (by exact hlt2) ?_))
  rw [qap (by omega)]
  exact qaw (by omega)
theorem pForm:∀(m:Nat) (e:Ex),e.sz≤m→e.sz≤1048576→qaa Tryz.prog 181 [.r (Ex.at e)] (.a (.v (.bool e.formB)))
 | 0,e,h,_=>by have:=e.sz_pos;omega
 | m+1,e,h,hz=>by
  have IH:∀k∈e.kids,qaa Tryz.prog 181 [.r (Ex.rw k)] (.a (.v (.bool k.formB))):=fun k hk=>by rw [←Ex.at_rw];exact pForm m k (by have:=Ex.kid_lt hk;omega) (by have:=Ex.kid_lt hk;omega)
  have hlen:e.kids.length≤1048576:=by have:=Ex.szs_len e.kids;have:=e.sz_eq;omega
  have hnm:e.name.length≤1000000000:=by have:=e.sz_eq;omega
  have gK:=pKids e.kind
  have gN:=pName e.name hnm
  rw [e.form_eq,Ex.at_rv]
  refine qaa.vx [0,1,2,3,4,62,67,112] Tryz.func181 rfl Tryz.ntmps181 rfl rfl rfl (fun C hro hst=>?_)
  repeat' ((conv=>whnf);first|(show VD ..;refine .q ?_)|refine stv ?_|(show VB ..;refine VB.mk (fun hc=>?_) fun hc=>?_)|(show VC ..;refine xC (fun hg=>by first|exact gK|exact gN) ?_))
  all_goals
   simp only [List.length_map,qao,show (ByteArray.mk #[]).toList=[] from qao [],Bool.cond_true_left,Bool.cond_false_right] at hc
   have hpl:Ex.plainB e=_:=congrArg (!·) hc
   rw [hpl]
  ·rfl
  conv=>whnf
  refine VL.each e.kids Ex.rw (fun k=>[(1,.a (.ptr 0 0)),(3,.a (.v (.int .i64 (k:Nat))))]) (fun _=>[.cell (Ex.rv e)]) (fun k=>Ex.formsB e.kind (e.kids.take k)=true) ⟨rfl,rfl,trivial⟩ rfl rfl (by omega) ?_ ?_
  ·intro k z hz hd htk hlt hI hlt2 hix hw
   have hzm:=lm4 hz
   have IH:=IH z hzm
   repeat' ((conv=>whnf);first|(show VI ..;refine xI (fun _=>by exact hix) ?_)|refine stv ?_|(show VB ..;first|refine VB.tt (by exact hlt2) ?_|refine VB.mk (fun hc=>?_) fun hc=>?_)|(show VC ..;refine xC (fun hg=>by exact IH) ?_))
   all_goals
    simp only [Bool.cond_true_left,Bool.cond_false_right] at hc
    have hc:(z.formB&&Ex.kidB e.kind z.kind)=_:=(bb3 _ _ _).trans (congrArg (!·) hc)
   ·rw [Ex.formsB_mem _ hzm hc];rfl
   ·conv=>whnf
    refine⟨?_,[],⟨rfl,congrArg (fun z=>D.a (.v (.int .i64 z))) hw,trivial⟩,rfl,rfl,rfl⟩
    dsimp only
    rw [htk,Ex.formsB_app,hI]
    show ((z.formB&&Ex.kidB e.kind z.kind)&&true)=true
    rw [hc];rfl
  ·intro hI hlt2
   rw [List.take_length] at hI
   rw [hI]
   repeat' ((conv=>whnf);first|refine stv ?_|(show VB ..;refine VB.ff (by exact hlt2) ?_))
   rfl
theorem qm6 (e:Ex) (hz:e.sz≤1048576):qaa Tryz.prog 127 [.r (Ex.at e)] (.a (.v (.bool e.rightB))):=by
 refine qaa.go Tryz.func127 rfl Tryz.ntmps127 rfl rfl rfl (fun C hro=>?_)
 have fx:=trivial
 repeat' (first|refine stp [0,1,2] ?_|(refine stc (r1:=by first|exact pForm _ e (Nat.le_refl _) hz|exact pDeep _ e (Nat.le_refl _) hz) (r2:=?_);refine rnx ?_)|fail)
 refine qaj ?_
 unfold Ex.rightB
 congr 1
 rw [Bool.eq_iff_iff];simp;omega
theorem pESame:∀(m:Nat) (e f:Ex),e.sz≤m→e.sz≤1048576→qaa Tryz.prog 212 [.r (Ex.at e),.r (Ex.at f)] (.a (.v (.bool (e.sameB f))))
 | 0,e,_,h,_=>by have:=e.sz_pos;omega
 | m+1,e,f,h,hz0=>by
  have IH:∀k∈e.kids,∀q,qaa Tryz.prog 212 [.r (Ex.rw k),.r (Ex.rw q)] (.a (.v (.bool (k.sameB q)))):=fun k hk q=>by rw [←Ex.at_rw,←Ex.at_rw];exact pESame m k q (by have:=Ex.kid_lt hk;omega) (by have:=Ex.kid_lt hk;omega)
  have hlen:e.kids.length≤1048576:=by have:=Ex.szs_len e.kids;have:=e.sz_eq;omega
  have hse:=e.same_eq f
  have hb:((bs e.name).toList==(bs f.name).toList)=(e.name==f.name):=by rw [qao,qao]
  rw [Ex.at_rv,Ex.at_rv]
  refine qaa.vx [0,1,2,3,4,5,33,38,52] Tryz.func212 rfl Tryz.ntmps212 rfl rfl rfl (fun C hro hst=>?_)
  repeat' ((conv=>whnf);first|refine stv ?_|(show VB ..;refine VB.mk (fun hc=>?_) fun hc=>?_))
  all_goals
   rw [hb] at hc
   simp only [List.length_map] at hc
   change (((e.kind != f.kind||e.num != f.num)||!(e.name==f.name))||((e.kids.length:Int) != (f.kids.length:Int)))=_ at hc
  ·refine qaj ?_
   rw [hse]
   by_cases hl:e.kids.length=f.kids.length
   ·have h4:((e.kids.length:Int) != (f.kids.length:Int))=false:=by simp [hl]
    rw [h4,Bool.or_false] at hc
    cases h1:(e.kind==f.kind)<;>cases h2:(e.num==f.num)<;>cases h3:(e.name==f.name)<;>simp_all [bne]
   ·rw [Ex.samesB_len hl];simp
  have hl:e.kids.length=f.kids.length:=by
   simp only [Bool.or_eq_false_iff,bne_eq_false_iff_eq] at hc;omega
  have hse:e.sameB f=(e.kids.zip f.kids).all fun p=>p.1.sameB p.2:=by
   rw [hse,Ex.samesB_zip hl]
   simp only [Bool.or_eq_false_iff,bne_eq_false_iff_eq,Bool.not_eq_false'] at hc
   simp [hc.1.1.1,hc.1.1.2,hc.1.2]
  conv=>whnf
  refine VL.each e.kids Ex.rw (fun k=>[(2,.a (.ptr 0 0)),(3,.a (.ptr 1 0)),(5,.a (.v (.int .i64 (k:Nat))))]) (fun _=>[.cell (Ex.rv e),.cell (Ex.rv f)]) (fun k=>((e.kids.zip f.kids).take k).all (fun p=>p.1.sameB p.2)=true) ⟨rfl,rfl,rfl,trivial⟩ rfl rfl (by omega) ?_ ?_
  ·intro k z hz hd htk hlt hI hlt2 hix hw
   obtain⟨v,hv⟩:∃v,f.kids[k]? = some v:=⟨_,List.getElem?_eq_getElem (by omega)⟩
   have hiy:(f.kids.map Ex.rw)[k]? = some (Ex.rw v):=by rw [List.getElem?_map,hv];rfl
   have hzv:(e.kids.zip f.kids)[k]? = some (z,v):=by rw [List.getElem?_zip_eq_some];exact⟨hz,hv⟩
   have IH:=IH z (lm4 hz) v
   repeat' ((conv=>whnf);first|(show VD ..;refine .q ?_)|(show VI ..;refine xI (fun _=>by first|exact hix|exact hiy) ?_)|refine stv ?_|(show VB ..;first|refine VB.tt (by exact hlt2) ?_|refine VB.mk (fun hc=>?_) fun hc=>?_)|(show VC ..;refine xC (fun hg=>by exact IH) ?_))
   ·refine qaj ?_
    rw [hse,eq_comm,List.all_eq_false]
    exact⟨(z,v),lm4 hzv,by simpa using hc⟩
   ·conv=>whnf
    exact⟨by dsimp only;rw [qan hzv,List.all_append,hI];simpa using hc,[],⟨rfl,rfl,congrArg (fun z=>D.a (.v (.int .i64 z))) hw,trivial⟩,rfl,rfl,rfl⟩
  ·intro hI hlt2
   rw [List.take_of_length_le (by rw [List.length_zip];omega)] at hI
   repeat' ((conv=>whnf);first|refine stv ?_|(show VB ..;refine VB.ff (by exact hlt2) ?_))
   exact qaj (by rw [hse,hI])
namespace St
mutual
def sz:St→Nat
 | ⟨_,x,y,n,t,e,args,body,els,_⟩=>1+x.length+y.length+n.length+t.cls.length+e.sz+Ex.szs args+szs body+szs els
def szs:List St→Nat
 | []=>0
 | e::r=>e.sz+szs r
end
mutual
def deep:St→Nat
 | ⟨_,_,_,_,_,_,_,body,els,_⟩=>max (deeps body) (deeps els)+1
def deeps:List St→Nat
 | []=>0
 | e::r=>max e.deep (deeps r)
end
mutual
def cnt:St→Nat
 | ⟨_,_,_,_,_,_,_,body,els,_⟩=>1+cnts body+cnts els
def cnts:List St→Nat
 | []=>0
 | e::r=>e.cnt+cnts r
end
theorem sz_eq (s:St):s.sz=1+s.x.length+s.y.length+s.name.length+s.ty.cls.length+s.e.sz+Ex.szs s.args+szs s.body+szs s.els:=by cases s;rfl
theorem deep_eq (s:St):s.deep=max (deeps s.body) (deeps s.els)+1:=by cases s;rfl
theorem cnt_eq (s:St):s.cnt=1+cnts s.body+cnts s.els:=by cases s;rfl
theorem szs_mem:∀{l:List St} {k:St},k∈l→k.sz≤szs l
 | e::r,k,h=>by
  rw [szs]
  rcases List.mem_cons.1 h with rfl|h
  ·omega
  ·have:=szs_mem h;omega
theorem sz_pos (s:St):0<s.sz:=by rw [sz_eq];omega
theorem szs_len:∀l:List St,l.length≤szs l
 | []=>Nat.le_refl _
 | e::r=>by have:=szs_len r;have:=sz_pos e;rw [szs,List.length_cons];omega
theorem body_lt {s k:St} (h:k∈s.body):k.sz<s.sz:=by have:=szs_mem h;rw [sz_eq s];omega
theorem els_lt {s k:St} (h:k∈s.els):k.sz<s.sz:=by have:=szs_mem h;rw [sz_eq s];omega
theorem deeps_app:∀(l m:List St),deeps (l++m)=max (deeps l) (deeps m)
 | [],m=>by rw [List.nil_append,deeps];omega
 | e::r,m=>by rw [List.cons_append,deeps,deeps,deeps_app r m];omega
theorem deeps_one (e:St):deeps [e]=e.deep:=by rw [deeps,deeps];omega
theorem cnts_app:∀(l m:List St),cnts (l++m)=cnts l+cnts m
 | [],m=>by rw [List.nil_append,cnts];omega
 | e::r,m=>by rw [List.cons_append,cnts,cnts,cnts_app r m];omega
theorem cnts_one (e:St):cnts [e]=e.cnt:=by rw [cnts,cnts];omega
theorem deeps_le:∀l:List St,(∀e∈l,e.deep≤e.sz∧e.cnt≤e.sz)→deeps l≤szs l∧cnts l≤szs l
 | [],_=>⟨Nat.le_refl _,Nat.le_refl _⟩
 | e::r,h=>by
  rw [deeps,szs,cnts]
  have:=h e (by simp)
  have:=deeps_le r fun k hk=>h k (by simp [hk])
  omega
theorem deep_le:∀(m:Nat) (e:St),e.sz≤m→e.deep≤e.sz∧e.cnt≤e.sz
 | 0,e,h=>by have:=sz_pos e;omega
 | m+1,e,h=>by
  have h1:=deeps_le e.body fun k hk=>deep_le m k (by have:=body_lt hk;omega)
  have h2:=deeps_le e.els fun k hk=>deep_le m k (by have:=els_lt hk;omega)
  have:=e.sz_eq
  rw [deep_eq,cnt_eq]
  omega
theorem cnts_take:∀(l:List St) (k:Nat),cnts (l.take k)≤cnts l
 | [],k=>by simp
 | e::r,0=>by rw [List.take_zero,cnts];omega
 | e::r,k+1=>by rw [List.take_succ_cons,cnts,cnts];have:=cnts_take r k;omega
def blank (s:St):St :=
 { s with
  x:=if s.kind=1∨s.kind=2∨s.kind=4∨s.kind=5∨s.kind=6∨s.kind=7 then [] else s.x
  y:=if s.kind=2∨s.kind=3∨s.kind=4∨s.kind=7∨s.kind=8 then [] else s.y
  name:=if s.kind=2∨s.kind=3∨s.kind=4 then [] else s.name
  ty:=if s.kind=5∨s.kind=6 then Ty.zero else s.ty
  e:=if s.kind=1∨s.kind=3∨s.kind=6∨s.kind=9∨s.kind=10∨s.kind=11 then Ex.zero else s.e
  args:=if s.kind=4 then [] else s.args
  body:=if s.kind=9∨s.kind=10 then [] else s.body
  els:=if s.kind=9 then [] else s.els }
def onlyB (s:St):Bool :=
 decide (s.kind≥1)&&decide (s.kind≤11)&&s.blank.x==[]&&s.blank.y==[]&&s.blank.name==[]&&decide (s.blank.ty=Ty.zero)&&s.blank.e.sameB Ex.zero&&((s.blank.args.length+s.blank.body.length+s.blank.els.length:Nat):Int)==0
def namesB (s:St) (p:Int):Bool :=
 (qau s.x||s.kind==4&&s.x==[]||s.kind==3||s.kind==8||decide (s.kind≥9)) &&
 (qau s.y||(s.kind==2||s.kind==3||s.kind==4)&&s.y==[116,104,105,115]||s.kind==1||s.kind==5||s.kind==6||decide (s.kind≥9)) &&
 (qau s.name||s.kind != 2&&s.kind != 3&&s.kind != 4)&&(s.ty.kind==2&&tyB s.ty p||s.kind != 5&&s.kind != 6)
def noneB (s:St):Bool:=s.kind==2||s.kind==4||s.kind==5||s.kind==7||s.kind==8||s.kind==11&&s.e.sameB Ex.zero
def tellsB (s:St):Bool :=
 !(!noneB s&&!s.e.rightB||s.kind==6&&s.e.kind != 2&&s.e.kind != 3&&s.e.kind != 4||decide ((s.args.length:Int)>5))&&s.args.all Ex.rightB
mutual
def formB (p:Int):St→Bool
 | ⟨k,x,y,n,t,e,args,body,els,a⟩=>!(!onlyB ⟨k,x,y,n,t,e,args,body,els,a⟩||!namesB ⟨k,x,y,n,t,e,args,body,els,a⟩ p||!tellsB ⟨k,x,y,n,t,e,args,body,els,a⟩)&&(formsB p body&&formsB p els)
def formsB (p:Int):List St→Bool
 | []=>true
 | e::r=>formB p e&&formsB p r
end
theorem form_eq (p:Int) (s:St):formB p s=(!(!onlyB s||!namesB s p||!tellsB s)&&(formsB p s.body&&formsB p s.els)):=by cases s;rfl
theorem formsB_all (p:Int) (l:List St):formsB p l=l.all (formB p):=by
 induction l with
 | nil=>rw [formsB];rfl
 | cons e r ih=>rw [formsB,ih];rfl
def rightB (s:St) (p:Int):Bool:=formB p s&&decide (s.deep≤20)
mutual
def sameB:St→St→Bool
 | ⟨k,x,y,n,t,e,args,body,els,_⟩,⟨k',x',y',n',t',e',args',body',els',_⟩=>k==k'&&(x==x'&&(y==y'&&(n==n'&&(decide (t=t')&&(e.sameB e'&&(Ex.samesB args args'&&(samesB body body'&&samesB els els')))))))
def samesB:List St→List St→Bool
 | [],[]=>true
 | e::r,f::t=>e.sameB f&&samesB r t
 | _,_=>false
end
theorem samesB_zip:∀{l m:List St},l.length=m.length→samesB l m=(l.zip m).all fun p=>p.1.sameB p.2
 | [],[],_=>rfl
 | e::r,f::t,h=>by rw [samesB,List.zip_cons_cons,List.all_cons,samesB_zip (by simpa using h)]
theorem samesB_len:∀{l m:List St},l.length≠m.length→samesB l m=false
 | [],[],h=>absurd rfl h
 | [],_::_,_=>rfl
 | _::_,[],_=>rfl
 | e::r,f::t,h=>by rw [samesB,samesB_len (by simpa using h),Bool.and_false]
end St
end Go.Proofs.YthkojpnjdpbcgaaGreatDoor
