/- The law's own look at a statement's size, on plain data. Conditions: at most 2^20 of anything. -/
import Derived.Test.YtibdalkdgjghoaaGreatDoorMg44
import Derived.Test.YtibdalkdgjghoaaGreatDoorMg25
import Derived.Test.YtibdalkdgjghoaaGreatDoorMg47
import Derived.Test.YtibdalkdgjghoaaGreatDoorMg43
import Derived.Test.YtibdalkdgjghoaaGreatDoorMg46
import Derived.Test.YtibdalkdgjghoaaGreatDoorMg48
set_option linter.unusedVariables false
set_option maxRecDepth 100000
set_option maxHeartbeats 8000000
set_option linter.unusedSimpArgs false
namespace Go.Proofs.YtibdalkdgjghoaaGreatDoor
open Go.RowKit
mutual
def bigE:Ex→Nat
 | ⟨_,_,_,l⟩=>bigK 1 l
def bigK (n:Nat):List Ex→Nat
 | []=>n
 | e::r=>if n<1000 then bigK (n+bigE e) r else n
end
theorem bigE_eq (e:Ex):bigE e=bigK 1 e.kids:=by obtain⟨k,n,s,l⟩:=e;rw [bigE]
mutual
theorem bigE_le:∀e:Ex,bigE e≤e.sz
 | ⟨k,n,s,l⟩=>by
  rw [bigE,Ex.sz]
  have:=bigK_le l 1
  omega
theorem bigK_le:∀(l:List Ex) (n:Nat),bigK n l≤n+Ex.szs l
 | [],n=>by rw [bigK];omega
 | e::r,n=>by
  rw [bigK,Ex.szs]
  split
  ·have h1:=bigE_le e
   have h2:=bigK_le r (n+bigE e)
   omega
  ·omega
end
theorem pr06Size:∀(n:Nat) (e:Ex),e.sz≤n→e.sz≤1048576→DPure Tryz.prog 47 [.r (Ex.at e)] (.a (.v (.int .i64 (bigE e:Nat))))
 | 0,e,h,_=>by have:=e.sz_pos;omega
 | n+1,e,h,hz=>by
  have IH:∀k∈e.kids,_:=fun k hk=>pr06Size n k (by have:=Ex.kid_lt hk;omega) (by have:=Ex.kid_lt hk;omega)
  have hsz:∀k∈e.kids,k.sz≤1048576:=fun k hk=>by have:=Ex.kid_lt hk;omega
  have hlen:e.kids.length≤1048576:=by have:=Ex.szs_len e.kids;have:=e.sz_eq;omega
  rw [bigE_eq]
  refine DPure.go Tryz.func47 rfl Tryz.ntmps47 rfl rfl rfl (fun C hro=>?_)
  have fx:=trivial
  repeat' (first|refine stp [0,1,2,3,4,13] ?_|(refine RS.pk ?_;refine rnx ?_)|(refine RS.gF ?_;refine rnx ?_)|(refine RS.lC ?_;refine rnx ?_)|(refine RS.xC ?_;refine rnx ?_)|refine WP.cn (fun hc=>?_) (fun hc=>?_)|fail)
  refine WP.loopX (α:={ y:Nat×Nat // y.1≤e.kids.length∧bigK 1 e.kids=bigK y.2 (e.kids.drop y.1) }) (fun y=>[(1,.a (.ptr 0 0)),(3,.a (.v (.int .i64 (y.1.2:Nat)))),(4,.a (.v (.int .i64 (y.1.1:Nat))))]) (fun _=>[.cell (Ex.at e)]) (fun y=>e.kids.length-y.1.1) ⟨(0,1),by omega,rfl⟩ (by simp only [Agree,go_sem,simprocAttr];first|done|rfl) rfl ?_
  rintro⟨⟨k,u⟩,hk,hinv⟩
  dsimp only at hk hinv ⊢
  by_cases hlt:k<e.kids.length
  ·have hlt2:decide ((k:Int)<((e.kids.length:Nat):Int))=true:=decide_eq_true (by omega)
   obtain⟨z,hz⟩:∃z,e.kids[k]? = some z:=⟨_,List.getElem?_eq_getElem hlt⟩
   have hzm:z∈e.kids:=List.mem_of_getElem? hz
   have hzt:=take_snocA hz
   have hix:∀q2,ixD (some 4) q2 (.a (.sl (e.kids.map Ex.at))) (.a (.v (.int .i64 (k:Int))))=some (.a (.ref (Ex.at z) 0)):=fun q2=>ixD_at rfl (by rw [List.getElem?_map,hz];rfl) (by simp only [go_sem])
   have hwu:=wrap64n (k:=k) (by omega)
   have hdr:e.kids.drop k=z::e.kids.drop (k+1):=by rw [List.drop_eq_getElem_cons hlt];congr 1;exact (List.getElem?_eq_some_iff.1 hz).2
   have hbz:=Nat.le_trans (bigE_le z) (hsz z hzm)
   have hIz:=IH z hzm
   rw [hdr,bigK] at hinv
   generalize bigE z=B at hinv hbz hIz
   clear IH
   by_cases hu:u<1000
   ·have hu2:decide ((u:Int)<1000)=true:=decide_eq_true (by omega)
    have hwb:IntKind.i64.wrap ((u:Int)+(B:Int))=((u+B:Nat):Int):=by rw [wrap64 (by omega) (by omega)];omega
    rw [if_pos hu] at hinv
    replace fx:=And.intro hlt2 (And.intro hix (And.intro hwu (And.intro hu2 (And.intro hwb trivial))))
    repeat' (first|refine stp [0,1,2,3,4,13] ?_|(refine RS.pk ?_;refine rnx ?_)|(refine RS.gF ?_;refine rnx ?_)|(refine RS.lC ?_;refine rnx ?_)|(refine RS.xC ?_;refine rnx ?_)|(refine stc (r1:=by exact hIz) (r2:=?_);refine rnx ?_)|refine WP.cn (fun hc=>?_) (fun hc=>?_)|fail)
    refine⟨⟨(k+1,u+B),by dsimp only;omega,hinv⟩,[],by dsimp only;omega,by simp only [Agree,go_sem,simprocAttr],rfl,by simp only [nrE,nrD,List.all_cons,List.all_nil,go_sem,simprocAttr],by simp only [go_sem,simprocAttr]⟩
   ·have hu2:decide ((u:Int)<1000)=false:=decide_eq_false (by omega)
    rw [if_neg hu] at hinv
    replace fx:=And.intro hlt2 (And.intro hu2 trivial)
    repeat' (first|refine stp [0,1,2,3,4,13] ?_|(refine RS.pk ?_;refine rnx ?_)|(refine RS.gF ?_;refine rnx ?_)|(refine RS.lC ?_;refine rnx ?_)|(refine RS.xC ?_;refine rnx ?_)|refine WP.cn (fun hc=>?_) (fun hc=>?_)|fail)
    rw [hinv]
  ·obtain rfl:k=e.kids.length:=by omega
   have hlt2:decide ((e.kids.length:Int)<(e.kids.length:Int))=false:=decide_eq_false (by omega)
   rw [List.drop_length,bigK] at hinv
   clear IH
   replace fx:=And.intro hlt2 trivial
   repeat' (first|refine stp [0,1,2,3,4,13] ?_|(refine RS.pk ?_;refine rnx ?_)|(refine RS.gF ?_;refine rnx ?_)|(refine RS.lC ?_;refine rnx ?_)|(refine RS.xC ?_;refine rnx ?_)|refine WP.cn (fun hc=>?_) (fun hc=>?_)|fail)
   rw [hinv]
def hv1 (e:Ex):Bool:=decide ((bigE e:Int)>100)
def hvB (s:St):Bool:=s.args.any hv1||(decide ((s.args.length:Int)>20)||decide ((bigE s.e:Int)>100)||decide ((s.body.length:Int)+(s.els.length:Int)>20)||decide ((s.cnt:Int)>100))
theorem pl20heavy (s:St) (hs:s.sz≤1048576):DPure Tryz.prog 15 [.r (St.at s)] (.a (.v (.bool (hvB s)))):=by
 have haz:=s.arg_sz
 have hE:=pr06Size _ s.e (Nat.le_refl _) (Nat.le_trans (St.e_sz s) hs)
 have hS:=pSize _ s (Nat.le_refl _) hs
 have hsq:=s.sz_eq
 have hl1:=Ex.szs_len s.args
 have hl2:=St.szs_len s.body
 have hl3:=St.szs_len s.els
 have hwr:IntKind.i64.wrap ((s.body.length:Int)+(s.els.length:Int))=(s.body.length:Int)+(s.els.length:Int):=wrap64 (by omega) (by omega)
 unfold hvB
 refine DPure.go Tryz.func15 rfl Tryz.ntmps15 rfl rfl rfl (fun C hro=>?_)
 have fx:=trivial
 repeat' (first|refine stp [0,1,2,3,8,17] ?_|(refine RS.pk ?_;refine rnx ?_)|(refine RS.gF ?_;refine rnx ?_)|(refine RS.lC ?_;refine rnx ?_)|(refine RS.xC ?_;refine rnx ?_)|refine WP.cn (fun hc=>?_) (fun hc=>?_)|fail)
 refine WP.loopX (α:={ k:Nat // k≤s.args.length∧(s.args.take k).any hv1=false }) (fun y=>[(1,.a (.ptr 0 0)),(3,.a (.v (.int .i64 (y.1:Nat))))]) (fun _=>[.cell (St.at s)]) (fun y=>s.args.length-y.1) ⟨0,by omega,rfl⟩ (by simp only [Agree,go_sem,simprocAttr];first|done|rfl) rfl ?_
 rintro⟨k,hk,hinv⟩
 dsimp only
 by_cases hlt:k<s.args.length
 ·have hlt2:decide ((k:Int)<((s.args.length:Nat):Int))=true:=decide_eq_true (by omega)
  obtain⟨z,hz⟩:∃z,s.args[k]? = some z:=⟨_,List.getElem?_eq_getElem hlt⟩
  have hzm:z∈s.args:=List.mem_of_getElem? hz
  have hzt:=take_snocA hz
  have hix:∀q2,ixD (some 4) q2 (.a (.sl (s.args.map Ex.at))) (.a (.v (.int .i64 (k:Int))))=some (.a (.ref (Ex.at z) 0)):=fun q2=>ixD_at rfl (by rw [List.getElem?_map,hz];rfl) (by simp only [go_sem])
  have hwu:=wrap64n (k:=k) (by omega)
  have hIz:=pr06Size _ z (Nat.le_refl _) (Nat.le_trans (haz z hzm) hs)
  replace fx:=And.intro hlt2 (And.intro hix (And.intro hwu trivial))
  repeat' (first|refine stp [0,1,2,3,8,17] ?_|(refine RS.pk ?_;refine rnx ?_)|(refine RS.gF ?_;refine rnx ?_)|(refine RS.lC ?_;refine rnx ?_)|(refine RS.xC ?_;refine rnx ?_)|(refine stc (r1:=by exact hIz) (r2:=?_);refine rnx ?_)|refine WP.cn (fun hc=>?_) (fun hc=>?_)|fail)
  ·have ha:s.args.any hv1=true:=List.any_eq_true.2 ⟨z,hzm,hc⟩
   rw [ha,Bool.true_or]
  ·refine⟨⟨k+1,by omega,by rw [hzt,List.any_append,hinv];simp only [List.any_cons,List.any_nil,Bool.or_false,Bool.false_or];exact hc⟩,[],by dsimp only;omega,by simp only [Agree,go_sem,simprocAttr],rfl,by simp only [nrE,nrD,List.all_cons,List.all_nil,go_sem,simprocAttr],by simp only [go_sem,simprocAttr]⟩
 obtain rfl:k=s.args.length:=by omega
 rw [List.take_length] at hinv
 have hlt2:decide ((s.args.length:Int)<(s.args.length:Int))=false:=decide_eq_false (by omega)
 replace fx:=And.intro hlt2 (And.intro hwr trivial)
 repeat' (first|refine stp [0,1,2,3,8,17] ?_|(refine RS.pk ?_;refine rnx ?_)|(refine RS.gF ?_;refine rnx ?_)|(refine RS.lC ?_;refine rnx ?_)|(refine RS.xC ?_;refine rnx ?_)|(refine stc (r1:=by first|exact hE|exact hS) (r2:=?_);refine rnx ?_)|refine WP.cn (fun hc=>?_) (fun hc=>?_)|fail)
 all_goals (rw [hinv,Bool.false_or])
theorem sumOf_leF {α:Type} {f g:α→Nat} (h:∀x,f x≤g x):∀l:List α,sumOf f l≤sumOf g l
 | []=>Nat.le_refl _
 | x::r=>by rw [sumOf,sumOf];have:=h x;have:=sumOf_leF h r;omega
theorem pc_ok {p:List Cs} {c:Cs} {m:Me} (hp:sumOf Cs.sz p≤1048576) (hc:c∈p) (hm:m∈c.methods):Pc.ok ⟨p,c,m⟩:=by
 have h:=ak_ok hp hc hm ⟨1,[],[],[],Ty.zero,⟨1,7,[],[]⟩,[],[],[],0⟩ (by decide) Ty.zero Ty.zero
 refine⟨h.np,h.nc,h.na,h.nl,Nat.le_trans (sumOf_leF (fun x=>?_) p) hp,hp⟩
 have:=sumOf_len Vr.sz_pos x.fields
 unfold Cs.sz;omega
theorem nameNot {s:List UInt8} (h:nameB s=true):(s==thisS)=false:=by
 cases h1:s==thisS with
 | false=>rfl
 | true =>
  have:s=thisS:=by simpa using h1
  subst this
  exact absurd h (by decide)
theorem typeT_var {c:Cs} {m:Me} {s:List UInt8} (h:(s==thisS)=false) (hp:¬placeI m s<0):(typeT c m s).1=(varT m s).1:=by
 unfold typeT varT
 rw [if_neg (by rw [h];exact Bool.false_ne_true),if_neg hp,if_neg hp]
theorem tgt_var (a:Ak) (h:(a.s.x==thisS)=false):(tgt a).1=(varT a.m a.s.x).2∧((tgt a).1=0→(tgt a).2={ a with x:=(varT a.m a.s.x).1 }):=by
 by_cases hp:placeI a.m a.s.x<0
 ·have e1:tgt a=(13,a):=by unfold tgt;rw [if_pos hp]
  have e2:varT a.m a.s.x=(Ty.zero,13):=by unfold varT;rw [if_pos hp]
  rw [e1,e2];exact⟨rfl,fun h=>by cases h⟩
 ·have e1:tgt a=(0,{ a with x:=(typeT a.c a.m a.s.x).1 }):=by unfold tgt;rw [if_neg hp]
  have e2:(varT a.m a.s.x).2=0:=by unfold varT;rw [if_neg hp]
  rw [e1,e2,←typeT_var h hp];exact⟨rfl,fun _=>rfl⟩
theorem vr_var (a:Ak) {s:List UInt8} (h:(s==thisS)=false):vrE a s=(varT a.m s).2∧(vrE a s=0→vrT a s=(varT a.m s).1):=by
 by_cases hp:placeI a.m s<0
 ·have e2:varT a.m s=(Ty.zero,13):=by unfold varT;rw [if_pos hp]
  have e1:vrE a s=13:=by unfold vrE;rw [if_pos hp]
  rw [e1,e2];exact⟨rfl,fun h=>by cases h⟩
 ·have e1:vrE a s=0:=by unfold vrE;rw [if_neg hp]
  have e2:(varT a.m s).2=0:=by unfold varT;rw [if_neg hp]
  have e3:vrT a s=(typeT a.c a.m s).1:=by unfold vrT;rw [if_neg hp]
  rw [e1,e2,e3,typeT_var h hp];exact⟨rfl,fun _=>rfl⟩
theorem ob_obj (a:Ak):(obI a).1=(objT a.c a.m a.s).2∧((obI a).1=0→(obI a).2={ a with o:=(objT a.c a.m a.s).1 }):=by
 unfold obI objT
 generalize typeT a.c a.m a.s.y=R
 cases h4:(a.s.kind==4)<;>cases h1:R.2<;>cases h2:(R.1.kind==2)<;>cases h3:uniqB R.1<;>simp_all
theorem back_eq (a:Ak) (r:Ty):backP a r=if (a.s.x==[])=true then 0 else backI a.p r a.x:=by
 unfold backP backI
 cases h1:(a.s.x==[])<;>cases h2:(r.kind==0)<;>cases h3:uniqB r<;>cases h4:uniqB a.x<;>simp_all
theorem call_eq (a:Ak) (hk:a.s.kind=4) (ho:(objT a.c a.m a.s).2=0) (h1:(objT a.c a.m a.s).1=a.o):callP a=callI a.p a.c a.m a.s a.x:=by
 have hm:calM a.p a.c a.m a.s=findMe a.p a.o.cls a.s.name:=by unfold calM;rw [ho,hk,h1];rfl
 unfold callP callI
 rw [hm,ho,if_neg (by decide)]
 cases findMe a.p a.o.cls a.s.name with
 | none=>rfl
 | some f=>dsimp only;rw [back_eq]
theorem new_doc (a:Ak) (hk:a.s.kind=5) (hx:(a.s.x==thisS)=false):(if ((tgt a).1 != 0)=true then (tgt a).1 else madeP (tgt a).2)=if ((varT a.m a.s.x).2 != 0)=true then (varT a.m a.s.x).2 else docK a.p a.c a.m a.s (varT a.m a.s.x).1:=by
 obtain⟨e1,e2⟩:=tgt_var a hx
 by_cases h:(tgt a).1=0
 ·rw [e2 h,←e1,h,if_neg (by decide),if_neg (by decide)]
  unfold docK madeP madeI
  dsimp only
  rw [hk]
  simp [bne]
 ·rw [e1] at h ⊢
  rw [if_pos (by simpa using h),if_pos (by simpa using h)]
theorem cast_doc (a:Ak) (hk:a.s.kind=6) (hx:(a.s.x==thisS)=false):(if ((tgt a).1 != 0)=true then (tgt a).1 else (castI (tgt a).2).1)=if ((varT a.m a.s.x).2 != 0)=true then (varT a.m a.s.x).2 else docK a.p a.c a.m a.s (varT a.m a.s.x).1:=by
 obtain⟨e1,e2⟩:=tgt_var a hx
 by_cases h:(tgt a).1=0
 ·rw [e2 h,←e1,h,if_neg (by decide),if_neg (by decide)]
  unfold docK castI madeI
  dsimp only
  rw [hk]
  generalize oneT a.c a.m a.s.e=R
  cases h1:uniqB a.s.ty<;>cases h2:(R.2 != 0)<;>cases h3:(R.1.kind==2)<;>cases h4:(R.1.kind==3)<;>cases h5:uniqB R.1<;>simp_all
 ·rw [e1] at h ⊢
  rw [if_pos (by simpa using h),if_pos (by simpa using h)]
theorem move_doc (a:Ak) (hk:a.s.kind=7) (hx:(a.s.x==thisS)=false) (hy:(a.s.y==thisS)=false):(moveI a).1=if ((varT a.m a.s.x).2 != 0)=true then (varT a.m a.s.x).2 else docK a.p a.c a.m a.s (varT a.m a.s.x).1:=by
 obtain⟨e1,e2⟩:=tgt_var a hx
 unfold moveI
 by_cases h:(tgt a).1=0
 ·have hT:tgt a=(0,{ a with x:=(varT a.m a.s.x).1 }):=by rw [←e2 h,←h]
  obtain⟨f1,f2⟩:=vr_var { a with x:=(varT a.m a.s.x).1 } hy
  have e3:(varT a.m a.s.x).2=0:=by rw [←e1];exact h
  unfold docK
  rw [hT,e3,hk]
  dsimp only at f1 f2 ⊢
  by_cases g:(varT a.m a.s.y).2=0
  ·rw [f2 (by rw [f1];exact g),f1,g];simp
  ·rw [f1];simp [g]
 ·rw [if_pos (by simpa using h),←e1,if_pos (by simpa using h)]
theorem cond_doc (a:Ak) (hk:a.s.kind=9∨a.s.kind=10):(condI a).1=endsI a.p a.c a.m a.s:=by
 unfold condI endsI
 generalize oneT a.c a.m a.s.e=R
 rcases hk with hk|hk<;>rw [hk]<;>cases h2:(R.2==0)<;>cases h3:(R.1.kind==1)<;>simp_all
theorem callN_doc (a:Ak) (hk:a.s.kind=4) (hx:(a.s.x==[])=true) (h0:a.x=Ty.zero):(if ((obI a).1 != 0)=true then (obI a).1 else callP (obI a).2)=docK a.p a.c a.m a.s Ty.zero:=by
 obtain⟨e1,e2⟩:=ob_obj a
 have hD:docK a.p a.c a.m a.s Ty.zero=callI a.p a.c a.m a.s Ty.zero:=by unfold docK;rw [hk];rfl
 rw [hD]
 by_cases h:(obI a).1=0
 ·have e3:(objT a.c a.m a.s).2=0:=by rw [←e1];exact h
  have:=call_eq { a with o:=(objT a.c a.m a.s).1 } hk e3 rfl
  rw [e2 h,h,if_neg (by decide),this]
  dsimp only
  rw [h0]
 ·rw [if_pos (by simpa using h),e1]
  rw [e1] at h
  unfold callI
  rw [if_pos (by simpa using h)]
theorem callX_doc (a:Ak) (hk:a.s.kind=4) (hx:(a.s.x==thisS)=false):(if ((tgt a).1 != 0)=true then (tgt a).1 else if ((obI (tgt a).2).1 != 0)=true then (obI (tgt a).2).1 else callP (obI (tgt a).2).2)=if ((varT a.m a.s.x).2 != 0)=true then (varT a.m a.s.x).2 else docK a.p a.c a.m a.s (varT a.m a.s.x).1:=by
 obtain⟨e1,e2⟩:=tgt_var a hx
 by_cases h:(tgt a).1=0
 ·have e3:(varT a.m a.s.x).2=0:=by rw [←e1];exact h
  have hD:docK a.p a.c a.m a.s (varT a.m a.s.x).1=callI a.p a.c a.m a.s (varT a.m a.s.x).1:=by unfold docK;rw [hk];rfl
  rw [hD,e3,h,e2 h,if_neg (show ¬((0:Int) != 0)=true by decide),if_neg (show ¬((0:Int) != 0)=true by decide)]
  obtain⟨f1,f2⟩:=ob_obj { a with x:=(varT a.m a.s.x).1 }
  dsimp only at f1 f2
  by_cases g:(obI { a with x:=(varT a.m a.s.x).1 }).1=0
  ·have e4:(objT a.c a.m a.s).2=0:=by rw [←f1];exact g
   have:=call_eq { a with x:=(varT a.m a.s.x).1,o:=(objT a.c a.m a.s).1 } hk e4 rfl
   rw [f2 g,g,if_neg (by decide),this]
  ·rw [if_pos (by simpa using g),f1]
   rw [f1] at g
   unfold callI
   rw [if_pos (by simpa using g)]
 ·rw [if_pos (by simpa using h),←e1,if_pos (by simpa using h)]
theorem put_doc (a:Ak) (hk:a.s.kind=3):(putI a).1=docK a.p a.c a.m a.s Ty.zero:=by
 obtain⟨e1,e2⟩:=ob_obj a
 have hD:docK a.p a.c a.m a.s Ty.zero=fieldsI a.p a.c a.m a.s Ty.zero:=by unfold docK;rw [hk];rfl
 rw [hD]
 unfold putI fieldsI
 by_cases h:(obI a).1=0
 ·have e3:(objT a.c a.m a.s).2=0:=by rw [←e1];exact h
  rw [e2 h,h,e3,if_neg (show ¬((0:Int) != 0)=true by decide),if_neg (show ¬((0:Int) != 0)=true by decide),hk]
  unfold fldI
  dsimp only
  generalize slotF a.p (objT a.c a.m a.s).1.cls a.s.name=Z
  generalize oneT a.c a.m a.s.e=R
  cases h1:Z.2<;>cases h2:(R.2 != 0)<;>simp_all
 ·rw [if_pos (by simpa using h),e1]
  rw [e1] at h
  rw [if_pos (by simpa using h)]
theorem get_doc (a:Ak) (hk:a.s.kind=2) (hx:(a.s.x==thisS)=false):(getI a).1=if ((varT a.m a.s.x).2 != 0)=true then (varT a.m a.s.x).2 else docK a.p a.c a.m a.s (varT a.m a.s.x).1:=by
 obtain⟨e1,e2⟩:=tgt_var a hx
 unfold getI
 by_cases h:(tgt a).1=0
 ·have e3:(varT a.m a.s.x).2=0:=by rw [←e1];exact h
  have hD:docK a.p a.c a.m a.s (varT a.m a.s.x).1=fieldsI a.p a.c a.m a.s (varT a.m a.s.x).1:=by unfold docK;rw [hk];rfl
  rw [hD,e3,h,e2 h,if_neg (show ¬((0:Int) != 0)=true by decide),if_neg (show ¬((0:Int) != 0)=true by decide)]
  obtain⟨f1,f2⟩:=ob_obj { a with x:=(varT a.m a.s.x).1 }
  dsimp only at f1 f2
  unfold fieldsI
  by_cases g:(obI { a with x:=(varT a.m a.s.x).1 }).1=0
  ·have e4:(objT a.c a.m a.s).2=0:=by rw [←f1];exact g
   rw [f2 g,g,e4,if_neg (show ¬((0:Int) != 0)=true by decide),if_neg (show ¬((0:Int) != 0)=true by decide),hk]
   unfold fldI
   dsimp only
   generalize slotF a.p (objT a.c a.m a.s).1.cls a.s.name=Z
   cases h1:Z.2<;>simp
  ·rw [if_pos (by simpa using g),f1]
   rw [f1] at g
   rw [if_pos (by simpa using g)]
 ·rw [if_pos (by simpa using h),←e1,if_pos (by simpa using h)]
theorem ret_doc (a:Ak) (hk:a.s.kind=11):retI a=endsI a.p a.c a.m a.s:=by
 unfold retI endsI
 rw [hk]
 cases h1:(a.s.e.kind==0)<;>cases h2:(a.m.ret.kind==0)<;>rfl
theorem del_doc (a:Ak) (hk:a.s.kind=8) (hy:(a.s.y==thisS)=false):(delI a).1=endsI a.p a.c a.m a.s:=by
 obtain⟨f1,f2⟩:=vr_var a hy
 unfold delI endsI
 rw [hk]
 by_cases g:(varT a.m a.s.y).2=0
 ·rw [f2 (by rw [f1];exact g),f1,g]
  generalize (varT a.m a.s.y).1=t
  cases h1:(t.kind==2)<;>cases h2:uniqB t<;>simp_all
 ·rw [f1];simp [g]
theorem set_doc (a:Ak) (hk:a.s.kind=1) (hx:(a.s.x==thisS)=false):(setI a).1=if ((varT a.m a.s.x).2 != 0)=true then (varT a.m a.s.x).2 else docK a.p a.c a.m a.s (varT a.m a.s.x).1:=by
 obtain⟨e1,e2⟩:=tgt_var a hx
 unfold setI
 by_cases h:(tgt a).1=0
 ·have e3:(varT a.m a.s.x).2=0:=by rw [←e1];exact h
  unfold docK
  rw [e3,h,e2 h,hk]
  generalize oneT a.c a.m a.s.e=R
  cases h2:(R.2 != 0)<;>simp_all
 ·rw [if_pos (by simpa using h),←e1,if_pos (by simpa using h)]
theorem name_ne {s:List UInt8} (h:nameB s=true):(s==[])=false:=by
 cases s with
 | nil=>exact absurd h (by decide)
 | cons x r=>rfl
theorem right_facts {s:St} {n:Int} (h:s.rightB n=true):1≤s.kind∧s.kind≤11∧(s.kind=3→s.x=[]) ∧
  (s.kind≠3→s.kind<8→nameB s.x=true∨s.kind=4∧s.x=[])∧(s.kind=7∨s.kind=8→nameB s.y=true):=by
 unfold St.rightB at h
 rw [St.form_eq,Bool.and_eq_true,Bool.and_eq_true] at h
 have h1:=h.1.1
 cases ho:s.onlyB<;>rw [ho] at h1
 ·simp at h1
 cases hn:s.namesB n<;>rw [hn] at h1
 ·simp at h1
 unfold St.onlyB at ho
 unfold St.namesB at hn
 simp only [Bool.and_eq_true,decide_eq_true_eq] at ho
 simp only [Bool.and_eq_true,Bool.or_eq_true,decide_eq_true_eq,beq_iff_eq] at hn
 obtain⟨⟨⟨⟨⟨⟨⟨o1,o2⟩,o3⟩,_⟩,_⟩,_⟩,_⟩,_⟩:=ho
 obtain⟨⟨⟨n1,n2⟩,_⟩,_⟩:=hn
 refine⟨o1,o2,fun h3=>?_,fun h3 h8=>?_,fun h7=>?_⟩
 ·have:s.blank.x=s.x:=by unfold St.blank;simp [h3]
  rw [this] at o3;simpa using o3
 ·rcases n1 with (((n1|n1)|n1)|n1)|n1
  ·exact .inl n1
  ·exact .inr n1
  ·exact absurd n1 h3
  ·omega
  ·omega
 ·rcases n2 with ((((n2|n2)|n2)|n2)|n2)|n2
  ·exact n2
  ·exfalso;rcases n2.1 with (k|k)|k<;>omega
  ·omega
  ·omega
  ·omega
  ·omega
theorem docI_e {p:List Cs} {c:Cs} {m:Me} {s:St} (hr:s.rightB (c.params.length:Int)=true) (h8:s.kind≥8):docI p c m s=endsI p c m s:=by
 unfold docI;rw [hr,if_neg (by decide),if_pos (by simpa using h8)]
theorem docI_0 {p:List Cs} {c:Cs} {m:Me} {s:St} (hr:s.rightB (c.params.length:Int)=true) (h8:s.kind<8) (hx:s.x=[]):docI p c m s=docK p c m s Ty.zero:=by
 unfold docI;rw [hr,if_neg (by decide),if_neg (by simpa using h8),if_pos (by rw [hx];rfl)]
theorem docI_x {p:List Cs} {c:Cs} {m:Me} {s:St} (hr:s.rightB (c.params.length:Int)=true) (h8:s.kind<8) (hx:nameB s.x=true):docI p c m s=if ((varT m s.x).2 != 0)=true then (varT m s.x).2 else docK p c m s (varT m s.x).1:=by
 unfold docI;rw [hr,if_neg (by decide),if_neg (by simpa using h8),if_neg (by rw [name_ne hx];exact Bool.false_ne_true)]
theorem pAskDoc (a:Ak) (h:a.ok) (hzz:sumOf Cs.sz a.p≤1048576) (hO:FdOf a.p) (h0:a.x=Ty.zero) (hr:a.s.rightB (a.c.params.length:Int)=true):∃b,DM Tryz.prog 60 [.a (.ptr 0 0)] [.cell (Ak.at a)] (.a (.v (.int .i64 (docI a.p a.c a.m a.s)))) [.cell (Ak.at b)]:=by
 obtain⟨o1,o2,o3,o4,o5⟩:=right_facts hr
 by_cases k1:a.s.kind=1
 ·have hx:=(o4 (by omega) (by omega)).resolve_right fun q=>by omega
  rw [docI_x hr (by omega) hx,←set_doc a k1 (nameNot hx)];exact⟨_,pAskSet a h k1⟩
 by_cases k2:a.s.kind=2
 ·have hx:=(o4 (by omega) (by omega)).resolve_right fun q=>by omega
  rw [docI_x hr (by omega) hx,←get_doc a k2 (nameNot hx)];exact⟨_,pAskGet a h hO k2⟩
 by_cases k3:a.s.kind=3
 ·rw [docI_0 hr (by omega) (o3 k3),←put_doc a k3];exact⟨_,pAskPut a h hO k3⟩
 by_cases k4:a.s.kind=4
 ·rcases o4 (by omega) (by omega) with hx|⟨_,hx⟩
  ·rw [docI_x hr (by omega) hx,←callX_doc a k4 (nameNot hx)];exact pAskCallX a h hzz k4 (name_ne hx)
  ·rw [docI_0 hr (by omega) hx,←callN_doc a k4 (by rw [hx];rfl) h0];exact pAskCallN a h hzz k4 (by rw [hx];rfl)
 by_cases k5:a.s.kind=5
 ·have hx:=(o4 (by omega) (by omega)).resolve_right fun q=>by omega
  rw [docI_x hr (by omega) hx,←new_doc a k5 (nameNot hx)];exact pAskNew a h k5
 by_cases k6:a.s.kind=6
 ·have hx:=(o4 (by omega) (by omega)).resolve_right fun q=>by omega
  rw [docI_x hr (by omega) hx,←cast_doc a k6 (nameNot hx)];exact pAskCast a h k6
 by_cases k7:a.s.kind=7
 ·have hx:=(o4 (by omega) (by omega)).resolve_right fun q=>by omega
  rw [docI_x hr (by omega) hx,←move_doc a k7 (nameNot hx) (nameNot (o5 (.inl k7)))];exact⟨_,pAskMove a h k7⟩
 rw [docI_e hr (by omega)]
 by_cases k8:a.s.kind=8
 ·rw [←del_doc a k8 (nameNot (o5 (.inr k8)))];exact⟨_,pAskDel a h k8⟩
 by_cases k9:a.s.kind=9
 ·rw [←cond_doc a (.inl k9)];exact⟨_,pAskIf a h k9⟩
 by_cases k10:a.s.kind=10
 ·rw [←cond_doc a (.inr k10)];exact⟨_,pAskWhile a h k10⟩
 have k11:a.s.kind=11:=by omega
 rw [←ret_doc a k11];exact⟨_,pAskRet a h k11⟩
theorem pgStmtN (p:List Cs) (c:Cs) (m:Me) (s:St) (hz:s.sz≤1048576) (hr:s.rightB (c.params.length:Int)=false):DPure Tryz.prog 21 [.a (.sl (p.map Cs.at)),.r (Cs.at c),.r (Me.at m),.r (St.at s)] (.a (.v (.int .i64 28))):=by
 refine DPure.go Tryz.func21 rfl Tryz.ntmps21 rfl rfl rfl (fun C hro=>?_)
 have fx:=trivial
 have haz:=Ak.z0
 replace fx:=And.intro haz (And.intro hr trivial)
 repeat' (first|refine stp [0,1,2,3,5,6,7,8,9,15] ?_|(refine RS.lC ?_;refine rnx ?_)|(refine stc (r1:=by exact psRight s _ hz) (r2:=?_);refine rnx ?_)|refine WP.cn (fun hc=>?_) (fun hc=>?_)|fail)
 rfl
theorem pgStmtD (p:List Cs) (c:Cs) (m:Me) (s:St) (h:Ak.ok ⟨p,c,m,s,Ty.zero,Ty.zero⟩) (hzz:sumOf Cs.sz p≤1048576) (hO:FdOf p):DPure Tryz.prog 21 [.a (.sl (p.map Cs.at)),.r (Cs.at c),.r (Me.at m),.r (St.at s)] (.a (.v (.int .i64 (docI p c m s)))):=by
 cases hr:s.rightB (c.params.length:Int) with
 | true =>
  obtain⟨b,hb⟩:=pAskDoc ⟨p,c,m,s,Ty.zero,Ty.zero⟩ h hzz hO rfl hr
  have:=pgStmt p c m s _ b h.nz hb
  unfold stmI at this
  rwa [if_pos hr] at this
 | false =>
  have:=pgStmtN p c m s h.nz hr
  unfold docI
  rwa [hr,if_pos (by rfl)]
theorem pLaw20Stmt (p:List Cs) (i j:Int) (s:St) (hsz:sumOf Cs.sz p≤1048576) (hs:s.sz≤1048576):DPure Tryz.prog 5 [.a (.sl (p.map Cs.at)),.r [.v (.int .i64 i),.v (.int .i64 j)],.r (St.at s)] (.a (.v (.bool true))):=by
 have hat:=pl20At p i j hsz
 have hhv:=pl20heavy s hs
 cases hq:atP p i j with
 | none =>
  rw [hq] at hat
  unfold atR at hat
  refine DPure.go Tryz.func5 rfl Tryz.ntmps5 rfl rfl rfl (fun C hro=>?_)
  have fx:=trivial
  repeat' (first|refine stp [0,1,2,4,5,6,7,8,20] ?_|(refine RS.sE ?_;refine rnx ?_)|(refine RS.pk ?_;refine rnx ?_)|(refine RS.gF ?_;refine rnx ?_)|(refine stc (r1:=by first|exact hat|exact hhv|exact pAwake20) (r2:=?_);refine rnx ?_)|refine WP.cn (fun hc=>?_) (fun hc=>?_)|((first|refine WP.dw (id:=4) 15 [0,1,2,4,5,6,7,8,20] ?_);simp only [RQr_mk,List.drop_succ_cons,List.drop_zero,List.drop_nil])|fail)
  rfl
 | some q =>
  rw [hq] at hat
  unfold atR at hat
  dsimp only at hat
  obtain⟨c,m⟩:=q
  have hf:fnd p i j=some (c,m):=by unfold atP at hq;split at hq<;>first|cases hq;done|exact hq
  obtain⟨a,b,rfl,rfl,h3,h4⟩:=fnd_some hf
  dsimp only at h3 h4 hat
  have hcm:=List.mem_of_getElem? h3
  have hmm:=List.mem_of_getElem? h4
  have hpk:=pc_ok hsz hcm hmm
  have hak:=ak_ok hsz hcm hmm s hs Ty.zero Ty.zero
  have k1:=pgStmtD p c m s hak hsz (pfdOf p hpk.p hpk.f)
  have k2:=pr20Stmt ⟨p,c,m⟩ s hpk hs
  dsimp only at k2
  generalize docI p c m s=S at k1 k2
  have z0:=Pc.z0
  have q6:(S==S)=true:=beq_self_eq_true _
  refine DPure.go Tryz.func5 rfl Tryz.ntmps5 rfl rfl rfl (fun C hro=>?_)
  have fx:=trivial
  replace fx:=And.intro z0 (And.intro q6 trivial)
  repeat' (first|refine stp [0,1,2,4,5,6,7,8,20] ?_|(refine RS.sE ?_;refine rnx ?_)|(refine RS.pk ?_;refine rnx ?_)|(refine RS.gF ?_;refine rnx ?_)|(refine stc (r1:=by first|exact hat|exact hhv|exact pAwake20|exact k1|exact k2) (r2:=?_);refine rnx ?_)|refine WP.cn (fun hc=>?_) (fun hc=>?_)|((first|refine WP.dw (id:=4) 15 [0,1,2,4,5,6,7,8,20] ?_);simp only [RQr_mk,List.drop_succ_cons,List.drop_zero,List.drop_nil])|fail)
  all_goals rfl
end Go.Proofs.YtibdalkdgjghoaaGreatDoor
