/- Rows of expressions and statements, laid out by their parts. No program in sight. Conditions: none. -/
import Derived.Test.YthkojpnjdpbcgaaGreatDoorMl5
import Derived.Test.YthkojpnjdpbcgaaGreatDoorMl14
import Derived.Test.YthkojpnjdpbcgaaGreatDoorMl24
set_option linter.unusedVariables false
set_option maxRecDepth 100000
set_option maxHeartbeats 8000000
set_option linter.unusedSimpArgs false
namespace Go.Proofs.YthkojpnjdpbcgaaGreatDoor
open Go.RowKit
def Ex.rw (e:Ex):List A:=[.v (.int .i64 e.kind),.v (.int .i64 e.num),.v (.string (bs e.name)),.sl (e.kids.map Ex.at)]
theorem Ex.at_rw (e:Ex):Ex.at e=Ex.rw e:=by obtain⟨k,n,s,l⟩:=e;simp only [Ex.rw,Ex.at,Ex.ats_map]
def St.rw (s:St):List A:=[.v (.int .i64 s.kind),.v (.string (bs s.x)),.v (.string (bs s.y)),.v (.string (bs s.name))]++Ty.at s.ty++Ex.rw s.e++[.sl (s.args.map Ex.at),.sl (s.body.map St.at),.sl (s.els.map St.at),.v (.int .i64 s.at_)]
theorem St.at_rw (s:St):St.at s=St.rw s:=by
 obtain⟨kind,x,y,name,ty,⟨ek,en,es,el⟩,args,body,els,at_⟩:=s
 simp only [St.rw,St.at,Ex.rw,Ex.at,Ex.ats_map,St.ats_map]
theorem Ex.at_fun:Ex.at=Ex.rw:=funext Ex.at_rw
def St.rv (s:St):List A:=[.v (.int .i64 s.kind),.v (.string (bs s.x)),.v (.string (bs s.y)),.v (.string (bs s.name))]++Ty.at s.ty++Ex.rw s.e++[.sl (s.args.map Ex.rw),.sl (s.body.map St.at),.sl (s.els.map St.at),.v (.int .i64 s.at_)]
theorem St.at_rv (s:St):St.at s=St.rv s:=by
 rw [St.at_rw]
 unfold St.rw St.rv
 rw [Ex.at_fun]
def Ex.rv (e:Ex):List A:=[.v (.int .i64 e.kind),.v (.int .i64 e.num),.v (.string (bs e.name)),.sl (e.kids.map Ex.rw)]
theorem Ex.at_rv (e:Ex):Ex.at e=Ex.rv e:=by rw [Ex.at_rw];unfold Ex.rw Ex.rv;rw [Ex.at_fun]
theorem qno {α:Type} {f:α→Bool} {l:List α} {z:α} {k:Nat} (h:l[k]? = some z) (hf:f z=true):l.any f=true:=List.any_eq_true.2 ⟨z,lm4 h,hf⟩
theorem qnn {α:Type} {f:α→Bool} {l r:List α} {z:α} (h:l=r++[z]) (hr:r.any f=false) (hf:f z=false):l.any f=false:=by rw [h,List.any_append,hr];simpa using hf
def St.rx (s:St):List A:=[.v (.int .i64 s.kind),.v (.string (bs s.x)),.v (.string (bs s.y)),.v (.string (bs s.name))]++Ty.at s.ty++Ex.rw s.e++[.sl (s.args.map Ex.rw),.sl (s.body.map St.rw),.sl (s.els.map St.rw),.v (.int .i64 s.at_)]
theorem St.at_rx (s:St):St.at s=St.rx s:=by
 have h:=St.at_rw s
 unfold St.rw at h
 rw [h,Ex.at_fun,(funext St.at_rw:St.at=St.rw)]
 rfl
namespace St
mutual
def sz:St→Nat
 | ⟨_,x,y,n,t,e,args,body,els,_⟩=>1+x.length+y.length+n.length+t.cls.length+e.sz+Ex.szs args+szs body+szs els
def szs:List St→Nat
 | []=>0
 | e::r=>e.sz+szs r
end
mutual
def deep:St→Nat
 | ⟨_,_,_,_,_,_,_,body,els,_⟩=>max (deeps body) (deeps els)+1
def deeps:List St→Nat
 | []=>0
 | e::r=>max e.deep (deeps r)
end
mutual
def cnt:St→Nat
 | ⟨_,_,_,_,_,_,_,body,els,_⟩=>1+cnts body+cnts els
def cnts:List St→Nat
 | []=>0
 | e::r=>e.cnt+cnts r
end
theorem sz_eq (s:St):s.sz=1+s.x.length+s.y.length+s.name.length+s.ty.cls.length+s.e.sz+Ex.szs s.args+szs s.body+szs s.els:=by cases s;rfl
theorem deep_eq (s:St):s.deep=max (deeps s.body) (deeps s.els)+1:=by cases s;rfl
theorem cnt_eq (s:St):s.cnt=1+cnts s.body+cnts s.els:=by cases s;rfl
theorem szs_mem:∀{l:List St} {k:St},k∈l→k.sz≤szs l
 | e::r,k,h=>by
  rw [szs]
  rcases List.mem_cons.1 h with rfl|h
  ·omega
  ·have:=szs_mem h;omega
theorem sz_pos (s:St):0<s.sz:=by rw [sz_eq];omega
theorem szs_len:∀l:List St,l.length≤szs l
 | []=>Nat.le_refl _
 | e::r=>by have:=szs_len r;have:=sz_pos e;rw [szs,List.length_cons];omega
theorem body_lt {s k:St} (h:k∈s.body):k.sz<s.sz:=by have:=szs_mem h;rw [sz_eq s];omega
theorem els_lt {s k:St} (h:k∈s.els):k.sz<s.sz:=by have:=szs_mem h;rw [sz_eq s];omega
theorem cnts_app:∀(l m:List St),cnts (l++m)=cnts l+cnts m
 | [],m=>by rw [List.nil_append,cnts];omega
 | e::r,m=>by rw [List.cons_append,cnts,cnts,cnts_app r m];omega
theorem cnts_one (e:St):cnts [e]=e.cnt:=by rw [cnts,cnts];omega
theorem deeps_le:∀l:List St,(∀e∈l,e.deep≤e.sz∧e.cnt≤e.sz)→deeps l≤szs l∧cnts l≤szs l
 | [],_=>⟨Nat.le_refl _,Nat.le_refl _⟩
 | e::r,h=>by
  rw [deeps,szs,cnts]
  have:=h e (by simp)
  have:=deeps_le r fun k hk=>h k (by simp [hk])
  omega
theorem deep_le:∀(m:Nat) (e:St),e.sz≤m→e.deep≤e.sz∧e.cnt≤e.sz
 | 0,e,h=>by have:=sz_pos e;omega
 | m+1,e,h=>by
  have h1:=deeps_le e.body fun k hk=>deep_le m k (by have:=body_lt hk;omega)
  have h2:=deeps_le e.els fun k hk=>deep_le m k (by have:=els_lt hk;omega)
  have:=e.sz_eq
  rw [deep_eq,cnt_eq]
  omega
theorem cnts_take:∀(l:List St) (k:Nat),cnts (l.take k)≤cnts l
 | [],k=>by simp
 | e::r,0=>by rw [List.take_zero,cnts];omega
 | e::r,k+1=>by rw [List.take_succ_cons,cnts,cnts];have:=cnts_take r k;omega
def blank (s:St):St :=
 { s with
  x:=if s.kind=1∨s.kind=2∨s.kind=4∨s.kind=5∨s.kind=6∨s.kind=7 then [] else s.x
  y:=if s.kind=2∨s.kind=3∨s.kind=4∨s.kind=7∨s.kind=8 then [] else s.y
  name:=if s.kind=2∨s.kind=3∨s.kind=4 then [] else s.name
  ty:=if s.kind=5∨s.kind=6 then Ty.zero else s.ty
  e:=if s.kind=1∨s.kind=3∨s.kind=6∨s.kind=9∨s.kind=10∨s.kind=11 then Ex.zero else s.e
  args:=if s.kind=4 then [] else s.args
  body:=if s.kind=9∨s.kind=10 then [] else s.body
  els:=if s.kind=9 then [] else s.els }
def onlyB (s:St):Bool :=
 decide (s.kind≥1)&&decide (s.kind≤11)&&s.blank.x==[]&&s.blank.y==[]&&s.blank.name==[]&&decide (s.blank.ty=Ty.zero)&&s.blank.e.sameB Ex.zero&&((s.blank.args.length+s.blank.body.length+s.blank.els.length:Nat):Int)==0
def namesB (s:St) (p:Int):Bool :=
 (qaw s.x||s.kind==4&&s.x==[]||s.kind==3||s.kind==8||decide (s.kind≥9)) &&
 (qaw s.y||(s.kind==2||s.kind==3||s.kind==4)&&s.y==[116,104,105,115]||s.kind==1||s.kind==5||s.kind==6||decide (s.kind≥9)) &&
 (qaw s.name||s.kind != 2&&s.kind != 3&&s.kind != 4)&&(s.ty.kind==2&&tyB s.ty p||s.kind != 5&&s.kind != 6)
def noneB (s:St):Bool:=s.kind==2||s.kind==4||s.kind==5||s.kind==7||s.kind==8||s.kind==11&&s.e.sameB Ex.zero
def tellsB (s:St):Bool :=
 !(!noneB s&&!s.e.rightB||s.kind==6&&s.e.kind != 2&&s.e.kind != 3&&s.e.kind != 4||decide ((s.args.length:Int)>5))&&s.args.all Ex.rightB
mutual
def formB (p:Int):St→Bool
 | ⟨k,x,y,n,t,e,args,body,els,a⟩=>!(!onlyB ⟨k,x,y,n,t,e,args,body,els,a⟩||!namesB ⟨k,x,y,n,t,e,args,body,els,a⟩ p||!tellsB ⟨k,x,y,n,t,e,args,body,els,a⟩)&&(formsB p body&&formsB p els)
def formsB (p:Int):List St→Bool
 | []=>true
 | e::r=>formB p e&&formsB p r
end
theorem form_eq (p:Int) (s:St):formB p s=(!(!onlyB s||!namesB s p||!tellsB s)&&(formsB p s.body&&formsB p s.els)):=by cases s;rfl
def rightB (s:St) (p:Int):Bool:=formB p s&&decide (s.deep≤20)
mutual
def sameB:St→St→Bool
 | ⟨k,x,y,n,t,e,args,body,els,_⟩,⟨k',x',y',n',t',e',args',body',els',_⟩=>k==k'&&(x==x'&&(y==y'&&(n==n'&&(decide (t=t')&&(e.sameB e'&&(Ex.samesB args args'&&(samesB body body'&&samesB els els')))))))
def samesB:List St→List St→Bool
 | [],[]=>true
 | e::r,f::t=>e.sameB f&&samesB r t
 | _,_=>false
end
theorem samesB_zip:∀{l m:List St},l.length=m.length→samesB l m=(l.zip m).all fun p=>p.1.sameB p.2
 | [],[],_=>rfl
 | e::r,f::t,h=>by rw [samesB,List.zip_cons_cons,List.all_cons,samesB_zip (by simpa using h)]
theorem samesB_len:∀{l m:List St},l.length≠m.length→samesB l m=false
 | [],[],h=>absurd rfl h
 | [],_::_,_=>rfl
 | _::_,[],_=>rfl
 | e::r,f::t,h=>by rw [samesB,samesB_len (by simpa using h),Bool.and_false]
end St
end Go.Proofs.YthkojpnjdpbcgaaGreatDoor
