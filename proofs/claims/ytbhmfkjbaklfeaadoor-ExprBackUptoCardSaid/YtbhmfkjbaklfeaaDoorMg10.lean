/- The document's expressions on plain data: how deep, whether they may be. Conditions: at most 2^20 of anything. -/
import Derived.Test.YtbhmfkjbaklfeaaDoorMg9
set_option linter.unusedVariables false
set_option maxRecDepth 100000
set_option maxHeartbeats 8000000
set_option linter.unusedSimpArgs false
namespace Go.Proofs.YtbhmfkjbaklfeaaDoor
open Go.RowKit
namespace St
mutual
def sz:St→Nat
 | ⟨_,x,y,n,t,e,args,body,els,_⟩=>1+x.length+y.length+n.length+t.cls.length+e.sz+Ex.szs args+szs body+szs els
def szs:List St→Nat
 | []=>0
 | e::r=>e.sz+szs r
end
mutual
def deep:St→Nat
 | ⟨_,_,_,_,_,_,_,body,els,_⟩=>max (deeps body) (deeps els)+1
def deeps:List St→Nat
 | []=>0
 | e::r=>max e.deep (deeps r)
end
mutual
def cnt:St→Nat
 | ⟨_,_,_,_,_,_,_,body,els,_⟩=>1+cnts body+cnts els
def cnts:List St→Nat
 | []=>0
 | e::r=>e.cnt+cnts r
end
theorem sz_eq (s:St):s.sz=1+s.x.length+s.y.length+s.name.length+s.ty.cls.length+s.e.sz+Ex.szs s.args+szs s.body+szs s.els:=by cases s;rfl
theorem deep_eq (s:St):s.deep=max (deeps s.body) (deeps s.els)+1:=by cases s;rfl
theorem deeps_one (e:St):deeps [e]=e.deep:=by rw [deeps,deeps];omega
def blank (s:St):St :=
 { s with
  x:=if s.kind=1∨s.kind=2∨s.kind=4∨s.kind=5∨s.kind=6∨s.kind=7 then [] else s.x
  y:=if s.kind=2∨s.kind=3∨s.kind=4∨s.kind=7∨s.kind=8 then [] else s.y
  name:=if s.kind=2∨s.kind=3∨s.kind=4 then [] else s.name
  ty:=if s.kind=5∨s.kind=6 then Ty.zero else s.ty
  e:=if s.kind=1∨s.kind=3∨s.kind=6∨s.kind=9∨s.kind=10∨s.kind=11 then Ex.zero else s.e
  args:=if s.kind=4 then [] else s.args
  body:=if s.kind=9∨s.kind=10 then [] else s.body
  els:=if s.kind=9 then [] else s.els }
def onlyB (s:St):Bool :=
 decide (s.kind≥1)&&decide (s.kind≤11)&&s.blank.x==[]&&s.blank.y==[]&&s.blank.name==[]&&decide (s.blank.ty=Ty.zero)&&s.blank.e.sameB Ex.zero&&((s.blank.args.length+s.blank.body.length+s.blank.els.length:Nat):Int)==0
def namesB (s:St) (p:Int):Bool :=
 (nameB s.x||s.kind==4&&s.x==[]||s.kind==3||s.kind==8||decide (s.kind≥9)) &&
 (nameB s.y||(s.kind==2||s.kind==3||s.kind==4)&&s.y==[116,104,105,115]||s.kind==1||s.kind==5||s.kind==6||decide (s.kind≥9)) &&
 (nameB s.name||s.kind != 2&&s.kind != 3&&s.kind != 4)&&(s.ty.kind==2&&tyB s.ty p||s.kind != 5&&s.kind != 6)
def noneB (s:St):Bool:=s.kind==2||s.kind==4||s.kind==5||s.kind==7||s.kind==8||s.kind==11&&s.e.sameB Ex.zero
def tellsB (s:St):Bool :=
 !(!noneB s&&!s.e.rightB||s.kind==6&&s.e.kind != 2&&s.e.kind != 3&&s.e.kind != 4||decide ((s.args.length:Int)>5))&&s.args.all Ex.rightB
mutual
def formB (p:Int):St→Bool
 | ⟨k,x,y,n,t,e,args,body,els,a⟩=>!(!onlyB ⟨k,x,y,n,t,e,args,body,els,a⟩||!namesB ⟨k,x,y,n,t,e,args,body,els,a⟩ p||!tellsB ⟨k,x,y,n,t,e,args,body,els,a⟩)&&(formsB p body&&formsB p els)
def formsB (p:Int):List St→Bool
 | []=>true
 | e::r=>formB p e&&formsB p r
end
theorem form_eq (p:Int) (s:St):formB p s=(!(!onlyB s||!namesB s p||!tellsB s)&&(formsB p s.body&&formsB p s.els)):=by cases s;rfl
def rightB (s:St) (p:Int):Bool:=formB p s&&decide (s.deep≤20)
mutual
def sameB:St→St→Bool
 | ⟨k,x,y,n,t,e,args,body,els,_⟩,⟨k',x',y',n',t',e',args',body',els',_⟩=>k==k'&&(x==x'&&(y==y'&&(n==n'&&(decide (t=t')&&(e.sameB e'&&(Ex.samesB args args'&&(samesB body body'&&samesB els els')))))))
def samesB:List St→List St→Bool
 | [],[]=>true
 | e::r,f::t=>e.sameB f&&samesB r t
 | _,_=>false
end
theorem same_eq (s t:St):s.sameB t=(s.kind==t.kind&&(s.x==t.x&&(s.y==t.y&&(s.name==t.name&&(decide (s.ty=t.ty)&&(s.e.sameB t.e&&(Ex.samesB s.args t.args&&(samesB s.body t.body&&samesB s.els t.els)))))))):=by cases s;cases t;rfl
theorem samesB_zip:∀{l m:List St},l.length=m.length→samesB l m=(l.zip m).all fun p=>p.1.sameB p.2
 | [],[],_=>rfl
 | e::r,f::t,h=>by rw [samesB,List.zip_cons_cons,List.all_cons,samesB_zip (by simpa using h)]
theorem samesB_len:∀{l m:List St},l.length≠m.length→samesB l m=false
 | [],[],h=>absurd rfl h
 | [],_::_,_=>rfl
 | _::_,[],_=>rfl
 | e::r,f::t,h=>by rw [samesB,samesB_len (by simpa using h),Bool.and_false]
end St
end Go.Proofs.YtbhmfkjbaklfeaaDoor
