/- The document's expressions on plain data: how deep, whether they may be. Conditions: at most 2^20 of anything. -/
import Derived.Test.YthkojpnjdpbcgaaGreatDoorMg21
set_option linter.unusedVariables false
set_option maxRecDepth 100000
set_option maxHeartbeats 8000000
set_option linter.unusedSimpArgs false
namespace Go.Proofs.YthkojpnjdpbcgaaGreatDoor
open Go.RowKit
namespace St
mutual
def sz:St→Nat
 | ⟨_,x,y,n,t,e,args,body,els,_⟩=>1+x.length+y.length+n.length+t.cls.length+e.sz+Ex.szs args+szs body+szs els
def szs:List St→Nat
 | []=>0
 | e::r=>e.sz+szs r
end
mutual
def deep:St→Nat
 | ⟨_,_,_,_,_,_,_,body,els,_⟩=>max (deeps body) (deeps els)+1
def deeps:List St→Nat
 | []=>0
 | e::r=>max e.deep (deeps r)
end
mutual
def cnt:St→Nat
 | ⟨_,_,_,_,_,_,_,body,els,_⟩=>1+cnts body+cnts els
def cnts:List St→Nat
 | []=>0
 | e::r=>e.cnt+cnts r
end
theorem sz_eq (s:St):s.sz=1+s.x.length+s.y.length+s.name.length+s.ty.cls.length+s.e.sz+Ex.szs s.args+szs s.body+szs s.els:=by cases s;rfl
theorem deep_eq (s:St):s.deep=max (deeps s.body) (deeps s.els)+1:=by cases s;rfl
theorem cnt_eq (s:St):s.cnt=1+cnts s.body+cnts s.els:=by cases s;rfl
theorem szs_mem:∀{l:List St} {k:St},k∈l→k.sz≤szs l
 | e::r,k,h=>by
  rw [szs]
  rcases List.mem_cons.1 h with rfl|h
  ·omega
  ·have:=szs_mem h;omega
theorem sz_pos (s:St):0<s.sz:=by rw [sz_eq];omega
theorem szs_len:∀l:List St,l.length≤szs l
 | []=>Nat.le_refl _
 | e::r=>by have:=szs_len r;have:=sz_pos e;rw [szs,List.length_cons];omega
theorem body_lt {s k:St} (h:k∈s.body):k.sz<s.sz:=by have:=szs_mem h;rw [sz_eq s];omega
theorem els_lt {s k:St} (h:k∈s.els):k.sz<s.sz:=by have:=szs_mem h;rw [sz_eq s];omega
theorem cnts_app:∀(l m:List St),cnts (l++m)=cnts l+cnts m
 | [],m=>by rw [List.nil_append,cnts];omega
 | e::r,m=>by rw [List.cons_append,cnts,cnts,cnts_app r m];omega
theorem cnts_one (e:St):cnts [e]=e.cnt:=by rw [cnts,cnts];omega
theorem deeps_le:∀l:List St,(∀e∈l,e.deep≤e.sz∧e.cnt≤e.sz)→deeps l≤szs l∧cnts l≤szs l
 | [],_=>⟨Nat.le_refl _,Nat.le_refl _⟩
 | e::r,h=>by
  rw [deeps,szs,cnts]
  have:=h e (by simp)
  have:=deeps_le r fun k hk=>h k (by simp [hk])
  omega
theorem deep_le:∀(m:Nat) (e:St),e.sz≤m→e.deep≤e.sz∧e.cnt≤e.sz
 | 0,e,h=>by have:=sz_pos e;omega
 | m+1,e,h=>by
  have h1:=deeps_le e.body fun k hk=>deep_le m k (by have:=body_lt hk;omega)
  have h2:=deeps_le e.els fun k hk=>deep_le m k (by have:=els_lt hk;omega)
  have:=e.sz_eq
  rw [deep_eq,cnt_eq]
  omega
theorem cnts_take:∀(l:List St) (k:Nat),cnts (l.take k)≤cnts l
 | [],k=>by simp
 | e::r,0=>by rw [List.take_zero,cnts];omega
 | e::r,k+1=>by rw [List.take_succ_cons,cnts,cnts];have:=cnts_take r k;omega
end St
end Go.Proofs.YthkojpnjdpbcgaaGreatDoor
