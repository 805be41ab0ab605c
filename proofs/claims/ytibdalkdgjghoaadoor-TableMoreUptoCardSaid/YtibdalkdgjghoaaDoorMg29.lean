/- How great a program is: plain answers. No program in sight. Conditions: none. -/
import Derived.Test.YtibdalkdgjghoaaDoorMg28
set_option linter.unusedVariables false
set_option maxRecDepth 100000
set_option maxHeartbeats 8000000
set_option linter.unusedSimpArgs false
namespace Go.Proofs.YtibdalkdgjghoaaDoor
open Go.RowKit
def maxOf {α:Type} (f:α→Nat):List α→Nat
 | []=>0
 | x::r=>max (f x) (maxOf f r)
theorem maxOf_app {α:Type} (f:α→Nat):∀(l m:List α),maxOf f (l++m)=max (maxOf f l) (maxOf f m)
 | [],m=>by rw [List.nil_append,maxOf];omega
 | e::r,m=>by rw [List.cons_append,maxOf,maxOf,maxOf_app f r m];omega
theorem maxOf_one {α:Type} (f:α→Nat) (x:α):maxOf f [x]=f x:=by rw [maxOf,maxOf];omega
def Me.vars (m:Me):Nat:=m.params.length+m.locals.length
def Me.holes (m:Me):Nat:=m.ret.hole+holesN m.params+holesN m.locals+St.inns m.body
def Me.deep (m:Me):Nat:=St.deeps m.body
def Cs.nf (c:Cs):Nat:=c.fields.length
def Cs.nm (c:Cs):Nat:=c.methods.length
def Cs.nv (c:Cs):Nat:=sumOf Me.vars c.methods
def Cs.nh (c:Cs):Nat:=holesN c.fields+sumOf Me.holes c.methods
def Cs.deep (c:Cs):Nat:=maxOf Me.deep c.methods
theorem Me.vars_le (m:Me):m.vars≤m.sz:=by
 have:=sumOf_len Vr.sz_pos m.params
 have:=sumOf_len Vr.sz_pos m.locals
 unfold Me.vars Me.sz;omega
theorem Me.holes_le (m:Me):m.holes≤m.sz:=by
 have:=sumOf_len Vr.sz_pos m.params
 have:=sumOf_len Vr.sz_pos m.locals
 have:=holesN_le m.params
 have:=holesN_le m.locals
 have:=m.ret.hole_le
 have:=St.inns_le m.body
 unfold Me.holes Me.sz;omega
theorem Cs.nf_le (c:Cs):c.nf≤c.sz:=by have:=(Cs.szH (Nat.le_refl c.sz));unfold Cs.nf;omega
theorem Cs.nm_le (c:Cs):c.nm≤c.sz:=by have:=(Cs.szH (Nat.le_refl c.sz));unfold Cs.nm;omega
theorem Cs.nv_le (c:Cs):c.nv≤c.sz:=by
 have:c.nv≤sumOf Me.sz c.methods:=sumOf_le _ fun m _=>m.vars_le
 unfold Cs.sz;omega
theorem Cs.nh_le (c:Cs):c.nh≤c.sz:=by
 have:sumOf Me.holes c.methods≤sumOf Me.sz c.methods:=sumOf_le _ fun m _=>m.holes_le
 have:=holesN_le c.fields
 have:=sumOf_len Vr.sz_pos c.fields
 unfold Cs.nh Cs.sz;omega
def ofT (n:Nat) (l:List Cs):Cn:=⟨n,(sumOf Cs.nf l:Nat),(sumOf Cs.nm l:Nat),(sumOf Cs.nv l:Nat),(sumOf Cs.stmts l:Nat),(maxOf Cs.deep l:Nat),(sumOf Cs.nh l:Nat)⟩
def ofP (l:List Cs):Cn:=ofT l.length l
/-! Too great to be looked at? -/
mutual
def Ex.kidsB (left:Int):Ex→Bool
 | ⟨_,_,_,l⟩=>(decide (left<0)||decide ((l.length:Int)>4))||Ex.kidssB (left-1) l
def Ex.kidssB (left:Int):List Ex→Bool
 | []=>false
 | e::r=>e.kidsB left||Ex.kidssB left r
end
theorem Ex.kids_eq (left:Int) (e:Ex):e.kidsB left=((decide (left<0)||decide ((e.kids.length:Int)>4))||Ex.kidssB (left-1) e.kids):=by cases e;rfl
theorem Ex.kidssB_any (left:Int) (l:List Ex):Ex.kidssB left l=l.any (Ex.kidsB left):=by
 induction l with
 | nil=>rw [kidssB];rfl
 | cons e r ih=>rw [kidssB,ih];rfl
mutual
def St.muchB (left:Int):St→Bool
 | ⟨_,_,_,_,_,e,args,body,els,_⟩=>(decide (left<0)||decide ((body.length:Int)>500)||decide ((els.length:Int)>500)||decide ((args.length:Int)>20)||e.kidsB 25)||(args.any (Ex.kidsB 25)||(St.muchsB (left-1) body||St.muchsB (left-1) els))
def St.muchsB (left:Int):List St→Bool
 | []=>false
 | e::r=>e.muchB left||St.muchsB left r
end
theorem St.much_eq (left:Int) (s:St):s.muchB left=((decide (left<0)||decide ((s.body.length:Int)>500)||decide ((s.els.length:Int)>500)||decide ((s.args.length:Int)>20)||s.e.kidsB 25)||(s.args.any (Ex.kidsB 25)||(St.muchsB (left-1) s.body||St.muchsB (left-1) s.els))):=by cases s;rfl
theorem St.muchsB_any (left:Int) (l:List St):St.muchsB left l=l.any (St.muchB left):=by
 induction l with
 | nil=>rw [muchsB];rfl
 | cons e r ih=>rw [muchsB,ih];rfl
def uniq (v:Vr):Nat:=if v.ty.o0.1==6 then 1 else 0
def Me.uniques (m:Me):Nat:=sumOf uniq m.params+sumOf uniq m.locals
theorem uniq_le (l:List Vr):sumOf uniq l≤l.length:=by
 induction l with
 | nil=>exact Nat.le_refl _
 | cons e r ih =>
  rw [sumOf,List.length_cons]
  have:uniq e≤1:=by unfold uniq;split<;>omega
  omega
def hvBody (n:Nat):List St→Option Nat
 | []=>some n
 | s::r=>bif decide ((n:Int)>500)||s.muchB 25 then none else hvBody (n+s.cnt) r
def hvMe (n:Nat):List Me→Option Nat
 | []=>some n
 | m::r=>bif decide ((m.params.length:Int)>40)||decide ((m.locals.length:Int)>40)||decide ((m.body.length:Int)>500)||decide ((m.uniques:Int)>8) then none else (hvBody n m.body).bind fun k=>hvMe k r
def hvCs (top:Nat) (n:Nat):List Cs→Option Nat
 | []=>some n
 | c::r=>bif decide ((top:Int)>30)||decide ((c.params.length:Int)>20)||decide ((c.above.length:Int)>20)||decide ((c.fields.length:Int)>40)||decide ((c.methods.length:Int)>40) then none else (hvMe n c.methods).bind fun k=>hvCs top k r
def heavyB (l:List Cs):Bool:=match hvCs l.length 0 l with
 | none=>true
 | some n=>decide ((n:Int)>500)
theorem hvBody_app:∀(l:List St) (n:Nat) (m:List St),hvBody n (l++m)=(hvBody n l).bind fun k=>hvBody k m
 | [],n,m=>rfl
 | s::r,n,m=>by
  rw [List.cons_append,hvBody,hvBody]
  cases decide ((n:Int)>500)||s.muchB 25
  ·simp only [cond_false];exact hvBody_app r _ m
  ·rfl
theorem hvMe_app:∀(l:List Me) (n:Nat) (m:List Me),hvMe n (l++m)=(hvMe n l).bind fun k=>hvMe k m
 | [],n,m=>rfl
 | s::r,n,m=>by
  rw [List.cons_append,hvMe,hvMe]
  cases decide ((s.params.length:Int)>40)||decide ((s.locals.length:Int)>40)||decide ((s.body.length:Int)>500)||decide ((s.uniques:Int)>8)
  ·simp only [cond_false]
   cases hvBody n s.body with
   | none=>rfl
   | some k=>exact hvMe_app r k m
  ·rfl
theorem hvCs_app (t:Nat):∀(l:List Cs) (n:Nat) (m:List Cs),hvCs t n (l++m)=(hvCs t n l).bind fun k=>hvCs t k m
 | [],n,m=>rfl
 | s::r,n,m=>by
  rw [List.cons_append,hvCs,hvCs]
  cases decide ((t:Int)>30)||decide ((s.params.length:Int)>20)||decide ((s.above.length:Int)>20)||decide ((s.fields.length:Int)>40)||decide ((s.methods.length:Int)>40)
  ·simp only [cond_false]
   cases hvMe n s.methods with
   | none=>rfl
   | some k=>exact hvCs_app t r k m
  ·rfl
theorem hvBody_le:∀(l:List St) (n k:Nat),hvBody n l=some k→k=n+St.cnts l
 | [],n,k,h=>by injection h with h;rw [St.cnts];omega
 | s::r,n,k,h=>by
  rw [hvBody] at h
  cases hc:decide ((n:Int)>500)||s.muchB 25<;>rw [hc] at h
  ·have:=hvBody_le r _ _ h;rw [St.cnts];omega
  ·cases h
theorem hvMe_le:∀(l:List Me) (n k:Nat),hvMe n l=some k→k=n+sumOf (fun m:Me=>St.cnts m.body) l
 | [],n,k,h=>by injection h with h;rw [sumOf];omega
 | s::r,n,k,h=>by
  rw [hvMe] at h
  cases hc:decide ((s.params.length:Int)>40)||decide ((s.locals.length:Int)>40)||decide ((s.body.length:Int)>500)||decide ((s.uniques:Int)>8)<;>rw [hc] at h
  ·simp only [cond_false,Option.bind_eq_some_iff] at h
   obtain⟨k1,h1,h2⟩:=h
   have:=hvBody_le _ _ _ h1;have:=hvMe_le r _ _ h2;rw [sumOf];omega
  ·cases h
theorem hvCs_le (t:Nat):∀(l:List Cs) (n k:Nat),hvCs t n l=some k→k=n+sumOf Cs.stmts l
 | [],n,k,h=>by injection h with h;rw [sumOf];omega
 | s::r,n,k,h=>by
  rw [hvCs] at h
  cases hc:decide ((t:Int)>30)||decide ((s.params.length:Int)>20)||decide ((s.above.length:Int)>20)||decide ((s.fields.length:Int)>40)||decide ((s.methods.length:Int)>40)<;>rw [hc] at h
  ·simp only [cond_false,Option.bind_eq_some_iff] at h
   obtain⟨k1,h1,h2⟩:=h
   have h3:=hvMe_le _ _ _ h1;have:=hvCs_le t r _ _ h2;rw [sumOf];unfold Cs.stmts;unfold Cs.stmts at this;omega
  ·cases h
theorem w64 {a b c:Nat} (h:a+b=c) (hc:c≤4000000):IntKind.i64.wrap ((a:Int)+(b:Int))=(c:Int):=by rw [wrap64 (by omega) (by omega)];omega
end Go.Proofs.YtibdalkdgjghoaaDoor
