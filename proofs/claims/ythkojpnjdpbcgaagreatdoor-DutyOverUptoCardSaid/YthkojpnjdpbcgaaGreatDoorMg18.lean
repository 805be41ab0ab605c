/- What one operation sees and does, of the operations that readers have. No program in sight. Conditions: none. -/
import Derived.Test.YthkojpnjdpbcgaaGreatDoorMg17
set_option linter.unusedVariables false
set_option maxRecDepth 100000
set_option maxHeartbeats 8000000
set_option linter.unusedSimpArgs false
namespace Go.Proofs.YthkojpnjdpbcgaaGreatDoor
open Go.RowKit
section
variable (P:Program)
def xqS (op:Op) (e:Nat→D) (st:List Bx):Rs :=
 match op with
 | .move x=>.fr (evO e x)
 | .assign x=>.fr (evO e x)
 | .load T x=>toR (ldD st (ldk P T) (evO e x))
 | .binOp op T x y _=>toF (bin2 (qcg P T) (eqOk P T) op (evO e x) (evO e y))
 | .unOp op _ x=>toF (un1 op (evO e x))
 | .fieldAddr T x k=>toF (faD (fo P T k) (evO e x))
 | .indexAddr T x i=>toR (ixS st (es P T) (ar P T) (evO e x) (evO e i))
 | .extract x k=>toF (exD k (evO e x))
 | .nilCheck x=>toF (nilD (evO e x))
 | .call ⟨.builtin .len,⟨[x]⟩,⟨[T]⟩⟩=>toR (lenS P st T (evO e x))
 | .call ⟨.builtin .max,⟨[x,y]⟩,_⟩=>toF (mxD true (evO e x) (evO e y))
 | .field T x k=>toF (fdD (fo2 P T k) (evO e x))
 | .build T parts=>toF (buN P T (parts.toList.map fun p=>(p.1,evO e p.2)))
 | .buildSlice T len parts=>toF (xlit P T len (parts.toList.map fun p=>(p.1,evO e p.2)))
 | _=>.no
def xeffS (op:Op) (e:Nat→D) (st:List Bx):Option (D×List Bx) :=
 match op with
 | .box _ x=>boxD st (qap (evO e x))
 | .alloc T=>boxD st (zrowN P T)
 | .store T x y=>stoD st (szo P T) (evO e x) (qap (evO e y))
 | .buildSlice T len parts=>(match len,parts.toList with
  | 0,[]=>xlit0 P T st
  | _,_=>none)
 | _=>none
variable {P}
theorem qf6 {o:Oper} {e:Nat→D} {s:List Bx} {d:D} (h:xqS P o.op e s=.fr d) (st:List Bx):OpJ P st e o d:=by
 unfold xqS at h
 split at h
 ·rename_i x ho;injection h with h;subst h;exact .move ho
 ·rename_i x ho;injection h with h;subst h;exact .assign ho
 ·exact (qf7 h).elim
 ·rename_i ho;exact qa8 ho (qa2 h)
 ·rename_i ho;exact qa8 ho (qa2 h)
 ·rename_i ho;exact qa8 ho (qa2 h)
 ·exact (qf7 h).elim
 ·rename_i ho;exact qa8 ho (qa2 h)
 ·rename_i ho;exact qa8 ho (qa2 h)
 ·exact (qf7 h).elim
 ·rename_i ho;exact qa8 ho (qa2 h)
 ·rename_i ho;exact qa8 ho (qa2 h)
 ·rename_i T parts ho;obtain⟨parts⟩:=parts;exact qhu ho (qa2 h)
 ·rename_i T len parts ho;obtain⟨parts⟩:=parts;exact qh9 ho (qa2 h)
 ·cases h
theorem qkd {o:Oper} {e:Nat→D} {st:List Bx} {d:D} (h:xqS P o.op e st=.rd d):OpJ P st e o d:=by
 unfold xqS at h
 split at h<;>first|(rename_i ho;exact qa8 ho (qid h))|exact (qb4 h).elim|cases h
theorem qlz {o:Oper} {e:Nat→D} {st st':List Bx} {d:D} (h:xeffS P o.op e st=some (d,st')):OpG P st e o d st':=by
 unfold xeffS at h
 split at h
 ·rename_i T x ho
  unfold boxD at h
  split at h
  ·rename_i xs hx
   injection h with h;injection h with h1 h2;subst h1;subst h2
   exact .box ho hx
  ·cases h
 ·rename_i T ho
  unfold boxD at h
  split at h
  ·rename_i xs hx
   injection h with h;injection h with h1 h2;subst h1;subst h2
   exact .allocZ ho fun V=>qgv (V:=V) hx
  ·cases h
 ·rename_i T x y ho
  refine qc5 ?_
  unfold evG
  rw [ho];exact h
 ·rename_i T len parts ho
  obtain⟨parts⟩:=parts
  dsimp only at h
  split at h
  ·unfold xlit0 at h
   split at h
   ·rename_i n zr bt h1 h2 h3
    split at h
    ·rename_i hc
     simp only [Bool.and_eq_true,Nat.blt_eq] at hc
     have e2:=Nat.eq_of_beq_eq_true hc.2
     injection h with h;injection h with h5 h6;subst h5;subst h6
     exact .lit0 ho h1 hc.1 h2 e2 h3
    ·cases h
   ·cases h
  ·cases h
 ·cases h
end
end Go.Proofs.YthkojpnjdpbcgaaGreatDoor
