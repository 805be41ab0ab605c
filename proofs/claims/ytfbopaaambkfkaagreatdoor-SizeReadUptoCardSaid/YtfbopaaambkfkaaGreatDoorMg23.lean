/- Conversions: of numbers, of strings, of strings to bytes and back. No program in sight. Conditions: none. -/
import Derived.Test.YtfbopaaambkfkaaGreatDoorMg22
import Derived.Laws.BytesArg
set_option linter.unusedVariables false
set_option maxRecDepth 100000
set_option maxHeartbeats 8000000
set_option linter.unusedSimpArgs false
namespace Go.Proofs.YtfbopaaambkfkaaGreatDoor
open Go.RowKit
section
variable {P:Program} {st:List Bx} {e:Nat→D} {o:Oper} {src dst el:TypeId} {x:Operand}
end
def nl1:A→A
 | .sl []=>.nl
 | x=>x
def zrowN (P:Program) (T:TypeId):Option (List A):=(zrow P T).map fun r=>r.map nl1
theorem zA_nl {V:Vw} {v:Value} {y:A} (h:zA v=some y):RepA V (nl1 y) v:=by
 unfold zA at h
 split at h
 ·injection h with h;subst h;exact .c _ _ .nl
 ·split at h
  ·rename_i hp;injection h with h;subst h;exact .c _ _ (.v _ hp)
  ·cases h
theorem mapM_zA:∀{vs:List Value} {row:List A},vs.mapM zA=some row→∀(j:Nat) (y:A),row[j]? = some y→zA (vs.getD j Go.undef)=some y
 | [],row,h,j,y,hj=>by simp at h;subst h;simp at hj
 | v::vs,row,h,j,y,hj=>by
  rw [List.mapM_cons] at h
  cases hv:zA v with
  | none=>simp [hv] at h
  | some x =>
   cases hvs:vs.mapM zA with
   | none=>simp [hv,hvs] at h
   | some ys =>
    simp [hv,hvs] at h
    subst h
    cases j with
    | zero=>simp at hj;subst hj;exact hv
    | succ j=>exact mapM_zA hvs j y (by simpa using hj)
theorem qi0 {P:Program} {V:Vw} {T:TypeId} {row:List A} (h:zrowN P T=some row):∃i z,P.info? T=some i∧i.zero=some z∧z.cells.size=row.length∧∀(j:Nat) (y:A),row[j]? = some y→RepA V y (z.cells.getD j Go.undef):=by
 unfold zrowN at h
 rw [Option.map_eq_some_iff] at h
 obtain⟨r0,h0,rfl⟩:=h
 obtain⟨i,z,h1,h2,h3,_⟩:=qe1 (V:=V) h0
 refine⟨i,z,h1,h2,by rw [List.length_map];exact h3,fun j y hj=>?_⟩
 rw [List.getElem?_map,Option.map_eq_some_iff] at hj
 obtain⟨y0,hj,rfl⟩:=hj
 unfold zrow at h0
 simp only [h1,h2,Option.bind_some] at h0
 have:=mapM_zA h0 j y0 hj
 rw [List.getD_eq_getElem?_getD] at this
 rw [Array.getD_eq_getD_getElem?,←Array.getElem?_toList]
 exact zA_nl this
def buN (P:Program) (T:TypeId) (parts:List (Nat×D)):Option D:=if bOk P T=true then (zrowN P T).bind fun row=>(qha P T row parts).map D.r else none
theorem buN_sound {P:Program} {st:List Bx} {e:Nat→D} {o:Oper} {T:TypeId} {parts:List (Nat×Operand)} {d:D} (ho:o.op=.build T ⟨parts⟩) (h:buN P T (parts.map fun p=>(p.1,evO e p.2))=some d):OpJ P st e o d:=by
 unfold buN at h
 split at h
 ·rename_i hb
  rw [Option.bind_eq_some_iff] at h
  obtain⟨row,h1,h2⟩:=h
  rw [Option.map_eq_some_iff] at h2
  obtain⟨row',h2,rfl⟩:=h2
  exact .buildZ ho hb (fun V=>qi0 (V:=V) h1) h2
 ·cases h
end Go.Proofs.YtfbopaaambkfkaaGreatDoor
