/- Numbers' digits, as the program and as the document write them, on plain data. Conditions: numbers below 10^9. -/
import Derived.Test.YtfbopaaambkfkaaGreatDoorMg23
import Derived.Test.YtfbopaaambkfkaaGreatDoorMg24
import Derived.Test.YtfbopaaambkfkaaGreatDoorMg9
import Derived.Test.YtfbopaaambkfkaaGreatDoorMg17
import Derived.Test.YtfbopaaambkfkaaGreatDoorMg25
import Derived.Test.YtfbopaaambkfkaaGreatDoorMg26
set_option linter.unusedVariables false
set_option maxRecDepth 100000
set_option maxHeartbeats 8000000
set_option linter.unusedSimpArgs false
namespace Go.Proofs.YtfbopaaambkfkaaGreatDoor
open Go.RowKit
section
variable {P:Program} {C:Cx P} {ops:Array Oper} {r:List Oper} {e:Nat→D} {st:List Bx} {dst:Option Nat} {ty src tgt el:TypeId} {pos:String} {after:Array Edge} {K:(Nat→D)→List Bx→Prop} {guard:Option (Nat×Bool)} {x:Operand}
end
def isT (t:Tok) (s:List UInt8):Bool:=(t.kind==3||t.kind==4)&&t.text==s
def tkZ:Tok:=⟨0,[],0⟩
def nowT (l:List Tok) (a:Int):Tok:=if 0≤a∧a<l.length then l.getD a.toNat tkZ else match l.getLast? with
 | none=>tkZ
 | some t=>⟨0,[],t.pos⟩
structure Pt where
 e:Ex
 d:Int
structure Ps where
 at_:Int
 nest:Int
 err:Int
 fat:Int
section
variable (l:List Tok)
end
/-! ### Where the reader ends -/
def Fwd (N:Int) (s:Ps) (ok:Bool) (s':Ps):Prop:=s.at_≤s'.at_∧s'.at_≤N∧s'.nest=s.nest∧(ok=true→s.at_<s'.at_)
section
variable {l:List Tok} {N:Int} (hN:∀a,N≤a→(nowT l a).kind=0)
include hN
theorem qam {a:Int} {t:List UInt8} (h:isT (nowT l a) t=true):a<N:=by
 rcases (show a<N∨N≤a by omega) with h1|h1
 ·exact h1
 ·unfold isT at h;rw [hN a h1] at h;simp at h
theorem qiq {a:Int} (h:(nowT l a).kind≠0):a<N:=by
 rcases (show a<N∨N≤a by omega) with h1|h1
 ·exact h1
 ·exact absurd (hN a h1) h
omit hN in
theorem Fwd.trans {s s1 s2:Ps} {a b c:Bool} (h:Fwd N s a s1) (g:Fwd N s1 b s2) (hc:c=true→a=true):Fwd N s c s2:=by
 obtain⟨h1,h2,h3,h4⟩:=h
 obtain⟨g1,g2,g3,g4⟩:=g
 exact⟨by omega,g2,g3.trans h3,fun hq=>by have:=h4 (hc hq);omega⟩
end
theorem qad (l:List Tok):∀a:Int,(l.length:Int)≤a→(nowT l a).kind=0:=by
 intro a h
 unfold nowT
 rw [if_neg (by omega)]
 split<;>rfl
section
variable {l:List Tok}
end
theorem qmb {s:List UInt8} (h:qan s=true):(⟨2,0,s,[]⟩:Ex).formB=true:=by
 rw [Ex.form_eq];simp [Ex.plainB,Ex.kidsN,Ex.formsB,h]
theorem form_num {n:Nat} (h:n<1000000000):(⟨1,(n:Int),[],[]⟩:Ex).formB=true:=by
 rw [Ex.form_eq];simp [Ex.plainB,Ex.kidsN,Ex.formsB];omega
theorem qmd {k:Int} {a b:Ex} (h:k=6∨k=7∨k=8∨k=9∨k=10∨k=11) (ha:a.formB=true) (hb:b.formB=true):(⟨k,0,[],[a,b]⟩:Ex).formB=true:=by
 rcases h with rfl|rfl|rfl|rfl|rfl|rfl<;>(rw [Ex.form_eq];simp [Ex.plainB,Ex.kidsN,Ex.formsB,Ex.kidB,ha,hb])
theorem form_not {a:Ex} (ha:a.formB=true):(⟨12,0,[],[a]⟩:Ex).formB=true:=by
 rw [Ex.form_eq];simp [Ex.plainB,Ex.kidsN,Ex.formsB,Ex.kidB,ha]
section
variable {l:List Tok} (hT:∀a,(nowT l a).kind=1→qan (nowT l a).text=true)
include hT
end
def Ps.go (s:Ps) (n:Nat):Ps:={ s with at_:=s.at_+n }
section
variable {l:List Tok}
end
section
variable {l:List Tok}
end
section
variable (l:List Tok)
variable {l}
end
section
variable {l:List Tok}
end
end Go.Proofs.YtfbopaaambkfkaaGreatDoor
