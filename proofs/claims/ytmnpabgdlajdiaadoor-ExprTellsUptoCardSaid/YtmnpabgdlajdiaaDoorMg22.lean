/- Loops over a list by a counter. No program in sight. Conditions: none. -/
import Derived.Test.YtmnpabgdlajdiaaDoorMg18
import Derived.Test.YtmnpabgdlajdiaaDoorMg9
set_option linter.unusedVariables false
set_option maxRecDepth 100000
set_option maxHeartbeats 8000000
set_option linter.unusedSimpArgs false
namespace Go.Proofs.YtmnpabgdlajdiaaDoor
open Go.RowKit
section
variable {P:Program} {C:Cx P} {n:Nat} {Q:Exit→(Nat→D)→List Bx→Prop} {e:Nat→D} {st:List Bx}
def RDn (env:Nat→List (Nat×D)) (sto:Nat→List Bx) (I:Nat→Prop) (k:Nat) (e':Nat→D) (st':List Bx):Prop :=
 I (k+1)∧∃ex,Agree e' (env (k+1))∧st'=sto (k+1)++ex∧nrE (sto (k+1)).length (env (k+1))=true∧nrS (sto (k+1)).length (sto (k+1))=true
theorem WP.each {α:Type} (l:List α) (enc:α→List A) (m:Nat) (env:Nat→List (Nat×D)) (sto:Nat→List Bx) (I:Nat→Prop) {c:Code} (h0:Agree e (env 0)) (hs:st=sto 0) (hI:I 0) (hn:l.length≤4194304) (hz:∀z,(enc z).length=m)
  (round:∀k z,l[k]? = some z→l.drop k=z::l.drop (k+1)→l.take (k+1)=l.take k++[z]→k<l.length→I k→decide ((k:Int)<((l.length:Nat):Int))=true→(∀q2,ixD (some m) q2 (.a (.sl (l.map enc))) (.a (.v (.int .i64 (k:Int))))=some (.a (.ref (enc z) 0)))→IntKind.i64.wrap ((k:Int)+1)=((k+1:Nat):Int)→WP C n c (thenQ (RDn env sto I k) Q) (envL (env k)) (sto k))
  (last:I l.length→decide ((l.length:Int)<((l.length:Nat):Int))=false→WP C n c (thenQ (fun _ _=>False) Q) (envL (env l.length)) (sto l.length)) (hle:∀k,(sto k).length≤(sto (k+1)).length:=by intros;exact Nat.le_refl _):WP C n (.loop c) Q e st:=by
 refine WP.loopG (α:={ k:Nat // k≤l.length∧I k }) (fun y=>env y.1) (fun y=>sto y.1) (fun y=>l.length-y.1) ⟨0,Nat.zero_le _,hI⟩ h0 hs ?_
 rintro⟨k,hk,hi⟩
 dsimp only
 by_cases hlt:k<l.length
 ·obtain⟨z,hzk⟩:∃z,l[k]? = some z:=⟨_,List.getElem?_eq_getElem hlt⟩
  refine (round k z hzk (by rw [List.drop_eq_getElem_cons hlt];congr 1;exact (List.getElem?_eq_some_iff.1 hzk).2) (take_snocA hzk) hlt hi (decide_eq_true (by omega)) (fun q2=>ixD_at rfl (by rw [List.getElem?_map,hzk];rfl) (hz z)) (wrap64n (by omega))).mono ?_
  intro ex e' st' hq
  cases ex with
  | normal =>
   obtain⟨hi1,ex,h1,h2,h3,h4⟩:=hq
   exact⟨⟨k+1,by omega,hi1⟩,ex,by dsimp only;omega,hle k,h1,h2,h3,h4⟩
  | _=>exact hq
 ·obtain rfl:k=l.length:=by omega
  refine (last hi (decide_eq_false (by omega))).mono ?_
  intro ex e' st' hq
  cases ex with
  | normal=>exact hq.elim
  | _=>exact hq
end
section
variable {P:Program} {ops:Array Oper} {n kf:Nat} {Q:Exit→Act→World→Prop}
end
section
variable {P:Program} {C:Cx P} {n m:Nat} {Q:Exit→(Nat→D)→List Bx→Prop} {e:Nat→D} {st:List Bx} {id:Nat} {l L:List Oper} {segs:List Nat} {ops:Array Oper} {K:(Nat→D)→List Bx→Prop} {q2:(Nat→D)×List Oper}
end
section
variable {P:Program} {ops:Array Oper} {r:List Oper} {o:Oper} {e:Nat→D} {st:List Bx} {K:(Nat→D)→Prop} {dst:Option Nat}
end
section
variable {P:Program} {ops:Array Oper} {r:List Oper} {e:Nat→D} {st:List Bx} {dst:Option Nat} {ty T:TypeId} {pos:String} {after:Array Edge} {K:(Nat→D)→Prop} {guard:Option (Nat×Bool)} {n bs:Nat} {zr:List A} {rows:List (List A)}
end
end Go.Proofs.YtmnpabgdlajdiaaDoor
