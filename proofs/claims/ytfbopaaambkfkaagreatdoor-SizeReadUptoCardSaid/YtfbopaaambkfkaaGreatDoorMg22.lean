/- Appends and slice literals within a region of drawn order. No program in sight. Conditions: none. -/
import Derived.Test.YtfbopaaambkfkaaGreatDoorMg21
set_option linter.unusedVariables false
set_option maxRecDepth 100000
set_option maxHeartbeats 8000000
set_option linter.unusedSimpArgs false
namespace Go.Proofs.YtfbopaaambkfkaaGreatDoor
open Go.RowKit
section
variable {P:Program} {C:Cx P} {g:D} {ops:Array Oper} {bs:List Nat} {s0:List Bx} {ws:List (Nat×List Bx)} {k:Nat} {r:List Oper} {e:Nat→D} {dst:Option Nat} {ty T:TypeId} {pos:String} {after:Array Edge} {guard:Option (Nat×Bool)} {K:(Nat→D)→Prop} {st st':List Bx} {n i ver bt:Nat} {rows rows2 rows':List (List A)} {zr:List A} {s x:Operand} {d:D}
theorem RWL.lS {len:Nat} {parts:List (Nat×Operand)} (h:RWL C g ops bs s0 ws r (k+1) (putE e dst (.a (.sl rows))) K) (hw:wrSt s0 ws k=none:=by rfl) (hn:es P T=some n:=by (simp only [go_sem])<;>rfl) (hn0:0<n:=by decide) (hlen:0<len:=by decide) (hz:zrT P T=some zr:=by (simp only [go_sem])<;>rfl) (hzl:zr.length=n:=by (simp only [go_sem])<;>rfl) (hcl:zr.all clA=true:=by (simp only [go_sem])<;>rfl) (hby:byt P T=some bt:=by (simp only [go_sem])<;>rfl) (hsm:len*n≤16777216:=by decide)
  (hp:qc5 n (List.replicate len zr) (parts.map fun p=>(p.1,evO e p.2))=some rows:=by (simp only [go_sem,simprocAttr,List.replicate_succ,List.replicate_zero,fx])<;>rfl):RWL C g ops bs s0 ws (⟨dst,.buildSlice T len ⟨parts⟩,ty,pos,after,guard⟩::r) k e K :=
 RWL.rdA hw (fun _=>.of (OpJ.lit rfl hn hn0 hlen hz hzl hcl hby hsm hp)) h
end
section
variable {P:Program} {C:Cx P} {n:Nat} {Q:Exit→(Nat→D)→List Bx→Prop} {e:Nat→D} {st:List Bx}
theorem WP.loopG {α:Type} (env:α→List (Nat×D)) (sto:α→List Bx) (μ:α→Nat) (y:α) {c:Code} (h0:qal e (env y)) (hs:st=sto y)
  (round:∀y,WP C n c (qej (fun e' st'=>∃z ex,μ z<μ y∧(sto y).length≤(sto z).length∧qal e' (env z)∧st'=sto z++ex∧nrE (sto z).length (env z)=true∧nrS (sto z).length (sto z)=true) Q) (envL (env y)) (sto y)):WP C n (.loop c) Q e st:=by
 subst hs
 have main:C.V0.st.length≤(sto y).length→WP C n (.loop c) Q (envL (env y)) (sto y):=by
  intro hV
  refine WP.loopS (fun y e st=>C.V0.st.length≤(sto y).length∧e=envL (env y)∧st=sto y) μ y ⟨hV,rfl,rfl⟩ ?_
  rintro y2 _ _ ⟨hV2,rfl,rfl⟩
  refine (round y2).mono ?_
  intro ex e' st' hq
  cases ex with
  | normal =>
   obtain⟨z,exx,hlt,hle,hag,rfl,hn1,hn2⟩:=hq
   intro a w x bl hm
   exact⟨z,x,_,_,_,hlt,⟨Nat.le_trans hV2 hle,rfl,rfl⟩,(hm.weaken hag).drop (qkp hn1) hn2 (Nat.le_trans hV2 hle)⟩
  | _=>exact hq
 intro a w x bl hm
 exact main hm.m.le.len a w x bl (hm.weaken h0)
end
section
variable {P:Program} {C:Cx P} {ops:Array Oper} {r:List Oper} {e:Nat→D} {st st' st0 st1 bs':List Bx} {K:(Nat→D)→List Bx→Prop} {dst:Option Nat} {ty:TypeId} {pos:String} {after:Array Edge} {j:Nat} {b:Bool} {f:FuncId} {xs:List Operand} {tys:Array TypeId} {vs ds:List D} {d d' g:D} {op:Op}
end
end Go.Proofs.YtfbopaaambkfkaaGreatDoor
