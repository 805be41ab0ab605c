/- Where the laws of chapter 20 look, on plain data. Conditions: at most 2^20 of anything. -/
import Derived.Test.YtibdalkdgjghoaaGreatDoorMg41
import Derived.Test.YtibdalkdgjghoaaGreatDoorMg32
set_option linter.unusedVariables false
set_option maxRecDepth 100000
set_option maxHeartbeats 8000000
set_option linter.unusedSimpArgs false
namespace Go.Proofs.YtibdalkdgjghoaaGreatDoor
open Go.RowKit
def fnd (p:List Cs) (i j:Int):Option (Cs×Me):=if 0≤i∧0≤j then (p[i.toNat]?).bind fun c=>(c.methods[j.toNat]?).map fun m=>(c,m) else none
theorem fnd_some {p:List Cs} {i j:Int} {q:Cs×Me} (h:fnd p i j=some q):∃k l:Nat,i=(k:Int)∧j=(l:Int)∧p[k]? = some q.1∧q.1.methods[l]? = some q.2:=by
 unfold fnd at h
 split at h
 ·rename_i hc
  rw [Option.bind_eq_some_iff] at h
  obtain⟨c,h1,h2⟩:=h
  rw [Option.map_eq_some_iff] at h2
  obtain⟨m,h3,rfl⟩:=h2
  exact⟨i.toNat,j.toNat,by omega,by omega,h1,h3⟩
 ·cases h
theorem fnd_at {p:List Cs} {k l:Nat} {c:Cs} {m:Me} (h1:p[k]? = some c) (h2:c.methods[l]? = some m):fnd p (k:Int) (l:Int)=some (c,m):=by
 unfold fnd;rw [if_pos ⟨by omega,by omega⟩,Int.toNat_natCast,Int.toNat_natCast,h1,Option.bind_some,h2];rfl
def atP (p:List Cs) (i j:Int):Option (Cs×Me):=if heavyB p=true then none else fnd p i j
def atR (p:List Cs):Option (Cs×Me)→D
 | some q=>.t [.r (Pc.at ⟨p,q.1,q.2⟩),.a (.v (.bool true))]
 | none=>.t [.r (Pc.at Pc.zero),.a (.v (.bool false))]
theorem pl20At (p:List Cs) (i j:Int) (hzz:sumOf Cs.sz p≤1048576):DPure Tryz.prog 14 [.a (.sl (p.map Cs.at)),.r [.v (.int .i64 i),.v (.int .i64 j)]] (atR p (atP p i j)):=by
 have hpz:=Pc.z0
 have hlen:=sumOf_len Cs.sz_pos p
 refine DPure.go Tryz.func14 rfl Tryz.ntmps14 rfl rfl rfl (fun C hro=>?_)
 have fx:=trivial
 replace fx:=And.intro hpz trivial
 repeat' (first|refine stp [0,1,3,4,5,6,7,11,15,24,36] ?_|(refine RS.sE ?_;refine rnx ?_)|(refine RS.pk ?_;refine rnx ?_)|(refine RS.gF ?_;refine rnx ?_)|(refine RS.lC ?_;refine rnx ?_)|(refine RS.xC ?_;refine rnx ?_)|refine WP.cn (fun hc=>?_) (fun hc=>?_)|((first|refine WP.dw (id:=10) 14 [0,1,3,4,5,6,7,11,15,24,36] ?_);simp only [RQr_mk,List.drop_succ_cons,List.drop_zero,List.drop_nil])|fail)
 refine WP.loopX (α:={ k:Nat // k≤p.length∧(0<k→heavyB p=false)∧(fnd p i j≠none→(k:Int)≤i) }) (fun y=>[(0,.a (.sl (p.map Cs.at))),(3,.a (.ptr 0 0)),(4,.a (.ptr 1 0)),(6,.a (.v (.int .i64 (y.1:Nat))))]) (fun y=>[.cell [.v (.int .i64 i),.v (.int .i64 j)],.cell (Pc.at Pc.zero)]) (fun y=>p.length-y.1) ⟨0,by omega,by omega,fun h=>by
  cases hf:fnd p i j with
  | none=>exact absurd hf h
  | some q=>obtain⟨a,b,h1,_⟩:=fnd_some hf;omega⟩ (by simp only [Agree,go_sem,simprocAttr];first|done|rfl) rfl ?_
 rintro⟨k,hk,hv,hinv⟩
 dsimp only
 by_cases hlt:k<p.length
 ·have hlt2:decide ((k:Int)<((p.length:Nat):Int))=true:=decide_eq_true (by omega)
  obtain⟨z,hz⟩:∃z,p[k]? = some z:=⟨_,List.getElem?_eq_getElem hlt⟩
  have hzm:z∈p:=List.mem_of_getElem? hz
  have hzt:=take_snocA hz
  have hix:∀q2,ixD (some 7) q2 (.a (.sl (p.map Cs.at))) (.a (.v (.int .i64 (k:Int))))=some (.a (.ref (Cs.at z) 0)):=fun q2=>ixD_at rfl (by rw [List.getElem?_map,hz];rfl) (by simp only [go_sem])
  have hwu:=wrap64n (k:=k) (by omega)
  replace fx:=And.intro hlt2 (And.intro hix (And.intro hwu (And.intro hpz trivial)))
  repeat' (first|refine stp [0,1,3,4,5,6,7,11,15,24,36] ?_|(refine RS.sE ?_;refine rnx ?_)|(refine RS.pk ?_;refine rnx ?_)|(refine RS.gF ?_;refine rnx ?_)|(refine RS.lC ?_;refine rnx ?_)|(refine RS.xC ?_;refine rnx ?_)|(refine stc (r1:=by exact pHeavy p hzz) (r2:=?_);refine rnx ?_)|refine WP.cn (fun hc=>?_) (fun hc=>?_)|((first|refine WP.dw (id:=10) 14 [0,1,3,4,5,6,7,11,15,24,36] ?_);simp only [RQr_mk,List.drop_succ_cons,List.drop_zero,List.drop_nil])|fail)
  ·rw [atP,if_pos hc];rfl
  have hv:heavyB p=false:=hc
  refine WP.loopX (α:={ l:Nat // l≤z.methods.length∧(fnd p i j≠none→(k:Int)≤i∧(i=(k:Int)→(l:Int)≤j)) }) (fun y=>[(0,.a (.sl (p.map Cs.at))),(3,.a (.ptr 0 0)),(4,.a (.ptr 1 0)),(6,.a (.v (.int .i64 (k:Nat)))),(7,.a (.v (.int .i64 (y.1:Nat))))]) (fun y=>[.cell [.v (.int .i64 i),.v (.int .i64 j)],.cell (Pc.at Pc.zero)]) (fun y=>z.methods.length-y.1) ⟨0,by omega,fun h=>by
   have h2:=hinv h
   cases hf:fnd p i j with
   | none=>exact absurd hf h
   | some q=>obtain⟨a,b,h1,h3,_⟩:=fnd_some hf;exact⟨h2,by omega⟩⟩ (by simp only [Agree,go_sem,simprocAttr];first|done|rfl) rfl ?_
  rintro⟨l,hl,hinl⟩
  dsimp only
  by_cases hll:l<z.methods.length
  ·have hlt3:decide ((l:Int)<((z.methods.length:Nat):Int))=true:=decide_eq_true (by omega)
   obtain⟨m,hm⟩:∃m,z.methods[l]? = some m:=⟨_,List.getElem?_eq_getElem hll⟩
   have hiz:∀q2,ixD (some 17) q2 (.a (.sl (z.methods.map Me.at))) (.a (.v (.int .i64 (l:Int))))=some (.a (.ref (Me.at m) 0)):=fun q2=>ixD_at rfl (by rw [List.getElem?_map,hm];rfl) (by simp only [go_sem])
   have hzs:z.sz≤1048576:=by have:=sumOf_mem (f:=Cs.sz) hzm;omega
   obtain⟨y1,y2,y3,y4,y5,y6,y7,y8,y9⟩:=Cs.szH hzs
   have hwv:=wrap64n (k:=l) (by omega)
   replace fx:=And.intro hlt3 (And.intro hix (And.intro hiz (And.intro hwu (And.intro hwv (And.intro hpz trivial)))))
   repeat' (first|refine stp [0,1,3,4,5,6,7,11,15,24,36] ?_|(refine RS.sE ?_;refine rnx ?_)|(refine RS.pk ?_;refine rnx ?_)|(refine RS.gF ?_;refine rnx ?_)|(refine RS.lC ?_;refine rnx ?_)|(refine RS.xC ?_;refine rnx ?_)|refine WP.cn (fun hc=>?_) (fun hc=>?_)|((first|refine WP.dw (id:=10) 14 [0,1,3,4,5,6,7,11,15,24,36] ?_);simp only [RQr_mk,List.drop_succ_cons,List.drop_zero,List.drop_nil])|fail)
   ·rw [Bool.and_eq_true,beq_iff_eq,beq_iff_eq] at hc
    rw [atP,if_neg (by rw [hv];exact Bool.false_ne_true),←hc.1,←hc.2,fnd_at hz hm];rfl
   ·refine⟨⟨l+1,by omega,fun h=>?_⟩,[],by dsimp only;omega,by simp only [Agree,go_sem,simprocAttr],rfl,by simp only [nrE,nrD,List.all_cons,List.all_nil,go_sem,simprocAttr],by simp only [go_sem,simprocAttr,Pc.nr]⟩
    obtain⟨h1,h2⟩:=hinl h
    refine⟨h1,fun e=>?_⟩
    have h3:=h2 e
    rw [Bool.and_eq_false_iff,beq_eq_false_iff_ne,beq_eq_false_iff_ne] at hc
    rcases hc with hc|hc<;>omega
  ·obtain rfl:l=z.methods.length:=by omega
   have hlt3:decide ((z.methods.length:Int)<(z.methods.length:Int))=false:=decide_eq_false (by omega)
   replace fx:=And.intro hlt3 (And.intro hix (And.intro hwu (And.intro hpz trivial)))
   repeat' (first|refine stp [0,1,3,4,5,6,7,11,15,24,36] ?_|(refine RS.sE ?_;refine rnx ?_)|(refine RS.pk ?_;refine rnx ?_)|(refine RS.gF ?_;refine rnx ?_)|(refine RS.lC ?_;refine rnx ?_)|(refine RS.xC ?_;refine rnx ?_)|refine WP.cn (fun hc=>?_) (fun hc=>?_)|((first|refine WP.dw (id:=10) 14 [0,1,3,4,5,6,7,11,15,24,36] ?_);simp only [RQr_mk,List.drop_succ_cons,List.drop_zero,List.drop_nil])|fail)
   refine⟨⟨k+1,by omega,fun _=>hv,fun h=>?_⟩,[],by dsimp only;omega,by simp only [Agree,go_sem,simprocAttr],rfl,by simp only [nrE,nrD,List.all_cons,List.all_nil,go_sem,simprocAttr],by simp only [go_sem,simprocAttr,Pc.nr]⟩
   obtain⟨h1,h2⟩:=hinl h
   cases hf:fnd p i j with
   | none=>exact absurd hf h
   | some q =>
    obtain⟨a,b,rfl,rfl,h3,h4⟩:=fnd_some hf
    have hak:a≠k:=fun e=>by
     subst e
     rw [hz] at h3;injection h3 with h3
     have h5:=h2 rfl
     have h6:=(List.getElem?_eq_some_iff.1 h4).1
     rw [←h3] at h6;omega
    omega
 ·obtain rfl:k=p.length:=by omega
  have hlt2:decide ((p.length:Int)<(p.length:Int))=false:=decide_eq_false (by omega)
  replace fx:=And.intro hlt2 (And.intro hpz trivial)
  repeat' (first|refine stp [0,1,3,4,5,6,7,11,15,24,36] ?_|(refine RS.sE ?_;refine rnx ?_)|(refine RS.pk ?_;refine rnx ?_)|(refine RS.gF ?_;refine rnx ?_)|(refine RS.lC ?_;refine rnx ?_)|(refine RS.xC ?_;refine rnx ?_)|refine WP.cn (fun hc=>?_) (fun hc=>?_)|((first|refine WP.dw (id:=10) 14 [0,1,3,4,5,6,7,11,15,24,36] ?_);simp only [RQr_mk,List.drop_succ_cons,List.drop_zero,List.drop_nil])|fail)
  have hno:fnd p i j=none:=by
   cases hf:fnd p i j with
   | none=>rfl
   | some q =>
    obtain⟨a,b,rfl,rfl,h3,h4⟩:=fnd_some hf
    have:=hinv (by rw [hf];exact Option.some_ne_none _)
    have:=(List.getElem?_eq_some_iff.1 h3).1
    omega
  have:atP p i j=none:=by unfold atP;split<;>first|rfl|exact hno
  rw [this];rfl
def awC:Cs:=⟨[65],[],[],[],[],[],0⟩
def awM:Me:=⟨[],false,Ty.zero,[⟨[120],⟨2,[65],0,(2,0),(0,0),(0,0),(0,0)⟩,0⟩],[],[],0⟩
def awS1:St:=⟨8,[],[120],[],Ty.zero,Ex.zero,[],[],[],0⟩
def awS2:St:=⟨1,[120],[],[],Ty.zero,⟨4,0,[],[]⟩,[],[],[],0⟩
theorem aw_ok (s:St) (h:s.sz≤1048576):Ak.ok ⟨[awC],awC,awM,s,Ty.zero,Ty.zero⟩:=⟨by simp,by simp [awC],by simp [awM],by simp [awM],h⟩
theorem awStmt1:DPure Tryz.prog 21 [.a (.sl ([awC].map Cs.at)),.r (Cs.at awC),.r (Me.at awM),.r (St.at awS1)] (.a (.v (.int .i64 22))):=by
 have h:=pgStmt [awC] awC awM awS1 _ _ (by decide) (pAskDel _ (aw_ok awS1 (by decide)) rfl)
 rw [show stmI awC awS1 (delI ⟨[awC],awC,awM,awS1,Ty.zero,Ty.zero⟩).1=22 by decide] at h
 exact h
theorem awStmt2:DPure Tryz.prog 21 [.a (.sl ([awC].map Cs.at)),.r (Cs.at awC),.r (Me.at awM),.r (St.at awS2)] (.a (.v (.int .i64 0))):=by
 have h:=pgStmt [awC] awC awM awS2 _ _ (by decide) (pAskSet _ (aw_ok awS2 (by decide)) rfl)
 rw [show stmI awC awS2 (setI ⟨[awC],awC,awM,awS2,Ty.zero,Ty.zero⟩).1=0 by decide] at h
 exact h
theorem pAwake20:DPure Tryz.prog 16 [] (.a (.v (.bool true))):=by
 refine DPure.go Tryz.func16 rfl Tryz.ntmps16 rfl rfl rfl (fun C hro=>?_)
 have fx:=trivial
 have z1:=zrTy
 have z2:=zrEx
 have z3:=zrSt
 have z4:=zrVr
 have z5:=zrMe
 have z6:=zrCs
 have z7:=zrOw
 replace fx:=And.intro z1 (And.intro z2 (And.intro z3 (And.intro z4 (And.intro z5 (And.intro z6 (And.intro z7 trivial))))))
 repeat' (first|refine stp [0,1,2] ?_|(refine RS.ls ?_;refine rnx ?_)|(refine RS.sE ?_;refine rnx ?_)|(refine RS.pk ?_;refine rnx ?_)|(refine RS.gF ?_;refine rnx ?_)|(refine RS.bC ?_;refine rnx ?_)|(refine stc (r1:=by first|exact awStmt1|exact awStmt2) (r2:=?_);refine rnx ?_)|fail)
 rfl
theorem ak_ok {p:List Cs} {c:Cs} {m:Me} (hp:sumOf Cs.sz p≤1048576) (hc:c∈p) (hm:m∈c.methods) (s:St) (h:s.sz≤1048576) (x o:Ty):Ak.ok ⟨p,c,m,s,x,o⟩:=by
 have hl:=sumOf_len Cs.sz_pos p
 have hcs:c.sz≤1048576:=by have:=sumOf_mem (f:=Cs.sz) hc;omega
 obtain⟨y1,y2,y3,y4,y5,y6,y7,y8,y9⟩:=Cs.szH hcs
 have hms:m.sz≤1048576:=by have:=sumOf_mem (f:=Me.sz) hm;omega
 obtain⟨u1,u2,u3,u4,u5,u6⟩:=Me.szH hms
 exact⟨by dsimp only;omega,y3,by dsimp only;omega,by dsimp only;omega,h⟩
end Go.Proofs.YtibdalkdgjghoaaGreatDoor
