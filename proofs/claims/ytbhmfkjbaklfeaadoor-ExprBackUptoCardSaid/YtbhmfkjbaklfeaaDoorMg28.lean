/- The reader's records as plain data. No program in sight. Conditions: none. -/
import Derived.Test.YtbhmfkjbaklfeaaDoorMg24
import Derived.Test.YtbhmfkjbaklfeaaDoorMg25
import Derived.Test.YtbhmfkjbaklfeaaDoorMg26
import Derived.Test.YtbhmfkjbaklfeaaDoorMg19
import Derived.Test.YtbhmfkjbaklfeaaDoorMg18
import Derived.Test.YtbhmfkjbaklfeaaDoorMg27
set_option linter.unusedVariables false
set_option maxRecDepth 100000
set_option maxHeartbeats 8000000
set_option linter.unusedSimpArgs false
namespace Go.Proofs.YtbhmfkjbaklfeaaDoor
open Go.RowKit
def Tok.at (t:Tok):List A:=[.v (.int .i64 t.kind),.v (.string (bs t.text)),.v (.int .i64 t.pos)]
section
variable (t:Tok)
@[go_sem] theorem Tok.len':(Tok.at t).length=3:=rfl
@[go_sem] theorem Tok.cl:(Tok.at t).all clA=true:=rfl
@[go_sem] theorem Tok.see (st:List Bx):(Tok.at t).map (seeA st)=Tok.at t:=rfl
@[go_sem] theorem Tok.w:ldRow (some 3) (Tok.at t) 0=some (.r (Tok.at t)):=ldRow_all rfl
@[go_sem] theorem Tok.pw (u:Tok):putRow (Tok.at t) 0 (Tok.at u)=Tok.at u:=rfl
@[go_sem] theorem Tok.g0:ldRow none (Tok.at t) 0=some (.a (.v (.int .i64 t.kind))):=rfl
@[go_sem] theorem Tok.g1:ldRow none (Tok.at t) 1=some (.a (.v (.string (bs t.text)))):=rfl
@[go_sem] theorem Tok.g2:ldRow none (Tok.at t) 2=some (.a (.v (.int .i64 t.pos))):=rfl
@[go_sem] theorem Tok.rn (σ:List Nat):(Tok.at t).map (rnA σ)=Tok.at t:=rfl
@[go_sem] theorem Tok.un (σ:List Nat):(Tok.at t).map (unA σ)=Tok.at t:=rfl
@[go_sem] theorem Tok.inn (σ:List Nat):(Tok.at t).all (inA σ)=true:=rfl
@[go_sem] theorem Tok.pz:putRow [.v (.int .i64 0),.v (.string ⟨#[]⟩),.v (.int .i64 0)] 0 (Tok.at t)=Tok.at t:=rfl
@[go_sem] theorem Tok.nr (m:Nat):(Tok.at t).all (nrA m)=true:=rfl
end
def prR (l:List Tok) (s:Ps):List A:=[.sl (l.map Tok.at),.v (.int .i64 s.at_),.v (.int .i64 s.nest),.v (.int .i64 s.err),.v (.int .i64 s.fat)]
section
variable (l:List Tok) (s:Ps)
@[go_sem] theorem prR_len:(prR l s).length=5:=rfl
@[go_sem] theorem prR_cl:(prR l s).all clA=true:=rfl
@[go_sem] theorem prR_see (st:List Bx):(prR l s).map (seeA st)=prR l s:=rfl
@[go_sem] theorem prR_w:ldRow (some 5) (prR l s) 0=some (.r (prR l s)):=ldRow_all rfl
@[go_sem] theorem prR_g0:ldRow none (prR l s) 0=some (.a (.sl (l.map Tok.at))):=rfl
@[go_sem] theorem prR_g1:ldRow none (prR l s) 1=some (.a (.v (.int .i64 s.at_))):=rfl
@[go_sem] theorem prR_g2:ldRow none (prR l s) 2=some (.a (.v (.int .i64 s.nest))):=rfl
@[go_sem] theorem prR_g3:ldRow (some 2) (prR l s) 3=some (.r [.v (.int .i64 s.err),.v (.int .i64 s.fat)]):=rfl
@[go_sem] theorem prR_p1 (z:Int):putRow (prR l s) 1 [.v (.int .i64 z)]=prR l { s with at_:=z }:=rfl
@[go_sem] theorem prR_p2 (z:Int):putRow (prR l s) 2 [.v (.int .i64 z)]=prR l { s with nest:=z }:=rfl
@[go_sem] theorem prR_p3 (x y:Int):putRow (prR l s) 3 [.v (.int .i64 x),.v (.int .i64 y)]=prR l (s.bad x y):=rfl
@[go_sem] theorem prR_rn (σ:List Nat):(prR l s).map (rnA σ)=prR l s:=rfl
@[go_sem] theorem prR_un (σ:List Nat):(prR l s).map (unA σ)=prR l s:=rfl
@[go_sem] theorem prR_in (σ:List Nat):(prR l s).all (inA σ)=true:=rfl
@[go_sem] theorem prR_nr (m:Nat):(prR l s).all (nrA m)=true:=rfl
end
def Pt.at (x:Pt):List A:=Ex.at x.e++[.v (.int .i64 x.d)]
section
variable (x:Pt)
@[go_sem] theorem Pt.len:(Pt.at x).length=5:=by unfold Pt.at;rw [List.length_append,Ex.len];rfl
@[go_sem] theorem Pt.cl:(Pt.at x).all clA=true:=by unfold Pt.at;rw [List.all_append,Ex.cl];rfl
@[go_sem] theorem Pt.see (st:List Bx):(Pt.at x).map (seeA st)=Pt.at x:=by unfold Pt.at;rw [List.map_append,Ex.see];rfl
@[go_sem] theorem Pt.w:ldRow (some 5) (Pt.at x) 0=some (.r (Pt.at x)):=ldRow_all (Pt.len x)
@[go_sem] theorem Pt.pw (y:Pt):putRow (Pt.at x) 0 (Pt.at y)=Pt.at y:=putRow_all (by rw [Pt.len,Pt.len])
@[go_sem] theorem Pt.s0:ldRow (some 4) (Pt.at x) 0=some (.r (Ex.at x.e)):=by obtain⟨⟨k,n,s,l⟩,d⟩:=x;simp only [Pt.at,Ex.at,Ex.ats_map];rfl
@[go_sem] theorem Pt.g4:ldRow none (Pt.at x) 4=some (.a (.v (.int .i64 x.d))):=by obtain⟨⟨k,n,s,l⟩,d⟩:=x;simp only [Pt.at,Ex.at,Ex.ats_map];rfl
@[go_sem] theorem Pt.g3:ldRow none (Pt.at x) 3=some (.a (.sl (x.e.kids.map Ex.at))):=by obtain⟨⟨k,n,s,l⟩,d⟩:=x;simp only [Pt.at,Ex.at,Ex.ats_map];rfl
@[go_sem] theorem Pt.p0 (z:Int):putRow (Pt.at x) 0 [.v (.int .i64 z)]=Pt.at ⟨{ x.e with kind:=z },x.d⟩:=by obtain⟨⟨k,n,s,l⟩,d⟩:=x;simp only [Pt.at,Ex.at,Ex.ats_map];rfl
@[go_sem] theorem Pt.pe (e:Ex):putRow (Pt.at x) 0 (Ex.at e)=Pt.at ⟨e,x.d⟩:=by obtain⟨⟨k,n,s,l⟩,d⟩:=x;obtain⟨k',n',s',l'⟩:=e;simp only [Pt.at,Ex.at,Ex.ats_map];rfl
@[go_sem] theorem Pt.p4 (z:Int):putRow (Pt.at x) 4 [.v (.int .i64 z)]=Pt.at ⟨x.e,z⟩:=by obtain⟨⟨k,n,s,l⟩,d⟩:=x;simp only [Pt.at,Ex.at,Ex.ats_map];rfl
@[go_sem] theorem Pt.rn (σ:List Nat):(Pt.at x).map (rnA σ)=Pt.at x:=by obtain⟨⟨k,n,s,l⟩,d⟩:=x;simp only [Pt.at,Ex.at,Ex.ats_map];rfl
@[go_sem] theorem Pt.un (σ:List Nat):(Pt.at x).map (unA σ)=Pt.at x:=by obtain⟨⟨k,n,s,l⟩,d⟩:=x;simp only [Pt.at,Ex.at,Ex.ats_map];rfl
@[go_sem] theorem Pt.inn (σ:List Nat):(Pt.at x).all (inA σ)=true:=by obtain⟨⟨k,n,s,l⟩,d⟩:=x;simp only [Pt.at,Ex.at,Ex.ats_map];rfl
@[go_sem] theorem Pt.pz:putRow [.v (.int .i64 0),.v (.int .i64 0),.v (.string ⟨#[]⟩),.sl [],.v (.int .i64 0)] 0 (Pt.at x)=Pt.at x:=by obtain⟨⟨k,n,s,l⟩,d⟩:=x;simp only [Pt.at,Ex.at,Ex.ats_map];rfl
@[go_sem] theorem Pt.nr (m:Nat):(Pt.at x).all (nrA m)=true:=nr_of_cl (Pt.cl x)
end
theorem Pt.lit (k n:Int) (s:List UInt8) (d:Int):[A.v (.int .i64 k),.v (.int .i64 n),.v (.string (bs s)),.sl [],.v (.int .i64 d)]=Pt.at ⟨⟨k,n,s,[]⟩,d⟩:=by simp only [Pt.at,Ex.at,Ex.ats_map];rfl
theorem Pt.litZ (k n:Int) (d:Int):[A.v (.int .i64 k),.v (.int .i64 n),.v (.string ⟨#[]⟩),.sl [],.v (.int .i64 d)]=Pt.at ⟨⟨k,n,[],[]⟩,d⟩:=Pt.lit k n [] d
section
variable {P:Program} {C:Cx P} {n:Nat} {O:D→List Bx→D→Prop} {e:Nat→D} {st:List Bx} {d d0 d2:D}
theorem retMCT {T:TypeId} {t u i off:Nat} {row:List A} {k:Option Nat} (h:O (.t [d0,d2]) st (e 1000000)) (he:e t=.a (.ptr i off):=by (simp only [go_sem,simprocAttr,fx])<;>rfl) (hs:st[i]? = some (.cell row):=by (simp only [go_sem,simprocAttr,fx])<;>rfl) (hk:ldk P T=some k:=by (simp only [go_sem])<;>rfl) (hd:ldRow k row off=some d0:=by (simp only [go_sem,simprocAttr,fx])<;>rfl) (he2:e u=d2:=by (simp only [go_sem,simprocAttr,fx])<;>rfl) (ht:decide (t<n)=true:=by rfl) (hu:decide (u<n)=true:=by rfl):retM P n [.cell t T,.tmp u] O .ret e st:=by
 refine⟨.t [d0,d2],?_,h⟩
 refine⟨[d0,d2],rfl,?_⟩
 simp only [List.map_cons,List.map_nil,resM1]
 rw [if_pos (of_decide_eq_true ht),if_pos (of_decide_eq_true hu),he,he2]
 simp only [hs,hk,hd]
end
section
variable {P:Program} {C:Cx P} {ops:Array Oper} {r:List Oper} {e:Nat→D} {st:List Bx} {dst:Option Nat} {ty T:TypeId} {pos:String} {after:Array Edge} {K:(Nat→D)→List Bx→Prop} {guard:Option (Nat×Bool)} {row:List A} {parts:List (Nat×Operand)}
theorem RS.bN (h:RS C ops r (putE e dst (.r row)) st K) (hb:buN P T (parts.map fun p=>(p.1,evO e p.2))=some (.r row)):RS C ops (⟨dst,.build T ⟨parts⟩,ty,pos,after,guard⟩::r) e st K :=
 .inl ⟨_,st,.inr ⟨rfl,.of (buN_sound rfl hb)⟩,h⟩
end
theorem pkIs (t:Tok) (s:List UInt8):DPure Tryd.prog 39 [.r (Tok.at t),.a (.v (.string (bs s)))] (.a (.v (.bool (isT t s)))):=by
 by_cases h3:t.kind=3
 ·have g3:(t.kind==3)=true:=by simp [h3]
  refine DPure.go Tryd.func39 rfl Tryd.ntmps39 rfl rfl rfl (fun C hro=>?_)
  have fx:=trivial
  replace fx:=And.intro g3 trivial
  repeat' (first|refine stp [0,1,2,4,6,7] ?_|refine WP.cn (fun hc=>?_) (fun hc=>?_)|fail)
  refine bool_eq ?_
  unfold isT;rw [g3];simp
 ·have g3:(t.kind==3)=false:=by simp [h3]
  by_cases h4:t.kind=4
  ·have g4:(t.kind==4)=true:=by simp [h4]
   refine DPure.go Tryd.func39 rfl Tryd.ntmps39 rfl rfl rfl (fun C hro=>?_)
   have fx:=trivial
   replace fx:=And.intro g3 (And.intro g4 trivial)
   repeat' (first|refine stp [0,1,2,4,6,7] ?_|refine WP.cn (fun hc=>?_) (fun hc=>?_)|fail)
   refine bool_eq ?_
   unfold isT;rw [g3,g4];simp
  ·have g4:(t.kind==4)=false:=by simp [h4]
   refine DPure.go Tryd.func39 rfl Tryd.ntmps39 rfl rfl rfl (fun C hro=>?_)
   have fx:=trivial
   replace fx:=And.intro g3 (And.intro g4 trivial)
   repeat' (first|refine stp [0,1,2,4,6,7] ?_|refine WP.cn (fun hc=>?_) (fun hc=>?_)|fail)
   refine bool_eq ?_
   unfold isT;rw [g3,g4];rfl
theorem pkNow (l:List Tok) (s:Ps) (hl:l.length≤1048576):DM Tryd.prog 27 [.a (.ptr 0 0)] [.cell (prR l s)] (.r (Tok.at (nowT l s.at_))) [.cell (prR l s)]:=by
 by_cases h0:0≤s.at_
 ·have g0:decide (s.at_≥0)=true:=decide_eq_true h0
  obtain⟨k,hk⟩:∃k:Nat,s.at_=k:=⟨s.at_.toNat,by omega⟩
  by_cases hlt:k<l.length
  ·have g1:decide ((k:Int)<(l.length:Int))=true:=decide_eq_true (by omega)
   have g2:decide ((k:Int)≥0)=true:=decide_eq_true (by omega)
   have hz:l[k]? = some l[k]:=List.getElem?_eq_getElem hlt
   have hix:∀q2,ixD (some 3) q2 (.a (.sl (l.map Tok.at))) (.a (.v (.int .i64 (k:Int))))=some (.a (.ref (Tok.at l[k]) 0)):=fun q2=>ixE hz rfl q2
   have hn:nowT l s.at_=l[k]:=by
    unfold nowT
    rw [hk,if_pos (by omega)]
    simp [hlt]
   rw [hn]
   refine DM.intro Tryd.func27 rfl Tryd.ntmps27 rfl rfl rfl (by simp only [go_sem,simprocAttr]) (fun V0 Kb Nx=>?_)
   have fx:=trivial
   replace fx:=And.intro hk (And.intro g1 (And.intro g2 (And.intro hix trivial)))
   repeat' (first|refine stp [0,2,19,35] ?_|(refine RS.sE ?_;refine rnx ?_)|(refine RS.pk ?_;refine rnx ?_)|(refine RS.gF ?_;refine rnx ?_)|(refine RS.lC ?_;refine rnx ?_)|(refine RS.xC ?_;refine rnx ?_)|refine WP.cn (fun hc=>?_) (fun hc=>?_)|((first|refine WP.dw (id:=1) 17 [0,2,19,35] ?_|refine WP.dw (id:=2) 10 [0,2,19,35] ?_|refine WP.dw (id:=5) 14 [0,2,19,35] ?_);simp only [RQr_mk,List.drop_succ_cons,List.drop_zero,List.drop_nil])|fail)
   exact retMC ⟨rfl,_,rfl⟩
  ·have g1:decide (s.at_<(l.length:Int))=false:=decide_eq_false (by omega)
   have hout:nowT l s.at_=match l.getLast? with|none=>tkZ|some t=>⟨0,[],t.pos⟩:=if_neg (by omega)
   rcases List.eq_nil_or_concat l with hnil|⟨l',t,hcat⟩
   ·have e0:((l.length:Int)==0)=true:=by rw [hnil];rfl
    have hlast:l.getLast? = none:=by rw [hnil];rfl
    rw [hout,hlast]
    refine DM.intro Tryd.func27 rfl Tryd.ntmps27 rfl rfl rfl (by simp only [go_sem,simprocAttr]) (fun V0 Kb Nx=>?_)
    have fx:=trivial
    replace fx:=And.intro g0 (And.intro g1 (And.intro e0 trivial))
    repeat' (first|refine stp [0,2,19,35] ?_|(refine RS.sE ?_;refine rnx ?_)|(refine RS.pk ?_;refine rnx ?_)|(refine RS.gF ?_;refine rnx ?_)|(refine RS.lC ?_;refine rnx ?_)|(refine RS.xC ?_;refine rnx ?_)|refine WP.cn (fun hc=>?_) (fun hc=>?_)|((first|refine WP.dw (id:=1) 17 [0,2,19,35] ?_|refine WP.dw (id:=2) 10 [0,2,19,35] ?_|refine WP.dw (id:=5) 14 [0,2,19,35] ?_);simp only [RQr_mk,List.drop_succ_cons,List.drop_zero,List.drop_nil])|fail)
    exact retMC ⟨rfl,_,rfl⟩
   ·have hlen:l.length=l'.length+1:=by rw [hcat];simp
    have e0:((l.length:Int)==0)=false:=by rw [hlen];simp;omega
    have hw:IntKind.i64.wrap ((l.length:Int)-1)=((l'.length:Nat):Int):=(wrap64 (by omega) (by omega)).trans (by omega)
    have hz:l[l'.length]? = some t:=by rw [hcat];simp
    have hix:∀q2,ixD (some 3) q2 (.a (.sl (l.map Tok.at))) (.a (.v (.int .i64 ((l'.length:Nat):Int))))=some (.a (.ref (Tok.at t) 0)):=fun q2=>ixE hz rfl q2
    have hlast:l.getLast? = some t:=by rw [hcat];simp
    rw [hout,hlast]
    refine DM.intro Tryd.func27 rfl Tryd.ntmps27 rfl rfl rfl (by simp only [go_sem,simprocAttr]) (fun V0 Kb Nx=>?_)
    have fx:=trivial
    replace fx:=And.intro g0 (And.intro g1 (And.intro e0 (And.intro hw (And.intro hix trivial))))
    repeat' (first|refine stp [0,2,19,35] ?_|(refine RS.sE ?_;refine rnx ?_)|(refine RS.pk ?_;refine rnx ?_)|(refine RS.gF ?_;refine rnx ?_)|(refine RS.lC ?_;refine rnx ?_)|(refine RS.xC ?_;refine rnx ?_)|refine WP.cn (fun hc=>?_) (fun hc=>?_)|((first|refine WP.dw (id:=1) 17 [0,2,19,35] ?_|refine WP.dw (id:=2) 10 [0,2,19,35] ?_|refine WP.dw (id:=5) 14 [0,2,19,35] ?_);simp only [RQr_mk,List.drop_succ_cons,List.drop_zero,List.drop_nil])|fail)
    exact retMC ⟨rfl,_,rfl⟩
 ·have g0:decide (s.at_≥0)=false:=decide_eq_false (by omega)
  have hout:nowT l s.at_=match l.getLast? with|none=>tkZ|some t=>⟨0,[],t.pos⟩:=if_neg (by omega)
  rcases List.eq_nil_or_concat l with hnil|⟨l',t,hcat⟩
  ·have e0:((l.length:Int)==0)=true:=by rw [hnil];rfl
   have hlast:l.getLast? = none:=by rw [hnil];rfl
   rw [hout,hlast]
   refine DM.intro Tryd.func27 rfl Tryd.ntmps27 rfl rfl rfl (by simp only [go_sem,simprocAttr]) (fun V0 Kb Nx=>?_)
   have fx:=trivial
   replace fx:=And.intro g0 (And.intro e0 trivial)
   repeat' (first|refine stp [0,2,19,35] ?_|(refine RS.sE ?_;refine rnx ?_)|(refine RS.pk ?_;refine rnx ?_)|(refine RS.gF ?_;refine rnx ?_)|(refine RS.lC ?_;refine rnx ?_)|(refine RS.xC ?_;refine rnx ?_)|refine WP.cn (fun hc=>?_) (fun hc=>?_)|((first|refine WP.dw (id:=1) 17 [0,2,19,35] ?_|refine WP.dw (id:=2) 10 [0,2,19,35] ?_|refine WP.dw (id:=5) 14 [0,2,19,35] ?_);simp only [RQr_mk,List.drop_succ_cons,List.drop_zero,List.drop_nil])|fail)
   exact retMC ⟨rfl,_,rfl⟩
  ·have hlen:l.length=l'.length+1:=by rw [hcat];simp
   have e0:((l.length:Int)==0)=false:=by rw [hlen];simp;omega
   have hw:IntKind.i64.wrap ((l.length:Int)-1)=((l'.length:Nat):Int):=(wrap64 (by omega) (by omega)).trans (by omega)
   have hz:l[l'.length]? = some t:=by rw [hcat];simp
   have hix:∀q2,ixD (some 3) q2 (.a (.sl (l.map Tok.at))) (.a (.v (.int .i64 ((l'.length:Nat):Int))))=some (.a (.ref (Tok.at t) 0)):=fun q2=>ixE hz rfl q2
   have hlast:l.getLast? = some t:=by rw [hcat];simp
   rw [hout,hlast]
   refine DM.intro Tryd.func27 rfl Tryd.ntmps27 rfl rfl rfl (by simp only [go_sem,simprocAttr]) (fun V0 Kb Nx=>?_)
   have fx:=trivial
   replace fx:=And.intro g0 (And.intro e0 (And.intro hw (And.intro hix trivial)))
   repeat' (first|refine stp [0,2,19,35] ?_|(refine RS.sE ?_;refine rnx ?_)|(refine RS.pk ?_;refine rnx ?_)|(refine RS.gF ?_;refine rnx ?_)|(refine RS.lC ?_;refine rnx ?_)|(refine RS.xC ?_;refine rnx ?_)|refine WP.cn (fun hc=>?_) (fun hc=>?_)|((first|refine WP.dw (id:=1) 17 [0,2,19,35] ?_|refine WP.dw (id:=2) 10 [0,2,19,35] ?_|refine WP.dw (id:=5) 14 [0,2,19,35] ?_);simp only [RQr_mk,List.drop_succ_cons,List.drop_zero,List.drop_nil])|fail)
   exact retMC ⟨rfl,_,rfl⟩
theorem pkBad (l:List Tok) (s:Ps) (e p:Int):DM Tryd.prog 29 [.a (.ptr 0 0),.a (.v (.int .i64 e)),.a (.v (.int .i64 p))] [.cell (prR l s)] (.a (.v (.bool false))) [.cell (prR l (s.bad e p))]:=by
 refine DM.intro Tryd.func29 rfl Tryd.ntmps29 rfl rfl rfl (by simp only [go_sem,simprocAttr]) (fun V0 Kb Nx=>?_)
 have fx:=trivial
 repeat' (first|refine stp [0,1,2,6] ?_|(refine RS.sE ?_;refine rnx ?_)|fail)
 exact retM1 ⟨rfl,_,rfl⟩
theorem pkTake (l:List Tok) (s:Ps) (t:List UInt8) (hl:l.length≤1048576) (h0:0≤s.at_) (h1:s.at_≤l.length):DM Tryd.prog 43 [.a (.ptr 0 0),.a (.v (.string (bs t)))] [.cell (prR l s)] (.a (.v (.bool (isT (nowT l s.at_) t)))) [.cell (prR l (if isT (nowT l s.at_) t=true then s.adv else s))]:=by
 have hn:=pkNow l s hl
 have hi:=pkIs (nowT l s.at_) t
 have hw:IntKind.i64.wrap (s.at_+1)=s.at_+1:=wrap64 (by omega) (by omega)
 cases hb:isT (nowT l s.at_) t
 ·rw [if_neg (by decide)]
  rw [hb] at hi
  refine DM.intro Tryd.func43 rfl Tryd.ntmps43 rfl rfl rfl (by simp only [go_sem,simprocAttr]) (fun V0 Kb Nx=>?_)
  have fx:=trivial
  repeat' (first|refine stp [0,1,4,9] ?_|(refine RS.sE ?_;refine rnx ?_)|(refine stc (r1:=by exact hi) (r2:=?_);refine rnx ?_)|(refine RS.cM [0] (hp:=by exact hn) (h:=?_);refine rnx ?_)|refine WP.cn (fun hc=>?_) (fun hc=>?_)|fail)
  exact retM1 ⟨rfl,_,rfl⟩
 ·rw [if_pos rfl]
  rw [hb] at hi
  refine DM.intro Tryd.func43 rfl Tryd.ntmps43 rfl rfl rfl (by simp only [go_sem,simprocAttr]) (fun V0 Kb Nx=>?_)
  have fx:=trivial
  replace fx:=And.intro hw trivial
  repeat' (first|refine stp [0,1,4,9] ?_|(refine RS.sE ?_;refine rnx ?_)|(refine stc (r1:=by exact hi) (r2:=?_);refine rnx ?_)|(refine RS.cM [0] (hp:=by exact hn) (h:=?_);refine rnx ?_)|refine WP.cn (fun hc=>?_) (fun hc=>?_)|fail)
  exact retM1 ⟨rfl,_,rfl⟩
theorem Ex.lit (k n:Int) (s:List UInt8):[A.v (.int .i64 k),.v (.int .i64 n),.v (.string (bs s)),.sl []]=Ex.at ⟨k,n,s,[]⟩:=by simp only [Ex.at,Ex.ats_map];rfl
theorem Ex.litZ (k n:Int):[A.v (.int .i64 k),.v (.int .i64 n),.v (.string ⟨#[]⟩),.sl []]=Ex.at ⟨k,n,[],[]⟩:=Ex.lit k n []
theorem pkMust (l:List Tok) (s:Ps) (t:List UInt8) (hl:l.length≤1048576) (h0:0≤s.at_) (h1:s.at_≤l.length):DM Tryd.prog 42 [.a (.ptr 0 0),.a (.v (.string (bs t)))] [.cell (prR l s)] (.a (.v (.bool (mustP l s t).1))) [.cell (prR l (mustP l s t).2)]:=by
 have hn:=pkNow l s hl
 have ht:=pkTake l s t hl h0 h1
 have hb:=pkBad l s 3 (nowT l s.at_).pos
 unfold mustP
 cases hi:isT (nowT l s.at_) t
 ·rw [hi,if_neg (by decide)] at ht
  rw [if_neg (by decide)]
  refine DM.intro Tryd.func42 rfl Tryd.ntmps42 rfl rfl rfl (by simp only [go_sem,simprocAttr]) (fun V0 Kb Nx=>?_)
  have fx:=trivial
  repeat' (first|refine stp [0,1,4] ?_|(refine RS.pk ?_;refine rnx ?_)|(refine RS.gF ?_;refine rnx ?_)|(refine RS.cM [0] (hp:=by first|exact ht|exact hn|exact hb) (h:=?_);refine rnx ?_)|(refine RS.gM [0] (hp:=by first|exact ht|exact hn|exact hb) (h:=?_);refine rnx ?_)|fail)
  exact retM1 ⟨rfl,_,rfl⟩
 ·rw [hi,if_pos rfl] at ht
  rw [if_pos rfl]
  refine DM.intro Tryd.func42 rfl Tryd.ntmps42 rfl rfl rfl (by simp only [go_sem,simprocAttr]) (fun V0 Kb Nx=>?_)
  have fx:=trivial
  repeat' (first|refine stp [0,1,4] ?_|(refine RS.pk ?_;refine rnx ?_)|(refine RS.gF ?_;refine rnx ?_)|(refine RS.cM [0] (hp:=by exact ht) (h:=?_);refine rnx ?_)|(refine RS.gM [0] (hp:=by exact ht) (h:=?_);refine rnx ?_)|fail)
  exact retM1 ⟨rfl,_,rfl⟩
theorem pkAtom (l:List Tok) (s:Ps) (b:Bool) (hl:l.length≤1048576) (h0:0≤s.at_) (h1:s.at_≤l.length):DM Tryd.prog 46 [.a (.ptr 0 0),.a (.v (.bool b))] [.cell (prR l s)] (.t [.r (Pt.at (atomP l s b).1),.a (.v (.bool (atomP l s b).2.1))]) [.cell (prR l (atomP l s b).2.2)]:=by
 have hn:=pkNow l s hl
 have hi1:=pkIs (nowT l s.at_) [116,104,105,115]
 have hi2:=pkIs (nowT l s.at_) [110,117,108,108]
 have hb:=pkBad l s 3 (nowT l s.at_).pos
 have hw:IntKind.i64.wrap (s.at_+1)=s.at_+1:=wrap64 (by omega) (by omega)
 have p1:=Pt.litZ
 have p2:=Ex.lit
 unfold atomP
 generalize nowT l s.at_=t at *
 by_cases hk:t.kind=1
 ·have g1:(t.kind==1)=true:=by simp [hk]
  rw [if_pos hk]
  refine DM.intro Tryd.func46 rfl Tryd.ntmps46 rfl rfl rfl (by simp only [go_sem,simprocAttr]) (fun V0 Kb Nx=>?_)
  have fx:=trivial
  replace fx:=And.intro hw (And.intro p1 (And.intro p2 (And.intro g1 trivial)))
  repeat' (first|(refine RWL.fin ?_;try simp only [thenQ_n,blockQ_n])|refine stp [0,1,4,5,6,7,16,24,29] ?_|(refine RS.sE ?_;refine rnx ?_)|(refine RS.pk ?_;refine rnx ?_)|(refine RS.gF ?_;refine rnx ?_)|refine RWL.fr ?_|refine RWL.wt ?_|(refine RS.cM [0] (hp:=by exact hn) (h:=?_);refine rnx ?_)|(refine RS.gM [0] (hp:=by exact hn) (h:=?_);refine rnx ?_)|(refine' WP.dl (id:=3) [0,0,0,4,14,31,63] [0,1,4,5,6,7,16,24,29] [4,5] [(4,_),(5,_)] ?_)|(refine RWL.cM [0] (hp:=by exact hn) (h:=?_))|(refine RWL.gM [0] (hp:=by exact hn) (h:=?_))|refine RWL.re ?_ ?_|refine RdO.oz|refine RdO.oa ?_|refine RdO.oe ?_|refine RdO.on|refine WP.cn (fun hc=>?_) (fun hc=>?_)|fail)
  exact retMCT ⟨rfl,_,rfl⟩
 have g1:(t.kind==1)=false:=by simp [hk]
 rw [if_neg hk]
 cases ht:isT t [116,104,105,115]
 ·rw [if_neg (by decide)]
  rw [ht] at hi1
  cases b
  ·rw [if_neg (by simp)]
   refine DM.intro Tryd.func46 rfl Tryd.ntmps46 rfl rfl rfl (by simp only [go_sem,simprocAttr]) (fun V0 Kb Nx=>?_)
   have fx:=trivial
   replace fx:=And.intro hw (And.intro p1 (And.intro p2 (And.intro g1 trivial)))
   repeat' (first|(refine RWL.fin ?_;try simp only [thenQ_n,blockQ_n])|refine stp [0,1,4,5,6,7,16,24,29] ?_|(refine RS.sE ?_;refine rnx ?_)|(refine RS.pk ?_;refine rnx ?_)|(refine RS.gF ?_;refine rnx ?_)|refine RWL.fr ?_|refine RWL.wt ?_|(refine stc (r1:=by first|exact hi1|exact hi2) (r2:=?_);refine rnx ?_)|(refine RS.cM [0] (hp:=by first|exact hn|exact hb) (h:=?_);refine rnx ?_)|(refine RS.gM [0] (hp:=by first|exact hn|exact hb) (h:=?_);refine rnx ?_)|(refine' WP.dl (id:=3) [0,0,0,4,14,31,63] [0,1,4,5,6,7,16,24,29] [4,5] [(4,_),(5,_)] ?_)|(refine RWL.cM [0] (hp:=by first|exact hn|exact hb) (h:=?_))|(refine RWL.gM [0] (hp:=by first|exact hn|exact hb) (h:=?_))|refine RWL.re ?_ ?_|refine RdO.oz|refine RdO.oa ?_|refine RdO.oe ?_|refine RdO.on|refine WP.cn (fun hc=>?_) (fun hc=>?_)|fail)
   exact retMCT ⟨rfl,_,rfl⟩
  ·cases hu:isT t [110,117,108,108]
   ·rw [if_neg (by simp)]
    rw [hu] at hi2
    refine DM.intro Tryd.func46 rfl Tryd.ntmps46 rfl rfl rfl (by simp only [go_sem,simprocAttr]) (fun V0 Kb Nx=>?_)
    have fx:=trivial
    replace fx:=And.intro hw (And.intro p1 (And.intro p2 (And.intro g1 trivial)))
    repeat' (first|(refine RWL.fin ?_;try simp only [thenQ_n,blockQ_n])|refine stp [0,1,4,5,6,7,16,24,29] ?_|(refine RS.sE ?_;refine rnx ?_)|(refine RS.pk ?_;refine rnx ?_)|(refine RS.gF ?_;refine rnx ?_)|refine RWL.fr ?_|refine RWL.wt ?_|(refine stc (r1:=by first|exact hi1|exact hi2) (r2:=?_);refine rnx ?_)|(refine RS.cM [0] (hp:=by first|exact hn|exact hb) (h:=?_);refine rnx ?_)|(refine RS.gM [0] (hp:=by first|exact hn|exact hb) (h:=?_);refine rnx ?_)|(refine' WP.dl (id:=3) [0,0,0,4,14,31,63] [0,1,4,5,6,7,16,24,29] [4,5] [(4,_),(5,_)] ?_)|(refine RWL.cM [0] (hp:=by first|exact hn|exact hb) (h:=?_))|(refine RWL.gM [0] (hp:=by first|exact hn|exact hb) (h:=?_))|refine RWL.re ?_ ?_|refine RdO.oz|refine RdO.oa ?_|refine RdO.oe ?_|refine RdO.on|refine WP.cn (fun hc=>?_) (fun hc=>?_)|fail)
    exact retMCT ⟨rfl,_,rfl⟩
   ·rw [if_pos (by simp)]
    rw [hu] at hi2
    refine DM.intro Tryd.func46 rfl Tryd.ntmps46 rfl rfl rfl (by simp only [go_sem,simprocAttr]) (fun V0 Kb Nx=>?_)
    have fx:=trivial
    replace fx:=And.intro hw (And.intro p1 (And.intro p2 (And.intro g1 trivial)))
    repeat' (first|(refine RWL.fin ?_;try simp only [thenQ_n,blockQ_n])|refine stp [0,1,4,5,6,7,16,24,29] ?_|(refine RS.sE ?_;refine rnx ?_)|(refine RS.pk ?_;refine rnx ?_)|(refine RS.gF ?_;refine rnx ?_)|refine RWL.fr ?_|refine RWL.wt ?_|(refine stc (r1:=by first|exact hi1|exact hi2) (r2:=?_);refine rnx ?_)|(refine RS.cM [0] (hp:=by first|exact hn|exact hb) (h:=?_);refine rnx ?_)|(refine RS.gM [0] (hp:=by first|exact hn|exact hb) (h:=?_);refine rnx ?_)|(refine' WP.dl (id:=3) [0,0,0,4,14,31,63] [0,1,4,5,6,7,16,24,29] [4,5] [(4,_),(5,_)] ?_)|(refine RWL.cM [0] (hp:=by first|exact hn|exact hb) (h:=?_))|(refine RWL.gM [0] (hp:=by first|exact hn|exact hb) (h:=?_))|refine RWL.re ?_ ?_|refine RdO.oz|refine RdO.oa ?_|refine RdO.oe ?_|refine RdO.on|refine WP.cn (fun hc=>?_) (fun hc=>?_)|fail)
    exact retMCT ⟨rfl,_,rfl⟩
 ·rw [if_pos rfl]
  rw [ht] at hi1
  refine DM.intro Tryd.func46 rfl Tryd.ntmps46 rfl rfl rfl (by simp only [go_sem,simprocAttr]) (fun V0 Kb Nx=>?_)
  have fx:=trivial
  replace fx:=And.intro hw (And.intro p1 (And.intro p2 (And.intro g1 trivial)))
  repeat' (first|(refine RWL.fin ?_;try simp only [thenQ_n,blockQ_n])|refine stp [0,1,4,5,6,7,16,24,29] ?_|(refine RS.sE ?_;refine rnx ?_)|(refine RS.pk ?_;refine rnx ?_)|(refine RS.gF ?_;refine rnx ?_)|refine RWL.fr ?_|refine RWL.wt ?_|(refine stc (r1:=by first|exact hi1|exact hi2) (r2:=?_);refine rnx ?_)|(refine RS.cM [0] (hp:=by exact hn) (h:=?_);refine rnx ?_)|(refine RS.gM [0] (hp:=by exact hn) (h:=?_);refine rnx ?_)|(refine' WP.dl (id:=3) [0,0,0,4,14,31,63] [0,1,4,5,6,7,16,24,29] [4,5] [(4,_),(5,_)] ?_)|(refine RWL.cM [0] (hp:=by exact hn) (h:=?_))|(refine RWL.gM [0] (hp:=by exact hn) (h:=?_))|refine RWL.re ?_ ?_|refine RdO.oz|refine RdO.oa ?_|refine RdO.oe ?_|refine RdO.on|refine WP.cn (fun hc=>?_) (fun hc=>?_)|fail)
  exact retMCT ⟨rfl,_,rfl⟩
theorem RS.q1 {P:Program} {C:Cx P} {ops:Array Oper} {r:List Oper} {e:Nat→D} {st:List Bx} {K:(Nat→D)→List Bx→Prop} {o:Oper} {d:D} (h:evQ P st e o=some d) (k:RS C ops r (putE e o.dst d) st K):RS C ops (o::r) e st K :=
 .inl ⟨d,st,.inr ⟨rfl,.of (evQ_sound h)⟩,k⟩
def ovR (k:Int) (a:A) (d:Int):List A:=[.v (.int .i64 k),.v (.int .i64 0),.v (.string ⟨#[]⟩),a,.v (.int .i64 d)]
theorem ovF (k:Int) (a:A) (d:Int):[A.v (.int .i64 k),.v (.int .i64 0),.v (.string ⟨#[]⟩),a,.v (.int .i64 d)]=ovR k a d:=rfl
section
variable (k k2 d d2 z:Int) (a b:A)
@[go_sem] theorem ovR_len:(ovR k a d).length=5:=rfl
@[go_sem] theorem ovR_g3:ldRow none (ovR k a d) 3=some (.a a):=rfl
@[go_sem] theorem ovR_g4:ldRow none (ovR k a d) 4=some (.a (.v (.int .i64 d))):=rfl
@[go_sem] theorem ovR_w:ldRow (some 5) (ovR k a d) 0=some (.r (ovR k a d)):=rfl
@[go_sem] theorem ovR_p3:putRow (ovR k a d) 3 [b]=ovR k b d:=rfl
@[go_sem] theorem ovR_p4:putRow (ovR k a d) 4 [.v (.int .i64 z)]=ovR k a z:=rfl
@[go_sem] theorem ovR_pw:putRow (ovR k a d) 0 (ovR k2 b d2)=ovR k2 b d2:=rfl
@[go_sem] theorem ovR_pt (x:Pt):putRow (ovR k a d) 0 (Pt.at x)=Pt.at x:=by rw [show ovR k a d=[.v (.int .i64 k),.v (.int .i64 0),.v (.string ⟨#[]⟩),a,.v (.int .i64 d)] from rfl];exact putRow_all (by rw [Pt.len];rfl)
@[go_sem] theorem ovR_see (st:List Bx):(ovR k a d).map (seeA st)=ovR k (seeA st a) d:=rfl
@[go_sem] theorem ovR_nr (m:Nat):(ovR k a d).all (nrA m)=nrA m a:=by simp [ovR,nrA]
end
@[go_sem] theorem ovR_cl1 (k d:Int) (x:Pt):(ovR k (.sl [Ex.at x.e]) d).all clA=true:=by
 have:=Pt.cl (⟨⟨k,0,[],[x.e]⟩,d⟩:Pt)
 simp only [Pt.at,Ex.at,Ex.ats_map] at this
 exact this
@[go_sem] theorem ovR_cl2 (k d:Int) (x y:Pt):(ovR k (.sl [Ex.at x.e,Ex.at y.e]) d).all clA=true:=by
 have:=Pt.cl (⟨⟨k,0,[],[x.e,y.e]⟩,d⟩:Pt)
 simp only [Pt.at,Ex.at,Ex.ats_map] at this
 exact this
theorem px0 (q2:Option (Nat×Nat)) (a:Pt) (l:List (List A)):ixD (some 5) q2 (.a (.sl (Pt.at a::l))) (.a (.v (.int .i64 0)))=some (.a (.ref (Pt.at a) 0)):=by refine ixD_at (j:=0) (row:=Pt.at a) rfl rfl (Pt.len a)
theorem px1 (q2:Option (Nat×Nat)) (a b:Pt) (l:List (List A)):ixD (some 5) q2 (.a (.sl (Pt.at a::Pt.at b::l))) (.a (.v (.int .i64 1)))=some (.a (.ref (Pt.at b) 0)):=by refine ixD_at (j:=1) (row:=Pt.at b) rfl rfl (Pt.len b)
theorem pkOver1 (k:Int) (x:Pt) (h0:0≤x.d) (h1:x.d≤1048576):DPure Tryd.prog 28 [.a (.v (.int .i64 k)),.a (.sl [Pt.at x])] (.r (Pt.at (overP k [x]))):=by
 have hx0:=px0
 have hw:IntKind.i64.wrap (max 0 x.d+1)=max 0 x.d+1:=wrap64 (by omega) (by omega)
 refine DPure.go Tryd.func28 rfl Tryd.ntmps28 rfl rfl rfl (fun C hro=>?_)
 have fx:=trivial
 refine stp [0,1,4,5,7,11,12,13,14] ?_
 refine stp [0,1,4,5,7,11,12,13,14] ?_
 refine stp [0,1,4,5,7,11,12,13,14] ?_
 refine WP.reg [0,1,4,5,7,11,12,13,14] (by kernel_rfl) (by kernel_rfl) ?_
 refine RS.q1 rfl ?_
 refine RS.bN (row:=[.v (.int .i64 k),.v (.int .i64 0),.v (.string ⟨#[]⟩),.nl]) ?_ (by kernel_rfl)
 have hov:=ovF
 refine rnx ?_
 replace fx:=And.intro hx0 (And.intro hw (And.intro hov trivial))
 repeat' (first|refine stp [0,1,4,5,7,11,12,13,14] ?_|(refine RS.aO ?_;refine rnx ?_)|(refine RS.aN ?_;refine rnx ?_)|(refine RS.ls ?_;refine rnx ?_)|(refine RS.sE ?_;refine rnx ?_)|(refine RS.aE ?_;refine rnx ?_)|(refine RS.aK ?_;refine rnx ?_)|(refine RS.lC ?_;refine rnx ?_)|(refine RS.xC ?_;refine rnx ?_)|(refine RS.bC ?_;refine rnx ?_)|refine WP.cn (fun hc=>?_) (fun hc=>?_)|refine WP.loop_in ?_|refine WPIn.unroll ?_|fail)
 refine congrArg D.r ?_
 unfold overP Pt.at;simp only [Ex.at,Ex.ats_map];rfl
theorem pkOver2 (k:Int) (x y:Pt) (h0:0≤x.d) (h1:x.d≤1048576) (h2:0≤y.d) (h3:y.d≤1048576):DPure Tryd.prog 28 [.a (.v (.int .i64 k)),.a (.sl [Pt.at x,Pt.at y])] (.r (Pt.at (overP k [x,y]))):=by
 have hx0:=px0
 have hx1:=px1
 have hw:IntKind.i64.wrap (max (max 0 x.d) y.d+1)=max (max 0 x.d) y.d+1:=wrap64 (by omega) (by omega)
 refine DPure.go Tryd.func28 rfl Tryd.ntmps28 rfl rfl rfl (fun C hro=>?_)
 have fx:=trivial
 refine stp [0,1,4,5,7,11,12,13,14] ?_
 refine stp [0,1,4,5,7,11,12,13,14] ?_
 refine stp [0,1,4,5,7,11,12,13,14] ?_
 refine WP.reg [0,1,4,5,7,11,12,13,14] (by kernel_rfl) (by kernel_rfl) ?_
 refine RS.q1 rfl ?_
 refine RS.bN (row:=[.v (.int .i64 k),.v (.int .i64 0),.v (.string ⟨#[]⟩),.nl]) ?_ (by kernel_rfl)
 have hov:=ovF
 refine rnx ?_
 replace fx:=And.intro hx0 (And.intro hx1 (And.intro hw (And.intro hov trivial)))
 repeat' (first|refine stp [0,1,4,5,7,11,12,13,14] ?_|(refine RS.aO ?_;refine rnx ?_)|(refine RS.aN ?_;refine rnx ?_)|(refine RS.ls ?_;refine rnx ?_)|(refine RS.sE ?_;refine rnx ?_)|(refine RS.aE ?_;refine rnx ?_)|(refine RS.aK ?_;refine rnx ?_)|(refine RS.lC ?_;refine rnx ?_)|(refine RS.xC ?_;refine rnx ?_)|(refine RS.bC ?_;refine rnx ?_)|refine WP.cn (fun hc=>?_) (fun hc=>?_)|refine WP.loop_in ?_|refine WPIn.unroll ?_|fail)
 refine congrArg D.r ?_
 unfold overP Pt.at;simp only [Ex.at,Ex.ats_map];rfl
theorem now_end (l:List Tok):∀a:Int,(l.length:Int)≤a→(nowT l a).kind=0:=by
 intro a h
 unfold nowT
 rw [if_neg (by omega)]
 split<;>rfl
theorem atom_d (l:List Tok) (s:Ps) (b:Bool):(atomP l s b).1.d=1:=by
 unfold atomP
 split
 ·rfl
 split
 ·rfl
 split
 ·rfl
 ·rfl
theorem Pt.fz (x:Pt) (i v:Nat) (l:List (List A)):(Pt.at x).map (fzA i v l)=Pt.at x:=by obtain⟨⟨k,n,s,m⟩,d⟩:=x;simp only [Pt.at,Ex.at,Ex.ats_map];rfl
theorem prR_fz (l:List Tok) (s:Ps) (i v:Nat) (m:List (List A)):(prR l s).map (fzA i v m)=prR l s:=rfl
theorem ptZ_at:[A.v (.int .i64 0),.v (.int .i64 0),.v (.string ⟨#[]⟩),.sl [],.v (.int .i64 0)]=Pt.at ptZ:=Pt.litZ 0 0 0
theorem pkNil (l:List Tok) (s:Ps) (hl:l.length≤1048576) (h0:0≤s.at_) (h1:s.at_≤l.length):DM Tryd.prog 44 [.a (.ptr 0 0),.a (.v (.int .i64 13))] [.cell (prR l s)] (.t [.r (Pt.at (nilP l s).1),.a (.v (.bool (nilP l s).2.1))]) [.cell (prR l (nilP l s).2.2)]:=by
 have hm:=pkMust l s [40] hl h0 h1
 have fm:=must_fwd (now_end l) (t:=[40]) h1
 have pz:=ptZ_at
 unfold nilP
 generalize mustP l s [40]=m at *
 obtain⟨mo,ms⟩:=m
 cases mo
 ·rw [if_neg (by intro h;cases h)]
  refine DM.intro Tryd.func44 rfl Tryd.ntmps44 rfl rfl rfl (by simp only [go_sem,simprocAttr]) (fun V0 Kb Nx=>?_)
  have fx:=trivial
  replace fx:=And.intro pz trivial
  repeat' (first|refine stp [0,1,4,5,6,7,8,9,10,13,23,28,31,39] ?_|(refine RS.aO ?_;refine rnx ?_)|(refine RS.aN ?_;refine rnx ?_)|(refine RS.li ?_;refine rnx ?_)|(refine RS.sE ?_;refine rnx ?_)|(refine RS.aE ?_;refine rnx ?_)|(refine RS.aK ?_;refine rnx ?_)|(refine RS.bC ?_;refine rnx ?_)|(refine RS.cM [0] (hp:=by exact hm) (h:=?_);refine rnx ?_)|refine WP.cn (fun hc=>?_) (fun hc=>?_)|fail)
  exact retMCT ⟨rfl,_,rfl⟩
 ·rw [if_pos rfl]
  have m0:0≤ms.at_:=by have:=fm.1;dsimp only at this;omega
  have m1:ms.at_≤l.length:=fm.2.1
  have ha:=pkAtom l ms false hl m0 m1
  have fa:=atom_fwd (now_end l) (b:=false) m1
  have da:=atom_d l ms false
  dsimp only
  generalize atomP l ms false=a at *
  obtain⟨x,ao,az⟩:=a
  dsimp only at da fa ha ⊢
  cases ao
  ·rw [if_neg (by intro h;cases h)]
   refine DM.intro Tryd.func44 rfl Tryd.ntmps44 rfl rfl rfl (by simp only [go_sem,simprocAttr]) (fun V0 Kb Nx=>?_)
   have fx:=trivial
   replace fx:=And.intro pz trivial
   repeat' (first|refine stp [0,1,4,5,6,7,8,9,10,13,23,28,31,39] ?_|(refine RS.aO ?_;refine rnx ?_)|(refine RS.aN ?_;refine rnx ?_)|(refine RS.li ?_;refine rnx ?_)|(refine RS.sE ?_;refine rnx ?_)|(refine RS.aE ?_;refine rnx ?_)|(refine RS.aK ?_;refine rnx ?_)|(refine RS.bC ?_;refine rnx ?_)|(refine RS.cM [0] (hp:=by first|exact hm|exact ha) (h:=?_);refine rnx ?_)|refine WP.cn (fun hc=>?_) (fun hc=>?_)|fail)
   exact retMCT ⟨rfl,_,rfl⟩
  ·rw [if_pos rfl]
   have ho:=pkOver1 13 x (by omega) (by omega)
   have hc:=pkMust l az [41] hl (by have:=fa.1;omega) fa.2.1
   generalize overP 13 [x]=z at *
   generalize mustP l az [41]=c at *
   obtain⟨co,cs⟩:=c
   refine DM.intro Tryd.func44 rfl Tryd.ntmps44 rfl rfl rfl (by simp only [go_sem,simprocAttr]) (fun V0 Kb Nx=>?_)
   have fx:=trivial
   replace fx:=And.intro pz trivial
   repeat' (first|refine stp [0,1,4,5,6,7,8,9,10,13,23,28,31,39] ?_|(refine RS.aO ?_;refine rnx ?_)|(refine RS.aN ?_;refine rnx ?_)|(refine RS.ls ?_;refine rnx ?_)|(refine RS.sE ?_;refine rnx ?_)|(refine RS.aE ?_;refine rnx ?_)|(refine RS.aK ?_;refine rnx ?_)|(refine RS.bC ?_;refine rnx ?_)|(refine stc (r1:=by exact ho) (r2:=?_);refine rnx ?_)|(refine RS.cM [0] (hp:=by first|exact hm|exact ha|exact hc) (h:=?_);refine rnx ?_)|refine WP.cn (fun hc=>?_) (fun hc=>?_)|fail)
   exact retMCT ⟨rfl,_,rfl⟩
theorem pkSam (l:List Tok) (s:Ps) (hl:l.length≤1048576) (h0:0≤s.at_) (h1:s.at_≤l.length):DM Tryd.prog 44 [.a (.ptr 0 0),.a (.v (.int .i64 14))] [.cell (prR l s)] (.t [.r (Pt.at (samP l s).1),.a (.v (.bool (samP l s).2.1))]) [.cell (prR l (samP l s).2.2)]:=by
 have hm:=pkMust l s [40] hl h0 h1
 have fm:=must_fwd (now_end l) (t:=[40]) h1
 have pz:=ptZ_at
 unfold samP
 generalize mustP l s [40]=m at *
 obtain⟨mo,ms⟩:=m
 cases mo
 ·rw [if_neg (by intro h;cases h)]
  refine DM.intro Tryd.func44 rfl Tryd.ntmps44 rfl rfl rfl (by simp only [go_sem,simprocAttr]) (fun V0 Kb Nx=>?_)
  have fx:=trivial
  replace fx:=And.intro pz trivial
  repeat' (first|refine stp [0,1,4,5,6,7,8,9,10,13,23,28,31,39] ?_|(refine RS.aO ?_;refine rnx ?_)|(refine RS.aN ?_;refine rnx ?_)|(refine RS.li ?_;refine rnx ?_)|(refine RS.sE ?_;refine rnx ?_)|(refine RS.aE ?_;refine rnx ?_)|(refine RS.aK ?_;refine rnx ?_)|(refine RS.bC ?_;refine rnx ?_)|(refine RS.cM [0] (hp:=by exact hm) (h:=?_);refine rnx ?_)|refine WP.cn (fun hc=>?_) (fun hc=>?_)|fail)
  exact retMCT ⟨rfl,_,rfl⟩
 rw [if_pos rfl]
 have m0:0≤ms.at_:=by have:=fm.1;dsimp only at this;omega
 have m1:ms.at_≤l.length:=fm.2.1
 have ha:=pkAtom l ms true hl m0 m1
 have fa:=atom_fwd (now_end l) (b:=true) m1
 have da:=atom_d l ms true
 dsimp only
 generalize atomP l ms true=a at *
 obtain⟨x,ao,az⟩:=a
 dsimp only at da fa ha ⊢
 cases ao
 ·rw [if_neg (by intro h;cases h)]
  refine DM.intro Tryd.func44 rfl Tryd.ntmps44 rfl rfl rfl (by simp only [go_sem,simprocAttr]) (fun V0 Kb Nx=>?_)
  have fx:=trivial
  replace fx:=And.intro pz trivial
  repeat' (first|refine stp [0,1,4,5,6,7,8,9,10,13,23,28,31,39] ?_|(refine RS.aO ?_;refine rnx ?_)|(refine RS.aN ?_;refine rnx ?_)|(refine RS.li ?_;refine rnx ?_)|(refine RS.sE ?_;refine rnx ?_)|(refine RS.aE ?_;refine rnx ?_)|(refine RS.aK ?_;refine rnx ?_)|(refine RS.bC ?_;refine rnx ?_)|(refine RS.cM [0] (hp:=by first|exact hm|exact ha) (h:=?_);refine rnx ?_)|refine WP.cn (fun hc=>?_) (fun hc=>?_)|fail)
  exact retMCT ⟨rfl,_,rfl⟩
 rw [if_pos rfl]
 unfold sam2
 have a0:0≤az.at_:=by have:=fa.1;omega
 have hn:=pkMust l az [44] hl a0 fa.2.1
 have fn:=must_fwd (now_end l) (t:=[44]) fa.2.1
 generalize mustP l az [44]=n at *
 obtain⟨no,ns⟩:=n
 cases no
 ·rw [if_neg (by intro h;cases h)]
  refine DM.intro Tryd.func44 rfl Tryd.ntmps44 rfl rfl rfl (by simp only [go_sem,simprocAttr]) (fun V0 Kb Nx=>?_)
  have fx:=trivial
  replace fx:=And.intro pz trivial
  repeat' (first|refine stp [0,1,4,5,6,7,8,9,10,13,23,28,31,39] ?_|(refine RS.aO ?_;refine rnx ?_)|(refine RS.aN ?_;refine rnx ?_)|(refine RS.li ?_;refine rnx ?_)|(refine RS.sE ?_;refine rnx ?_)|(refine RS.aE ?_;refine rnx ?_)|(refine RS.aK ?_;refine rnx ?_)|(refine RS.bC ?_;refine rnx ?_)|(refine RS.cM [0] (hp:=by first|exact hm|exact ha|exact hn) (h:=?_);refine rnx ?_)|refine WP.cn (fun hc=>?_) (fun hc=>?_)|fail)
  exact retMCT ⟨rfl,_,rfl⟩
 rw [if_pos rfl]
 have n0:0≤ns.at_:=by have:=fn.1;dsimp only at this;omega
 have n1:ns.at_≤l.length:=fn.2.1
 have hb:=pkAtom l ns true hl n0 n1
 have fb:=atom_fwd (now_end l) (b:=true) n1
 have db:=atom_d l ns true
 dsimp only
 generalize atomP l ns true=b at *
 obtain⟨y,bo,bz⟩:=b
 dsimp only at db fb hb ⊢
 cases bo
 ·rw [if_neg (by intro h;cases h)]
  refine DM.intro Tryd.func44 rfl Tryd.ntmps44 rfl rfl rfl (by simp only [go_sem,simprocAttr]) (fun V0 Kb Nx=>?_)
  have fx:=trivial
  replace fx:=And.intro pz trivial
  repeat' (first|refine stp [0,1,4,5,6,7,8,9,10,13,23,28,31,39] ?_|(refine RS.aO ?_;refine rnx ?_)|(refine RS.aN ?_;refine rnx ?_)|(refine RS.li ?_;refine rnx ?_)|(refine RS.sE ?_;refine rnx ?_)|(refine RS.aE ?_;refine rnx ?_)|(refine RS.aK ?_;refine rnx ?_)|(refine RS.bC ?_;refine rnx ?_)|(refine RS.cM [0] (hp:=by first|exact hm|exact ha|exact hn|exact hb) (h:=?_);refine rnx ?_)|refine WP.cn (fun hc=>?_) (fun hc=>?_)|fail)
  exact retMCT ⟨rfl,_,rfl⟩
 rw [if_pos rfl]
 have ho:=pkOver2 14 x y (by omega) (by omega) (by omega) (by omega)
 have hc:=pkMust l bz [41] hl (by have:=fb.1;omega) fb.2.1
 generalize overP 14 [x,y]=z at *
 generalize mustP l bz [41]=c at *
 obtain⟨co,cs⟩:=c
 refine DM.intro Tryd.func44 rfl Tryd.ntmps44 rfl rfl rfl (by simp only [go_sem,simprocAttr]) (fun V0 Kb Nx=>?_)
 have fx:=trivial
 replace fx:=And.intro pz trivial
 repeat' (first|refine stp [0,1,4,5,6,7,8,9,10,13,23,28,31,39] ?_|(refine RS.aN ?_;refine rnx ?_)|(refine RS.li ?_;refine rnx ?_)|(refine RS.sE ?_;refine rnx ?_)|(refine RS.aE ?_;refine rnx ?_)|(refine RS.aK ?_;refine rnx ?_)|(refine RS.bC ?_;refine rnx ?_)|(refine stc (r1:=by exact ho) (r2:=?_);refine rnx ?_)|(refine RS.cM [0] (hp:=by first|exact hm|exact ha|exact hn|exact hb|exact hc) (h:=?_);refine rnx ?_)|refine WP.cn (fun hc=>?_) (fun hc=>?_)|fail)
 refine RS.aO ?_;refine rnx ?_
 refine stp [0,1,4,5,6,7,8,9,10,13,23,28,31,39] ?_
 refine WP.freezeA (st':=[.cell (prR l bz),.cell (Pt.at ptZ),.cell (Pt.at x),.gone,.cell (Pt.at y),.arr 0 5 [Pt.at y]]) 3 1 5 [Pt.at x,Pt.at y] [(0,.a (.ptr 0 0)),(1,.a (.v (.int .i64 14))),(4,.a (.ptr 1 0)),(8,.a (.sl [Pt.at x,Pt.at y]))] ?_ ?_ ?_ ?_
 ·rfl
 ·simp only [Agree,go_sem,simprocAttr]
 ·simp only [List.map_cons,List.map_nil,fzB_cell,Pt.fz,prR_fz,List.set_cons_succ,List.set_cons_zero,fzB_arr]
 replace fx:=And.intro pz trivial
 repeat' (first|refine stp [0,1,4,5,6,7,8,9,10,13,23,28,31,39] ?_|(refine RS.aO ?_;refine rnx ?_)|(refine RS.aN ?_;refine rnx ?_)|(refine RS.ls ?_;refine rnx ?_)|(refine RS.sE ?_;refine rnx ?_)|(refine RS.aE ?_;refine rnx ?_)|(refine RS.aK ?_;refine rnx ?_)|(refine RS.bC ?_;refine rnx ?_)|(refine stc (r1:=by exact ho) (r2:=?_);refine rnx ?_)|(refine RS.cM [0] (hp:=by first|exact hm|exact ha|exact hn|exact hb|exact hc) (h:=?_);refine rnx ?_)|refine WP.cn (fun hc=>?_) (fun hc=>?_)|fail)
 exact retMCT ⟨rfl,_,rfl⟩
section
variable {P:Program} {C:Cx P} {ops:Array Oper} {r:List Oper} {e:Nat→D} {st:List Bx} {dst:Option Nat} {ty T:TypeId} {pos:String} {after:Array Edge} {K:(Nat→D)→List Bx→Prop} {row:List A}
theorem RS.iR {k:Nat} {kd:IntKind} {x i:Operand} {len sz:Nat} {l:Option Nat} {d:D} (h:RS C ops r (putE e dst d) st K) (hx:evO e x=.r row:=by (simp only [go_sem,simprocAttr,fx])<;>rfl) (hi:evO e i=.a (.v (.int kd (k:Int))):=by (simp only [go_sem,simprocAttr,fx])<;>rfl) (hT:ar2 P T=some (len,sz,l)) (hlt:decide (k<len)=true:=by (simp only [go_sem,fx])<;>rfl) (hd:ldRow l row (k*sz)=some d:=by (simp only [go_sem,fx])<;>rfl):RS C ops (⟨dst,.index T x i,ty,pos,after,none⟩::r) e st K :=
 .inl ⟨d,st,.inr ⟨rfl,.of (.index_row rfl hx hi hT (Int.natCast_nonneg k) (Int.ofNat_lt.2 (of_decide_eq_true hlt)) hd)⟩,h⟩
end
theorem bindR_at:∀(k:Nat) (z:Bd),sgnL[k]? = some z→ldRow (some 3) bindR (k*3)=some (.r (Bd.at z))
 | 0,z,h=>by injection h with h;subst h;rfl
 | 1,z,h=>by injection h with h;subst h;rfl
 | 2,z,h=>by injection h with h;subst h;rfl
 | 3,z,h=>by injection h with h;subst h;rfl
 | 4,z,h=>by injection h with h;subst h;rfl
 | 5,z,h=>by injection h with h;subst h;rfl
 | k+6,z,h=>by cases h
@[go_sem] theorem bindR_w:ldRow (some 18) bindR 0=some (.r bindR):=ldRow_all bindR_len
theorem find_stop {α:Type} (q:α→Bool):∀(l:List α) (k:Nat) (z:α),l[k]? = some z→(l.take k).find? q=none→q z=true→l.find? q=some z
 | [],k,z,h,_,_=>by simp at h
 | a::l,0,z,h,_,hq=>by simp at h;subst h;simp [hq]
 | a::l,k+1,z,h,hn,hq=>by
  simp only [List.take_succ_cons,List.find?_cons] at hn
  cases ha:q a
  ·rw [ha] at hn
   simp only [List.find?_cons,ha]
   exact find_stop q l k z (by simpa using h) hn hq
  ·rw [ha] at hn;cases hn
theorem pkSign (l:List Tok) (s:Ps) (least:Int) (hl:l.length≤1048576):DM Tryd.prog 26 [.a (.ptr 0 0),.a (.v (.int .i64 least))] [.cell (prR l s)] (.t [.r (Bd.at ((signP l least s).getD Bd.zero)),.a (.v (.bool (signP l least s).isSome))]) [.cell (prR l s)]:=by
 have hn:=pkNow l s hl
 unfold signP
 generalize nowT l s.at_=t at *
 generalize hq:(fun b:Bd=>decide (b.level≥least)&&isT t b.sign)=q
 have pz:[A.v (.string ⟨#[]⟩),.v (.int .i64 0),.v (.int .i64 0)]=Bd.at Bd.zero:=rfl
 refine DM.intro Tryd.func26 rfl Tryd.ntmps26 rfl rfl rfl (by simp only [go_sem,simprocAttr]) (fun V0 Kb Nx=>?_)
 have fx:=trivial
 replace fx:=And.intro pz trivial
 repeat' (first|refine stp [0,1,4,5,6,8,11,12,13,24] ?_|(refine RS.sE ?_;refine rnx ?_)|(refine RS.pk ?_;refine rnx ?_)|(refine RS.gF ?_;refine rnx ?_)|(refine RS.cM [0] (hp:=by exact hn) (h:=?_);refine rnx ?_)|(refine WP.reg [0,1,4,5,6,8,11,12,13,24] (by kernel_rfl) (by kernel_rfl) ?_;refine RS.iR (len:=6) (sz:=3) (l:=some 3) ?_ (hT:=by kernel_rfl);refine rnx ?_)|refine WP.cn (fun hc=>?_) (fun hc=>?_)|fail)
 refine WP.loopX (α:={ k:Nat // k≤6∧(sgnL.take k).find? q=none }) (fun y=>[(0,.a (.ptr 0 0)),(1,.a (.v (.int .i64 least))),(4,.a (.ptr 1 0)),(6,.a (.ptr 2 0)),(11,.r bindR),(12,.a (.v (.int .i64 (y.1:Nat))))]) (fun _=>[.cell (prR l s),.cell (Bd.at Bd.zero),.cell (Tok.at t)]) (fun y=>6-y.1) ⟨0,by omega,rfl⟩ (by simp only [Agree,go_sem,simprocAttr];first|done|rfl) rfl ?_
 rintro⟨k,hk,hinv⟩
 dsimp only
 by_cases hlt:k<6
 ·have hlt2:decide ((k:Int)<6)=true:=decide_eq_true (by omega)
  have hlt3:decide (k<6)=true:=decide_eq_true hlt
  obtain⟨z,hz⟩:∃z,sgnL[k]? = some z:=⟨_,List.getElem?_eq_getElem hlt⟩
  have hix:=bindR_at k z hz
  have hwu:=wrap64n (k:=k) (by omega)
  have hqz:q z=(decide (z.level≥least)&&isT t z.sign):=by rw [←hq]
  have hi:=pkIs t z.sign
  have hnx:q z=false→(sgnL.take (k+1)).find? q=none:=fun h=>by
   rw [take_snocA hz,List.find?_append,hinv];simp [h]
  cases hlv:decide (z.level≥least)
  ·replace fx:=And.intro pz (And.intro hlt2 (And.intro hlt3 (And.intro hix (And.intro hwu (And.intro hlv trivial)))))
   repeat' (first|refine stp [0,1,4,5,6,8,11,12,13,24] ?_|(refine RS.sE ?_;refine rnx ?_)|(refine RS.pk ?_;refine rnx ?_)|(refine RS.gF ?_;refine rnx ?_)|(refine stc (r1:=by exact hi) (r2:=?_);refine rnx ?_)|(refine RS.cM [0] (hp:=by exact hn) (h:=?_);refine rnx ?_)|(refine WP.reg [0,1,4,5,6,8,11,12,13,24] (by kernel_rfl) (by kernel_rfl) ?_;refine RS.iR (len:=6) (sz:=3) (l:=some 3) ?_ (hT:=by kernel_rfl);refine rnx ?_)|refine WP.cn (fun hc=>?_) (fun hc=>?_)|fail)
   exact⟨⟨k+1,by omega,hnx (by rw [hqz,hlv];rfl)⟩,[.cell (Bd.at z)],by dsimp only;omega,by simp only [Agree,go_sem,simprocAttr],rfl,rfl,by (simp only [go_sem])<;>rfl⟩
  ·cases hb:isT t z.sign
   ·rw [hb] at hi
    replace fx:=And.intro pz (And.intro hlt2 (And.intro hlt3 (And.intro hix (And.intro hwu (And.intro hlv trivial)))))
    repeat' (first|refine stp [0,1,4,5,6,8,11,12,13,24] ?_|(refine RS.sE ?_;refine rnx ?_)|(refine RS.pk ?_;refine rnx ?_)|(refine RS.gF ?_;refine rnx ?_)|(refine stc (r1:=by exact hi) (r2:=?_);refine rnx ?_)|(refine RS.cM [0] (hp:=by exact hn) (h:=?_);refine rnx ?_)|(refine WP.reg [0,1,4,5,6,8,11,12,13,24] (by kernel_rfl) (by kernel_rfl) ?_;refine RS.iR (len:=6) (sz:=3) (l:=some 3) ?_ (hT:=by kernel_rfl);refine rnx ?_)|refine WP.cn (fun hc=>?_) (fun hc=>?_)|fail)
    exact⟨⟨k+1,by omega,hnx (by rw [hqz,hlv,hb];rfl)⟩,[.cell (Bd.at z)],by dsimp only;omega,by simp only [Agree,go_sem,simprocAttr],rfl,rfl,by (simp only [go_sem])<;>rfl⟩
   ·rw [hb] at hi
    have hfd:sgnL.find? q=some z:=find_stop q sgnL k z hz hinv (by rw [hqz,hlv,hb];rfl)
    rw [hfd]
    replace fx:=And.intro pz (And.intro hlt2 (And.intro hlt3 (And.intro hix (And.intro hwu (And.intro hlv trivial)))))
    repeat' (first|refine stp [0,1,4,5,6,8,11,12,13,24] ?_|(refine RS.sE ?_;refine rnx ?_)|(refine RS.pk ?_;refine rnx ?_)|(refine RS.gF ?_;refine rnx ?_)|(refine stc (r1:=by exact hi) (r2:=?_);refine rnx ?_)|(refine RS.cM [0] (hp:=by exact hn) (h:=?_);refine rnx ?_)|(refine WP.reg [0,1,4,5,6,8,11,12,13,24] (by kernel_rfl) (by kernel_rfl) ?_;refine RS.iR (len:=6) (sz:=3) (l:=some 3) ?_ (hT:=by kernel_rfl);refine rnx ?_)|refine WP.cn (fun hc=>?_) (fun hc=>?_)|fail)
    exact retMCT ⟨rfl,_,rfl⟩
 obtain rfl:k=6:=by omega
 have hnone:sgnL.find? q=none:=hinv
 rw [hnone]
 replace fx:=And.intro pz trivial
 repeat' (first|refine stp [0,1,4,5,6,8,11,12,13,24] ?_|(refine RS.sE ?_;refine rnx ?_)|(refine RS.pk ?_;refine rnx ?_)|(refine RS.gF ?_;refine rnx ?_)|(refine RS.cM [0] (hp:=by exact hn) (h:=?_);refine rnx ?_)|(refine WP.reg [0,1,4,5,6,8,11,12,13,24] (by kernel_rfl) (by kernel_rfl) ?_;refine RS.iR (len:=6) (sz:=3) (l:=some 3) ?_ (hT:=by kernel_rfl);refine rnx ?_)|refine WP.cn (fun hc=>?_) (fun hc=>?_)|fail)
 exact retMCT ⟨rfl,_,rfl⟩
theorem pkTight1 (l:List Tok) (s:Ps) (r:Pt×Bool×Ps) (h:DM Tryd.prog 14 [.a (.ptr 0 0),.a (.v (.int .i64 1))] [.cell (prR l s)] (.t [.r (Pt.at r.1),.a (.v (.bool r.2.1))]) [.cell (prR l r.2.2)]):DM Tryd.prog 41 [.a (.ptr 1 0)] [.cell (prR l s),.cell [.ptr 0 0]] (.t [.r (Pt.at r.1),.a (.v (.bool r.2.1))]) [.cell (prR l r.2.2),.cell [.ptr 0 0]]:=by
 obtain⟨x,ok,s'⟩:=r
 refine DM.intro Tryd.func41 rfl Tryd.ntmps41 rfl rfl rfl (by simp only [go_sem,simprocAttr]) (fun V0 Kb Nx=>?_)
 have fx:=trivial
 repeat' (first|refine stp [0,1,2] ?_|(refine RS.sE ?_;refine rnx ?_)|(refine RS.cM [0] (hp:=by exact h) (h:=?_);refine rnx ?_)|fail)
 exact retMCT ⟨rfl,_,rfl⟩
theorem pkInnerA (l:List Tok) (s:Ps) (r:Pt×Bool×Ps) (hl:l.length≤1048576) (h0:0≤s.at_) (h1:s.at_≤l.length) (hn0:0≤s.nest) (hn:s.nest<20) (hr1:r.2.2.nest=s.nest+1) (h:DM Tryd.prog 41 [.a (.ptr 1 0)] [.cell (prR l s.inn),.cell [.ptr 0 0]] (.t [.r (Pt.at r.1),.a (.v (.bool r.2.1))]) [.cell (prR l r.2.2),.cell [.ptr 0 0]]):DM Tryd.prog 40 [.a (.ptr 0 0),.a (.fn 41 [.ptr 1 0])] [.cell (prR l s),.cell [.ptr 0 0]] (.t [.r (Pt.at r.1),.a (.v (.bool r.2.1))]) [.cell (prR l r.2.2.out),.cell [.ptr 0 0]]:=by
 obtain⟨x,ok,s'⟩:=r
 dsimp only at hr1
 have e0:(s.nest==20)=false:=by simp;omega
 have w1:IntKind.i64.wrap (s.nest+1)=s.nest+1:=wrap64 (by omega) (by omega)
 have w2:IntKind.i64.wrap (s.at_+1)=s.at_+1:=wrap64 (by omega) (by omega)
 have w3:IntKind.i64.wrap (s'.nest-1)=s'.nest-1:=wrap64 (by omega) (by omega)
 refine DM.intro Tryd.func40 rfl Tryd.ntmps40 rfl rfl rfl (by simp only [go_sem,simprocAttr]) (fun V0 Kb Nx=>?_)
 have fx:=trivial
 replace fx:=And.intro e0 (And.intro w1 (And.intro w2 (And.intro w3 trivial)))
 repeat' (first|refine stp [0,1,4,5,6,7,12] ?_|(refine RS.sE ?_;refine rnx ?_)|(refine RS.cM [0,1] (hp:=by exact h) (h:=?_);refine rnx ?_)|(refine RS.cvM [0,1] (hp:=by exact h) (h:=?_);refine rnx ?_)|(refine RS.cbM [0,1] (hp:=by exact h) (h:=?_);refine rnx ?_)|refine WP.cn (fun hc=>?_) (fun hc=>?_)|fail)
 exact retMCT ⟨rfl,_,rfl⟩
theorem pkInnerB (l:List Tok) (s:Ps) (r:Pt×Bool×Ps) (hl:l.length≤1048576) (h0:0≤s.at_) (h1:s.at_≤l.length) (hn0:0≤s.nest) (hn:s.nest<20) (hr1:r.2.2.nest=s.nest+1) (h:DM Tryd.prog 25 [.a (.ptr 0 0)] [.cell (prR l s.inn)] (.t [.r (Pt.at r.1),.a (.v (.bool r.2.1))]) [.cell (prR l r.2.2)]):DM Tryd.prog 40 [.a (.ptr 0 0),.a (.fm 25 [.ptr 0 0])] [.cell (prR l s)] (.t [.r (Pt.at r.1),.a (.v (.bool r.2.1))]) [.cell (prR l r.2.2.out)]:=by
 obtain⟨x,ok,s'⟩:=r
 dsimp only at hr1
 have e0:(s.nest==20)=false:=by simp;omega
 have w1:IntKind.i64.wrap (s.nest+1)=s.nest+1:=wrap64 (by omega) (by omega)
 have w2:IntKind.i64.wrap (s.at_+1)=s.at_+1:=wrap64 (by omega) (by omega)
 have w3:IntKind.i64.wrap (s'.nest-1)=s'.nest-1:=wrap64 (by omega) (by omega)
 refine DM.intro Tryd.func40 rfl Tryd.ntmps40 rfl rfl rfl (by simp only [go_sem,simprocAttr]) (fun V0 Kb Nx=>?_)
 have fx:=trivial
 replace fx:=And.intro e0 (And.intro w1 (And.intro w2 (And.intro w3 trivial)))
 repeat' (first|refine stp [0,1,4,5,6,7,12] ?_|(refine RS.sE ?_;refine rnx ?_)|(refine RS.cM [0] (hp:=by exact h) (h:=?_);refine rnx ?_)|(refine RS.cvM [0] (hp:=by exact h) (h:=?_);refine rnx ?_)|(refine RS.cbM [0] (hp:=by exact h) (h:=?_);refine rnx ?_)|refine WP.cn (fun hc=>?_) (fun hc=>?_)|fail)
 exact retMCT ⟨rfl,_,rfl⟩
theorem pkInner20A (l:List Tok) (s:Ps) (hl:l.length≤1048576) (hn:s.nest=20):DM Tryd.prog 40 [.a (.ptr 0 0),.a (.fn 41 [.ptr 1 0])] [.cell (prR l s),.cell [.ptr 0 0]] (.t [.r (Pt.at ptZ),.a (.v (.bool false))]) [.cell (prR l (s.bad 5 (nowT l s.at_).pos)),.cell [.ptr 0 0]]:=by
 have e0:(s.nest==20)=true:=by simp [hn]
 have pz:=ptZ_at
 have h:=pkNow l s hl
 have hb:=pkBad l s 5 (nowT l s.at_).pos
 refine DM.intro Tryd.func40 rfl Tryd.ntmps40 rfl rfl rfl (by simp only [go_sem,simprocAttr]) (fun V0 Kb Nx=>?_)
 have fx:=trivial
 replace fx:=And.intro e0 (And.intro pz trivial)
 repeat' (first|refine stp [0,1,4,5,6,7,12] ?_|(refine RS.sE ?_;refine rnx ?_)|(refine RS.cM [0] (hp:=by first|exact h|exact hb) (h:=?_);refine rnx ?_)|(refine RS.cvM [0] (hp:=by first|exact h|exact hb) (h:=?_);refine rnx ?_)|(refine RS.cbM [0] (hp:=by first|exact h|exact hb) (h:=?_);refine rnx ?_)|refine WP.cn (fun hc=>?_) (fun hc=>?_)|fail)
 exact retMCT ⟨rfl,_,rfl⟩
theorem pkInner20B (l:List Tok) (s:Ps) (hl:l.length≤1048576) (hn:s.nest=20):DM Tryd.prog 40 [.a (.ptr 0 0),.a (.fm 25 [.ptr 0 0])] [.cell (prR l s)] (.t [.r (Pt.at ptZ),.a (.v (.bool false))]) [.cell (prR l (s.bad 5 (nowT l s.at_).pos))]:=by
 have e0:(s.nest==20)=true:=by simp [hn]
 have pz:=ptZ_at
 have h:=pkNow l s hl
 have hb:=pkBad l s 5 (nowT l s.at_).pos
 refine DM.intro Tryd.func40 rfl Tryd.ntmps40 rfl rfl rfl (by simp only [go_sem,simprocAttr]) (fun V0 Kb Nx=>?_)
 have fx:=trivial
 replace fx:=And.intro e0 (And.intro pz trivial)
 repeat' (first|refine stp [0,1,4,5,6,7,12] ?_|(refine RS.sE ?_;refine rnx ?_)|(refine RS.cM [0] (hp:=by first|exact h|exact hb) (h:=?_);refine rnx ?_)|(refine RS.cvM [0] (hp:=by first|exact h|exact hb) (h:=?_);refine rnx ?_)|(refine RS.cbM [0] (hp:=by first|exact h|exact hb) (h:=?_);refine rnx ?_)|refine WP.cn (fun hc=>?_) (fun hc=>?_)|fail)
 exact retMCT ⟨rfl,_,rfl⟩
section
variable {P:Program} {C:Cx P} {g:D} {ops:Array Oper} {bs:List Nat} {s0 s s' st st1 bs':List Bx} {ws:List (Nat×List Bx)} {r:List Oper} {k:Nat} {e:Nat→D} {K:(Nat→D)→Prop} {dst:Option Nat} {ty:TypeId} {pos:String} {after:Array Edge} {j:Nat} {b:Bool} {f:FuncId} {xs:List Operand} {tys:Array TypeId} {vs ds:List D} {d d':D} {op:Op}
theorem RWL.gS {x:Bool} (h:RWL C g ops bs s0 ws r (k+1) (putE e dst .junk) K) (hj:(gslot ops j).map e=some (.a (.v (.bool x))):=by (simp only [go_sem,simprocAttr,gslot,fx])<;>rfl) (hb:(x != b)=true:=by rfl) (hn:wrSt s0 ws k=none:=by rfl):RWL C g ops bs s0 ws (⟨dst,op,ty,pos,after,some (j,b)⟩::r) k e K :=
 RWL.rdA hn (fun s=>by unfold DCond;simp only [hj];intro hx;subst hx;simp at hb) h
theorem RWL.pk {c x y:Operand} {b:Bool} {guard:Option (Nat×Bool)} (h:RWL C g ops bs s0 ws r (k+1) (putE e dst d) K) (hc:evO e c=.a (.v (.bool b)):=by (simp only [go_sem,simprocAttr,fx])<;>rfl) (hd:(bif b then evO e x else evO e y)=d:=by (simp only [go_sem,simprocAttr,fx])<;>rfl) (hn:wrSt s0 ws k=none:=by rfl):RWL C g ops bs s0 ws (⟨dst,.pick c x y,ty,pos,after,guard⟩::r) k e K:=by
 subst hd
 exact RWL.rdA hn (fun s=>.of (.pickB rfl hc)) h
theorem RWL.gM (σ:List Nat) (hp:DM P f ds st d st1) (h:RWL C g ops bs s0 ws r (k+1) (putE e dst d') K) (hgd:gOk ops e 8 (some (j,b)):=by exact⟨rfl,trivial⟩) (hn:wrSt s0 ws k=some (s,s'):=by rfl) (hx:xs.map (evO e)=vs:=by (simp only [go_sem,simprocAttr,fx])<;>rfl) (hs:σ.map (fun i=>s.getD i .gone)=bs':=by (simp only [go_sem,simprocAttr,fx])<;>rfl) (hin:lendOk σ bs' vs=true:=by (simp only [go_sem,simprocAttr,fx])<;>rfl) (hu:vs.map (unD σ)=ds:=by (simp only [go_sem,simprocAttr,fx])<;>rfl) (hv:bs'.map (unB σ)=st:=by (simp only [go_sem,simprocAttr,fx])<;>rfl) (hg:e 1000000=g:=by (simp only [go_sem,simprocAttr])<;>rfl) (hne:0<st1.length:=by exact Nat.zero_lt_succ _) (hd:rnD (rnX σ s.length (st1.length-σ.length)) d=d':=by (simp only [go_sem,simprocAttr,fx])<;>rfl)
  (hst:mrg σ s (st1.map (rnB (rnX σ s.length (st1.length-σ.length))))=s':=by (simp only [go_sem,simprocAttr,fx])<;>rfl):RWL C g ops bs s0 ws (⟨dst,.call ⟨.value (.func f),⟨xs⟩,tys⟩,ty,pos,after,some (j,b)⟩::r) k e K:=by
 have q:WS C g s e ⟨dst,.call ⟨.value (.func f),⟨xs⟩,tys⟩,ty,pos,after,none⟩ d' s':=WS.callM hx hs hin hu hv hg hp hne hd hst
 exact⟨d',by unfold RWL1;rw [hn];exact .inr (.inr ⟨hgd,q.2.2⟩),h⟩
end
def RdM (f:FuncId) (xs:List D) (l:List Tok) (s:Ps) (r:Pt×Bool×Ps):Prop:=DM Tryd.prog f xs [.cell (prR l s)] (.t [.r (Pt.at r.1),.a (.v (.bool r.2.1))]) [.cell (prR l r.2.2)]
theorem pkTAf (l:List Tok) (s s2:Ps) (x:Pt) (hl:l.length≤1048576) (hp:isT (nowT l s.at_) [40]=true) (hI:DM Tryd.prog 40 [.a (.ptr 0 0),.a (.fn 41 [.ptr 1 0])] [.cell (prR l s),.cell [.ptr 0 0]] (.t [.r (Pt.at x),.a (.v (.bool false))]) [.cell (prR l s2),.cell [.ptr 0 0]]):RdM 25 [.a (.ptr 0 0)] l s (x,false,s2):=by
 have hn:=pkNow l s hl
 have hi:=pkIs (nowT l s.at_) [40]
 rw [hp] at hi
 generalize nowT l s.at_=t at *
 unfold RdM
 refine DM.intro Tryd.func25 rfl Tryd.ntmps25 rfl rfl rfl (by simp only [go_sem,simprocAttr]) (fun V0 Kb Nx=>?_)
 have fx:=trivial
 repeat' (first|(refine RWL.fin ?_;try simp only [thenQ_n,blockQ_n])|refine stp [0,1,2,3,4,5,6,7,8,9,10,13,28,39,46,53,60,67,72,82] ?_|(refine RS.li ?_;refine rnx ?_)|(refine RS.sE ?_;refine rnx ?_)|(refine RS.pk ?_;refine rnx ?_)|(refine RS.gF ?_;refine rnx ?_)|(refine RS.bC ?_;refine rnx ?_)|(refine RS.mb ?_;refine rnx ?_)|refine RWL.fr ?_|refine RWL.mb ?_|refine RWL.wt ?_|refine RWL.lS ?_|refine RWL.bC ?_|(refine stc (r1:=by exact hi) (r2:=?_);refine rnx ?_)|(refine RS.cM [0] (hp:=by exact hn) (h:=?_);refine rnx ?_)|(refine RS.gM [0] (hp:=by exact hn) (h:=?_);refine rnx ?_)|(refine RS.cM [0,1] (hp:=by exact hI) (h:=?_);refine rnx ?_)|(refine RS.gM [0,1] (hp:=by exact hI) (h:=?_);refine rnx ?_)|(refine' WP.dl (id:=4) [0,0,2,6,14,30,31,127] [0,1,2,3,4,5,6,7,8,9,10,13,28,39,46,53,60,67,72,82] [6] [(6,_)] ?_)|(refine' WP.dl (id:=11) [0,0,0,4,14,31,63] [0,1,2,3,4,5,6,7,8,9,10,13,28,39,46,53,60,67,72,82] [4,5] [(4,_),(5,_)] ?_)|(refine RWL.cM [0] (hp:=by exact hn) (h:=?_))|(refine RWL.gM [0] (hp:=by exact hn) (h:=?_))|(refine RWL.cM [0,1] (hp:=by exact hI) (h:=?_))|(refine RWL.gM [0,1] (hp:=by exact hI) (h:=?_))|refine RWL.re ?_ ?_|refine RdO.oz|refine RdO.oa ?_|refine RdO.oe ?_|refine RdO.on|(refine RWL.gS ?_)|(refine RWL.pk ?_)|refine WP.cn (fun hc=>?_) (fun hc=>?_)|fail)
 exact retMCT ⟨rfl,_,rfl⟩
theorem pkTAt (l:List Tok) (s s2:Ps) (x:Pt) (hl:l.length≤1048576) (h0:0≤s2.at_) (h1:s2.at_≤l.length) (hp:isT (nowT l s.at_) [40]=true) (hI:DM Tryd.prog 40 [.a (.ptr 0 0),.a (.fn 41 [.ptr 1 0])] [.cell (prR l s),.cell [.ptr 0 0]] (.t [.r (Pt.at x),.a (.v (.bool true))]) [.cell (prR l s2),.cell [.ptr 0 0]]):RdM 25 [.a (.ptr 0 0)] l s (x,mustP l s2 [41]):=by
 have hn:=pkNow l s hl
 have hi:=pkIs (nowT l s.at_) [40]
 have hm:=pkMust l s2 [41] hl h0 h1
 rw [hp] at hi
 generalize nowT l s.at_=t at *
 generalize mustP l s2 [41]=m at *
 obtain⟨mo,ms⟩:=m
 unfold RdM
 refine DM.intro Tryd.func25 rfl Tryd.ntmps25 rfl rfl rfl (by simp only [go_sem,simprocAttr]) (fun V0 Kb Nx=>?_)
 have fx:=trivial
 repeat' (first|(refine RWL.fin ?_;try simp only [thenQ_n,blockQ_n])|refine stp [0,1,2,3,4,5,6,7,8,9,10,13,28,39,46,53,60,67,72,82] ?_|(refine RS.li ?_;refine rnx ?_)|(refine RS.sE ?_;refine rnx ?_)|(refine RS.pk ?_;refine rnx ?_)|(refine RS.gF ?_;refine rnx ?_)|(refine RS.bC ?_;refine rnx ?_)|(refine RS.mb ?_;refine rnx ?_)|refine RWL.fr ?_|refine RWL.mb ?_|refine RWL.wt ?_|refine RWL.lS ?_|refine RWL.bC ?_|(refine stc (r1:=by exact hi) (r2:=?_);refine rnx ?_)|(refine RS.cM [0] (hp:=by first|exact hn|exact hm) (h:=?_);refine rnx ?_)|(refine RS.gM [0] (hp:=by first|exact hn|exact hm) (h:=?_);refine rnx ?_)|(refine RS.cM [0,1] (hp:=by exact hI) (h:=?_);refine rnx ?_)|(refine RS.gM [0,1] (hp:=by exact hI) (h:=?_);refine rnx ?_)|(refine' WP.dl (id:=4) [0,0,2,6,14,30,31,127] [0,1,2,3,4,5,6,7,8,9,10,13,28,39,46,53,60,67,72,82] [4,6] [(4,_),(6,_)] ?_)|(refine' WP.dl (id:=11) [0,0,0,4,14,31,63] [0,1,2,3,4,5,6,7,8,9,10,13,28,39,46,53,60,67,72,82] [4,5] [(4,_),(5,_)] ?_)|(refine RWL.cM [0] (hp:=by first|exact hn|exact hm) (h:=?_))|(refine RWL.gM [0] (hp:=by first|exact hn|exact hm) (h:=?_))|(refine RWL.cM [0,1] (hp:=by exact hI) (h:=?_))|(refine RWL.gM [0,1] (hp:=by exact hI) (h:=?_))|refine RWL.re ?_ ?_|refine RdO.oz|refine RdO.oa ?_|refine RdO.oe ?_|refine RdO.on|(refine RWL.gS ?_)|(refine RWL.pk ?_)|refine WP.cn (fun hc=>?_) (fun hc=>?_)|fail)
 exact retMCT ⟨rfl,_,rfl⟩
theorem pkTBf (l:List Tok) (s s2:Ps) (x:Pt) (hl:l.length≤1048576) (hp:isT (nowT l s.at_) [40]=false) (hq:isT (nowT l s.at_) [33]=true) (hI:DM Tryd.prog 40 [.a (.ptr 0 0),.a (.fm 25 [.ptr 0 0])] [.cell (prR l s)] (.t [.r (Pt.at x),.a (.v (.bool false))]) [.cell (prR l s2)]):RdM 25 [.a (.ptr 0 0)] l s (x,false,s2):=by
 have hn:=pkNow l s hl
 have hi:=pkIs (nowT l s.at_) [40]
 have hj:=pkIs (nowT l s.at_) [33]
 rw [hp] at hi
 rw [hq] at hj
 generalize nowT l s.at_=t at *
 unfold RdM
 refine DM.intro Tryd.func25 rfl Tryd.ntmps25 rfl rfl rfl (by simp only [go_sem,simprocAttr]) (fun V0 Kb Nx=>?_)
 have fx:=trivial
 repeat' (first|(refine RWL.fin ?_;try simp only [thenQ_n,blockQ_n])|refine stp [0,1,2,3,4,5,6,7,8,9,10,13,28,39,46,53,60,67,72,82] ?_|(refine RS.ls ?_;refine rnx ?_)|(refine RS.sE ?_;refine rnx ?_)|(refine RS.pk ?_;refine rnx ?_)|(refine RS.gF ?_;refine rnx ?_)|(refine RS.bC ?_;refine rnx ?_)|(refine RS.mb ?_;refine rnx ?_)|refine RWL.fr ?_|refine RWL.mb ?_|refine RWL.wt ?_|refine RWL.lS ?_|refine RWL.bC ?_|(refine stc (r1:=by first|exact hi|exact hj) (r2:=?_);refine rnx ?_)|(refine RS.cM [0] (hp:=by first|exact hn|exact hI) (h:=?_);refine rnx ?_)|(refine RS.gM [0] (hp:=by first|exact hn|exact hI) (h:=?_);refine rnx ?_)|(refine' WP.dl (id:=4) [0,0,2,6,14,30,31,127] [0,1,2,3,4,5,6,7,8,9,10,13,28,39,46,53,60,67,72,82] [4,6] [(4,_),(6,_)] ?_)|(refine' WP.dl (id:=11) [0,0,0,4,14,31,63] [0,1,2,3,4,5,6,7,8,9,10,13,28,39,46,53,60,67,72,82] [4,5] [(4,_),(5,_)] ?_)|(refine RWL.cM [0] (hp:=by first|exact hn|exact hI) (h:=?_))|(refine RWL.gM [0] (hp:=by first|exact hn|exact hI) (h:=?_))|refine RWL.re ?_ ?_|refine RdO.oz|refine RdO.oa ?_|refine RdO.oe ?_|refine RdO.on|(refine RWL.gS ?_)|(refine RWL.pk ?_)|refine WP.cn (fun hc=>?_) (fun hc=>?_)|fail)
 exact retMCT ⟨rfl,_,rfl⟩
theorem pkTBt (l:List Tok) (s s2:Ps) (x:Pt) (hl:l.length≤1048576) (hd0:0≤x.d) (hd1:x.d≤1048576) (hp:isT (nowT l s.at_) [40]=false) (hq:isT (nowT l s.at_) [33]=true) (hI:DM Tryd.prog 40 [.a (.ptr 0 0),.a (.fm 25 [.ptr 0 0])] [.cell (prR l s)] (.t [.r (Pt.at x),.a (.v (.bool true))]) [.cell (prR l s2)]):RdM 25 [.a (.ptr 0 0)] l s (if (overP 12 [x]).d>20 then (overP 12 [x],false,s2.bad 5 (nowT l s.at_).pos) else (overP 12 [x],true,s2)):=by
 have hn:=pkNow l s hl
 have hi:=pkIs (nowT l s.at_) [40]
 have hj:=pkIs (nowT l s.at_) [33]
 have ho:=pkOver1 12 x hd0 hd1
 have hb:=pkBad l s2 5 (nowT l s.at_).pos
 rw [hp] at hi
 rw [hq] at hj
 generalize nowT l s.at_=t at *
 generalize overP 12 [x]=z at *
 by_cases hz:z.d>20
 ·have g:decide (z.d>20)=true:=decide_eq_true hz
  rw [if_pos hz]
  unfold RdM
  refine DM.intro Tryd.func25 rfl Tryd.ntmps25 rfl rfl rfl (by simp only [go_sem,simprocAttr]) (fun V0 Kb Nx=>?_)
  have fx:=trivial
  replace fx:=And.intro g trivial
  repeat' (first|(refine RWL.fin ?_;try simp only [thenQ_n,blockQ_n])|refine stp [0,1,2,3,4,5,6,7,8,9,10,13,28,39,46,53,60,67,72,82] ?_|(refine RS.ls ?_;refine rnx ?_)|(refine RS.sE ?_;refine rnx ?_)|(refine RS.pk ?_;refine rnx ?_)|(refine RS.gF ?_;refine rnx ?_)|(refine RS.bC ?_;refine rnx ?_)|(refine RS.mb ?_;refine rnx ?_)|refine RWL.fr ?_|refine RWL.mb ?_|refine RWL.wt ?_|refine RWL.lS ?_|refine RWL.bC ?_|(refine stc (r1:=by first|exact hi|exact hj|exact ho) (r2:=?_);refine rnx ?_)|(refine RS.cM [0] (hp:=by first|exact hn|exact hI|exact hb) (h:=?_);refine rnx ?_)|(refine RS.gM [0] (hp:=by first|exact hn|exact hI|exact hb) (h:=?_);refine rnx ?_)|(refine' WP.dl (id:=4) [0,0,2,6,14,30,31,127] [0,1,2,3,4,5,6,7,8,9,10,13,28,39,46,53,60,67,72,82] [4,6] [(4,_),(6,_)] ?_)|(refine' WP.dl (id:=11) [0,0,0,4,14,31,63] [0,1,2,3,4,5,6,7,8,9,10,13,28,39,46,53,60,67,72,82] [4,5] [(4,_),(5,_)] ?_)|(refine RWL.cM [0] (hp:=by first|exact hn|exact hI|exact hb) (h:=?_))|(refine RWL.gM [0] (hp:=by first|exact hn|exact hI|exact hb) (h:=?_))|refine RWL.re ?_ ?_|refine RdO.oz|refine RdO.oa ?_|refine RdO.oe ?_|refine RdO.on|(refine RWL.gS ?_)|(refine RWL.pk ?_)|refine WP.cn (fun hc=>?_) (fun hc=>?_)|fail)
  exact retMCT ⟨rfl,_,rfl⟩
 ·have g:decide (z.d>20)=false:=decide_eq_false hz
  rw [if_neg hz]
  unfold RdM
  refine DM.intro Tryd.func25 rfl Tryd.ntmps25 rfl rfl rfl (by simp only [go_sem,simprocAttr]) (fun V0 Kb Nx=>?_)
  have fx:=trivial
  replace fx:=And.intro g trivial
  repeat' (first|(refine RWL.fin ?_;try simp only [thenQ_n,blockQ_n])|refine stp [0,1,2,3,4,5,6,7,8,9,10,13,28,39,46,53,60,67,72,82] ?_|(refine RS.ls ?_;refine rnx ?_)|(refine RS.sE ?_;refine rnx ?_)|(refine RS.pk ?_;refine rnx ?_)|(refine RS.gF ?_;refine rnx ?_)|(refine RS.bC ?_;refine rnx ?_)|(refine RS.mb ?_;refine rnx ?_)|refine RWL.fr ?_|refine RWL.mb ?_|refine RWL.wt ?_|refine RWL.lS ?_|refine RWL.bC ?_|(refine stc (r1:=by first|exact hi|exact hj|exact ho) (r2:=?_);refine rnx ?_)|(refine RS.cM [0] (hp:=by first|exact hn|exact hI|exact hb) (h:=?_);refine rnx ?_)|(refine RS.gM [0] (hp:=by first|exact hn|exact hI|exact hb) (h:=?_);refine rnx ?_)|(refine' WP.dl (id:=4) [0,0,2,6,14,30,31,127] [0,1,2,3,4,5,6,7,8,9,10,13,28,39,46,53,60,67,72,82] [4,6] [(4,_),(6,_)] ?_)|(refine' WP.dl (id:=11) [0,0,0,4,14,31,63] [0,1,2,3,4,5,6,7,8,9,10,13,28,39,46,53,60,67,72,82] [4,5] [(4,_),(5,_)] ?_)|(refine RWL.cM [0] (hp:=by first|exact hn|exact hI|exact hb) (h:=?_))|(refine RWL.gM [0] (hp:=by first|exact hn|exact hI|exact hb) (h:=?_))|refine RWL.re ?_ ?_|refine RdO.oz|refine RdO.oa ?_|refine RdO.oe ?_|refine RdO.on|(refine RWL.gS ?_)|(refine RWL.pk ?_)|refine WP.cn (fun hc=>?_) (fun hc=>?_)|fail)
  exact retMCT ⟨rfl,_,rfl⟩
theorem DPure.scalT {P:Program} {f:FuncId} {xs zs:List Value} (he:∀(args:Array Value) (W:World),(callFunc f args).run P W=.ok (.enter f args) W) (hz:zs.all plainV=true)
  (h:∀w:World,Calls P f xs.toArray w fun e w'=>e=.returned (.tuple zs.toArray)∧Grw w w'):DPure P f (xs.map fun x=>.a (.v x)) (.t (zs.map fun z=>.a (.v z))):=by
 refine⟨he,fun w x vs _ hg hl hr=>?_⟩
 have:vs=xs:=by
  apply List.ext_getElem?
  intro j
  simp at hl
  by_cases hj:j<xs.length
  ·have:=hr j (.a (.v xs[j])) (by rw [List.getElem?_map,List.getElem?_eq_getElem hj];rfl)
   rw [List.getD_eq_getElem?_getD,List.getElem?_eq_getElem (by omega)] at this
   rw [List.getElem?_eq_getElem (by omega),List.getElem?_eq_getElem hj]
   exact congrArg some this.v_inv.1
  ·rw [List.getElem?_eq_none (by omega),List.getElem?_eq_none (by omega)]
 subst this
 refine (h w).mono ?_
 rintro e w' ⟨rfl,hq⟩
 refine⟨_,rfl,hq,.t _ zs (by simp) fun j d hd=>?_⟩
 rw [List.getElem?_map] at hd
 cases hzj:zs[j]? with
 | none=>rw [hzj] at hd;cases hd
 | some z =>
  rw [hzj] at hd
  injection hd with hd
  subst hd
  rw [List.getD_eq_getElem?_getD,hzj]
  exact .v (List.all_eq_true.1 hz z (List.mem_of_getElem? hzj))
theorem pwNum (t:List UInt8) (ht:t.length≤1048576):DPure Tryd.prog 45 [.a (.v (.string (bs t)))] (.t [.a (.v (.int .i64 (((numL t).getD 0:Nat):Int))),.a (.v (.bool (numL t).isSome))]):=by
 have:=DPure.scalT (P:=Tryd.prog) (f:=45) (xs:=[.string (bs t)]) (zs:=[.int .i64 (((numL t).getD 0:Nat):Int),.bool (numL t).isSome]) (callFunc_of Tryd.func45 rfl rfl) rfl fun w=>by
  have:=wNumber_any (bs t) w (by rw [bs_size];omega)
  rw [bs_data] at this
  unfold numV at this
  cases hN:numL t with
  | none=>rw [hN] at this;exact this
  | some n=>rw [hN] at this;exact this
 exact this
theorem pkTE (l:List Tok) (s:Ps) (hl:l.length≤1048576) (h0:0≤s.at_) (h1:s.at_≤l.length) (hx:(nowT l s.at_).text.length≤1048576) (hp:isT (nowT l s.at_) [40]=false) (hq:isT (nowT l s.at_) [33]=false):RdM 25 [.a (.ptr 0 0)] l s (easyP l s):=by
 have hn:=pkNow l s hl
 have hi:=pkIs (nowT l s.at_) [40]
 have hj:=pkIs (nowT l s.at_) [33]
 have t1:=pkTake l s [110,105,108] hl h0 h1
 have t2:=pkTake l s [115,97,109,101] hl h0 h1
 have t3:=pkTake l s [105,110,112,117,116] hl h0 h1
 have p1:=Ex.lit
 have p2:=Pt.litZ
 have p3:=Ex.litZ
 have hN:=pwNum (nowT l s.at_).text hx
 rw [hp] at hi
 rw [hq] at hj
 unfold easyP
 have hend:=now_end l
 have kl:∀{t:List UInt8},isT (nowT l s.at_) t=true→s.at_<l.length:=fun h=>isT_lt hend h
 have kk:(nowT l s.at_).kind=2→s.at_<l.length:=fun h=>kind_lt hend (by rw [h];decide)
 cases g1:isT (nowT l s.at_) [110,105,108]
 ·rw [if_neg (by decide)]
  rw [g1,if_neg (by decide)] at t1
  cases g2:isT (nowT l s.at_) [115,97,109,101]
  ·rw [if_neg (by decide)]
   rw [g2,if_neg (by decide)] at t2
   cases g3:isT (nowT l s.at_) [105,110,112,117,116]
   ·rw [if_neg (by decide)]
    rw [g3,if_neg (by decide)] at t3
    by_cases hk:(nowT l s.at_).kind=2
    ·have hlt:=kk hk
     have hw:IntKind.i64.wrap (s.at_+1)=s.at_+1:=wrap64 (by omega) (by omega)
     rw [if_pos hk]
     have ek:((nowT l s.at_).kind==2)=true:=by simp [hk]
     cases hL:numL (nowT l s.at_).text with
     | none =>
      rw [hL] at hN
      have ha:=pkAtom l s true hl h0 h1
      dsimp only
      generalize nowT l s.at_=t at *
      generalize atomP l s true=a at *
      obtain⟨x,ok,s'⟩:=a
      unfold RdM
      refine DM.intro Tryd.func25 rfl Tryd.ntmps25 rfl rfl rfl (by simp only [go_sem,simprocAttr]) (fun V0 Kb Nx=>?_)
      have fx:=trivial
      replace fx:=And.intro ek (And.intro p1 (And.intro p2 (And.intro p3 trivial)))
      repeat' (first|(refine RWL.fin ?_;try simp only [thenQ_n,blockQ_n])|refine stp [0,1,2,3,4,5,6,7,8,9,10,13,28,39,46,53,60,67,72,82] ?_|(refine RS.ls ?_;refine rnx ?_)|(refine RS.sE ?_;refine rnx ?_)|(refine RS.pk ?_;refine rnx ?_)|(refine RS.gF ?_;refine rnx ?_)|(refine RS.bC ?_;refine rnx ?_)|(refine RS.mb ?_;refine rnx ?_)|refine RWL.fr ?_|refine RWL.mb ?_|refine RWL.wt ?_|refine RWL.lS ?_|refine RWL.bC ?_|(refine stc (r1:=by first|exact hi|exact hj|exact hN) (r2:=?_);refine rnx ?_)|(refine RS.cM [0] (hp:=by first|exact hn|exact t1|exact t2|exact t3|exact ha) (h:=?_);refine rnx ?_)|(refine RS.gM [0] (hp:=by first|exact hn|exact t1|exact t2|exact t3|exact ha) (h:=?_);refine rnx ?_)|(refine' WP.dl (id:=4) [0,0,2,6,14,30,31,127] [0,1,2,3,4,5,6,7,8,9,10,13,28,39,46,53,60,67,72,82] [6] [(6,_)] ?_)|(refine' WP.dl (id:=11) [0,0,0,4,14,31,63] [0,1,2,3,4,5,6,7,8,9,10,13,28,39,46,53,60,67,72,82] [4,5] [(4,_),(5,_)] ?_)|(refine RWL.cM [0] (hp:=by first|exact hn|exact t1|exact t2|exact t3|exact ha) (h:=?_))|(refine RWL.gM [0] (hp:=by first|exact hn|exact t1|exact t2|exact t3|exact ha) (h:=?_))|refine RWL.re ?_ ?_|refine RdO.oz|refine RdO.oa ?_|refine RdO.oe ?_|refine RdO.on|(refine RWL.gS ?_)|(refine RWL.pk ?_)|refine WP.cn (fun hc=>?_) (fun hc=>?_)|fail)
      exact retMCT ⟨rfl,_,rfl⟩
     | some n =>
      rw [hL] at hN
      dsimp only
      generalize nowT l s.at_=t at *
      unfold RdM
      refine DM.intro Tryd.func25 rfl Tryd.ntmps25 rfl rfl rfl (by simp only [go_sem,simprocAttr]) (fun V0 Kb Nx=>?_)
      have fx:=trivial
      replace fx:=And.intro ek (And.intro hw (And.intro p1 (And.intro p2 (And.intro p3 trivial))))
      repeat' (first|(refine RWL.fin ?_;try simp only [thenQ_n,blockQ_n])|refine stp [0,1,2,3,4,5,6,7,8,9,10,13,28,39,46,53,60,67,72,82] ?_|(refine RS.ls ?_;refine rnx ?_)|(refine RS.sE ?_;refine rnx ?_)|(refine RS.pk ?_;refine rnx ?_)|(refine RS.gF ?_;refine rnx ?_)|(refine RS.bC ?_;refine rnx ?_)|(refine RS.mb ?_;refine rnx ?_)|refine RWL.fr ?_|refine RWL.mb ?_|refine RWL.wt ?_|refine RWL.lS ?_|refine RWL.bC ?_|(refine stc (r1:=by first|exact hi|exact hj|exact hN) (r2:=?_);refine rnx ?_)|(refine RS.cM [0] (hp:=by first|exact hn|exact t1|exact t2|exact t3) (h:=?_);refine rnx ?_)|(refine RS.gM [0] (hp:=by first|exact hn|exact t1|exact t2|exact t3) (h:=?_);refine rnx ?_)|(refine' WP.dl (id:=4) [0,0,2,6,14,30,31,127] [0,1,2,3,4,5,6,7,8,9,10,13,28,39,46,53,60,67,72,82] [6] [(6,_)] ?_)|(refine' WP.dl (id:=11) [0,0,0,4,14,31,63] [0,1,2,3,4,5,6,7,8,9,10,13,28,39,46,53,60,67,72,82] [4,5] [(4,_),(5,_)] ?_)|(refine RWL.cM [0] (hp:=by first|exact hn|exact t1|exact t2|exact t3) (h:=?_))|(refine RWL.gM [0] (hp:=by first|exact hn|exact t1|exact t2|exact t3) (h:=?_))|refine RWL.re ?_ ?_|refine RdO.oz|refine RdO.oa ?_|refine RdO.oe ?_|refine RdO.on|(refine RWL.gS ?_)|(refine RWL.pk ?_)|refine WP.cn (fun hc=>?_) (fun hc=>?_)|fail)
      exact retMCT ⟨rfl,_,rfl⟩
    ·rw [if_neg hk]
     have ek:((nowT l s.at_).kind==2)=false:=by simp [hk]
     have ha:=pkAtom l s true hl h0 h1
     generalize nowT l s.at_=t at *
     generalize atomP l s true=a at *
     obtain⟨x,ok,s'⟩:=a
     unfold RdM
     refine DM.intro Tryd.func25 rfl Tryd.ntmps25 rfl rfl rfl (by simp only [go_sem,simprocAttr]) (fun V0 Kb Nx=>?_)
     have fx:=trivial
     replace fx:=And.intro ek (And.intro p1 (And.intro p2 (And.intro p3 trivial)))
     repeat' (first|(refine RWL.fin ?_;try simp only [thenQ_n,blockQ_n])|refine stp [0,1,2,3,4,5,6,7,8,9,10,13,28,39,46,53,60,67,72,82] ?_|(refine RS.ls ?_;refine rnx ?_)|(refine RS.sE ?_;refine rnx ?_)|(refine RS.pk ?_;refine rnx ?_)|(refine RS.gF ?_;refine rnx ?_)|(refine RS.bC ?_;refine rnx ?_)|(refine RS.mb ?_;refine rnx ?_)|refine RWL.fr ?_|refine RWL.mb ?_|refine RWL.wt ?_|refine RWL.lS ?_|refine RWL.bC ?_|(refine stc (r1:=by first|exact hi|exact hj|exact hN) (r2:=?_);refine rnx ?_)|(refine RS.cM [0] (hp:=by first|exact hn|exact t1|exact t2|exact t3|exact ha) (h:=?_);refine rnx ?_)|(refine RS.gM [0] (hp:=by first|exact hn|exact t1|exact t2|exact t3|exact ha) (h:=?_);refine rnx ?_)|(refine' WP.dl (id:=4) [0,0,2,6,14,30,31,127] [0,1,2,3,4,5,6,7,8,9,10,13,28,39,46,53,60,67,72,82] [6] [(6,_)] ?_)|(refine' WP.dl (id:=11) [0,0,0,4,14,31,63] [0,1,2,3,4,5,6,7,8,9,10,13,28,39,46,53,60,67,72,82] [4,5] [(4,_),(5,_)] ?_)|(refine RWL.cM [0] (hp:=by first|exact hn|exact t1|exact t2|exact t3|exact ha) (h:=?_))|(refine RWL.gM [0] (hp:=by first|exact hn|exact t1|exact t2|exact t3|exact ha) (h:=?_))|refine RWL.re ?_ ?_|refine RdO.oz|refine RdO.oa ?_|refine RdO.oe ?_|refine RdO.on|(refine RWL.gS ?_)|(refine RWL.pk ?_)|refine WP.cn (fun hc=>?_) (fun hc=>?_)|fail)
     exact retMCT ⟨rfl,_,rfl⟩
   ·rw [if_pos rfl]
    rw [g3,if_pos rfl] at t3
    generalize nowT l s.at_=t at *
    unfold RdM
    refine DM.intro Tryd.func25 rfl Tryd.ntmps25 rfl rfl rfl (by simp only [go_sem,simprocAttr]) (fun V0 Kb Nx=>?_)
    have fx:=trivial
    replace fx:=And.intro p1 (And.intro p2 (And.intro p3 trivial))
    repeat' (first|(refine RWL.fin ?_;try simp only [thenQ_n,blockQ_n])|refine stp [0,1,2,3,4,5,6,7,8,9,10,13,28,39,46,53,60,67,72,82] ?_|(refine RS.ls ?_;refine rnx ?_)|(refine RS.sE ?_;refine rnx ?_)|(refine RS.pk ?_;refine rnx ?_)|(refine RS.gF ?_;refine rnx ?_)|(refine RS.bC ?_;refine rnx ?_)|(refine RS.mb ?_;refine rnx ?_)|refine RWL.fr ?_|refine RWL.mb ?_|refine RWL.wt ?_|refine RWL.lS ?_|refine RWL.bC ?_|(refine stc (r1:=by first|exact hi|exact hj) (r2:=?_);refine rnx ?_)|(refine RS.cM [0] (hp:=by first|exact hn|exact t1|exact t2|exact t3) (h:=?_);refine rnx ?_)|(refine RS.gM [0] (hp:=by first|exact hn|exact t1|exact t2|exact t3) (h:=?_);refine rnx ?_)|(refine' WP.dl (id:=4) [0,0,2,6,14,30,31,127] [0,1,2,3,4,5,6,7,8,9,10,13,28,39,46,53,60,67,72,82] [6] [(6,_)] ?_)|(refine' WP.dl (id:=11) [0,0,0,4,14,31,63] [0,1,2,3,4,5,6,7,8,9,10,13,28,39,46,53,60,67,72,82] [4,5] [(4,_),(5,_)] ?_)|(refine RWL.cM [0] (hp:=by first|exact hn|exact t1|exact t2|exact t3) (h:=?_))|(refine RWL.gM [0] (hp:=by first|exact hn|exact t1|exact t2|exact t3) (h:=?_))|refine RWL.re ?_ ?_|refine RdO.oz|refine RdO.oa ?_|refine RdO.oe ?_|refine RdO.on|(refine RWL.gS ?_)|(refine RWL.pk ?_)|refine WP.cn (fun hc=>?_) (fun hc=>?_)|fail)
    exact retMCT ⟨rfl,_,rfl⟩
  ·rw [if_pos rfl]
   rw [g2,if_pos rfl] at t2
   have hlt:=kl g2
   have ha:=pkSam l s.adv hl (by show 0≤s.at_+1;omega) (by show s.at_+1≤l.length;omega)
   generalize nowT l s.at_=t at *
   generalize samP l s.adv=a at *
   obtain⟨x,ok,s'⟩:=a
   unfold RdM
   refine DM.intro Tryd.func25 rfl Tryd.ntmps25 rfl rfl rfl (by simp only [go_sem,simprocAttr]) (fun V0 Kb Nx=>?_)
   have fx:=trivial
   replace fx:=And.intro p1 (And.intro p2 (And.intro p3 trivial))
   repeat' (first|(refine RWL.fin ?_;try simp only [thenQ_n,blockQ_n])|refine stp [0,1,2,3,4,5,6,7,8,9,10,13,28,39,46,53,60,67,72,82] ?_|(refine RS.ls ?_;refine rnx ?_)|(refine RS.sE ?_;refine rnx ?_)|(refine RS.pk ?_;refine rnx ?_)|(refine RS.gF ?_;refine rnx ?_)|(refine RS.bC ?_;refine rnx ?_)|(refine RS.mb ?_;refine rnx ?_)|refine RWL.fr ?_|refine RWL.mb ?_|refine RWL.wt ?_|refine RWL.lS ?_|refine RWL.bC ?_|(refine stc (r1:=by first|exact hi|exact hj) (r2:=?_);refine rnx ?_)|(refine RS.cM [0] (hp:=by first|exact hn|exact t1|exact t2|exact ha) (h:=?_);refine rnx ?_)|(refine RS.gM [0] (hp:=by first|exact hn|exact t1|exact t2|exact ha) (h:=?_);refine rnx ?_)|(refine' WP.dl (id:=4) [0,0,2,6,14,30,31,127] [0,1,2,3,4,5,6,7,8,9,10,13,28,39,46,53,60,67,72,82] [6] [(6,_)] ?_)|(refine' WP.dl (id:=11) [0,0,0,4,14,31,63] [0,1,2,3,4,5,6,7,8,9,10,13,28,39,46,53,60,67,72,82] [4,5] [(4,_),(5,_)] ?_)|(refine RWL.cM [0] (hp:=by first|exact hn|exact t1|exact t2|exact ha) (h:=?_))|(refine RWL.gM [0] (hp:=by first|exact hn|exact t1|exact t2|exact ha) (h:=?_))|refine RWL.re ?_ ?_|refine RdO.oz|refine RdO.oa ?_|refine RdO.oe ?_|refine RdO.on|(refine RWL.gS ?_)|(refine RWL.pk ?_)|refine WP.cn (fun hc=>?_) (fun hc=>?_)|fail)
   exact retMCT ⟨rfl,_,rfl⟩
 ·rw [if_pos rfl]
  rw [g1,if_pos rfl] at t1
  have hlt:=kl g1
  have ha:=pkNil l s.adv hl (by show 0≤s.at_+1;omega) (by show s.at_+1≤l.length;omega)
  generalize nowT l s.at_=t at *
  generalize nilP l s.adv=a at *
  obtain⟨x,ok,s'⟩:=a
  unfold RdM
  refine DM.intro Tryd.func25 rfl Tryd.ntmps25 rfl rfl rfl (by simp only [go_sem,simprocAttr]) (fun V0 Kb Nx=>?_)
  have fx:=trivial
  replace fx:=And.intro p1 (And.intro p2 (And.intro p3 trivial))
  repeat' (first|(refine RWL.fin ?_;try simp only [thenQ_n,blockQ_n])|refine stp [0,1,2,3,4,5,6,7,8,9,10,13,28,39,46,53,60,67,72,82] ?_|(refine RS.ls ?_;refine rnx ?_)|(refine RS.sE ?_;refine rnx ?_)|(refine RS.pk ?_;refine rnx ?_)|(refine RS.gF ?_;refine rnx ?_)|(refine RS.bC ?_;refine rnx ?_)|(refine RS.mb ?_;refine rnx ?_)|refine RWL.fr ?_|refine RWL.mb ?_|refine RWL.wt ?_|refine RWL.lS ?_|refine RWL.bC ?_|(refine stc (r1:=by first|exact hi|exact hj) (r2:=?_);refine rnx ?_)|(refine RS.cM [0] (hp:=by first|exact hn|exact t1|exact ha) (h:=?_);refine rnx ?_)|(refine RS.gM [0] (hp:=by first|exact hn|exact t1|exact ha) (h:=?_);refine rnx ?_)|(refine' WP.dl (id:=4) [0,0,2,6,14,30,31,127] [0,1,2,3,4,5,6,7,8,9,10,13,28,39,46,53,60,67,72,82] [6] [(6,_)] ?_)|(refine' WP.dl (id:=11) [0,0,0,4,14,31,63] [0,1,2,3,4,5,6,7,8,9,10,13,28,39,46,53,60,67,72,82] [4,5] [(4,_),(5,_)] ?_)|(refine RWL.cM [0] (hp:=by first|exact hn|exact t1|exact ha) (h:=?_))|(refine RWL.gM [0] (hp:=by first|exact hn|exact t1|exact ha) (h:=?_))|refine RWL.re ?_ ?_|refine RdO.oz|refine RdO.oa ?_|refine RdO.oe ?_|refine RdO.on|(refine RWL.gS ?_)|(refine RWL.pk ?_)|refine WP.cn (fun hc=>?_) (fun hc=>?_)|fail)
  exact retMCT ⟨rfl,_,rfl⟩
theorem sign_level {l:List Tok} {least:Int} {s:Ps} {b:Bd} (h:signP l least s=some b):1≤b.level∧b.level≤4:=by
 have:=List.mem_of_find?_eq_some h
 unfold sgnL at this
 simp only [List.mem_cons,List.not_mem_nil,or_false] at this
 rcases this with rfl|rfl|rfl|rfl|rfl|rfl<;>simp
def Bnd (l:List Tok) (s:Ps):Prop:=0≤s.at_∧s.at_≤l.length∧0≤s.nest∧s.nest≤20
theorem pkClimb (l:List Tok) (hl:l.length≤1048576) (hT:∀a,(nowT l a).kind=1→nameB (nowT l a).text=true) (n:Nat) (IHc:∀f,f≤n→∀(least:Int) (s:Ps) r,Bnd l s→climbF l f least s=some r→RdM 14 [.a (.ptr 0 0),.a (.v (.int .i64 least))] l s r) (IHt:∀(s:Ps) r,Bnd l s→tightF l n s=some r→RdM 25 [.a (.ptr 0 0)] l s r) (least:Int) (s:Ps) (r:Pt×Bool×Ps) (hs:Bnd l s) (h:climbF l (n+1) least s=some r):RdM 14 [.a (.ptr 0 0),.a (.v (.int .i64 least))] l s r:=by
 have pz:=ptZ_at
 have pb:[A.v (.string ⟨#[]⟩),.v (.int .i64 0),.v (.int .i64 0)]=Bd.at Bd.zero:=rfl
 rw [climbF] at h
 split at h
 ·cases h
 rename_i x ok s' ht
 have hw:=IHt s _ hs ht
 have fw:=(all_fwd (now_end l) n).2.2 s _ hs.2.1 ht
 have fi:=(all_fine hT n).2.2 s _ ht
 dsimp only [RdM] at hw fw fi
 cases ok
 ·rw [if_neg (by decide)] at h
  injection h with h
  subst h
  unfold RdM
  refine DM.intro Tryd.func14 rfl Tryd.ntmps14 rfl rfl rfl (by simp only [go_sem,simprocAttr]) (fun V0 Kb Nx=>?_)
  have fx:=trivial
  replace fx:=And.intro pz (And.intro pb trivial)
  repeat' (first|(refine RWL.fin ?_;try simp only [thenQ_n,blockQ_n])|refine stp [0,1,4,5,6,7,8,9,10,11,12,13,19,33,54,64,78] ?_|(refine RS.ls ?_;refine rnx ?_)|(refine RS.sE ?_;refine rnx ?_)|(refine RS.pk ?_;refine rnx ?_)|(refine RS.gF ?_;refine rnx ?_)|(refine RS.bC ?_;refine rnx ?_)|refine RWL.fr ?_|refine RWL.wt ?_|refine RWL.lS ?_|refine RWL.bC ?_|(refine RS.cM [0] (hp:=by exact hw) (h:=?_);refine rnx ?_)|(refine RS.gM [0] (hp:=by exact hw) (h:=?_);refine rnx ?_)|(refine' WP.dl (id:=14) [0,0,0,6,15,31] [0,1,4,5,6,7,8,9,10,11,12,13,19,33,54,64,78] [3,4] [(3,_),(4,_)] ?_)|(refine RWL.cM [0] (hp:=by exact hw) (h:=?_))|(refine RWL.gM [0] (hp:=by exact hw) (h:=?_))|refine RWL.re ?_ ?_|refine RdO.oz|refine RdO.oa ?_|refine RdO.oe ?_|refine RdO.on|(refine RWL.gS ?_)|(refine RWL.pk ?_)|refine WP.cn (fun hc=>?_) (fun hc=>?_)|refine WP.loop_in ?_|refine WPIn.unroll ?_|fail)
  exact retMCT ⟨rfl,_,rfl⟩
 rw [if_pos rfl] at h
 have fi:=fi rfl
 have hs':Bnd l s':=⟨by have:=hs.1;have:=fw.1;omega,fw.2.1,by rw [fw.2.2.1];exact hs.2.2.1,by rw [fw.2.2.1];exact hs.2.2.2⟩
 unfold RdM
 refine DM.intro Tryd.func14 rfl Tryd.ntmps14 rfl rfl rfl (by simp only [go_sem,simprocAttr]) (fun V0 Kb Nx=>?_)
 have fx:=trivial
 replace fx:=And.intro pz (And.intro pb trivial)
 repeat' (first|(refine RWL.fin ?_;try simp only [thenQ_n,blockQ_n])|refine stp [0,1,4,5,6,7,8,9,10,11,12,13,19,33,54,64,78] ?_|(refine RS.ls ?_;refine rnx ?_)|(refine RS.sE ?_;refine rnx ?_)|(refine RS.pk ?_;refine rnx ?_)|(refine RS.gF ?_;refine rnx ?_)|(refine RS.bC ?_;refine rnx ?_)|refine RWL.fr ?_|refine RWL.wt ?_|refine RWL.lS ?_|refine RWL.bC ?_|(refine RS.cM [0] (hp:=by exact hw) (h:=?_);refine rnx ?_)|(refine RS.gM [0] (hp:=by exact hw) (h:=?_);refine rnx ?_)|(refine' WP.dl (id:=14) [0,0,0,6,15,31] [0,1,4,5,6,7,8,9,10,11,12,13,19,33,54,64,78] [3,4] [(3,_),(4,_)] ?_)|(refine RWL.cM [0] (hp:=by exact hw) (h:=?_))|(refine RWL.gM [0] (hp:=by exact hw) (h:=?_))|refine RWL.re ?_ ?_|refine RdO.oz|refine RdO.oa ?_|refine RdO.oe ?_|refine RdO.on|(refine RWL.gS ?_)|(refine RWL.pk ?_)|refine WP.cn (fun hc=>?_) (fun hc=>?_)|fail)
 refine WP.loopX (α:={ y:Nat×Pt×Int×Ps // y.1≤n∧loopF l y.1 least y.2.1 y.2.2.1 y.2.2.2=some r∧Bnd l y.2.2.2∧Fine y.2.1 }) (fun y=>[(0,.a (.ptr 0 0)),(1,.a (.v (.int .i64 least))),(4,.a (.ptr 1 0)),(6,.a (.ptr 2 0)),(7,.a (.v (.bool true))),(8,.a (.v (.int .i64 y.1.2.2.1)))]) (fun y=>[.cell (prR l y.1.2.2.2),.cell (Pt.at ptZ),.cell (Pt.at y.1.2.1)]) (fun y=>y.1.1) ⟨(n,x,5,s'),Nat.le_refl _,h,hs',fi⟩ (by simp only [Agree,go_sem,simprocAttr];first|done|rfl) rfl ?_
 clear h hw fw fi hs' ht
 rintro⟨⟨k,x,most,s⟩,hk,h,hs,fi⟩
 dsimp only at hk h hs fi ⊢
 have hsg:=pkSign l s least hl
 cases k with
 | zero=>simp [loopF] at h
 | succ k =>
 rw [loopF] at h
 split at h
 ·rename_i hb
  rw [hb] at hsg
  injection h with h
  subst h
  replace fx:=And.intro pz (And.intro pb trivial)
  repeat' (first|(refine RWL.fin ?_;try simp only [thenQ_n,blockQ_n])|refine stp [0,1,4,5,6,7,8,9,10,11,12,13,19,33,54,64,78] ?_|(refine RS.ls ?_;refine rnx ?_)|(refine RS.sE ?_;refine rnx ?_)|(refine RS.pk ?_;refine rnx ?_)|(refine RS.gF ?_;refine rnx ?_)|(refine RS.bC ?_;refine rnx ?_)|refine RWL.fr ?_|refine RWL.wt ?_|refine RWL.lS ?_|refine RWL.bC ?_|(refine RS.cM [0] (hp:=by exact hsg) (h:=?_);refine rnx ?_)|(refine RS.gM [0] (hp:=by exact hsg) (h:=?_);refine rnx ?_)|(refine' WP.dl (id:=14) [0,0,0,6,15,31] [0,1,4,5,6,7,8,9,10,11,12,13,19,33,54,64,78] [3,4] [(3,_),(4,_)] ?_)|(refine RWL.cM [0] (hp:=by exact hsg) (h:=?_))|(refine RWL.gM [0] (hp:=by exact hsg) (h:=?_))|refine RWL.re ?_ ?_|refine RdO.oz|refine RdO.oa ?_|refine RdO.oe ?_|refine RdO.on|(refine RWL.gS ?_)|(refine RWL.pk ?_)|refine WP.cn (fun hc=>?_) (fun hc=>?_)|fail)
  exact retMCT ⟨rfl,_,rfl⟩
 rename_i b hb
 have hlv:=sign_level hb
 have hlt:=sign_lt (now_end l) hb
 rw [hb] at hsg
 dsimp only [Option.getD,Option.isSome] at hsg
 by_cases hm:b.level>most
 ·rw [if_pos hm] at h
  have g1:decide (b.level>most)=true:=decide_eq_true hm
  injection h with h
  subst h
  replace fx:=And.intro pz (And.intro pb (And.intro g1 trivial))
  repeat' (first|(refine RWL.fin ?_;try simp only [thenQ_n,blockQ_n])|refine stp [0,1,4,5,6,7,8,9,10,11,12,13,19,33,54,64,78] ?_|(refine RS.ls ?_;refine rnx ?_)|(refine RS.sE ?_;refine rnx ?_)|(refine RS.pk ?_;refine rnx ?_)|(refine RS.gF ?_;refine rnx ?_)|(refine RS.bC ?_;refine rnx ?_)|refine RWL.fr ?_|refine RWL.wt ?_|refine RWL.lS ?_|refine RWL.bC ?_|(refine RS.cM [0] (hp:=by exact hsg) (h:=?_);refine rnx ?_)|(refine RS.gM [0] (hp:=by exact hsg) (h:=?_);refine rnx ?_)|(refine' WP.dl (id:=14) [0,0,0,6,15,31] [0,1,4,5,6,7,8,9,10,11,12,13,19,33,54,64,78] [3,4] [(3,_),(4,_)] ?_)|(refine RWL.cM [0] (hp:=by exact hsg) (h:=?_))|(refine RWL.gM [0] (hp:=by exact hsg) (h:=?_))|refine RWL.re ?_ ?_|refine RdO.oz|refine RdO.oa ?_|refine RdO.oe ?_|refine RdO.on|(refine RWL.gS ?_)|(refine RWL.pk ?_)|refine WP.cn (fun hc=>?_) (fun hc=>?_)|fail)
  exact retMCT ⟨rfl,_,rfl⟩
 rw [if_neg hm] at h
 have g1:decide (b.level>most)=false:=decide_eq_false hm
 have hn:=pkNow l s hl
 have h0:=hs.1
 have w1:IntKind.i64.wrap (s.at_+1)=s.at_+1:=wrap64 (by omega) (by omega)
 have w2:IntKind.i64.wrap (b.level+1)=b.level+1:=wrap64 (by omega) (by omega)
 have w3:IntKind.i64.wrap (b.level-1)=b.level-1:=wrap64 (by omega) (by omega)
 have hsa:Bnd l s.adv:=⟨by show 0≤s.at_+1;have:=hs.1;omega,by show s.at_+1≤l.length;omega,hs.2.2.1,hs.2.2.2⟩
 split at h
 ·cases h
 rename_i y ok s2 hc
 have hcl:=IHc k (by omega) (b.level+1) s.adv _ hsa hc
 have fw:=(all_fwd (now_end l) k).1 _ s.adv _ hsa.2.1 hc
 have fy:=(all_fine hT k).1 _ s.adv _ hc
 dsimp only [RdM] at hcl fw fy
 have hs2:Bnd l s2:=⟨by have:=hsa.1;have:=fw.1;omega,fw.2.1,by rw [fw.2.2.1];exact hsa.2.2.1,by rw [fw.2.2.1];exact hsa.2.2.2⟩
 cases ok
 ·rw [if_neg (by decide)] at h
  injection h with h
  subst h
  replace fx:=And.intro pz (And.intro pb (And.intro g1 (And.intro w1 (And.intro w2 trivial))))
  repeat' (first|(refine RWL.fin ?_;try simp only [thenQ_n,blockQ_n])|refine stp [0,1,4,5,6,7,8,9,10,11,12,13,19,33,54,64,78] ?_|(refine RS.ls ?_;refine rnx ?_)|(refine RS.sE ?_;refine rnx ?_)|(refine RS.pk ?_;refine rnx ?_)|(refine RS.gF ?_;refine rnx ?_)|(refine RS.bC ?_;refine rnx ?_)|refine RWL.fr ?_|refine RWL.wt ?_|refine RWL.lS ?_|refine RWL.bC ?_|(refine RS.cM [0] (hp:=by first|exact hsg|exact hn|exact hcl) (h:=?_);refine rnx ?_)|(refine RS.gM [0] (hp:=by first|exact hsg|exact hn|exact hcl) (h:=?_);refine rnx ?_)|(refine' WP.dl (id:=14) [0,0,0,6,15,31] [0,1,4,5,6,7,8,9,10,11,12,13,19,33,54,64,78] [3,4] [(3,_),(4,_)] ?_)|(refine RWL.cM [0] (hp:=by first|exact hsg|exact hn|exact hcl) (h:=?_))|(refine RWL.gM [0] (hp:=by first|exact hsg|exact hn|exact hcl) (h:=?_))|refine RWL.re ?_ ?_|refine RdO.oz|refine RdO.oa ?_|refine RdO.oe ?_|refine RdO.on|(refine RWL.gS ?_)|(refine RWL.pk ?_)|refine WP.cn (fun hc=>?_) (fun hc=>?_)|fail)
  exact retMCT ⟨rfl,_,rfl⟩
 rw [if_pos rfl] at h
 have fy:=fy rfl
 have dx:0≤x.d∧x.d≤20:=⟨by rw [fi.2.1];omega,fi.2.2⟩
 have dy:0≤y.d∧y.d≤20:=⟨by rw [fy.2.1];omega,fy.2.2⟩
 have ho:=pkOver2 b.kind x y dx.1 (by omega) dy.1 (by omega)
 by_cases hd:(overP b.kind [x,y]).d>20
 ·rw [if_pos hd] at h
  have g2:decide ((overP b.kind [x,y]).d>20)=true:=decide_eq_true hd
  injection h with h
  subst h
  have hbd:=pkBad l s2 5 (nowT l s.at_).pos
  generalize overP b.kind [x,y]=z at *
  replace fx:=And.intro pz (And.intro pb (And.intro g1 (And.intro w1 (And.intro w2 (And.intro g2 trivial)))))
  repeat' (first|(refine RWL.fin ?_;try simp only [thenQ_n,blockQ_n])|refine stp [0,1,4,5,6,7,8,9,10,11,12,13,19,33,54,64,78] ?_|(refine RS.ls ?_;refine rnx ?_)|(refine RS.sE ?_;refine rnx ?_)|(refine RS.pk ?_;refine rnx ?_)|(refine RS.gF ?_;refine rnx ?_)|(refine RS.bC ?_;refine rnx ?_)|refine RWL.fr ?_|refine RWL.wt ?_|refine RWL.lS ?_|refine RWL.bC ?_|(refine stc (r1:=by exact ho) (r2:=?_);refine rnx ?_)|(refine RS.cM [0] (hp:=by first|exact hsg|exact hn|exact hcl|exact hbd) (h:=?_);refine rnx ?_)|(refine RS.gM [0] (hp:=by first|exact hsg|exact hn|exact hcl|exact hbd) (h:=?_);refine rnx ?_)|(refine' WP.dl (id:=14) [0,0,0,6,15,31] [0,1,4,5,6,7,8,9,10,11,12,13,19,33,54,64,78] [3,4] [(3,_),(4,_)] ?_)|(refine RWL.cM [0] (hp:=by first|exact hsg|exact hn|exact hcl|exact hbd) (h:=?_))|(refine RWL.gM [0] (hp:=by first|exact hsg|exact hn|exact hcl|exact hbd) (h:=?_))|refine RWL.re ?_ ?_|refine RdO.oz|refine RdO.oa ?_|refine RdO.oe ?_|refine RdO.on|(refine RWL.gS ?_)|(refine RWL.pk ?_)|refine WP.cn (fun hc=>?_) (fun hc=>?_)|fail)
  exact retMCT ⟨rfl,_,rfl⟩
 rw [if_neg hd] at h
 have g2:decide ((overP b.kind [x,y]).d>20)=false:=decide_eq_false hd
 have fz:Fine (overP b.kind [x,y]):=⟨form_bin (sign_kind hb) fi.1 fy.1,by
  show max (max 0 x.d) y.d+1=_
  rw [fi.2.1,fy.2.1];exact (deep_two _ _ _).symm,by omega⟩
 generalize overP b.kind [x,y]=z at *
 cases k9:(b.kind==9)
 ·cases k10:(b.kind==10)
  ·have hmb:mostB b=b.level:=if_neg (by simp at k9 k10;omega)
   rw [hmb] at h
   replace fx:=And.intro pz (And.intro pb (And.intro g1 (And.intro w1 (And.intro w2 (And.intro w3 (And.intro g2 (And.intro k9 (And.intro k10 trivial))))))))
   repeat' (first|(refine RWL.fin ?_;try simp only [thenQ_n,blockQ_n])|refine stp [0,1,4,5,6,7,8,9,10,11,12,13,19,33,54,64,78] ?_|(refine RS.ls ?_;refine rnx ?_)|(refine RS.sE ?_;refine rnx ?_)|(refine RS.pk ?_;refine rnx ?_)|(refine RS.gF ?_;refine rnx ?_)|(refine RS.bC ?_;refine rnx ?_)|refine RWL.fr ?_|refine RWL.wt ?_|refine RWL.lS ?_|refine RWL.bC ?_|(refine stc (r1:=by exact ho) (r2:=?_);refine rnx ?_)|(refine RS.cM [0] (hp:=by first|exact hsg|exact hn|exact hcl) (h:=?_);refine rnx ?_)|(refine RS.gM [0] (hp:=by first|exact hsg|exact hn|exact hcl) (h:=?_);refine rnx ?_)|(refine' WP.dl (id:=14) [0,0,0,6,15,31] [0,1,4,5,6,7,8,9,10,11,12,13,19,33,54,64,78] [3,4] [(3,_),(4,_)] ?_)|(refine RWL.cM [0] (hp:=by first|exact hsg|exact hn|exact hcl) (h:=?_))|(refine RWL.gM [0] (hp:=by first|exact hsg|exact hn|exact hcl) (h:=?_))|refine RWL.re ?_ ?_|refine RdO.oz|refine RdO.oa ?_|refine RdO.oe ?_|refine RdO.on|(refine RWL.gS ?_)|(refine RWL.pk ?_)|refine WP.cn (fun hc=>?_) (fun hc=>?_)|fail)
   exact⟨⟨(k,z,b.level,s2),by dsimp only;omega,h,hs2,fz⟩,[.cell (Bd.at b),.cell (Pt.at y)],by dsimp only;omega,by simp only [Agree,go_sem,simprocAttr],rfl,rfl,by (simp only [go_sem])<;>rfl⟩
  ·have hmb:mostB b=b.level-1:=if_pos (.inr (by simpa using k10))
   rw [hmb] at h
   replace fx:=And.intro pz (And.intro pb (And.intro g1 (And.intro w1 (And.intro w2 (And.intro w3 (And.intro g2 (And.intro k9 (And.intro k10 trivial))))))))
   repeat' (first|(refine RWL.fin ?_;try simp only [thenQ_n,blockQ_n])|refine stp [0,1,4,5,6,7,8,9,10,11,12,13,19,33,54,64,78] ?_|(refine RS.ls ?_;refine rnx ?_)|(refine RS.sE ?_;refine rnx ?_)|(refine RS.pk ?_;refine rnx ?_)|(refine RS.gF ?_;refine rnx ?_)|(refine RS.bC ?_;refine rnx ?_)|refine RWL.fr ?_|refine RWL.wt ?_|refine RWL.lS ?_|refine RWL.bC ?_|(refine stc (r1:=by exact ho) (r2:=?_);refine rnx ?_)|(refine RS.cM [0] (hp:=by first|exact hsg|exact hn|exact hcl) (h:=?_);refine rnx ?_)|(refine RS.gM [0] (hp:=by first|exact hsg|exact hn|exact hcl) (h:=?_);refine rnx ?_)|(refine' WP.dl (id:=14) [0,0,0,6,15,31] [0,1,4,5,6,7,8,9,10,11,12,13,19,33,54,64,78] [3,4] [(3,_),(4,_)] ?_)|(refine RWL.cM [0] (hp:=by first|exact hsg|exact hn|exact hcl) (h:=?_))|(refine RWL.gM [0] (hp:=by first|exact hsg|exact hn|exact hcl) (h:=?_))|refine RWL.re ?_ ?_|refine RdO.oz|refine RdO.oa ?_|refine RdO.oe ?_|refine RdO.on|(refine RWL.gS ?_)|(refine RWL.pk ?_)|refine WP.cn (fun hc=>?_) (fun hc=>?_)|fail)
   exact⟨⟨(k,z,b.level-1,s2),by dsimp only;omega,h,hs2,fz⟩,[.cell (Bd.at b),.cell (Pt.at y)],by dsimp only;omega,by simp only [Agree,go_sem,simprocAttr],rfl,rfl,by (simp only [go_sem])<;>rfl⟩
 ·have hmb:mostB b=b.level-1:=if_pos (.inl (by simpa using k9))
  rw [hmb] at h
  replace fx:=And.intro pz (And.intro pb (And.intro g1 (And.intro w1 (And.intro w2 (And.intro w3 (And.intro g2 (And.intro k9 trivial)))))))
  repeat' (first|(refine RWL.fin ?_;try simp only [thenQ_n,blockQ_n])|refine stp [0,1,4,5,6,7,8,9,10,11,12,13,19,33,54,64,78] ?_|(refine RS.ls ?_;refine rnx ?_)|(refine RS.sE ?_;refine rnx ?_)|(refine RS.pk ?_;refine rnx ?_)|(refine RS.gF ?_;refine rnx ?_)|(refine RS.bC ?_;refine rnx ?_)|refine RWL.fr ?_|refine RWL.wt ?_|refine RWL.lS ?_|refine RWL.bC ?_|(refine stc (r1:=by exact ho) (r2:=?_);refine rnx ?_)|(refine RS.cM [0] (hp:=by first|exact hsg|exact hn|exact hcl) (h:=?_);refine rnx ?_)|(refine RS.gM [0] (hp:=by first|exact hsg|exact hn|exact hcl) (h:=?_);refine rnx ?_)|(refine' WP.dl (id:=14) [0,0,0,6,15,31] [0,1,4,5,6,7,8,9,10,11,12,13,19,33,54,64,78] [3,4] [(3,_),(4,_)] ?_)|(refine RWL.cM [0] (hp:=by first|exact hsg|exact hn|exact hcl) (h:=?_))|(refine RWL.gM [0] (hp:=by first|exact hsg|exact hn|exact hcl) (h:=?_))|refine RWL.re ?_ ?_|refine RdO.oz|refine RdO.oa ?_|refine RdO.oe ?_|refine RdO.on|(refine RWL.gS ?_)|(refine RWL.pk ?_)|refine WP.cn (fun hc=>?_) (fun hc=>?_)|fail)
  exact⟨⟨(k,z,b.level-1,s2),by dsimp only;omega,h,hs2,fz⟩,[.cell (Bd.at b),.cell (Pt.at y)],by dsimp only;omega,by simp only [Agree,go_sem,simprocAttr],rfl,rfl,by (simp only [go_sem])<;>rfl⟩
theorem Fwd.bnd {l:List Tok} {s s0 s':Ps} {ok:Bool} (hs:Bnd l s) (h0:0≤s0.at_) (hn:s0.nest=s.nest+1) (h:Fwd l.length s0 ok s'):Bnd l s'.out∧s'.nest=s.nest+1 :=
 ⟨⟨by have:=h.1;show 0≤s'.at_;omega,h.2.1,by show 0≤s'.nest-1;rw [h.2.2.1,hn];have:=hs.2.2.1;omega,by show s'.nest-1≤20;rw [h.2.2.1,hn];have:=hs.2.2.2;omega⟩,by rw [h.2.2.1,hn]⟩
theorem pkAll (l:List Tok) (hl:l.length≤1048576) (hx:∀a,(nowT l a).text.length≤1048576) (hT:∀a,(nowT l a).kind=1→nameB (nowT l a).text=true):∀n f:Nat,f≤n→(∀(least:Int) (s:Ps) r,Bnd l s→climbF l f least s=some r→RdM 14 [.a (.ptr 0 0),.a (.v (.int .i64 least))] l s r)∧(∀(s:Ps) r,Bnd l s→tightF l f s=some r→RdM 25 [.a (.ptr 0 0)] l s r)
 | 0,f,hf=>by
  obtain rfl:f=0:=by omega
  exact⟨fun _ _ _ _ h=>by simp [climbF] at h,fun _ _ _ h=>by simp [tightF] at h⟩
 | n+1,f,hf=>by
  rcases (show f≤n∨f=n+1 by omega) with h|rfl
  ·exact pkAll l hl hx hT n f h
  have IH:=pkAll l hl hx hT n
  refine⟨fun least s r hs h=>pkClimb l hl hT n (fun f hf=>(IH f hf).1) (IH n (Nat.le_refl _)).2 least s r hs h,fun s r hs h=>?_⟩
  rw [tightF] at h
  cases hp:isT (nowT l s.at_) [40]
  ·rw [hp,if_neg (by decide)] at h
   cases hq:isT (nowT l s.at_) [33]
   ·rw [hq,if_neg (by decide)] at h
    injection h with h
    subst h
    exact pkTE l s hl hs.1 hs.2.1 (hx _) hp hq
   ·rw [hq,if_pos rfl] at h
    have hlt:=isT_lt (now_end l) hq
    by_cases h20:s.nest=20
    ·rw [if_pos h20] at h
     injection h with h
     subst h
     exact pkTBf l s _ ptZ hl hp hq (pkInner20B l s hl h20)
    ·rw [if_neg h20] at h
     have h19:s.nest<20:=by have:=hs.2.2.2;omega
     have hi:Bnd l s.inn:=⟨by show 0≤s.at_+1;have:=hs.1;omega,by show s.at_+1≤l.length;omega,by show 0≤s.nest+1;have:=hs.2.2.1;omega,by show s.nest+1≤20;omega⟩
     split at h
     ·cases h
     rename_i x ok s' hc
     have fw:=(all_fwd (now_end l) n).2.2 s.inn _ hi.2.1 hc
     have fi:=(all_fine hT n).2.2 s.inn _ hc
     obtain⟨hb,hnn⟩:=fw.bnd hs hi.1 rfl
     have hI:=pkInnerB l s (x,ok,s') hl hs.1 hs.2.1 hs.2.2.1 h19 hnn ((IH n (Nat.le_refl _)).2 s.inn _ hi hc)
     cases ok
     ·rw [if_neg (by decide)] at h
      injection h with h
      subst h
      exact pkTBf l s _ x hl hp hq hI
     ·rw [if_pos rfl] at h
      have fi:=fi rfl
      have:=pkTBt l s s'.out x hl (by rw [fi.2.1];omega) (by have:=fi.2.2;dsimp only at this;omega) hp hq hI
      by_cases hd:(overP 12 [x]).d>20
      ·rw [if_pos hd] at h this
       injection h with h
       subst h
       exact this
      ·rw [if_neg hd] at h this
       injection h with h
       subst h
       exact this
  ·rw [hp,if_pos rfl] at h
   have hlt:=isT_lt (now_end l) hp
   by_cases h20:s.nest=20
   ·rw [if_pos h20] at h
    injection h with h
    subst h
    exact pkTAf l s _ ptZ hl hp (pkInner20A l s hl h20)
   ·rw [if_neg h20] at h
    have h19:s.nest<20:=by have:=hs.2.2.2;omega
    have hi:Bnd l s.inn:=⟨by show 0≤s.at_+1;have:=hs.1;omega,by show s.at_+1≤l.length;omega,by show 0≤s.nest+1;have:=hs.2.2.1;omega,by show s.nest+1≤20;omega⟩
    split at h
    ·cases h
    rename_i x ok s' hc
    have fw:=(all_fwd (now_end l) n).1 1 s.inn _ hi.2.1 hc
    obtain⟨hb,hnn⟩:=fw.bnd hs hi.1 rfl
    have hI:=pkInnerA l s (x,ok,s') hl hs.1 hs.2.1 hs.2.2.1 h19 hnn (pkTight1 l s.inn (x,ok,s') ((IH n (Nat.le_refl _)).1 1 s.inn _ hi hc))
    cases ok
    ·rw [if_neg (by decide)] at h
     injection h with h
     subst h
     exact pkTAf l s _ x hl hp hI
    ·rw [if_pos rfl] at h
     injection h with h
     subst h
     exact pkTAt l s s'.out x hl hb.1 hb.2.1 hp hI
theorem retCTC {P:Program} {n:Nat} {e:Nat→D} {st:List Bx} {d d0 d1 d2 d3 d4:D} {t u v i off j off2:Nat} {T2 T3:TypeId} {row row2:List A} {k k2:Option Nat} (h:.t [d1,d2,d3]=d) (ht:decide (t<n)=true:=by rfl) (hu:decide (u<n)=true:=by rfl) (hv:decide (v<n)=true:=by rfl) (he:e t=.a (.ptr i off):=by (simp only [go_sem,simprocAttr,fx])<;>rfl) (hs:st[i]? = some (.cell row):=by (simp only [go_sem,simprocAttr,fx])<;>rfl) (hk:ldk P T2=some k:=by (simp only [go_sem])<;>rfl) (hd:ldRow k row off=some d0:=by (simp only [go_sem,simprocAttr,fx])<;>rfl) (hse:seeD1 st d0=d1:=by (simp only [go_sem,simprocAttr,fx])<;>rfl) (hc1:clD1 d1=true:=by simp only [go_sem,fx]) (he2:seeD1 st (e u)=d2:=by (simp only [go_sem,simprocAttr,fx])<;>rfl) (hc2:clD1 d2=true:=by simp only [go_sem,fx]) (he3:e v=.a (.ptr j off2):=by (simp only [go_sem,simprocAttr,fx])<;>rfl) (hs3:st[j]? = some (.cell row2):=by (simp only [go_sem,simprocAttr,fx])<;>rfl) (hk3:ldk P T3=some k2:=by (simp only [go_sem])<;>rfl) (hd3:ldRow k2 row2 off2=some d4:=by (simp only [go_sem,simprocAttr,fx])<;>rfl) (hse3:seeD1 st d4=d3:=by (simp only [go_sem,simprocAttr,fx])<;>rfl) (hc3:clD1 d3=true:=by simp only [go_sem,fx]):retN P n [.cell t T2,.tmp u,.cell v T3] d .ret e st:=by
 subst h
 show resL P n e st [.cell t T2,.tmp u,.cell v T3] _
 refine⟨[d1,d2,d3],rfl,?_,by simp [hc1,hc2,hc3]⟩
 simp only [List.map_cons,List.map_nil,res1]
 rw [if_pos (of_decide_eq_true ht),if_pos (of_decide_eq_true hu),if_pos (of_decide_eq_true hv),he,he2,he3]
 simp only [hs,hk,hd,hs3,hk3,hd3,Option.map_some,hse,hse3]
def ftR (a b:Int):List A:=[.v (.int .i64 a),.v (.int .i64 b)]
section
variable (a b c d:Int)
@[go_sem] theorem ftR_len:(ftR a b).length=2:=rfl
@[go_sem] theorem ftR_cl:(ftR a b).all clA=true:=rfl
@[go_sem] theorem ftR_see (st:List Bx):(ftR a b).map (seeA st)=ftR a b:=rfl
@[go_sem] theorem ftR_w:ldRow (some 2) (ftR a b) 0=some (.r (ftR a b)):=rfl
@[go_sem] theorem ftR_g0:ldRow none (ftR a b) 0=some (.a (.v (.int .i64 a))):=rfl
@[go_sem] theorem ftR_pz:putRow [.v (.int .i64 a),.v (.int .i64 b)] 0 (ftR c d)=ftR c d:=rfl
end
def parR (r:Pt×Bool×Ps):D:=if r.2.1=true then .t [.r (Ex.at r.1.e),.a (.v (.int .i64 r.2.2.at_)),.r (ftR 0 0)] else .t [.r (Ex.at Ex.zero),.a (.v (.int .i64 0)),.r (ftR r.2.2.err r.2.2.fat)]
theorem pkParse (l:List Tok) (a:Int) (r:Pt×Bool×Ps) (h:RdM 14 [.a (.ptr 0 0),.a (.v (.int .i64 1))] l ⟨a,0,0,0⟩ r):DPure Tryd.prog 7 [.a (.sl (l.map Tok.at)),.a (.v (.int .i64 a))] (parR r):=by
 have pr:[A.sl (l.map Tok.at),.v (.int .i64 a),.v (.int .i64 0),.v (.int .i64 0),.v (.int .i64 0)]=prR l ⟨a,0,0,0⟩:=rfl
 have pe:[A.v (.int .i64 0),.v (.int .i64 0),.v (.string ⟨#[]⟩),.sl []]=Ex.at Ex.zero:=Ex.litZ 0 0
 obtain⟨x,ok,s⟩:=r
 unfold RdM at h
 cases ok
 ·refine DPure.go Tryd.func7 rfl Tryd.ntmps7 rfl rfl rfl (fun C hro=>?_)
  have fx:=trivial
  replace fx:=And.intro pr (And.intro pe trivial)
  repeat' (first|(refine RWL.fin ?_;try simp only [thenQ_n,blockQ_n])|refine stp [0,1,4,5,6,7,8,9,20] ?_|(refine RS.sE ?_;refine rnx ?_)|refine RWL.fr ?_|refine RWL.wt ?_|(refine RS.cM [2] (hp:=by exact h) (h:=?_);refine rnx ?_)|(refine' WP.dl (id:=4) [0,0,2,6,14,1,33,127] [0,1,4,5,6,7,8,9,20] [5,7] [(5,_),(7,_)] ?_)|(refine' WP.dl (id:=5) [0,1,0,4,12,28,0,3,191,511] [0,1,4,5,6,7,8,9,20] [7,9] [(7,_),(9,_)] ?_)|(refine RWL.cM [2] (hp:=by exact h) (h:=?_))|refine RWL.re ?_ ?_|refine RdO.oz|refine RdO.oa ?_|refine RdO.oe ?_|refine RdO.on|refine WP.cn (fun hc=>?_) (fun hc=>?_)|fail)
  exact retCTC rfl
 ·refine DPure.go Tryd.func7 rfl Tryd.ntmps7 rfl rfl rfl (fun C hro=>?_)
  have fx:=trivial
  replace fx:=And.intro pr (And.intro pe trivial)
  repeat' (first|(refine RWL.fin ?_;try simp only [thenQ_n,blockQ_n])|refine stp [0,1,4,5,6,7,8,9,20] ?_|(refine RS.sE ?_;refine rnx ?_)|refine RWL.fr ?_|refine RWL.wt ?_|(refine RS.cM [2] (hp:=by exact h) (h:=?_);refine rnx ?_)|(refine' WP.dl (id:=4) [0,0,2,6,14,1,33,127] [0,1,4,5,6,7,8,9,20] [5,7] [(5,_),(7,_)] ?_)|(refine' WP.dl (id:=5) [0,1,0,4,12,28,0,3,191,511] [0,1,4,5,6,7,8,9,20] [7,9] [(7,_),(9,_)] ?_)|(refine RWL.cM [2] (hp:=by exact h) (h:=?_))|refine RWL.re ?_ ?_|refine RdO.oz|refine RdO.oa ?_|refine RdO.oe ?_|refine RdO.on|refine WP.cn (fun hc=>?_) (fun hc=>?_)|fail)
  exact retCTC rfl
theorem Tok.cell_at {t:Tok} {j:Nat} {x:A} (h:(Tok.at t)[j]? = some x):∃v:Value,x=.v v∧plainV v=true∧(Tok.cells t)[j]? = some v∧j<3:=by
 match j,h with
 | 0,h=>injection h with h;exact⟨_,h.symm,rfl,rfl,by omega⟩
 | 1,h=>injection h with h;exact⟨_,h.symm,rfl,rfl,by omega⟩
 | 2,h=>injection h with h;exact⟨_,h.symm,rfl,rfl,by omega⟩
 | k+3,h=>cases h
theorem flat_cells:∀(l:List Tok) (i j:Nat) (t:Tok),l[i]? = some t→j<3→(l.flatMap Tok.cells)[i*3+j]? = (Tok.cells t)[j]?
 | [],i,j,t,h,_=>by simp at h
 | a::l,0,j,t,h,hj=>by
  simp at h;subst h
  rw [List.flatMap_cons,List.getElem?_append_left (by simpa [Tok.cells] using hj)];simp
 | a::l,i+1,j,t,h,hj=>by
  rw [List.flatMap_cons,List.getElem?_append_right (by simp [Tok.cells];omega)]
  have:(i+1)*3+j-(Tok.cells a).length=i*3+j:=by simp [Tok.cells];omega
  rw [this]
  exact flat_cells l i j t (by simpa using h) hj
theorem pOf (s:List UInt8) (hs:s.length≤1099511627776):DPure Tryd.prog 6 [.a (.v (.string (bs s)))] (.t [.a (.sl ((tokOf s).1.map Tok.at)),.r (ftR (tokOf s).2.1 (tokOf s).2.2)]):=by
 refine⟨callFunc_of Tryd.func6 rfl rfl,fun w x vs hx hg hvl hr=>?_⟩
 match vs,hvl with
 | [u],_ =>
  have h1:RepD (out w x) (.a (.v (.string (bs s)))) u:=hr 0 _ rfl
  obtain⟨rfl,_⟩:=h1.v_inv
  refine (r03Of_any (bs s) w (by rw [bs_size];omega)).mono ?_
  rintro e w' ⟨A,c,rfl,hq,hown⟩
  rw [bs_data] at hown ⊢
  generalize tokOf s=r at *
  obtain⟨l,er,fa⟩:=r
  dsimp only at hown ⊢
  refine⟨_,rfl,hq,.t _ [_,_] rfl fun j d hd=>?_⟩
  match j,hd with
  | 0,hd =>
   injection hd with hd
   subst hd
   refine .a _ _ (.c _ _ ?_)
   rcases hown with ⟨hlen,⟨hv,h0⟩|⟨g,cap,cur,hv,hb,hh,hn,_,hsz,htk⟩⟩
   ·obtain rfl:=List.eq_nil_of_length_eq_zero h0
    exact .sl0 _ _
   ·injection hv with hA _ hc
    subst hA;subst hc
    have hcur:∀(i j:Nat) (t:Tok),l[i]? = some t→j<3→cur[i*3+j]? = (Tok.cells t)[j]?:=fun i j t ht hj=>by
     have hi:i<l.length:=(List.getElem?_eq_some_iff.1 ht).1
     rw [←flat_cells l i j t ht hj,←htk,List.getElem?_take_of_lt (by omega)]
     simp
    have hrow:∀(i:Nat) (row:List A),(l.map Tok.at)[i]? = some row→∃t,l[i]? = some t∧row=Tok.at t:=fun i row h=>by
     rw [List.getElem?_map] at h
     cases ht:l[i]? with
     | none=>rw [ht] at h;cases h
     | some t=>rw [ht] at h;injection h with h;exact⟨t,rfl,h.symm⟩
    have:=RepC.sl (w:=w') (mu:=(out w' x).mut) (l.map Tok.at) 3 g 0 c (fun i j=>cur.getD (i*3+j) Go.undef) ⟨_,hh,rfl⟩ (fun hm=>by
     rcases hm with hm|hm
     ·have:=hx _ hm;omega
     ·obtain⟨i,y,hm,_⟩:=hm;simp [out] at hm) (by rw [List.length_map];exact hn) (fun i row h=>by obtain⟨t,_,rfl⟩:=hrow i row h;rfl) (fun i row j y h hj=>by
     obtain⟨t,ht,rfl⟩:=hrow i row h
     obtain⟨v,rfl,hv,hc,hj3⟩:=Tok.cell_at hj
     have:=hcur i j t ht hj3
     rw [hc] at this
     simp only [World.cell?,hh,Nat.zero_add]
     rw [Array.getD_eq_getD_getElem?,this]
     simp) (fun i row j y h hj=>by
     obtain⟨t,ht,rfl⟩:=hrow i row h
     obtain⟨v,rfl,hv,hc,hj3⟩:=Tok.cell_at hj
     have:=hcur i j t ht hj3
     rw [hc] at this
     rw [Array.getD_eq_getD_getElem?,this]
     exact .v _ hv)
    rw [List.length_map] at this
    exact this
  | 1,hd =>
   injection hd with hd
   subst hd
   refine .r _ [_,_] rfl fun j d hd=>?_
   match j,hd with
   | 0,hd=>injection hd with hd;subst hd;exact .c _ _ (.v _ rfl)
   | 1,hd=>injection hd with hd;subst hd;exact .c _ _ (.v _ rfl)
end Go.Proofs.YtbhmfkjbaklfeaaDoor
