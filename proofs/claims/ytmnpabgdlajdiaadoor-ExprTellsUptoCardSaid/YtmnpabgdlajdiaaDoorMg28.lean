/- The names of an expression, as the program and as the document list them, on plain data. Conditions: at most 2^20 of anything. -/
import Derived.Test.YtmnpabgdlajdiaaDoorMg14
import Derived.Test.YtmnpabgdlajdiaaDoorMg22
set_option linter.unusedVariables false
set_option maxRecDepth 100000
set_option maxHeartbeats 8000000
set_option linter.unusedSimpArgs false
namespace Go.Proofs.YtmnpabgdlajdiaaDoor
open Go.RowKit
theorem OpJ.appZ {P:Program} {st:List Bx} {e:Nat→D} {o:Oper} {s x:Operand} {T:TypeId} {n:Nat} (ho:o.op=.call ⟨.builtin .append,#[s,x],#[T,T]⟩) (hs:evO e s=.a .nl) (hx:evO e x=.a (.sl [])) (hn:es P T=some n):OpJ P st e o (.a .nl):=by
 intro ρ V hst hok hu
 rw [ho] at hu
 have h1:=hu s (by simp [usedO,Op.operands,Call.operands])
 have h2:=hu x (by simp [usedO,Op.operands,Call.operands])
 rw [hs] at h1
 rw [hx] at h2
 unfold es at hn
 split at hn
 ·rename_i el hel
  cases hinfo:P.info? el with
  | none=>simp [hinfo] at hn
  | some inf =>
   rw [appU_run ho]
   generalize ρ s=us at h1
   generalize ρ x=ux at h2
   have key:∀(a2:Option Addr) (c2:Nat),(Builtin.append_ #[T,T] o.type #[.slice none 0 0,.slice a2 0 c2]).run P V.w=.ok (.slice none 0 0) V.w:=fun a2 c2=>by
    cases a2<;>simp [Builtin.append_,run_underlying hel,sizeOf,typeInfo,hinfo,Builtin.lenOf,Builtin.firstCells,loadCells,loadCellsFrom,storeCells]
   have i1:us=.slice none 0 0:=by cases h1.c_inv rfl with|nl=>rfl
   have i2:∃a c,ux=.slice a 0 c:=by
    cases h2.c_inv rfl with
    | sl0 a c=>exact⟨a,c,rfl⟩
    | sl _ n' b o' c=>exact⟨_,_,rfl⟩
   obtain⟨a2,c2,rfl⟩:=i2
   subst i1
   rw [key,Result.andThen_ok]
   exact .val (.a _ _ (.c _ _ .nl))
 ·cases hn
theorem RS.aZ {P:Program} {C:Cx P} {ops:Array Oper} {r:List Oper} {e:Nat→D} {st:List Bx} {dst:Option Nat} {ty T:TypeId} {pos:String} {after:Array Edge} {K:(Nat→D)→List Bx→Prop} {guard:Option (Nat×Bool)} {n:Nat} {x s:Operand} (h:RS C ops r (putE e dst (.a .nl)) st K) (hs:evO e s=.a .nl:=by (simp only [go_sem,simprocAttr,fx])<;>rfl) (hx:evO e x=.a (.sl []):=by (simp only [go_sem,simprocAttr,fx])<;>rfl) (hn:es P T=some n:=by (simp only [go_sem])<;>rfl):RS C ops (⟨dst,.call ⟨.builtin .append,⟨[s,x]⟩,⟨[T,T]⟩⟩,ty,pos,after,guard⟩::r) e st K :=
 .inl ⟨_,st,.inr ⟨rfl,.of (OpJ.appZ rfl hs hx hn)⟩,h⟩
theorem Ex.nms_len (e:Ex):e.nms.length≤e.sz:=by
 unfold Ex.nms
 rw [List.length_map]
 exact Nat.le_trans (List.length_filter_le _ _) (Ex.pre_len e)
theorem Ex.nmss_len (l:List Ex):(Ex.nmss l).length≤Ex.szs l:=by
 unfold Ex.nmss
 rw [List.length_map]
 exact Nat.le_trans (List.length_filter_le _ _) (Ex.pres_len2 l)
def nmE:Option Nat→D
 | none=>.a .nl
 | some v=>.a (.own 1 v)
def nmB (e:Ex) (L:List (List UInt8)):Option Nat→List Bx
 | none=>[.cell (Ex.at e)]
 | some v=>[.cell (Ex.at e),.arr v 1 (L.map strAt)]
def nmL (e:Ex) (k:Nat):List (List UInt8):=(if e.kind=2 then [e.name] else [])++Ex.nmss (e.kids.take k)
theorem pr06Names:∀(m:Nat) (e:Ex),e.sz≤m→e.sz≤1048576→DPure Tryd.prog 7 [.r (Ex.at e)] (.a (.sl (e.nms.map strAt)))
 | 0,e,h,_=>by have:=e.sz_pos;omega
 | m+1,e,h,hz=>by
  have IH:∀k∈e.kids,DPure Tryd.prog 7 [.r (Ex.at k)] (.a (.sl (k.nms.map strAt))):=fun k hk=>pr06Names m k (by have:=Ex.kid_lt hk;omega) (by have:=Ex.kid_lt hk;omega)
  have hlen:e.kids.length≤1048576:=by have:=Ex.szs_len e.kids;have:=e.sz_eq;omega
  have hLl:∀k,(nmL e k).length≤1048576:=fun k=>by
   have h1:=Ex.nmss_len (e.kids.take k)
   have h2:Ex.szs (e.kids.take k)≤Ex.szs e.kids:=by
    have:=Ex.szs_app (e.kids.take k) (e.kids.drop k)
    rw [List.take_append_drop] at this;omega
   have h3:=e.sz_eq
   unfold nmL
   rw [List.length_append]
   split<;>simp<;>omega
  have hfin:e.nms=nmL e e.kids.length:=by unfold nmL;rw [List.take_length,Ex.nms_eq]
  have hst:∀{k:Nat} {z:Ex},e.kids.take (k+1)=e.kids.take k++[z]→nmL e (k+1)=nmL e k++z.nms:=fun h=>by
   unfold nmL;rw [h,Ex.nmss_app,Ex.nmss_one,List.append_assoc]
  rw [hfin]
  by_cases hk2:e.kind=2
  ·have g2:(e.kind==2)=true:=by rw [hk2];rfl
   refine DPure.go Tryd.func7 rfl Tryd.ntmps7 rfl rfl rfl (fun C hro=>?_)
   have fx:=trivial
   replace fx:=And.intro g2 trivial
   repeat' (first|refine stp [0,1,2,3,4,7,17] ?_|(refine RS.aO ?_;refine rnx ?_)|(refine RS.aN ?_;refine rnx ?_)|(refine RS.ls ?_;refine rnx ?_)|(refine RS.aE ?_;refine rnx ?_)|(refine RS.aK ?_;refine rnx ?_)|(refine RS.lC ?_;refine rnx ?_)|(refine RS.xC ?_;refine rnx ?_)|(refine RS.bC ?_;refine rnx ?_)|(refine RS.aZ ?_;refine rnx ?_)|refine WP.cn (fun hc=>?_) (fun hc=>?_)|fail)
   refine WP.loopG (α:={ y:Nat×Option Nat // y.1≤e.kids.length∧(y.2=none↔nmL e y.1=[]) }) (fun y=>[(1,.a (.ptr 0 0)),(3,nmE y.1.2),(4,.a (.v (.int .i64 (y.1.1:Nat))))]) (fun y=>nmB e (nmL e y.1.1) y.1.2) (fun y=>e.kids.length-y.1.1) ⟨(0,some 0),by dsimp only;omega,by unfold nmL;rw [if_pos hk2];simp⟩ (by simp only [nmE,Agree,go_sem,simprocAttr];first|done|rfl) (by first|(simp only [nmB,nmL,if_pos hk2];rfl)|(simp only [nmB];done)) ?_
   rintro⟨⟨k,o⟩,hk,hinv⟩
   dsimp only at hk hinv ⊢
   have hLk:=hLl k
   by_cases hlt:k<e.kids.length
   ·have hlt2:decide ((k:Int)<((e.kids.length:Nat):Int))=true:=decide_eq_true (by omega)
    obtain⟨z,hz⟩:∃z,e.kids[k]? = some z:=⟨_,List.getElem?_eq_getElem hlt⟩
    have hzm:z∈e.kids:=List.mem_of_getElem? hz
    have hzt:=take_snocA hz
    have hix:∀q2,ixD (some 4) q2 (.a (.sl (e.kids.map Ex.at))) (.a (.v (.int .i64 (k:Int))))=some (.a (.ref (Ex.at z) 0)):=fun q2=>ixD_at rfl (by rw [List.getElem?_map,hz];rfl) (by simp only [go_sem])
    have hwu:=wrap64n (k:=k) (by omega)
    have hI:=IH z hzm
    have hzn:z.nms.length≤1048576:=by have:=Ex.nms_len z;have:=Ex.kid_lt hzm;omega
    have hs1:=hst hzt
    generalize z.nms=N at hI hzn hs1
    generalize hR:nmL e k=R at hinv hs1 hLk
    cases o with
    | none =>
     have hR0:R=[]:=hinv.1 rfl
     subst hR0
     simp only [nmE,nmB]
     cases N with
     | nil =>
      have hI2:DPure Tryd.prog 7 [.r (Ex.at z)] (.a (.sl [])):=hI
      replace fx:=And.intro hlt2 (And.intro hix (And.intro hwu trivial))
      repeat' (first|refine stp [0,1,2,3,4,7,17] ?_|(refine RS.aO ?_;refine rnx ?_)|(refine RS.aN ?_;refine rnx ?_)|(refine RS.ls ?_;refine rnx ?_)|(refine RS.aE ?_;refine rnx ?_)|(refine RS.aK ?_;refine rnx ?_)|(refine RS.lC ?_;refine rnx ?_)|(refine RS.xC ?_;refine rnx ?_)|(refine RS.bC ?_;refine rnx ?_)|(refine stc (r1:=by exact hI2) (r2:=?_);refine rnx ?_)|(refine RS.aZ ?_;refine rnx ?_)|refine WP.cn (fun hc=>?_) (fun hc=>?_)|fail)
      exact⟨⟨(k+1,none),by dsimp only;omega,by rw [hs1];simp⟩,[],by dsimp only;omega,by simp only [nmB];exact Nat.le_refl _,by simp only [nmE,Agree,go_sem,simprocAttr],by rfl,by first|rfl|(simp only [nmE,nmB,nrE,nrD,List.all_cons,List.all_nil,go_sem,simprocAttr];done)|(simp only [nmE,nmB,nrE,nrD,List.all_cons,List.all_nil,go_sem,simprocAttr];rfl),by simp only [nmB,go_sem,simprocAttr,nr_of_cl (Ex.cl e)]⟩
     | cons n0 N =>
      have hne:0<((n0::N).map strAt).length:=by simp
      have hne2:0<(n0::N).length:=by simp
      generalize hG:(n0::N)=G at hI hs1 hne hne2 hzn
      have hGn:G≠[]:=by rw [←hG];simp
      clear hG
      replace fx:=And.intro hlt2 (And.intro hix (And.intro hwu trivial))
      repeat' (first|refine stp [0,1,2,3,4,7,17] ?_|(refine RS.aO ?_;refine rnx ?_)|(refine RS.aN ?_;refine rnx ?_)|(refine RS.ls ?_;refine rnx ?_)|(refine RS.aE ?_;refine rnx ?_)|(refine RS.aK ?_;refine rnx ?_)|(refine RS.lC ?_;refine rnx ?_)|(refine RS.xC ?_;refine rnx ?_)|(refine RS.bC ?_;refine rnx ?_)|(refine stc (r1:=by exact hI) (r2:=?_);refine rnx ?_)|(refine RS.aZ ?_;refine rnx ?_)|refine WP.cn (fun hc=>?_) (fun hc=>?_)|fail)
      exact⟨⟨(k+1,some 0),by dsimp only;omega,by rw [hs1];simp [hGn]⟩,[],by dsimp only;omega,by simp only [nmB];exact Nat.le_of_ble_eq_true rfl,by simp only [nmE,Agree,go_sem,simprocAttr],by simp only [nmB,hs1];rfl,by first|rfl|(simp only [nmE,nmB,nrE,nrD,List.all_cons,List.all_nil,go_sem,simprocAttr];done)|(simp only [nmE,nmB,nrE,nrD,List.all_cons,List.all_nil,go_sem,simprocAttr];rfl),by simp only [nmB,go_sem,simprocAttr,nr_of_cl (Ex.cl e)]⟩
    | some v =>
     have hkk:(v==v)=true:=beq_self_eq_true v
     have hRn:R≠[]:=fun h=>by have:=hinv.2 h;cases this
     simp only [nmE,nmB]
     replace fx:=And.intro hlt2 (And.intro hix (And.intro hwu (And.intro hkk trivial)))
     repeat' (first|refine stp [0,1,2,3,4,7,17] ?_|(refine RS.aO ?_;refine rnx ?_)|(refine RS.aN ?_;refine rnx ?_)|(refine RS.ls ?_;refine rnx ?_)|(refine RS.aE ?_;refine rnx ?_)|(refine RS.aK ?_;refine rnx ?_)|(refine RS.lC ?_;refine rnx ?_)|(refine RS.xC ?_;refine rnx ?_)|(refine RS.bC ?_;refine rnx ?_)|(refine stc (r1:=by exact hI) (r2:=?_);refine rnx ?_)|(refine RS.aZ ?_;refine rnx ?_)|refine WP.cn (fun hc=>?_) (fun hc=>?_)|fail)
     exact⟨⟨(k+1,some (v+1)),by dsimp only;omega,by rw [hs1];simp [hRn]⟩,[],by dsimp only;omega,by simp only [nmB];exact Nat.le_of_ble_eq_true rfl,by simp only [nmE,Agree,go_sem,simprocAttr],by first|(simp only [nmB,hs1,List.map_append];done)|(simp only [nmB,hs1,List.map_append];rfl),by first|rfl|(simp only [nmE,nmB,nrE,nrD,List.all_cons,List.all_nil,go_sem,simprocAttr];done)|(simp only [nmE,nmB,nrE,nrD,List.all_cons,List.all_nil,go_sem,simprocAttr];rfl),by simp only [nmB,go_sem,simprocAttr,nr_of_cl (Ex.cl e)]⟩
   ·obtain rfl:k=e.kids.length:=by omega
    have hlt2:decide ((e.kids.length:Int)<(e.kids.length:Int))=false:=decide_eq_false (by omega)
    cases o with
    | none =>
     have hR0:=hinv.1 rfl
     rw [hR0]
     simp only [nmE,nmB]
     replace fx:=And.intro hlt2 trivial
     repeat' (first|refine stp [0,1,2,3,4,7,17] ?_|(refine RS.aO ?_;refine rnx ?_)|(refine RS.aN ?_;refine rnx ?_)|(refine RS.ls ?_;refine rnx ?_)|(refine RS.aE ?_;refine rnx ?_)|(refine RS.aK ?_;refine rnx ?_)|(refine RS.lC ?_;refine rnx ?_)|(refine RS.xC ?_;refine rnx ?_)|(refine RS.bC ?_;refine rnx ?_)|(refine RS.aZ ?_;refine rnx ?_)|refine WP.cn (fun hc=>?_) (fun hc=>?_)|fail)
     rfl
    | some v =>
     have hkk:(v==v)=true:=beq_self_eq_true v
     simp only [nmE,nmB]
     replace fx:=And.intro hlt2 (And.intro hkk trivial)
     repeat' (first|refine stp [0,1,2,3,4,7,17] ?_|(refine RS.aO ?_;refine rnx ?_)|(refine RS.aN ?_;refine rnx ?_)|(refine RS.ls ?_;refine rnx ?_)|(refine RS.aE ?_;refine rnx ?_)|(refine RS.aK ?_;refine rnx ?_)|(refine RS.lC ?_;refine rnx ?_)|(refine RS.xC ?_;refine rnx ?_)|(refine RS.bC ?_;refine rnx ?_)|(refine RS.aZ ?_;refine rnx ?_)|refine WP.cn (fun hc=>?_) (fun hc=>?_)|fail)
     rfl
  ·have g2:(e.kind==2)=false:=by simpa using hk2
   refine DPure.go Tryd.func7 rfl Tryd.ntmps7 rfl rfl rfl (fun C hro=>?_)
   have fx:=trivial
   replace fx:=And.intro g2 trivial
   repeat' (first|refine stp [0,1,2,3,4,7,17] ?_|(refine RS.aO ?_;refine rnx ?_)|(refine RS.aN ?_;refine rnx ?_)|(refine RS.ls ?_;refine rnx ?_)|(refine RS.aE ?_;refine rnx ?_)|(refine RS.aK ?_;refine rnx ?_)|(refine RS.lC ?_;refine rnx ?_)|(refine RS.xC ?_;refine rnx ?_)|(refine RS.bC ?_;refine rnx ?_)|(refine RS.aZ ?_;refine rnx ?_)|refine WP.cn (fun hc=>?_) (fun hc=>?_)|fail)
   refine WP.loopG (α:={ y:Nat×Option Nat // y.1≤e.kids.length∧(y.2=none↔nmL e y.1=[]) }) (fun y=>[(1,.a (.ptr 0 0)),(3,nmE y.1.2),(4,.a (.v (.int .i64 (y.1.1:Nat))))]) (fun y=>nmB e (nmL e y.1.1) y.1.2) (fun y=>e.kids.length-y.1.1) ⟨(0,none),by dsimp only;omega,by unfold nmL;rw [if_neg hk2];simp [Ex.nmss,Ex.pres]⟩ (by simp only [nmE,Agree,go_sem,simprocAttr];first|done|rfl) (by first|(simp only [nmB,nmL,if_pos hk2];rfl)|(simp only [nmB];done)) ?_
   rintro⟨⟨k,o⟩,hk,hinv⟩
   dsimp only at hk hinv ⊢
   have hLk:=hLl k
   by_cases hlt:k<e.kids.length
   ·have hlt2:decide ((k:Int)<((e.kids.length:Nat):Int))=true:=decide_eq_true (by omega)
    obtain⟨z,hz⟩:∃z,e.kids[k]? = some z:=⟨_,List.getElem?_eq_getElem hlt⟩
    have hzm:z∈e.kids:=List.mem_of_getElem? hz
    have hzt:=take_snocA hz
    have hix:∀q2,ixD (some 4) q2 (.a (.sl (e.kids.map Ex.at))) (.a (.v (.int .i64 (k:Int))))=some (.a (.ref (Ex.at z) 0)):=fun q2=>ixD_at rfl (by rw [List.getElem?_map,hz];rfl) (by simp only [go_sem])
    have hwu:=wrap64n (k:=k) (by omega)
    have hI:=IH z hzm
    have hzn:z.nms.length≤1048576:=by have:=Ex.nms_len z;have:=Ex.kid_lt hzm;omega
    have hs1:=hst hzt
    generalize z.nms=N at hI hzn hs1
    generalize hR:nmL e k=R at hinv hs1 hLk
    cases o with
    | none =>
     have hR0:R=[]:=hinv.1 rfl
     subst hR0
     simp only [nmE,nmB]
     cases N with
     | nil =>
      have hI2:DPure Tryd.prog 7 [.r (Ex.at z)] (.a (.sl [])):=hI
      replace fx:=And.intro hlt2 (And.intro hix (And.intro hwu trivial))
      repeat' (first|refine stp [0,1,2,3,4,7,17] ?_|(refine RS.aO ?_;refine rnx ?_)|(refine RS.aN ?_;refine rnx ?_)|(refine RS.ls ?_;refine rnx ?_)|(refine RS.aE ?_;refine rnx ?_)|(refine RS.aK ?_;refine rnx ?_)|(refine RS.lC ?_;refine rnx ?_)|(refine RS.xC ?_;refine rnx ?_)|(refine RS.bC ?_;refine rnx ?_)|(refine stc (r1:=by exact hI2) (r2:=?_);refine rnx ?_)|(refine RS.aZ ?_;refine rnx ?_)|refine WP.cn (fun hc=>?_) (fun hc=>?_)|fail)
      exact⟨⟨(k+1,none),by dsimp only;omega,by rw [hs1];simp⟩,[],by dsimp only;omega,by simp only [nmB];exact Nat.le_refl _,by simp only [nmE,Agree,go_sem,simprocAttr],by rfl,by first|rfl|(simp only [nmE,nmB,nrE,nrD,List.all_cons,List.all_nil,go_sem,simprocAttr];done)|(simp only [nmE,nmB,nrE,nrD,List.all_cons,List.all_nil,go_sem,simprocAttr];rfl),by simp only [nmB,go_sem,simprocAttr,nr_of_cl (Ex.cl e)]⟩
     | cons n0 N =>
      have hne:0<((n0::N).map strAt).length:=by simp
      have hne2:0<(n0::N).length:=by simp
      generalize hG:(n0::N)=G at hI hs1 hne hne2 hzn
      have hGn:G≠[]:=by rw [←hG];simp
      clear hG
      replace fx:=And.intro hlt2 (And.intro hix (And.intro hwu trivial))
      repeat' (first|refine stp [0,1,2,3,4,7,17] ?_|(refine RS.aO ?_;refine rnx ?_)|(refine RS.aN ?_;refine rnx ?_)|(refine RS.ls ?_;refine rnx ?_)|(refine RS.aE ?_;refine rnx ?_)|(refine RS.aK ?_;refine rnx ?_)|(refine RS.lC ?_;refine rnx ?_)|(refine RS.xC ?_;refine rnx ?_)|(refine RS.bC ?_;refine rnx ?_)|(refine stc (r1:=by exact hI) (r2:=?_);refine rnx ?_)|(refine RS.aZ ?_;refine rnx ?_)|refine WP.cn (fun hc=>?_) (fun hc=>?_)|fail)
      exact⟨⟨(k+1,some 0),by dsimp only;omega,by rw [hs1];simp [hGn]⟩,[],by dsimp only;omega,by simp only [nmB];exact Nat.le_of_ble_eq_true rfl,by simp only [nmE,Agree,go_sem,simprocAttr],by simp only [nmB,hs1];rfl,by first|rfl|(simp only [nmE,nmB,nrE,nrD,List.all_cons,List.all_nil,go_sem,simprocAttr];done)|(simp only [nmE,nmB,nrE,nrD,List.all_cons,List.all_nil,go_sem,simprocAttr];rfl),by simp only [nmB,go_sem,simprocAttr,nr_of_cl (Ex.cl e)]⟩
    | some v =>
     have hkk:(v==v)=true:=beq_self_eq_true v
     have hRn:R≠[]:=fun h=>by have:=hinv.2 h;cases this
     simp only [nmE,nmB]
     replace fx:=And.intro hlt2 (And.intro hix (And.intro hwu (And.intro hkk trivial)))
     repeat' (first|refine stp [0,1,2,3,4,7,17] ?_|(refine RS.aO ?_;refine rnx ?_)|(refine RS.aN ?_;refine rnx ?_)|(refine RS.ls ?_;refine rnx ?_)|(refine RS.aE ?_;refine rnx ?_)|(refine RS.aK ?_;refine rnx ?_)|(refine RS.lC ?_;refine rnx ?_)|(refine RS.xC ?_;refine rnx ?_)|(refine RS.bC ?_;refine rnx ?_)|(refine stc (r1:=by exact hI) (r2:=?_);refine rnx ?_)|(refine RS.aZ ?_;refine rnx ?_)|refine WP.cn (fun hc=>?_) (fun hc=>?_)|fail)
     exact⟨⟨(k+1,some (v+1)),by dsimp only;omega,by rw [hs1];simp [hRn]⟩,[],by dsimp only;omega,by simp only [nmB];exact Nat.le_of_ble_eq_true rfl,by simp only [nmE,Agree,go_sem,simprocAttr],by first|(simp only [nmB,hs1,List.map_append];done)|(simp only [nmB,hs1,List.map_append];rfl),by first|rfl|(simp only [nmE,nmB,nrE,nrD,List.all_cons,List.all_nil,go_sem,simprocAttr];done)|(simp only [nmE,nmB,nrE,nrD,List.all_cons,List.all_nil,go_sem,simprocAttr];rfl),by simp only [nmB,go_sem,simprocAttr,nr_of_cl (Ex.cl e)]⟩
   ·obtain rfl:k=e.kids.length:=by omega
    have hlt2:decide ((e.kids.length:Int)<(e.kids.length:Int))=false:=decide_eq_false (by omega)
    cases o with
    | none =>
     have hR0:=hinv.1 rfl
     rw [hR0]
     simp only [nmE,nmB]
     replace fx:=And.intro hlt2 trivial
     repeat' (first|refine stp [0,1,2,3,4,7,17] ?_|(refine RS.aO ?_;refine rnx ?_)|(refine RS.aN ?_;refine rnx ?_)|(refine RS.ls ?_;refine rnx ?_)|(refine RS.aE ?_;refine rnx ?_)|(refine RS.aK ?_;refine rnx ?_)|(refine RS.lC ?_;refine rnx ?_)|(refine RS.xC ?_;refine rnx ?_)|(refine RS.bC ?_;refine rnx ?_)|(refine RS.aZ ?_;refine rnx ?_)|refine WP.cn (fun hc=>?_) (fun hc=>?_)|fail)
     rfl
    | some v =>
     have hkk:(v==v)=true:=beq_self_eq_true v
     simp only [nmE,nmB]
     replace fx:=And.intro hlt2 (And.intro hkk trivial)
     repeat' (first|refine stp [0,1,2,3,4,7,17] ?_|(refine RS.aO ?_;refine rnx ?_)|(refine RS.aN ?_;refine rnx ?_)|(refine RS.ls ?_;refine rnx ?_)|(refine RS.aE ?_;refine rnx ?_)|(refine RS.aK ?_;refine rnx ?_)|(refine RS.lC ?_;refine rnx ?_)|(refine RS.xC ?_;refine rnx ?_)|(refine RS.bC ?_;refine rnx ?_)|(refine RS.aZ ?_;refine rnx ?_)|refine WP.cn (fun hc=>?_) (fun hc=>?_)|fail)
     rfl
def nsB (e:Ex):List Ex→List Bx
 | []=>[.cell (Ex.at e),.cell [.nl]]
 | x::r=>[.cell (Ex.at e),.cell [.own 3 r.length],.cell (Ex.at x),.arr r.length 1 (((x::r).map Ex.name).map strAt)]
theorem nsB_len (e:Ex):∀l m:List Ex,(nsB e l).length≤(nsB e (l++m)).length
 | [],[]=>Nat.le_refl _
 | [],_::_=>Nat.le_of_ble_eq_true rfl
 | _::_,_=>Nat.le_refl _
theorem nsB_nr (e:Ex) (l:List Ex):nrS (nsB e l).length (nsB e l)=true:=by
 cases l with
 | nil=>simp only [nsB,go_sem,simprocAttr,nr_of_cl (Ex.cl e)];try rfl
 | cons x r=>simp only [nsB,go_sem,simprocAttr,nr_of_cl (Ex.cl e),nr_of_cl (Ex.cl x)];try rfl
theorem preL_len (l:List Ex):(preL l).length=l.length:=by simp [preL]
theorem peNames (e:Ex) (hz:e.sz≤1048576):DPure Tryd.prog 6 [.r (Ex.at e)] (.a (.sl (e.nms.map strAt))):=by
 have hpl:=Ex.pre_len e
 have hal:=peAll e
 have hal1:=peAll1 e (by omega)
 have hfl:∀j,((e.pre.take j).filter fun x=>x.kind==2).length≤1048576:=fun j=>by
  have h1:=List.length_filter_le (fun x:Ex=>x.kind==2) (e.pre.take j)
  have h2:(e.pre.take j).length≤e.pre.length:=by rw [List.length_take];omega
  omega
 refine DPure.goV Tryd.func6 rfl Tryd.ntmps6 rfl rfl rfl (fun C hro hCV=>?_)
 have fx:=trivial
 repeat' (first|refine stp [0,1,2,3,4,6,7,10] ?_|(refine RS.aO ?_;refine rnx ?_)|(refine RS.aN ?_;refine rnx ?_)|(refine RS.ls ?_;refine rnx ?_)|(refine RS.sE ?_;refine rnx ?_)|(refine RS.aE ?_;refine rnx ?_)|(refine RS.aK ?_;refine rnx ?_)|(refine RS.bC ?_;refine rnx ?_)|(refine stc (r1:=by exact hal) (r2:=?_);refine rnx ?_)|(refine RS.aZ ?_;refine rnx ?_)|refine WP.cn (fun hc=>?_) (fun hc=>?_)|fail)
 refine WP.range2 [(3,.a (.ptr 1 0))] (fun j=>nsB e ((e.pre.take j).filter fun x=>x.kind==2)) [] (preL e.pre) (fun _=>.junk) (fun _=>True) trivial hro (by simp only [go_sem,simprocAttr]) rfl ?_ rfl (.inl rfl) (.inl rfl) rfl rfl (by rw [hCV];exact Nat.zero_le _) (fun j=>?_) (fun j=>nsB_nr e _) rfl (by simp only [go_sem,simprocAttr]<;>rfl) rfl rfl hal1.toM (.inl rfl) rfl (fun j xs hx=>?_) (fun C1 j xs hC1 hon1 hx _=>?_) (fun _=>?_)
 ·simp only [Agree,go_sem,simprocAttr]
 ·rw [List.take_add_one,List.filter_append];exact nsB_len e _ _
 ·unfold preL at hx
  rw [List.getElem?_map,Option.map_eq_some_iff] at hx
  obtain⟨_,_,rfl⟩:=hx
  rfl
 ·unfold preL at hx
  rw [List.getElem?_map,Option.map_eq_some_iff] at hx
  obtain⟨z,hzL,rfl⟩:=hx
  have hfj:=hfl j
  have htk:((e.pre.take (j+1)).filter fun x=>x.kind==2)=((e.pre.take j).filter fun x=>x.kind==2)++(if z.kind=2 then [z] else []):=by
   rw [take_snocA hzL,List.filter_append,List.filter_cons]
   by_cases hk2:z.kind=2
   ·rw [if_pos hk2,if_pos (by simpa using hk2)];rfl
   ·rw [if_neg hk2,if_neg (by simpa using hk2)];rfl
  simp only [bindE_1]
  generalize ((e.pre.take j).filter fun x=>x.kind==2)=R at htk hfj ⊢
  by_cases hk2:z.kind=2
  ·have g2:(z.kind==2)=true:=by rw [hk2];rfl
   rw [if_pos hk2] at htk
   cases R with
   | nil =>
    simp only [nsB]
    replace fx:=And.intro g2 trivial
    repeat' (first|refine stp [0,1,2,3,4,6,7,10] ?_|(refine RS.aO ?_;refine rnx ?_)|(refine RS.aN ?_;refine rnx ?_)|(refine RS.ls ?_;refine rnx ?_)|(refine RS.sE ?_;refine rnx ?_)|(refine RS.aE ?_;refine rnx ?_)|(refine RS.aK ?_;refine rnx ?_)|(refine RS.bC ?_;refine rnx ?_)|(refine RS.aZ ?_;refine rnx ?_)|refine WP.cn (fun hc=>?_) (fun hc=>?_)|fail)
    intro C2 _ _
    replace fx:=And.intro g2 trivial
    repeat' (first|refine stp [0,1,2,3,4,6,7,10] ?_|(refine RS.aO ?_;refine rnx ?_)|(refine RS.aN ?_;refine rnx ?_)|(refine RS.ls ?_;refine rnx ?_)|(refine RS.sE ?_;refine rnx ?_)|(refine RS.aE ?_;refine rnx ?_)|(refine RS.aK ?_;refine rnx ?_)|(refine RS.bC ?_;refine rnx ?_)|(refine RS.aZ ?_;refine rnx ?_)|refine WP.cn (fun hc=>?_) (fun hc=>?_)|fail)
    exact⟨trivial,by simp only [go_sem,simprocAttr],[],by rw [htk];rfl⟩
   | cons x R =>
    have hkk:(R.length==R.length)=true:=beq_self_eq_true _
    have hRl:(((x::R).map Ex.name).map strAt).length≤1048576:=by simpa using hfj
    have hap:((((x::R)++[z]).map Ex.name).map strAt)=(((x::R).map Ex.name).map strAt)++[strAt z.name]:=by simp
    simp only [nsB]
    generalize hX:(((x::R).map Ex.name).map strAt)=X at hap hRl
    replace fx:=And.intro g2 (And.intro hkk trivial)
    repeat' (first|refine stp [0,1,2,3,4,6,7,10] ?_|(refine RS.aO ?_;refine rnx ?_)|(refine RS.aN ?_;refine rnx ?_)|(refine RS.ls ?_;refine rnx ?_)|(refine RS.sE ?_;refine rnx ?_)|(refine RS.aE ?_;refine rnx ?_)|(refine RS.aK ?_;refine rnx ?_)|(refine RS.bC ?_;refine rnx ?_)|(refine RS.aZ ?_;refine rnx ?_)|refine WP.cn (fun hc=>?_) (fun hc=>?_)|fail)
    intro C2 _ _
    replace fx:=And.intro g2 (And.intro hkk trivial)
    repeat' (first|refine stp [0,1,2,3,4,6,7,10] ?_|(refine RS.aO ?_;refine rnx ?_)|(refine RS.aN ?_;refine rnx ?_)|(refine RS.ls ?_;refine rnx ?_)|(refine RS.sE ?_;refine rnx ?_)|(refine RS.aE ?_;refine rnx ?_)|(refine RS.aK ?_;refine rnx ?_)|(refine RS.bC ?_;refine rnx ?_)|(refine RS.aZ ?_;refine rnx ?_)|refine WP.cn (fun hc=>?_) (fun hc=>?_)|fail)
    exact⟨trivial,by simp only [go_sem,simprocAttr],[.cell (Ex.at z)],by rw [htk];show _=[Bx.cell (Ex.at e),.cell [.own 3 (R++[z]).length],.cell (Ex.at x),.arr (R++[z]).length 1 (((x::R++[z]).map Ex.name).map strAt)]++[Bx.cell (Ex.at z)];rw [hap];simp only [List.length_append,List.length_singleton];rfl⟩
  ·have g2:(z.kind==2)=false:=by simpa using hk2
   rw [if_neg hk2,List.append_nil] at htk
   rw [htk]
   cases R with
   | nil =>
    simp only [nsB]
    replace fx:=And.intro g2 trivial
    repeat' (first|refine stp [0,1,2,3,4,6,7,10] ?_|(refine RS.aO ?_;refine rnx ?_)|(refine RS.aN ?_;refine rnx ?_)|(refine RS.ls ?_;refine rnx ?_)|(refine RS.sE ?_;refine rnx ?_)|(refine RS.aE ?_;refine rnx ?_)|(refine RS.aK ?_;refine rnx ?_)|(refine RS.bC ?_;refine rnx ?_)|(refine RS.aZ ?_;refine rnx ?_)|refine WP.cn (fun hc=>?_) (fun hc=>?_)|fail)
    intro C2 _ _
    replace fx:=And.intro g2 trivial
    repeat' (first|refine stp [0,1,2,3,4,6,7,10] ?_|(refine RS.aO ?_;refine rnx ?_)|(refine RS.aN ?_;refine rnx ?_)|(refine RS.ls ?_;refine rnx ?_)|(refine RS.sE ?_;refine rnx ?_)|(refine RS.aE ?_;refine rnx ?_)|(refine RS.aK ?_;refine rnx ?_)|(refine RS.bC ?_;refine rnx ?_)|(refine RS.aZ ?_;refine rnx ?_)|refine WP.cn (fun hc=>?_) (fun hc=>?_)|fail)
    exact⟨trivial,by simp only [go_sem,simprocAttr],[.cell (Ex.at z)],rfl⟩
   | cons x R =>
    simp only [nsB]
    replace fx:=And.intro g2 trivial
    repeat' (first|refine stp [0,1,2,3,4,6,7,10] ?_|(refine RS.aO ?_;refine rnx ?_)|(refine RS.aN ?_;refine rnx ?_)|(refine RS.ls ?_;refine rnx ?_)|(refine RS.sE ?_;refine rnx ?_)|(refine RS.aE ?_;refine rnx ?_)|(refine RS.aK ?_;refine rnx ?_)|(refine RS.bC ?_;refine rnx ?_)|(refine RS.aZ ?_;refine rnx ?_)|refine WP.cn (fun hc=>?_) (fun hc=>?_)|fail)
    intro C2 _ _
    replace fx:=And.intro g2 trivial
    repeat' (first|refine stp [0,1,2,3,4,6,7,10] ?_|(refine RS.aO ?_;refine rnx ?_)|(refine RS.aN ?_;refine rnx ?_)|(refine RS.ls ?_;refine rnx ?_)|(refine RS.sE ?_;refine rnx ?_)|(refine RS.aE ?_;refine rnx ?_)|(refine RS.aK ?_;refine rnx ?_)|(refine RS.bC ?_;refine rnx ?_)|(refine RS.aZ ?_;refine rnx ?_)|refine WP.cn (fun hc=>?_) (fun hc=>?_)|fail)
    exact⟨trivial,by simp only [go_sem,simprocAttr],[.cell (Ex.at z)],rfl⟩
 ·rw [preL_len,List.take_length]
  unfold Ex.nms
  generalize (e.pre.filter fun x=>x.kind==2)=R
  cases R with
  | nil =>
   simp only [nsB]
   repeat' (first|refine stp [0,1,2,3,4,6,7,10] ?_|(refine RS.aO ?_;refine rnx ?_)|(refine RS.aN ?_;refine rnx ?_)|(refine RS.ls ?_;refine rnx ?_)|(refine RS.sE ?_;refine rnx ?_)|(refine RS.aE ?_;refine rnx ?_)|(refine RS.aK ?_;refine rnx ?_)|(refine RS.bC ?_;refine rnx ?_)|(refine RS.aZ ?_;refine rnx ?_)|refine WP.cn (fun hc=>?_) (fun hc=>?_)|fail)
   rfl
  | cons x R =>
   have hkk:(R.length==R.length)=true:=beq_self_eq_true _
   simp only [nsB]
   replace fx:=And.intro hkk trivial
   repeat' (first|refine stp [0,1,2,3,4,6,7,10] ?_|(refine RS.aO ?_;refine rnx ?_)|(refine RS.aN ?_;refine rnx ?_)|(refine RS.ls ?_;refine rnx ?_)|(refine RS.sE ?_;refine rnx ?_)|(refine RS.aE ?_;refine rnx ?_)|(refine RS.aK ?_;refine rnx ?_)|(refine RS.bC ?_;refine rnx ?_)|(refine RS.aZ ?_;refine rnx ?_)|refine WP.cn (fun hc=>?_) (fun hc=>?_)|fail)
   rfl
end Go.Proofs.YtmnpabgdlajdiaaDoor
