/- The document on a class with an upper one, on plain data. Conditions: at most 2^20 of anything. -/
import Derived.Test.YtibdalkdgjghoaaGreatDoorMg47
import Derived.Test.YtibdalkdgjghoaaGreatDoorMg48
import Derived.Test.YtibdalkdgjghoaaGreatDoorMg49
set_option linter.unusedVariables false
set_option maxRecDepth 100000
set_option maxHeartbeats 8000000
set_option linter.unusedSimpArgs false
namespace Go.Proofs.YtibdalkdgjghoaaGreatDoor
open Go.RowKit
theorem pr13class2 (p:List Cs) (i:Nat) (c:Cs) (hc:p[i]? = some c) (hz:sumOf Cs.sz p≤1048576) (ht:decide (fdup [] c.params 0≥0)=false) (hm:(((p.take i).map Cs.name).any fun y=>y==c.name)=false) (hs:(c.super==[])=false):DPure Tryz.prog 46 [.a (.sl (p.map Cs.at)),.a (.v (.int .i64 (i:Nat)))] (.r [.v (.int .i64 (fOf (classF p ((p.take i).map Cs.name) c)).1),.v (.int .i64 (fOf (classF p ((p.take i).map Cs.name) c)).2)]):=by
 have hpl:p.length≤1048576:=Nat.le_trans (sumOf_len Cs.sz_pos p) hz
 have hil:=(List.getElem?_eq_some_iff.1 hc).1
 have hcz:c.sz≤1048576:=by have:=sumOf_mem (f:=Cs.sz) (List.mem_of_getElem? hc);omega
 obtain⟨y1,y2,y3,y4,y5,y6,y7,y8,y9⟩:=Cs.szH hcz
 have hix:=ixE (m:=7) hc (Cs.len c)
 have c1:=pr13Find p c.name hpl
 have c2:=pr13Twice c.params (by omega)
 have c3:=pr13Find p c.super hpl
 have c4:=pr13Arity p c.super hpl
 have c5:=pr13types p i c hc hz
 have c6:=pr13names c.fields (by omega)
 have c7:=pr13Twice (c.fields.map Vr.name) (by rw [List.length_map];omega)
 have hfl:=findI_lt hc
 have hAr:arityI p c.super<0↔findI p c.super<0:=by
  rcases findI_get p c.super with h|⟨j,z,h1,h2,h3⟩
  ·rw [arityI_no h,h]
  ·rw [arityI_yes h3 h1,h3];exact⟨fun h=>by omega,fun h=>by omega⟩
 generalize (p.take i).map Cs.name=met at hfl hm ⊢
 obtain⟨F,hF⟩:∃F,F=fOf (classF p met c):=⟨_,rfl⟩
 rw [←hF]
 unfold classF at hF
 generalize findI p c.name=fc at c1 hfl
 rw [hm] at hfl
 rw [headF_4 ht hm hs hAr] at hF
 by_cases hf:findI p c.super<0
 ·rw [if_pos hf] at hF
  have hf0:decide (findI p c.super<0)=true:=decide_eq_true hf
  rw [hF]
  refine DPure.go Tryz.func46 rfl Tryz.ntmps46 rfl rfl rfl (fun C hro=>?_)
  have fx:=trivial
  replace fx:=And.intro hix (And.intro hfl (And.intro ht (And.intro hs (And.intro hf0 trivial))))
  repeat' (first|refine stp [0,1,4,5,6,7,8,9,10,11,27,40,56,65,72,84,99,109] ?_|(refine RS.aO ?_;refine rnx ?_)|(refine RS.aN ?_;refine rnx ?_)|(refine RS.li ?_;refine rnx ?_)|(refine RS.sE ?_;refine rnx ?_)|(refine RS.pk ?_;refine rnx ?_)|(refine RS.gF ?_;refine rnx ?_)|(refine RS.aE ?_;refine rnx ?_)|(refine RS.aK ?_;refine rnx ?_)|(refine RS.lC ?_;refine rnx ?_)|(refine RS.xC ?_;refine rnx ?_)|(refine RS.bC ?_;refine rnx ?_)|(refine stc (r1:=by first|exact c1|exact c2|exact c3|exact pr13fault _ _) (r2:=?_);refine rnx ?_)|refine WP.cn (fun hc=>?_) (fun hc=>?_)|((first|refine WP.dw (id:=6) 13 [0,1,4,5,6,7,8,9,10,11,27,40,56,65,72,84,99,109] ?_);simp only [RQr_mk,List.drop_succ_cons,List.drop_zero,List.drop_nil])|fail)
  rfl
 ·rw [if_neg hf] at hF
  have hf0:decide (findI p c.super<0)=false:=decide_eq_false hf
  cases hne3:arityI p c.super != (c.above.length:Int) with
  | true =>
   rw [hne3,if_pos rfl] at hF
   rw [hF]
   refine DPure.go Tryz.func46 rfl Tryz.ntmps46 rfl rfl rfl (fun C hro=>?_)
   have fx:=trivial
   replace fx:=And.intro hix (And.intro hfl (And.intro ht (And.intro hs (And.intro hf0 (And.intro hne3 trivial)))))
   repeat' (first|refine stp [0,1,4,5,6,7,8,9,10,11,27,40,56,65,72,84,99,109] ?_|(refine RS.aO ?_;refine rnx ?_)|(refine RS.aN ?_;refine rnx ?_)|(refine RS.li ?_;refine rnx ?_)|(refine RS.sE ?_;refine rnx ?_)|(refine RS.pk ?_;refine rnx ?_)|(refine RS.gF ?_;refine rnx ?_)|(refine RS.aE ?_;refine rnx ?_)|(refine RS.aK ?_;refine rnx ?_)|(refine RS.lC ?_;refine rnx ?_)|(refine RS.xC ?_;refine rnx ?_)|(refine RS.bC ?_;refine rnx ?_)|(refine stc (r1:=by first|exact c1|exact c2|exact c3|exact c4|exact pr13fault _ _) (r2:=?_);refine rnx ?_)|refine WP.cn (fun hc=>?_) (fun hc=>?_)|((first|refine WP.dw (id:=6) 13 [0,1,4,5,6,7,8,9,10,11,27,40,56,65,72,84,99,109] ?_);simp only [RQr_mk,List.drop_succ_cons,List.drop_zero,List.drop_nil])|fail)
   rfl
  | false =>
   rw [hne3,if_neg Bool.false_ne_true] at hF
   dsimp only at hF
   have hX:∃X,X=(match c.methods with|m::_=>Me.at m|[]=>[]):=⟨_,rfl⟩
   obtain⟨X,hX⟩:=hX
   have hXn:∀k,X.all (nrA k)=true:=fun k=>by rw [hX];split<;>first|exact Me.nr (m:=k) _|rfl
   cases htf:typF p (typesL [c]) with
   | some f =>
    rw [htf] at c5 hF
    have hne2:(f.1 != 0)=true:=typF_ne htf
    have hF2:F=f:=hF
    rw [hF2]
    replace c5:DPure Tryz.prog 100 [.a (.sl (p.map Cs.at)),.a (.v (.int .i64 (i:Nat)))] (.r [.v (.int .i64 f.1),.v (.int .i64 f.2)]):=c5
    refine DPure.go Tryz.func46 rfl Tryz.ntmps46 rfl rfl rfl (fun C hro=>?_)
    have fx:=trivial
    replace fx:=And.intro hix (And.intro hfl (And.intro ht (And.intro hs (And.intro hf0 (And.intro hne3 (And.intro hne2 trivial))))))
    repeat' (first|refine stp [0,1,4,5,6,7,8,9,10,11,27,40,56,65,72,84,99,109] ?_|(refine RS.aO ?_;refine rnx ?_)|(refine RS.aN ?_;refine rnx ?_)|(refine RS.li ?_;refine rnx ?_)|(refine RS.sE ?_;refine rnx ?_)|(refine RS.pk ?_;refine rnx ?_)|(refine RS.gF ?_;refine rnx ?_)|(refine RS.aE ?_;refine rnx ?_)|(refine RS.aK ?_;refine rnx ?_)|(refine RS.lC ?_;refine rnx ?_)|(refine RS.xC ?_;refine rnx ?_)|(refine RS.bC ?_;refine rnx ?_)|(refine stc (r1:=by first|exact c1|exact c2|exact c3|exact c4|exact c5|exact c6|exact c7|exact pr13fault _ _) (r2:=?_);refine rnx ?_)|refine WP.cn (fun hc=>?_) (fun hc=>?_)|((first|refine WP.dw (id:=6) 13 [0,1,4,5,6,7,8,9,10,11,27,40,56,65,72,84,99,109] ?_);simp only [RQr_mk,List.drop_succ_cons,List.drop_zero,List.drop_nil])|fail)
    rfl
   | none =>
    rw [htf] at c5 hF
    dsimp only at hF
    replace c5:DPure Tryz.prog 100 [.a (.sl (p.map Cs.at)),.a (.v (.int .i64 (i:Nat)))] (.r [.v (.int .i64 0),.v (.int .i64 0)]):=c5
    rcases varsF_tw c.fields with ⟨hd1,hv⟩|⟨j,z,hj,hd1,hv⟩
    ·rw [hv] at hF
     rw [hd1] at c7
     dsimp only at hF
     refine DPure.go Tryz.func46 rfl Tryz.ntmps46 rfl rfl rfl (fun C hro=>?_)
     have fx:=trivial
     replace fx:=And.intro hix (And.intro hfl (And.intro ht (And.intro hs (And.intro hf0 (And.intro hne3 trivial)))))
     repeat' (first|refine stp [0,1,4,5,6,7,8,9,10,11,27,40,56,65,72,84,99,109] ?_|(refine RS.aO ?_;refine rnx ?_)|(refine RS.aN ?_;refine rnx ?_)|(refine RS.ls ?_;refine rnx ?_)|(refine RS.sE ?_;refine rnx ?_)|(refine RS.pk ?_;refine rnx ?_)|(refine RS.gF ?_;refine rnx ?_)|(refine RS.aE ?_;refine rnx ?_)|(refine RS.aK ?_;refine rnx ?_)|(refine RS.lC ?_;refine rnx ?_)|(refine RS.xC ?_;refine rnx ?_)|(refine RS.bC ?_;refine rnx ?_)|(refine stc (r1:=by first|exact c1|exact c2|exact c3|exact c4|exact c5|exact c6|exact c7|exact pr13fault _ _) (r2:=?_);refine rnx ?_)|refine WP.cn (fun hc=>?_) (fun hc=>?_)|((first|refine WP.dw (id:=6) 13 [0,1,4,5,6,7,8,9,10,11,27,40,56,65,72,84,99,109] ?_);simp only [RQr_mk,List.drop_succ_cons,List.drop_zero,List.drop_nil])|fail)
     refine WP.each c.methods Me.at 17 (fun k=>[(4,.a (.ptr 0 0)),(5,.a (.ptr 1 0)),(8,clEx k),(9,.a (.v (.int .i64 (k:Nat))))]) (fun k=>clBx c X (((c.methods.take k).map Me.name).map strAt) k) (fun k=>fdup [] ((c.methods.take k).map Me.name) 0 = -1∧methF [] c.methods=methF ((c.methods.take k).map Me.name) (c.methods.drop k)) (by simp only [clEx,Agree,go_sem,simprocAttr];first|done|rfl) rfl ⟨rfl,rfl⟩ (by omega) (fun z=>Me.len z) ?_ ?_ (fun k=>clBx_len c X _ _ k)
     ·rintro k m hm1 hdr htk hlt ⟨hI1,hI⟩ hlt2 hixm hwu
      have hmz:m.sz≤1048576:=by have:=sumOf_mem (f:=Me.sz) (List.mem_of_getElem? hm1);omega
      obtain⟨_,_,z3,z4,z5,z6⟩:=Me.szH hmz
      rw [methF_round hdr htk] at hI
      have htk2:(c.methods.take (k+1)).map Me.name=(c.methods.take k).map Me.name++[m.name]:=by rw [htk,List.map_append];rfl
      have hsn:=fdup_snoc ((c.methods.take k).map Me.name) [] 0 m.name hI1
      rw [List.nil_append,List.length_map,List.length_take,Nat.min_eq_left (by omega),Nat.zero_add] at hsn
      have cT:=pr13Twice ((c.methods.take k).map Me.name++[m.name]) (by rw [List.length_append,List.length_map,List.length_take,List.length_singleton];omega)
      rw [hsn,List.map_append] at cT
      replace cT:DPure Tryz.prog 99 [.a (.sl (((c.methods.take k).map Me.name).map strAt++[[.v (.string (bs m.name))]]))] _:=cT
      have hlR:(((c.methods.take k).map Me.name).map strAt).length=k:=by simp;omega
      have hR:((c.methods.take k).map Me.name).map strAt++[[.v (.string (bs m.name))]]=((c.methods.take (k+1)).map Me.name).map strAt:=by rw [htk2,List.map_append];rfl
      have cV:=pr12Vars m (by omega) (by omega)
      have hvl:(m.params++m.locals).length≤1048576:=by rw [List.length_append];omega
      have cN:=pr13names (m.params++m.locals) (by omega)
      have cW:=pr13Twice ((m.params++m.locals).map Vr.name) (by rw [List.length_map];omega)
      have htwv:=varsF_tw (m.params++m.locals)
      have hI1n:((c.methods.take k).map Me.name).any (fun y=>y==m.name)=false→fdup [] ((c.methods.take (k+1)).map Me.name) 0 = -1:=fun h=>by rw [htk2,hsn,h,if_neg Bool.false_ne_true]
      generalize m.params++m.locals=vs at cV hvl cN cW htwv hI
      generalize ((c.methods.take k).map Me.name).map strAt=R at cT hlR hR ⊢
      generalize (c.methods.take k).map Me.name=mn at *
      cases hany:mn.any fun y=>y==m.name with
      | true =>
       rw [hany,if_pos rfl] at hI cT
       rw [hI] at hF
       have hF2:F=(7,m.at_):=hF
       have hk0:=dec_nat k
       rw [hF2]
       cases k with
       | zero =>
        have hRn:R=[]:=List.eq_nil_of_length_eq_zero hlR
        subst hRn
        have hl0:decide ((0:Int)<((c.methods.length:Nat):Int))=true:=hlt2
        have hx0:∀q2,ixD (some 17) q2 (.a (.sl (c.methods.map Me.at))) (.a (.v (.int .i64 0)))=some (.a (.ref (Me.at m) 0)):=hixm
        simp only [clEx,clBx]
        replace fx:=And.intro hl0 (And.intro hx0 trivial)
        repeat' (first|refine stp [0,1,4,5,6,7,8,9,10,11,27,40,56,65,72,84,99,109] ?_|(refine RS.aO ?_;refine rnx ?_)|(refine RS.aN ?_;refine rnx ?_)|(refine RS.ls ?_;refine rnx ?_)|(refine RS.sE ?_;refine rnx ?_)|(refine RS.pk ?_;refine rnx ?_)|(refine RS.gF ?_;refine rnx ?_)|(refine RS.aE ?_;refine rnx ?_)|(refine RS.aK ?_;refine rnx ?_)|(refine RS.lC ?_;refine rnx ?_)|(refine RS.xC ?_;refine rnx ?_)|(refine RS.bC ?_;refine rnx ?_)|(refine stc (r1:=by first|exact cT|exact pr13fault _ _) (r2:=?_);refine rnx ?_)|refine WP.cn (fun hc=>?_) (fun hc=>?_)|((first|refine WP.dw (id:=6) 13 [0,1,4,5,6,7,8,9,10,11,27,40,56,65,72,84,99,109] ?_);simp only [RQr_mk,List.drop_succ_cons,List.drop_zero,List.drop_nil])|fail)
        rfl
       | succ k =>
        have hkk:(k==k)=true:=beq_self_eq_true k
        have hkk2:(k+1==k+1)=true:=beq_self_eq_true _
        simp only [clEx,clBx]
        replace fx:=And.intro hlt2 (And.intro hixm (And.intro hkk (And.intro hkk2 (And.intro hk0 trivial))))
        repeat' (first|refine stp [0,1,4,5,6,7,8,9,10,11,27,40,56,65,72,84,99,109] ?_|(refine RS.aO ?_;refine rnx ?_)|(refine RS.aN ?_;refine rnx ?_)|(refine RS.ls ?_;refine rnx ?_)|(refine RS.sE ?_;refine rnx ?_)|(refine RS.pk ?_;refine rnx ?_)|(refine RS.gF ?_;refine rnx ?_)|(refine RS.aE ?_;refine rnx ?_)|(refine RS.aK ?_;refine rnx ?_)|(refine RS.lC ?_;refine rnx ?_)|(refine RS.xC ?_;refine rnx ?_)|(refine RS.bC ?_;refine rnx ?_)|(refine stc (r1:=by first|exact cT|exact pr13fault _ _) (r2:=?_);refine rnx ?_)|refine WP.cn (fun hc=>?_) (fun hc=>?_)|((first|refine WP.dw (id:=6) 13 [0,1,4,5,6,7,8,9,10,11,27,40,56,65,72,84,99,109] ?_);simp only [RQr_mk,List.drop_succ_cons,List.drop_zero,List.drop_nil])|fail)
        rfl
      | false =>
       rw [hany,if_neg Bool.false_ne_true] at hI cT
       have hnx:=hI1n hany
       rcases htwv with ⟨hd2,hv2⟩|⟨j2,z2,hj2,hd2,hv2⟩
       ·rw [hv2] at hI
        rw [hd2] at cW
        cases k with
        | zero =>
         have hRn:R=[]:=List.eq_nil_of_length_eq_zero hlR
         subst hRn
         have hl0:decide ((0:Int)<((c.methods.length:Nat):Int))=true:=hlt2
         have hx0:∀q2,ixD (some 17) q2 (.a (.sl (c.methods.map Me.at))) (.a (.v (.int .i64 0)))=some (.a (.ref (Me.at m) 0)):=hixm
         have hXm:X=Me.at m:=by rw [hX];cases hf:c.methods with|nil=>rw [hf] at hlt;simp at hlt|cons v r=>rw [hf] at hm1;simp at hm1;subst hm1;rfl
         simp only [clEx,clBx]
         replace fx:=And.intro hl0 (And.intro hx0 trivial)
         repeat' (first|refine stp [0,1,4,5,6,7,8,9,10,11,27,40,56,65,72,84,99,109] ?_|(refine RS.aO ?_;refine rnx ?_)|(refine RS.aN ?_;refine rnx ?_)|(refine RS.ls ?_;refine rnx ?_)|(refine RS.sE ?_;refine rnx ?_)|(refine RS.pk ?_;refine rnx ?_)|(refine RS.gF ?_;refine rnx ?_)|(refine RS.aE ?_;refine rnx ?_)|(refine RS.aK ?_;refine rnx ?_)|(refine RS.lC ?_;refine rnx ?_)|(refine RS.xC ?_;refine rnx ?_)|(refine RS.bC ?_;refine rnx ?_)|(refine stc (r1:=by first|exact cT|exact cV|exact cN|exact cW) (r2:=?_);refine rnx ?_)|refine WP.cn (fun hc=>?_) (fun hc=>?_)|((first|refine WP.dw (id:=6) 13 [0,1,4,5,6,7,8,9,10,11,27,40,56,65,72,84,99,109] ?_);simp only [RQr_mk,List.drop_succ_cons,List.drop_zero,List.drop_nil])|fail)
         refine⟨⟨hnx,hI⟩,[],by simp only [clEx,Agree,go_sem,simprocAttr],?_,rfl,by simp only [go_sem,simprocAttr,hXn]⟩
         dsimp only;rw [←hR,hXm];rfl
        | succ k =>
         have hkk:(k==k)=true:=beq_self_eq_true k
         have hkk2:(k+1==k+1)=true:=beq_self_eq_true _
         simp only [clEx,clBx]
         replace fx:=And.intro hlt2 (And.intro hixm (And.intro hwu (And.intro hkk (And.intro hkk2 trivial))))
         repeat' (first|refine stp [0,1,4,5,6,7,8,9,10,11,27,40,56,65,72,84,99,109] ?_|(refine RS.aO ?_;refine rnx ?_)|(refine RS.aN ?_;refine rnx ?_)|(refine RS.ls ?_;refine rnx ?_)|(refine RS.sE ?_;refine rnx ?_)|(refine RS.pk ?_;refine rnx ?_)|(refine RS.gF ?_;refine rnx ?_)|(refine RS.aE ?_;refine rnx ?_)|(refine RS.aK ?_;refine rnx ?_)|(refine RS.lC ?_;refine rnx ?_)|(refine RS.xC ?_;refine rnx ?_)|(refine RS.bC ?_;refine rnx ?_)|(refine stc (r1:=by first|exact cT|exact cV|exact cN|exact cW) (r2:=?_);refine rnx ?_)|refine WP.cn (fun hc=>?_) (fun hc=>?_)|((first|refine WP.dw (id:=6) 13 [0,1,4,5,6,7,8,9,10,11,27,40,56,65,72,84,99,109] ?_);simp only [RQr_mk,List.drop_succ_cons,List.drop_zero,List.drop_nil])|fail)
         refine⟨⟨hnx,hI⟩,[.cell (Me.at m)],by simp only [clEx,Agree,go_sem,simprocAttr],?_,rfl,by simp only [go_sem,simprocAttr,hXn]⟩
         dsimp only;rw [←hR];rfl
       ·rw [hv2] at hI
        rw [hd2] at cW
        rw [hI] at hF
        have hF2:F=(7,z2.at_):=hF
        have hj0:=dec_nat j2
        have hixj:=ixE (m:=13) hj2 (Vr.len z2)
        rw [hF2]
        cases k with
        | zero =>
         have hRn:R=[]:=List.eq_nil_of_length_eq_zero hlR
         subst hRn
         have hl0:decide ((0:Int)<((c.methods.length:Nat):Int))=true:=hlt2
         have hx0:∀q2,ixD (some 17) q2 (.a (.sl (c.methods.map Me.at))) (.a (.v (.int .i64 0)))=some (.a (.ref (Me.at m) 0)):=hixm
         simp only [clEx,clBx]
         replace fx:=And.intro hl0 (And.intro hx0 (And.intro hj0 (And.intro hixj trivial)))
         repeat' (first|refine stp [0,1,4,5,6,7,8,9,10,11,27,40,56,65,72,84,99,109] ?_|(refine RS.aO ?_;refine rnx ?_)|(refine RS.aN ?_;refine rnx ?_)|(refine RS.ls ?_;refine rnx ?_)|(refine RS.sE ?_;refine rnx ?_)|(refine RS.pk ?_;refine rnx ?_)|(refine RS.gF ?_;refine rnx ?_)|(refine RS.aE ?_;refine rnx ?_)|(refine RS.aK ?_;refine rnx ?_)|(refine RS.lC ?_;refine rnx ?_)|(refine RS.xC ?_;refine rnx ?_)|(refine RS.bC ?_;refine rnx ?_)|(refine stc (r1:=by first|exact cT|exact cV|exact cN|exact cW|exact pr13fault _ _) (r2:=?_);refine rnx ?_)|refine WP.cn (fun hc=>?_) (fun hc=>?_)|((first|refine WP.dw (id:=6) 13 [0,1,4,5,6,7,8,9,10,11,27,40,56,65,72,84,99,109] ?_);simp only [RQr_mk,List.drop_succ_cons,List.drop_zero,List.drop_nil])|fail)
         rfl
        | succ k =>
         have hkk:(k==k)=true:=beq_self_eq_true k
         have hkk2:(k+1==k+1)=true:=beq_self_eq_true _
         simp only [clEx,clBx]
         replace fx:=And.intro hlt2 (And.intro hixm (And.intro hkk (And.intro hkk2 (And.intro hj0 (And.intro hixj trivial)))))
         repeat' (first|refine stp [0,1,4,5,6,7,8,9,10,11,27,40,56,65,72,84,99,109] ?_|(refine RS.aO ?_;refine rnx ?_)|(refine RS.aN ?_;refine rnx ?_)|(refine RS.ls ?_;refine rnx ?_)|(refine RS.sE ?_;refine rnx ?_)|(refine RS.pk ?_;refine rnx ?_)|(refine RS.gF ?_;refine rnx ?_)|(refine RS.aE ?_;refine rnx ?_)|(refine RS.aK ?_;refine rnx ?_)|(refine RS.lC ?_;refine rnx ?_)|(refine RS.xC ?_;refine rnx ?_)|(refine RS.bC ?_;refine rnx ?_)|(refine stc (r1:=by first|exact cT|exact cV|exact cN|exact cW|exact pr13fault _ _) (r2:=?_);refine rnx ?_)|refine WP.cn (fun hc=>?_) (fun hc=>?_)|((first|refine WP.dw (id:=6) 13 [0,1,4,5,6,7,8,9,10,11,27,40,56,65,72,84,99,109] ?_);simp only [RQr_mk,List.drop_succ_cons,List.drop_zero,List.drop_nil])|fail)
         rfl
     ·rintro⟨_,hI⟩ hlt2
      rw [List.drop_length,methF] at hI
      rw [hI] at hF
      have hF2:F=(0,0):=hF
      rw [hF2]
      cases hk:c.methods.length with
      | zero =>
       rw [hk] at hlt2
       have hl0:decide ((0:Int)<((c.methods.length:Nat):Int))=false:=by rw [hk];rfl
       simp only [clEx,clBx]
       replace fx:=And.intro hl0 trivial
       repeat' (first|refine stp [0,1,4,5,6,7,8,9,10,11,27,40,56,65,72,84,99,109] ?_|(refine RS.aO ?_;refine rnx ?_)|(refine RS.aN ?_;refine rnx ?_)|(refine RS.ls ?_;refine rnx ?_)|(refine RS.sE ?_;refine rnx ?_)|(refine RS.pk ?_;refine rnx ?_)|(refine RS.gF ?_;refine rnx ?_)|(refine RS.aE ?_;refine rnx ?_)|(refine RS.aK ?_;refine rnx ?_)|(refine RS.lC ?_;refine rnx ?_)|(refine RS.xC ?_;refine rnx ?_)|(refine RS.bC ?_;refine rnx ?_)|refine WP.cn (fun hc=>?_) (fun hc=>?_)|((first|refine WP.dw (id:=6) 13 [0,1,4,5,6,7,8,9,10,11,27,40,56,65,72,84,99,109] ?_);simp only [RQr_mk,List.drop_succ_cons,List.drop_zero,List.drop_nil])|fail)
       rfl
      | succ k =>
       rw [hk] at hlt2
       have hl0:decide (((k+1:Nat):Int)<((c.methods.length:Nat):Int))=false:=by rw [hk];exact hlt2
       simp only [clEx,clBx]
       replace fx:=And.intro hl0 trivial
       repeat' (first|refine stp [0,1,4,5,6,7,8,9,10,11,27,40,56,65,72,84,99,109] ?_|(refine RS.aO ?_;refine rnx ?_)|(refine RS.aN ?_;refine rnx ?_)|(refine RS.ls ?_;refine rnx ?_)|(refine RS.sE ?_;refine rnx ?_)|(refine RS.pk ?_;refine rnx ?_)|(refine RS.gF ?_;refine rnx ?_)|(refine RS.aE ?_;refine rnx ?_)|(refine RS.aK ?_;refine rnx ?_)|(refine RS.lC ?_;refine rnx ?_)|(refine RS.xC ?_;refine rnx ?_)|(refine RS.bC ?_;refine rnx ?_)|refine WP.cn (fun hc=>?_) (fun hc=>?_)|((first|refine WP.dw (id:=6) 13 [0,1,4,5,6,7,8,9,10,11,27,40,56,65,72,84,99,109] ?_);simp only [RQr_mk,List.drop_succ_cons,List.drop_zero,List.drop_nil])|fail)
       rfl
    ·rw [hv] at hF
     rw [hd1] at c7
     have hF2:F=(7,z.at_):=hF
     have hj0:=dec_nat j
     have hixj:=ixE (m:=13) hj (Vr.len z)
     rw [hF2]
     refine DPure.go Tryz.func46 rfl Tryz.ntmps46 rfl rfl rfl (fun C hro=>?_)
     have fx:=trivial
     replace fx:=And.intro hix (And.intro hfl (And.intro ht (And.intro hs (And.intro hf0 (And.intro hne3 (And.intro hj0 (And.intro hixj trivial)))))))
     repeat' (first|refine stp [0,1,4,5,6,7,8,9,10,11,27,40,56,65,72,84,99,109] ?_|(refine RS.aO ?_;refine rnx ?_)|(refine RS.aN ?_;refine rnx ?_)|(refine RS.li ?_;refine rnx ?_)|(refine RS.sE ?_;refine rnx ?_)|(refine RS.pk ?_;refine rnx ?_)|(refine RS.gF ?_;refine rnx ?_)|(refine RS.aE ?_;refine rnx ?_)|(refine RS.aK ?_;refine rnx ?_)|(refine RS.lC ?_;refine rnx ?_)|(refine RS.xC ?_;refine rnx ?_)|(refine RS.bC ?_;refine rnx ?_)|(refine stc (r1:=by first|exact c1|exact c2|exact c3|exact c4|exact c5|exact c6|exact c7|exact pr13fault _ _) (r2:=?_);refine rnx ?_)|refine WP.cn (fun hc=>?_) (fun hc=>?_)|((first|refine WP.dw (id:=6) 13 [0,1,4,5,6,7,8,9,10,11,27,40,56,65,72,84,99,109] ?_);simp only [RQr_mk,List.drop_succ_cons,List.drop_zero,List.drop_nil])|fail)
     rfl
theorem pr13class (p:List Cs) (i:Nat) (c:Cs) (hc:p[i]? = some c) (hz:sumOf Cs.sz p≤1048576):DPure Tryz.prog 46 [.a (.sl (p.map Cs.at)),.a (.v (.int .i64 (i:Nat)))] (.r [.v (.int .i64 (fOf (classF p ((p.take i).map Cs.name) c)).1),.v (.int .i64 (fOf (classF p ((p.take i).map Cs.name) c)).2)]):=by
 cases ht:decide (fdup [] c.params 0≥0) with
 | true=>exact pr13class0 p i c hc hz (.inl ht)
 | false =>
  cases hm:((p.take i).map Cs.name).any fun y=>y==c.name with
  | true=>exact pr13class0 p i c hc hz (.inr hm)
  | false =>
   cases hs:c.super==[] with
   | true=>exact pr13class1 p i c hc hz ht hm hs
   | false=>exact pr13class2 p i c hc hz ht hm hs
theorem methF_ne:∀{l:List Me} {met:List (List UInt8)} {f:Int×Int},methF met l=some f→(f.1 != 0)=true
 | [],met,f,h=>by cases h
 | m::r,met,f,h=>by
  rw [methF] at h
  split at h
  ·injection h with h;subst h;rfl
  ·split at h
   ·rename_i g hg
    injection h with h;subst h
    unfold varsF at hg
    rw [Option.map_eq_some_iff] at hg
    obtain⟨a,_,rfl⟩:=hg;rfl
   ·exact methF_ne h
theorem classF_ne {p:List Cs} {met:List (List UInt8)} {c:Cs} {f:Int×Int} (h:classF p met c=some f):(f.1 != 0)=true:=by
 unfold classF at h
 split at h
 ·rename_i g hg
  injection h with h;subst h
  unfold headF at hg
  repeat' (split at hg)
  all_goals first|(injection hg with hg;subst hg;rfl)|cases hg
 ·split at h
  ·rename_i g hg
   injection h with h;subst h
   exact typF_ne hg
  ·split at h
   ·rename_i g hg
    injection h with h;subst h
    unfold varsF at hg
    rw [Option.map_eq_some_iff] at hg
    obtain⟨a,_,rfl⟩:=hg;rfl
   ·exact methF_ne h
theorem pr13Check (p:List Cs) (hz:sumOf Cs.sz p≤1048576):DPure Tryz.prog 13 [.a (.sl (p.map Cs.at))] (.r [.v (.int .i64 (checkF p).1),.v (.int .i64 (checkF p).2)]):=by
 have hpl:p.length≤1048576:=Nat.le_trans (sumOf_len Cs.sz_pos p) hz
 have hri:=pRight p hz
 unfold checkF
 cases hr:rightB p with
 | false =>
  rw [hr] at hri
  rw [if_neg Bool.false_ne_true]
  refine DPure.go Tryz.func13 rfl Tryz.ntmps13 rfl rfl rfl (fun C hro=>?_)
  have fx:=trivial
  repeat' (first|refine stp [0,2,3,4,7,12,20] ?_|(refine RS.sE ?_;refine rnx ?_)|(refine RS.lC ?_;refine rnx ?_)|(refine stc (r1:=by first|exact hri|exact pr13fault _ _) (r2:=?_);refine rnx ?_)|refine WP.cn (fun hc=>?_) (fun hc=>?_)|fail)
  rfl
 | true =>
  rw [hr] at hri
  rw [if_pos rfl]
  refine DPure.go Tryz.func13 rfl Tryz.ntmps13 rfl rfl rfl (fun C hro=>?_)
  have fx:=trivial
  repeat' (first|refine stp [0,2,3,4,7,12,20] ?_|(refine RS.sE ?_;refine rnx ?_)|(refine RS.lC ?_;refine rnx ?_)|(refine stc (r1:=by exact hri) (r2:=?_);refine rnx ?_)|refine WP.cn (fun hc=>?_) (fun hc=>?_)|fail)
  refine WP.each p Cs.at 7 (fun k=>[(0,.a (.sl (p.map Cs.at))),(2,.a (.ptr 0 0)),(3,.a (.v (.int .i64 (k:Nat))))]) (fun k=>[.cell [.v (.int .i64 0),.v (.int .i64 0)]]) (fun k=>goF p [] p=goF p ((p.take k).map Cs.name) (p.drop k)) (by simp only [Agree,go_sem,simprocAttr];first|done|rfl) rfl rfl (by omega) (fun z=>Cs.len z) ?_ ?_
  ·intro k c hc hdr htk hlt hI hlt2 hix hwu
   rw [goF_round hdr htk] at hI
   have hcl:=pr13class p k c hc hz
   cases hf:classF p ((p.take k).map Cs.name) c with
   | some f =>
    rw [hf] at hI hcl
    have hne:(f.1 != 0)=true:=classF_ne hf
    replace hcl:DPure Tryz.prog 46 [.a (.sl (p.map Cs.at)),.a (.v (.int .i64 (k:Nat)))] (.r [.v (.int .i64 f.1),.v (.int .i64 f.2)]):=hcl
    have hI2:goF p [] p=f:=hI
    rw [hI2]
    replace fx:=And.intro hlt2 (And.intro hwu (And.intro hne trivial))
    repeat' (first|refine stp [0,2,3,4,7,12,20] ?_|(refine RS.sE ?_;refine rnx ?_)|(refine RS.lC ?_;refine rnx ?_)|(refine stc (r1:=by exact hcl) (r2:=?_);refine rnx ?_)|refine WP.cn (fun hc=>?_) (fun hc=>?_)|fail)
    rfl
   | none =>
    rw [hf] at hI hcl
    replace hcl:DPure Tryz.prog 46 [.a (.sl (p.map Cs.at)),.a (.v (.int .i64 (k:Nat)))] (.r [.v (.int .i64 0),.v (.int .i64 0)]):=hcl
    replace fx:=And.intro hlt2 (And.intro hwu trivial)
    repeat' (first|refine stp [0,2,3,4,7,12,20] ?_|(refine RS.sE ?_;refine rnx ?_)|(refine RS.lC ?_;refine rnx ?_)|(refine stc (r1:=by exact hcl) (r2:=?_);refine rnx ?_)|refine WP.cn (fun hc=>?_) (fun hc=>?_)|fail)
    exact⟨hI,_,by simp only [Agree,go_sem,simprocAttr],rfl,rfl,by simp only [go_sem,simprocAttr]⟩
  ·intro hI hlt2
   rw [List.drop_length,goF] at hI
   rw [hI]
   replace fx:=And.intro hlt2 trivial
   repeat' (first|refine stp [0,2,3,4,7,12,20] ?_|(refine RS.sE ?_;refine rnx ?_)|(refine RS.lC ?_;refine rnx ?_)|refine WP.cn (fun hc=>?_) (fun hc=>?_)|fail)
   rfl
theorem eqFt (a b:Int):eqR false (some [1,1]) [.v (.int .i64 a),.v (.int .i64 b)] [.v (.int .i64 a),.v (.int .i64 b)]=some (.a (.v (.bool true))):=by simp [eqR,plainR,okLs,eqLs,okC,eqV]
theorem pLaw13Check (p:List Cs) (hz:sumOf Cs.sz p≤1048576):DPure Tryz.prog 3 [.a (.sl (p.map Cs.at))] (.a (.v (.bool true))):=by
 have c1:=ptCheck p hz
 have c2:=pr13Check p hz
 generalize checkF p=f at c1 c2
 have hq:=eqFt f.1 f.2
 have c3:=pHeavy p hz
 cases hh:heavyB p with
 | true =>
  rw [hh] at c3
  refine DPure.go Tryz.func3 rfl Tryz.ntmps3 rfl rfl rfl (fun C hro=>?_)
  have fx:=trivial
  replace fx:=And.intro hq trivial
  repeat' (first|refine stp [0,2,4] ?_|(refine RS.pk ?_;refine rnx ?_)|(refine RS.gF ?_;refine rnx ?_)|(refine stc (r1:=by first|exact c3|exact pAwake13) (r2:=?_);refine rnx ?_)|refine WP.cn (fun hc=>?_) (fun hc=>?_)|fail)
  all_goals rfl
 | false =>
  rw [hh] at c3
  refine DPure.go Tryz.func3 rfl Tryz.ntmps3 rfl rfl rfl (fun C hro=>?_)
  have fx:=trivial
  replace fx:=And.intro hq trivial
  repeat' (first|refine stp [0,2,4] ?_|(refine RS.pk ?_;refine rnx ?_)|(refine RS.gF ?_;refine rnx ?_)|(refine stc (r1:=by first|exact c3|exact c1|exact c2|exact pAwake13) (r2:=?_);refine rnx ?_)|refine WP.cn (fun hc=>?_) (fun hc=>?_)|fail)
  all_goals rfl
end Go.Proofs.YtibdalkdgjghoaaGreatDoor
