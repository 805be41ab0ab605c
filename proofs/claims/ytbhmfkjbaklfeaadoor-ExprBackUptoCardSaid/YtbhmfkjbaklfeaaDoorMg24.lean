/- Contracts of the document's answer for layer 3 (demesneref03): sign, skip, one, Of, Is: what each returns, at any string shorter than 10^9 bytes; nothing that was there is written. -/
import Derived.Test.YtbhmfkjbaklfeaaDoorMg23
import Derived.Outline
import Derived.Maps.AppendAt
import Derived.Deep.AppendLies
import Derived.Test.YtbhmfkjbaklfeaaDoorMg21
import Derived.Test.YtbhmfkjbaklfeaaDoorMg22
import Derived.Test.YtbhmfkjbaklfeaaDoorMg9
set_option linter.unusedVariables false
set_option maxRecDepth 100000
set_option maxHeartbeats 8000000
set_option linter.unusedSimpArgs false
namespace Go.Proofs.YtbhmfkjbaklfeaaDoor
open Go.RowKit
def sk:Bool→List UInt8→Nat
  | _,[]=>0
  | true,c::r=>if c.toNat=10 then 1+sk false r else 1+sk true r
  | false,c::r=>if blankI c.toNat then 1+sk false r else if c.toNat=47∧(r.head?.map UInt8.toNat)=some 47 then 1+sk true r else 0
theorem sk_le:∀(l:List UInt8) (b:Bool),sk b l≤l.length
  | [],b=>by cases b<;>simp [sk]
  | c::r,b=>by
    have h1:=sk_le r true
    have h2:=sk_le r false
    cases b<;>simp only [sk,List.length_cons]<;>(repeat' split)<;>omega
theorem sk_blank (c:UInt8) (r:List UInt8) (h:blankI c.toNat=true):sk false (c::r)=1+sk false r:=by simp only [sk,h,if_true]
theorem sk_none (c:UInt8) (r:List UInt8) (h:blankI c.toNat=false) (h2:¬(c.toNat=47∧(r.head?.map UInt8.toNat)=some 47)):sk false (c::r)=0:=by simp only [sk,h,Bool.false_eq_true,if_false,if_neg h2]
theorem sk_remark (c:UInt8) (r:List UInt8) (h:blankI c.toNat=false) (h2:c.toNat=47∧(r.head?.map UInt8.toNat)=some 47):sk false (c::r)=sk true (c::r):=by
  have h3:¬c.toNat=10:=by omega
  simp only [sk,h,Bool.false_eq_true,if_false,if_pos h2,if_neg h3]
theorem sk_on (c:UInt8) (r:List UInt8) (h:¬c.toNat=10):sk true (c::r)=1+sk true r:=by simp only [sk,if_neg h]
theorem sk_line (c:UInt8) (r:List UInt8) (h:c.toNat=10):sk true (c::r)=sk false (c::r):=by
  have hb:blankI c.toNat=true:=by rw [h];rfl
  simp only [sk,if_pos h,hb,if_true]
theorem head_drop (s:ByteArray) (k:Nat):(s.data.toList.drop k).head?.map UInt8.toNat=if h:k<s.size then some (s[k]).toNat else none:=by
  split
  · rename_i h;rw [drop_get s k h];rfl
  · rename_i h;rw [drop_end s k (by omega)];rfl

theorem r03skip_any (s:ByteArray) (w:World) (hs:s.size≤1000000000) :
    Calls Tryd.prog 11 #[.string s] w fun e w'=>e=.returned (.int .i64 (sk false s.data.toList))∧w=w':=by
  go_enter Tryd.func11,Tryd.ntmps11
  go_wp2
  go_loop [3] (fun i=>∃k:Nat,k≤s.size∧i=.int .i64 k∧sk false s.data.toList=k+sk false (s.data.toList.drop k)) (fun i=>s.size-(intOf i).toNat)
  case atStart=>exact⟨0,by omega,rfl,by simp⟩
  case round =>
    obtain⟨k,hk,rfl,hf⟩:=hrel
    by_cases hlt:k<s.size
    · have hd:=drop_get s k hlt
      have hh:=head_drop s (k+1)
      rw [hd] at hf
      have HF:=Lib.hid hf
      have HH:=Lib.hid hh
      have HD:=Lib.hid hd
      clear hf hd hh
      cases hbl:blankI (s[k]).toNat
      · have HB:=Lib.hid hbl
        clear hbl
        by_cases h47:((s[k]).toNat:Int)=47
        · have b1:(((s[k]).toNat:Int) != 47)=false:=by simp [h47]
          have H47:=Lib.hid h47
          clear h47
          by_cases hlt1:k+1<s.size
          · have f1:(k:Int)+1<(s.size:Int):=by omega
            by_cases h48:((s[k+1]).toNat:Int)=47
            · have b2:(((s[k+1]).toNat:Int) != 47)=false:=by simp [h48]
              have H48:=Lib.hid h48
              clear h48
              have hc:(s[k]).toNat=47∧((s.data.toList.drop (k+1)).head?.map UInt8.toNat)=some 47:=⟨by have:=H47.out;omega,by rw [HH.out,dif_pos hlt1];have:=H48.out;congr 1;omega⟩
              have HS2:=Lib.hid (sk_remark _ _ HB.out hc)
              clear hc
              go_wp2_with (go_at_call 20;refine (r02Blank_any _ _).mono ?_;rintro e w' ⟨rfl,rfl⟩;rw [HB.out])
              go_loop [3] (fun i=>∃j:Nat,k≤j∧j≤s.size∧i=.int .i64 j∧(j=k∨True)∧sk false s.data.toList=j+sk true (s.data.toList.drop j)) (fun i=>s.size-(intOf i).toNat)
              case atStart=>exact⟨k,Nat.le_refl _,hk,rfl,.inr trivial,by rw [HF.out,HS2.out,HD.out]⟩
              case round =>
                obtain⟨j,hj1,hj2,rfl,_,hf⟩:=hrel
                by_cases hltj:j<s.size
                · have hd:=drop_get s j hltj
                  rw [hd] at hf
                  have HF:=Lib.hid hf
                  have HD:=Lib.hid hd
                  clear hf hd
                  by_cases h10:((s[j]).toNat:Int)=10
                  · have b3:(((s[j]).toNat:Int) != 10)=false:=by simp [h10]
                    have HS3:=Lib.hid (sk_line s[j] (s.data.toList.drop (j+1)) (by omega))
                    have H10:=Lib.hid h10
                    clear h10
                    go_wp2
                    go_round
                    case rel=>exact⟨j,hj2,rfl,by rw [HF.out,HS3.out,HD.out]⟩
                    case measure =>
                      simp [intOf]
                      have:j≠k:=by rintro rfl;have:=H47.out;have:=H10.out;omega
                      omega
                  · have b3:(((s[j]).toNat:Int) != 10)=true:=by simp [h10]
                    have HS3:=Lib.hid (sk_on s[j] (s.data.toList.drop (j+1)) (by omega))
                    have H10:=Lib.hid h10
                    clear h10
                    go_wp2
                    go_round
                    case rel=>exact⟨j+1,by omega,by omega,by go_num,.inr trivial,by rw [HF.out,HS3.out];omega⟩
                    case measure=>simp [intOf];omega
                · obtain rfl:j=s.size:=by omega
                  have HF:=Lib.hid hf
                  clear hf
                  go_wp2
                  go_round
                  case rel=>exact⟨s.size,Nat.le_refl _,rfl,by rw [HF.out,drop_end _ _ (Nat.le_refl _)];rfl⟩
                  case measure=>simp [intOf];omega
            · have b2:(((s[k+1]).toNat:Int) != 47)=true:=by simp [h48]
              have HS2:=Lib.hid (sk_none s[k] (s.data.toList.drop (k+1)) HB.out (by rintro⟨_,h⟩;rw [HH.out,dif_pos hlt1] at h;injection h with h;omega))
              have H48:=Lib.hid h48
              clear h48
              go_wp2_with (go_at_call 20;refine (r02Blank_any _ _).mono ?_;rintro e w' ⟨rfl,rfl⟩;rw [HB.out])
              go_ret
              exact⟨ret_int (by rw [HF.out,HS2.out];simp),rfl⟩
          · have HS2:=Lib.hid (sk_none s[k] (s.data.toList.drop (k+1)) HB.out (by rintro⟨_,h⟩;rw [HH.out,dif_neg hlt1] at h;cases h))
            have f1:(s.size:Int)≤(k:Int)+1:=by omega
            go_wp2_with (go_at_call 20;refine (r02Blank_any _ _).mono ?_;rintro e w' ⟨rfl,rfl⟩;rw [HB.out])
            go_ret
            exact⟨ret_int (by rw [HF.out,HS2.out];simp),rfl⟩
        · have b1:(((s[k]).toNat:Int) != 47)=true:=by simp [h47]
          have HS2:=Lib.hid (sk_none s[k] (s.data.toList.drop (k+1)) HB.out (by rintro⟨h,_⟩;omega))
          have H47:=Lib.hid h47
          clear h47
          go_wp2_with (go_at_call 20;refine (r02Blank_any _ _).mono ?_;rintro e w' ⟨rfl,rfl⟩;rw [HB.out])
          all_goals
            go_ret
            exact⟨ret_int (by rw [HF.out,HS2.out];simp),rfl⟩
      · have HS2:=Lib.hid (sk_blank s[k] (s.data.toList.drop (k+1)) hbl)
        have HB:=Lib.hid hbl
        clear hbl
        go_wp2_with (go_at_call 20;refine (r02Blank_any _ _).mono ?_;rintro e w' ⟨rfl,rfl⟩;rw [HB.out])
        go_round
        case rel=>exact⟨k+1,by omega,by go_num,by rw [HF.out,HS2.out];omega⟩
        case measure=>simp [intOf];omega
    · obtain rfl:k=s.size:=by omega
      have HF:=Lib.hid hf
      clear hf
      go_wp2
      go_ret
      exact⟨ret_int (by rw [HF.out,drop_end _ _ (Nat.le_refl _)];simp [sk]),rfl⟩

def sgs:List UInt8:=[123,125,40,41,60,62,44,59,46,61,43,45,42,33]
def signL (l:List UInt8):List UInt8 :=
  if l.take 2=[61,61]∨l.take 2=[38,38] then l.take 2
  else match l with
    | []=>[]
    | c::_=>if c∈sgs then [c] else []
theorem signL_two {l:List UInt8} (h:l.take 2=[61,61]∨l.take 2=[38,38]):signL l=l.take 2:=by unfold signL;rw [if_pos h]
theorem signL_one {c:UInt8} {r:List UInt8} (h:¬((c::r).take 2=[61,61]∨(c::r).take 2=[38,38])):signL (c::r)=if c∈sgs then [c] else []:=by unfold signL;rw [if_neg h]
theorem sgs_at (sg:ByteArray) (h:sg=⟨#[123,125,40,41,60,62,44,59,46,61,43,45,42,33]⟩) (k:Nat) (hk:k<sg.size):sgs.take (k+1)=sgs.take k++[sg[k]]:=by
  have:sgs=sg.data.toList:=by rw [h];rfl
  rw [this,take_snoc sg k hk]
theorem r03sign_any (s:ByteArray) (w:World) (hs:s.size≤1000000000) :
    Calls Tryd.prog 24 #[.string s] w fun e w'=>e=.returned (.string (bs (signL s.data.toList)))∧Qt w w':=by
  by_cases h0:s.size=0
  · have hl:s.data.toList=[]:=List.eq_nil_of_length_eq_zero (by rw [←size_eq];exact h0)
    obtain rfl:s=⟨#[]⟩:=eq_bs hl
    clear hl h0
    go_enter Tryd.func24,Tryd.ntmps24
    go_wp2
    go_loop [4] (fun i=>i=.int .i64 0) (fun i=>0)
    case atStart=>rfl
    case round =>
      subst hrel
      go_wp2
      go_ret
      exact⟨rfl,Qt.refl _⟩
  have f0:0<s.size:=by omega
  have he:=isEmpty_of_pos s f0
  have hcons:=drop_get s 0 f0
  rw [List.drop_zero] at hcons
  have HC:=Lib.hid hcons
  have ht2:=extract_beg s 2
  have HT:=Lib.hid ht2
  have e1:((s.extract 0 2).toList==[61,61])=decide (s.data.toList.take 2=[61,61]):=by rw [toList_eq_data,ht2,Bool.eq_iff_iff];simp
  have e2:((s.extract 0 2).toList==[38,38])=decide (s.data.toList.take 2=[38,38]):=by rw [toList_eq_data,ht2,Bool.eq_iff_iff];simp
  have hlen:s.data.toList.take 2=[61,61]∨s.data.toList.take 2=[38,38]→1<s.size:=by
    intro h
    have:2≤(s.data.toList.take 2).length:=by rcases h with h|h<;>rw [h]<;>simp
    rw [List.length_take] at this
    have:=size_eq s
    omega
  clear hcons ht2
  by_cases h2:s.data.toList.take 2=[61,61]
  · have h1:=hlen (.inl h2)
    have f2:(2:Int)≤(s.size:Int):=by omega
    have f1:(1:Int)<(s.size:Int):=by omega
    have HS:=Lib.hid (signL_two (.inl h2))
    have b2:((s.extract 0 2).toList==[61,61])=true:=by rw [e1];simpa using h2
    clear e1 e2 hlen h2
    go_enter Tryd.func24,Tryd.ntmps24
    go_wp2
    go_ret
    exact⟨ret_string (by rw [HS.out];exact eq_bs HT.out),Qt.refl _⟩
  by_cases h3:s.data.toList.take 2=[38,38]
  · have h1:=hlen (.inr h3)
    have f2:(2:Int)≤(s.size:Int):=by omega
    have f1:(1:Int)<(s.size:Int):=by omega
    have HS:=Lib.hid (signL_two (.inr h3))
    have b2:((s.extract 0 2).toList==[61,61])=false:=by rw [e1];simpa using h2
    have b3:((s.extract 0 2).toList==[38,38])=true:=by rw [e2];simpa using h3
    clear e1 e2 hlen h2 h3
    go_enter Tryd.func24,Tryd.ntmps24
    go_wp2
    go_ret
    exact⟨ret_string (by rw [HS.out];exact eq_bs HT.out),Qt.refl _⟩
  have hso:signL s.data.toList=if s[0]∈sgs then [s[0]] else []:=by
    rw [HC.out] at h2 h3 ⊢
    exact signL_one (fun h=>h.elim h2 h3)
  have HS:=Lib.hid hso
  have ht1:=extract_beg s 1
  rw [HC.out] at ht1
  have HT1:=Lib.hid ht1
  have h2':decide (1<(s.size:Int))=true∧((s.extract 0 2).toList==[61,61])=false∧((s.extract 0 2).toList==[38,38])=false∧(2:Int)≤(s.size:Int)∨decide (1<(s.size:Int))=false:=by
    by_cases h1:1<s.size
    · exact .inl ⟨by simp;omega,by rw [e1];simpa using h2,by rw [e2];simpa using h3,by omega⟩
    · exact .inr (by simp;omega)
  obtain⟨sg,hsg⟩:∃x:ByteArray,x=⟨#[123,125,40,41,60,62,44,59,46,61,43,45,42,33]⟩:=⟨_,rfl⟩
  have z1:sg.size≤14:=by rw [hsg];exact Nat.le_refl _
  have z2:14≤sg.size:=by rw [hsg];exact Nat.le_refl _
  have HSG:=Lib.hid hsg
  clear h2 h3 e1 e2 hlen hso ht1
  rcases h2' with ⟨b1,b2,b3,f2⟩|b1
  all_goals
    go_enter Tryd.func24,Tryd.ntmps24
    go_wp2
    rw [←hsg]
    clear hsg
    go_loopw [4] (fun i wr=>∃k n:Nat,k≤14∧i=.int .i64 k∧s[0]∉sgs.take k∧wr=w.drewN n) (fun i _=>14-(intOf i).toNat)
    case atStart=>exact⟨0,0,by omega,rfl,by simp,rfl⟩
    case round =>
      obtain⟨k,n,hk,rfl,hn,rfl⟩:=hrel
      have HN:=Lib.hid hn
      clear hn
      by_cases hlt:k<14
      · have f3:(k:Int)<(sg.size:Int):=by omega
        have HA:=Lib.hid (sgs_at sg HSG.out k (by omega))
        have hu:=u8_eq_iff sg[k] s[0]
        cases hq:(sg[k]==s[0])
        · rw [hq] at hu
          have HQ:=Lib.hid hq
          clear hq
          go_wp2
          go_quiet (fail)
          go_wp2
          go_roundw
          case rel=>exact⟨k+1,n+nq,by omega,by go_num,by
            rw [HA.out,List.mem_append]
            rintro (h|h)
            · exact HN.out h
            · have:=HQ.out
              simp only [List.mem_singleton] at h
              rw [h] at this
              simp at this,rfl⟩
          case measure=>simp [intOf];omega
        · rw [hq] at hu
          have HQ:=Lib.hid hq
          clear hq
          go_wp2
          go_quiet (fail)
          go_wp2
          go_ret
          refine⟨ret_string ?_,Qt.mk' _ _⟩
          rw [HS.out,if_pos]
          · exact eq_bs HT1.out
          · have h:=HA.out
            have h2:s[0]∈sgs.take (k+1):=by rw [h,←beq_iff_eq.1 HQ.out];simp
            exact List.mem_of_mem_take h2
      · have f3:(sg.size:Int)≤(k:Int):=by omega
        go_wp2
        go_ret
        refine⟨ret_string ?_,Qt.mk' _ _⟩
        rw [HS.out,if_neg]
        · rfl
        · have:=HN.out
          rwa [List.take_of_length_le (by simp [sgs];omega)] at this
def twl (p:UInt8→Bool):List UInt8→Nat
  | []=>0
  | c::r=>if p c then 1+twl p r else 0
theorem twl_yes {p:UInt8→Bool} {c:UInt8} {r:List UInt8} (h:p c=true):twl p (c::r)=1+twl p r:=by simp only [twl,h,if_true]
theorem twl_no {p:UInt8→Bool} {c:UInt8} {r:List UInt8} (h:p c=false):twl p (c::r)=0:=by simp only [twl,h,Bool.false_eq_true,if_false]
def innerB (c:UInt8):Bool:=letterI c.toNat||digitI c.toNat
def digB (c:UInt8):Bool:=digitI c.toNat
def oneL (l:List UInt8):Nat×List UInt8 :=
  match l with
  | []=>(0,[])
  | c::_ =>
    if letterI c.toNat then (if 0<findW (l.take (twl innerB l)) then 3 else 1,l.take (twl innerB l))
    else if digitI c.toNat then (2,l.take (twl digB l))
    else if signL l=[] then (0,[]) else (4,signL l)
theorem oneL_letter {c:UInt8} {r:List UInt8} (h:letterI c.toNat=true):oneL (c::r)=(if 0<findW ((c::r).take (twl innerB (c::r))) then 3 else 1,(c::r).take (twl innerB (c::r))):=by
  simp only [oneL,h,if_true]
theorem oneL_digit {c:UInt8} {r:List UInt8} (h:letterI c.toNat=false) (h2:digitI c.toNat=true):oneL (c::r)=(2,(c::r).take (twl digB (c::r))):=by
  simp only [oneL,h,h2,if_true,Bool.false_eq_true,if_false]
theorem oneL_sign {c:UInt8} {r:List UInt8} (h:letterI c.toNat=false) (h2:digitI c.toNat=false) (h3:signL (c::r)≠[]):oneL (c::r)=(4,signL (c::r)):=by
  simp only [oneL,h,h2,Bool.false_eq_true,if_false,if_neg h3]
theorem oneL_none {c:UInt8} {r:List UInt8} (h:letterI c.toNat=false) (h2:digitI c.toNat=false) (h3:signL (c::r)=[]):oneL (c::r)=(0,[]):=by
  simp only [oneL,h,h2,Bool.false_eq_true,if_false,if_pos h3]
def tokV (k:Nat) (l:List UInt8) (at_:Nat):Value:=.agg #[.int .i64 k,.string (bs l),.int .i64 at_]
theorem r03one_any (s:ByteArray) (w:World) (hs:s.size≤1000000000) (h0:0<s.size) :
    Calls Tryd.prog 12 #[.string s] w fun e w'=>e=.returned (tokV (oneL s.data.toList).1 (oneL s.data.toList).2 0)∧Grw w w':=by
  have hcons:=drop_get s 0 h0
  rw [List.drop_zero] at hcons
  cases hl:letterI (s[0]).toNat
  · cases hd:digitI (s[0]).toNat
    · by_cases hsg:signL s.data.toList=[]
      · have HO:=Lib.hid (show oneL s.data.toList=(0,[]) by rw [hcons] at hsg ⊢;exact oneL_none hl hd hsg)
        have b1:(signL s.data.toList).isEmpty=true:=by rw [hsg];rfl
        have HL:=Lib.hid hl
        have HD:=Lib.hid hd
        clear hl hd hsg hcons
        go_enter Tryd.func12,Tryd.ntmps12
        go_wp2_with (first
          | (go_at_call 21;refine (r02Letter_any _ _).mono ?_;rintro e w' ⟨rfl,rfl⟩;rw [HL.out])
          | (go_at_call 22;refine (r02Digit_any _ _).mono ?_;rintro e w' ⟨rfl,rfl⟩;rw [HD.out])
          | (go_at_call 24;refine (r03sign_any _ _ hs).mono ?_;rintro e w' ⟨rfl,hq⟩;obtain⟨nq,rfl⟩:=hq))
        exact bodyPost_ret (v:=.agg #[.int .i64 0,.string ⟨#[]⟩,.int .i64 0]) (by simp [results,Tryd.results12,go_sem]) rfl ⟨by rw [HO.out];rfl,((Grw.refl _).alloc _).drewN _⟩
      · have HO:=Lib.hid (show oneL s.data.toList=(4,signL s.data.toList) by rw [hcons] at hsg ⊢;exact oneL_sign hl hd hsg)
        have b1:(signL s.data.toList).isEmpty=false:=by simpa using hsg
        have HL:=Lib.hid hl
        have HD:=Lib.hid hd
        clear hl hd hsg hcons
        go_enter Tryd.func12,Tryd.ntmps12
        go_wp2_with (first
          | (go_at_call 21;refine (r02Letter_any _ _).mono ?_;rintro e w' ⟨rfl,rfl⟩;rw [HL.out])
          | (go_at_call 22;refine (r02Digit_any _ _).mono ?_;rintro e w' ⟨rfl,rfl⟩;rw [HD.out])
          | (go_at_call 24;refine (r03sign_any _ _ hs).mono ?_;rintro e w' ⟨rfl,hq⟩;obtain⟨nq,rfl⟩:=hq))
        exact bodyPost_ret (v:=.agg #[.int .i64 4,.string (bs (signL s.data.toList)),.int .i64 0]) (by simp [results,Tryd.results12,go_sem]) rfl ⟨by rw [HO.out];rfl,((Grw.refl _).alloc _).drewN _⟩
    · have HO:=Lib.hid (show oneL s.data.toList=(2,s.data.toList.take (twl digB s.data.toList)) by rw [hcons];exact oneL_digit hl hd)
      have HL:=Lib.hid hl
      have HD:=Lib.hid hd
      clear hl hd hcons
      go_enter Tryd.func12,Tryd.ntmps12
      go_wp2_with (first
        | (go_at_call 21;refine (r02Letter_any _ _).mono ?_;rintro e w' ⟨rfl,rfl⟩;rw [HL.out])
        | (go_at_call 22;refine (r02Digit_any _ _).mono ?_;rintro e w' ⟨rfl,rfl⟩;rw [HD.out]))
      go_loop [3] (fun i=>∃k:Nat,k≤s.size∧i=.int .i64 k∧twl digB s.data.toList=k+twl digB (s.data.toList.drop k)) (fun i=>s.size-(intOf i).toNat)
      case atStart=>exact⟨0,by omega,rfl,by simp⟩
      case round =>
        obtain⟨k,hk,rfl,hf⟩:=hrel
        by_cases hlt:k<s.size
        · rw [drop_get s k hlt] at hf
          cases hdk:digitI (s[k]).toNat
          · rw [twl_no hdk] at hf
            have HF:=Lib.hid hf
            have HDK:=Lib.hid hdk
            clear hf hdk
            have f1:(k:Int)≤(s.size:Int):=by omega
            have HX:=Lib.hid (extract_beg s k)
            go_wp2_with (go_at_call 22;refine (r02Digit_any _ _).mono ?_;rintro e w' ⟨rfl,rfl⟩;rw [HDK.out])
            exact bodyPost_ret (v:=.agg #[.int .i64 2,.string (s.extract 0 k),.int .i64 0]) (by simp [results,Tryd.results12,go_sem]) rfl ⟨by rw [HO.out,HF.out,tokV,eq_bs HX.out];rfl,(Grw.refl _).alloc _⟩
          · rw [twl_yes hdk] at hf
            have HF:=Lib.hid hf
            have HDK:=Lib.hid hdk
            clear hf hdk
            go_wp2_with (go_at_call 22;refine (r02Digit_any _ _).mono ?_;rintro e w' ⟨rfl,rfl⟩;rw [HDK.out])
            go_round
            case rel=>exact⟨k+1,by omega,by go_num,by rw [HF.out];omega⟩
            case measure=>simp [intOf];omega
        · obtain rfl:k=s.size:=by omega
          rw [drop_end s _ (Nat.le_refl _)] at hf
          have HF:=Lib.hid hf
          clear hf
          have HX:=Lib.hid (extract_beg s s.size)
          go_wp2_with fail
          exact bodyPost_ret (v:=.agg #[.int .i64 2,.string (s.extract 0 s.size),.int .i64 0]) (by simp [results,Tryd.results12,go_sem]) rfl ⟨by rw [HO.out,HF.out,tokV,eq_bs HX.out];rfl,(Grw.refl _).alloc _⟩
  · have HO:=Lib.hid (show oneL s.data.toList=(if 0<findW (s.data.toList.take (twl innerB s.data.toList)) then 3 else 1,s.data.toList.take (twl innerB s.data.toList)) by rw [hcons];exact oneL_letter hl)
    have HL:=Lib.hid hl
    clear hl hcons
    go_enter Tryd.func12,Tryd.ntmps12
    go_wp2_with (go_at_call 21;refine (r02Letter_any _ _).mono ?_;rintro e w' ⟨rfl,rfl⟩;rw [HL.out])
    go_loop [3] (fun i=>∃k:Nat,k≤s.size∧i=.int .i64 k∧twl innerB s.data.toList=k+twl innerB (s.data.toList.drop k)) (fun i=>s.size-(intOf i).toNat)
    case atStart=>exact⟨0,by omega,rfl,by simp⟩
    case round =>
      obtain⟨k,hk,rfl,hf⟩:=hrel
      by_cases hlt:k<s.size
      · rw [drop_get s k hlt] at hf
        cases hlk:letterI (s[k]).toNat
        · cases hdk:digitI (s[k]).toNat
          · rw [twl_no (show innerB s[k]=false by simp [innerB,hlk,hdk])] at hf
            have HF:=Lib.hid hf
            have HLK:=Lib.hid hlk
            have HDK:=Lib.hid hdk
            clear hf hlk hdk
            have f1:(k:Int)≤(s.size:Int):=by omega
            have HX:=Lib.hid (extract_beg s k)
            have hfw:0<findW (s.data.toList.take k)∨findW (s.data.toList.take k)=0:=by omega
            rcases hfw with hfw|hfw
            · obtain⟨m,hm⟩:∃m,findW (s.extract 0 k).data.toList=m+1:=⟨findW (s.extract 0 k).data.toList-1,by rw [HX.out];omega⟩
              have HM:=Lib.hid hm
              clear hm
              have HW:=Lib.hid hfw
              clear hfw
              go_wp2_with (first
                | (go_at_call 23;refine (r02Find_any _ _).mono ?_;rintro e w1 ⟨rfl,hb⟩;obtain⟨xh,xd,rfl⟩:=hb;rw [HM.out])
                | (go_at_call 21;refine (r02Letter_any _ _).mono ?_;rintro e w' ⟨rfl,rfl⟩;rw [HLK.out])
                | (go_at_call 22;refine (r02Digit_any _ _).mono ?_;rintro e w' ⟨rfl,rfl⟩;rw [HDK.out]))
              exact bodyPost_ret (v:=.agg #[.int .i64 3,.string (s.extract 0 k),.int .i64 0]) (by simp [results,Tryd.results12,go_sem]) rfl ⟨by rw [HO.out,HF.out,if_pos (by simpa using HW.out),tokV,eq_bs HX.out];rfl,((Grw.refl _).alloc _).ext _ _⟩
            · have HM:=Lib.hid (show findW (s.extract 0 k).data.toList=0 by rw [HX.out];omega)
              have HW:=Lib.hid hfw
              clear hfw
              go_wp2_with (first
                | (go_at_call 23;refine (r02Find_any _ _).mono ?_;rintro e w1 ⟨rfl,hb⟩;obtain⟨xh,xd,rfl⟩:=hb;rw [HM.out])
                | (go_at_call 21;refine (r02Letter_any _ _).mono ?_;rintro e w' ⟨rfl,rfl⟩;rw [HLK.out])
                | (go_at_call 22;refine (r02Digit_any _ _).mono ?_;rintro e w' ⟨rfl,rfl⟩;rw [HDK.out]))
              exact bodyPost_ret (v:=.agg #[.int .i64 1,.string (s.extract 0 k),.int .i64 0]) (by simp [results,Tryd.results12,go_sem]) rfl ⟨by rw [HO.out,HF.out,if_neg (by have:=HW.out;simp;omega),tokV,eq_bs HX.out];rfl,((Grw.refl _).alloc _).ext _ _⟩
          · rw [twl_yes (show innerB s[k]=true by simp [innerB,hdk])] at hf
            have HF:=Lib.hid hf
            have HLK:=Lib.hid hlk
            have HDK:=Lib.hid hdk
            clear hf hlk hdk
            go_wp2_with (first
              | (go_at_call 21;refine (r02Letter_any _ _).mono ?_;rintro e w' ⟨rfl,rfl⟩;rw [HLK.out])
              | (go_at_call 22;refine (r02Digit_any _ _).mono ?_;rintro e w' ⟨rfl,rfl⟩;rw [HDK.out]))
            go_round
            case rel=>exact⟨k+1,by omega,by go_num,by rw [HF.out];omega⟩
            case measure=>simp [intOf];omega
        · rw [twl_yes (show innerB s[k]=true by simp [innerB,hlk])] at hf
          have HF:=Lib.hid hf
          have HLK:=Lib.hid hlk
          clear hf hlk
          go_wp2_with (go_at_call 21;refine (r02Letter_any _ _).mono ?_;rintro e w' ⟨rfl,rfl⟩;rw [HLK.out])
          go_round
          case rel=>exact⟨k+1,by omega,by go_num,by rw [HF.out];omega⟩
          case measure=>simp [intOf];omega
      · obtain rfl:k=s.size:=by omega
        rw [drop_end s _ (Nat.le_refl _),show twl innerB []=0 from rfl] at hf
        have HF:=Lib.hid hf
        clear hf
        have HX:=Lib.hid (show s.data.toList.take (s.size+0)=s.data.toList from List.take_of_length_le (by rw [size_eq];exact Nat.le_refl _))
        have hfw:0<findW s.data.toList∨findW s.data.toList=0:=by omega
        rcases hfw with hfw|hfw
        · obtain⟨m,hm⟩:∃m,findW s.data.toList=m+1:=⟨findW s.data.toList-1,by omega⟩
          have HM:=Lib.hid hm
          clear hm
          have HW:=Lib.hid hfw
          clear hfw
          go_wp2_with (first
            | (go_at_call 23;refine (r02Find_any _ _).mono ?_;rintro e w1 ⟨rfl,hb⟩;obtain⟨xh,xd,rfl⟩:=hb;rw [HM.out]))
          exact bodyPost_ret (v:=.agg #[.int .i64 3,.string s,.int .i64 0]) (by simp [results,Tryd.results12,go_sem]) rfl ⟨by rw [HO.out,HF.out,HX.out,if_pos HW.out];rfl,((Grw.refl _).alloc _).ext _ _⟩
        · have HM:=Lib.hid hfw
          clear hfw
          go_wp2_with (first
            | (go_at_call 23;refine (r02Find_any _ _).mono ?_;rintro e w1 ⟨rfl,hb⟩;obtain⟨xh,xd,rfl⟩:=hb;rw [HM.out]))
          exact bodyPost_ret (v:=.agg #[.int .i64 1,.string s,.int .i64 0]) (by simp [results,Tryd.results12,go_sem]) rfl ⟨by rw [HO.out,HF.out,HX.out,if_neg (by have:=HM.out;omega)];rfl,((Grw.refl _).alloc _).ext _ _⟩
structure Tok where
  kind:Int
  text:List UInt8
  pos:Int
def Tok.cells (t:Tok):List Value:=[.int .i64 t.kind,.string (bs t.text),.int .i64 t.pos]
theorem Tok.len (t:Tok):t.cells.length=3:=rfl
def badT (t:Nat×List UInt8):Bool:=(t.1==1&&decide (20<t.2.length))||(t.1==2&&(numL t.2).isNone)
def tokF:Nat→Nat→List UInt8→List Tok→List Tok×Nat×Nat
  | 0,_,_,acc=>(acc,0,0)
  | f+1,at_,l,acc =>
    if l=[] then (acc++[⟨0,[],at_⟩],0,0)
    else if (oneL l).1=0 then ([],1,at_)
    else if badT (oneL l) then ([],2,at_)
    else tokF f (at_+(oneL l).2.length+sk false (l.drop (oneL l).2.length)) ((l.drop (oneL l).2.length).drop (sk false (l.drop (oneL l).2.length))) (acc++[⟨(oneL l).1,(oneL l).2,at_⟩])
def tokOf (l:List UInt8):List Tok×Nat×Nat :=
  if 16384<l.length then ([],6,0) else tokF (l.length+1) (sk false l) (l.drop (sk false l)) []
theorem signL_le (l:List UInt8):(signL l).length≤l.length:=by
  unfold signL
  split
  · rw [List.length_take];omega
  · cases l with
    | nil=>exact Nat.le_refl _
    | cons c r=>dsimp only;split<;>simp
theorem oneL_le (l:List UInt8):(oneL l).2.length≤l.length:=by
  unfold oneL
  cases l with
  | nil=>exact Nat.le_refl _
  | cons c r =>
    dsimp only
    split
    · simp only [List.length_take];omega
    · split
      · simp only [List.length_take];omega
      · split
        · simp
        · exact signL_le _
theorem twl_pos {p:UInt8→Bool} {c:UInt8} {r:List UInt8} (h:p c=true):0<((c::r).take (twl p (c::r))).length:=by
  rw [List.length_take,twl_yes h];simp;omega
theorem oneL_pos (l:List UInt8) (h:(oneL l).1≠0):0<(oneL l).2.length:=by
  cases l with
  | nil=>simp [oneL] at h
  | cons c r =>
    unfold oneL at h ⊢
    dsimp only at h ⊢
    split
    · rename_i hc;exact twl_pos (by simp [innerB,hc])
    · rename_i hc
      rw [if_neg hc] at h
      split
      · rename_i hd;exact twl_pos hd
      · rename_i hd
        rw [if_neg hd] at h
        split
        · rename_i hs;rw [if_pos hs] at h;simp at h
        · rename_i hs;exact List.length_pos_iff.2 hs
theorem info_Token:(Tryd.prog.info? 41).map (fun i=>(i.zero,i.size,i.bytes))=some (some (.agg #[.int .i64 0,.string ⟨#[]⟩,.int .i64 0]),3,32):=by kernel_rfl

def OfPost (s:ByteArray) (w:World) (e:Ending) (w':World):Prop :=
  ∃A c,e=.returned (.tuple #[.slice A (tokOf s.data.toList).1.length c,.agg #[.int .i64 (tokOf s.data.toList).2.1,.int .i64 (tokOf s.data.toList).2.2]])∧Grw w w' ∧
    w'.ownsRow w.heap.size 41 3 (.slice A (tokOf s.data.toList).1.length c) (tokOf s.data.toList).1.length ((tokOf s.data.toList).1.flatMap Tok.cells)
theorem r03Of_any (s:ByteArray) (w:World) (hS:s.size≤9223372036854775807):Calls Tryd.prog 6 #[.string s] w (OfPost s w):=by
  have hsz:=size_eq s
  by_cases hbig:16384<s.size
  · have HO:=Lib.hid (show tokOf s.data.toList=([],6,0) by unfold tokOf;rw [if_pos (by omega)])
    have f1:(16384:Int)<(s.size:Int):=by omega
    have HS:=Lib.hid hsz
    clear hsz
    go_enter Tryd.func6,Tryd.ntmps6
    go_wp2
    exact bodyPost_ret (v:=.tuple #[.slice none 0 0,.agg #[.int .i64 6,.int .i64 0]]) (by simp [results,Tryd.results6,go_sem]) rfl ⟨none,0,by rw [HO.out];rfl,(Grw.refl _).alloc _,by rw [HO.out];exact World.ownsRow_nil _ _ _ _⟩
  · have HO:=Lib.hid (show tokOf s.data.toList=tokF (s.size+1) (sk false s.data.toList) (s.data.toList.drop (sk false s.data.toList)) [] by unfold tokOf;rw [if_neg (by omega)];rfl)
    have hs:s.size≤1000000000:=by omega
    have f1:(s.size:Int)≤16384:=by omega
    have hsk:=sk_le s.data.toList false
    rw [←hsz] at hsk
    have HS:=Lib.hid hsz
    clear hsz
    obtain⟨i0,hi0,hz0,hz1,hz2⟩:=info_parts info_Token
    go_enter Tryd.func6,Tryd.ntmps6
    go_wp2_with (go_at_call 11;refine (r03skip_any _ _ hs).mono ?_;rintro e w' ⟨rfl,rfl⟩)
    go_loopw [4,5] (fun out i wr=>∃(at_ f c:Nat) (A:Option Addr) (acc:List Tok) (xh:Array Obj) (xd:Nat),at_≤s.size∧i=.int .i64 at_∧s.size-at_<f ∧
        tokOf s.data.toList=tokF f at_ (s.data.toList.drop at_) acc∧acc.length≤at_∧out=.slice A acc.length c∧wr=wext (w.alloc (.cells #[.int .i64 0,.int .i64 0] 30)) xh xd ∧
        wr.ownsRow (w.heap.size+1) 41 3 (.slice A acc.length c) acc.length (acc.flatMap Tok.cells)) (fun _ i _=>s.size-(intOf i).toNat)
    case atStart=>exact⟨sk false s.data.toList,s.size+1,0,none,[],#[],w.drawn,hsk,rfl,by omega,HO.out,Nat.zero_le _,rfl,wext_self _,World.ownsRow_nil _ _ _ _⟩
    case round =>
      obtain⟨at_,f,c,A,acc,xh,xd,hat,rfl,hf,ht,hacc,rfl,rfl,hown⟩:=hrel
      obtain⟨f,rfl⟩:∃g,f=g+1:=⟨f-1,by omega⟩
      by_cases hlt:at_<s.size
      · have hne:s.data.toList.drop at_≠[]:=by rw [drop_get s at_ hlt];simp
        have hle:=oneL_le (s.data.toList.drop at_)
        have hpos:=oneL_pos (s.data.toList.drop at_)
        obtain⟨k,t,ho⟩:∃k t,oneL (s.data.toList.drop at_)=(k,t):=⟨_,_,rfl⟩
        simp only [tokF,if_neg hne,ho] at ht
        rw [ho,List.length_drop,←HS.out] at hle
        rw [ho] at hpos
        dsimp only at hle hpos
        have HX:=Lib.hid (show oneL (s.extract at_ s.size).data.toList=(k,t) by rw [extract_end,ho])
        have hxs:(s.extract at_ s.size).size=s.size-at_:=by rw [size_eq,extract_end,List.length_drop,←size_eq]
        have hx1:(s.extract at_ s.size).size≤1000000000:=by omega
        have hx0:0<(s.extract at_ s.size).size:=by omega
        have f2:(at_:Int)≤(s.size:Int):=by omega
        have HT:=Lib.hid ht
        have HXS:=Lib.hid hxs
        clear hxs ho hne ht
        by_cases hk0:k=0
        · have HT2:=Lib.hid (show tokOf s.data.toList=([],1,at_) by rw [HT.out,if_pos hk0])
          subst hk0
          go_wp2_with (go_at_call 12;refine (r03one_any _ _ hx1 hx0).mono ?_;rintro e w' ⟨rfl,hq⟩;obtain⟨zh,zd,rfl⟩:=hq;rw [HX.out,tokV])
          exact bodyPost_ret (v:=.tuple #[.slice none 0 0,.agg #[.int .i64 1,.int .i64 at_]]) (by simp [results,Tryd.results6,go_sem]) rfl ⟨none,0,by rw [HT2.out];rfl,by first|exact Grw.refl _|(repeat (first|exact Grw.refl _|apply Grw.ext|apply Grw.alloc|apply Grw.drewN|apply Grw.drew));done,by rw [HT2.out];exact World.ownsRow_nil _ _ _ _⟩
        · have hp:=hpos hk0
          have hn:(bs t).size≤1000000000:=by rw [bs_size];omega
          obtain⟨n,b,hnv,hb⟩:∃(n:Int) (b:Bool),numV t=.tuple #[.int .i64 n,.bool b]∧b=(numL t).isSome:=by
            unfold numV;cases numL t<;>exact⟨_,_,rfl,rfl⟩
          have HNV:=Lib.hid (show numV (bs t).data.toList=.tuple #[.int .i64 n,.bool b] from hnv)
          have hcase:(((k:Int)==1)=true∧20<(t.length:Int)∧badT (k,t)=true)∨(((k:Int)==1)=false∧((k:Int)==2)=true∧b=false∧badT (k,t)=true) ∨
              ((((k:Int)==1)=true∧(t.length:Int)≤20∧((k:Int)==2)=false∨((k:Int)==1)=false∧((k:Int)==2)=true∧b=true∨((k:Int)==1)=false∧((k:Int)==2)=false)∧badT (k,t)=false):=by
            subst hb
            by_cases e1:k=1
            · subst e1
              by_cases e20:20<t.length
              · exact .inl ⟨rfl,by omega,by simp [badT,e20]⟩
              · exact .inr (.inr ⟨.inl ⟨rfl,by omega,rfl⟩,by simp [badT,e20]⟩)
            · have n1:((k:Int)==1)=false:=by simp;omega
              by_cases e2:k=2
              · subst e2
                cases hq:numL t
                · exact .inr (.inl ⟨n1,rfl,rfl,by simp [badT,hq]⟩)
                · exact .inr (.inr ⟨.inr (.inl ⟨n1,rfl,rfl⟩),by simp [badT,hq]⟩)
              · exact .inr (.inr ⟨.inr (.inr ⟨n1,by simp;omega⟩),by simp [badT,e1,e2]⟩)
          clear hnv hb hpos
          have b0:((k:Int)==0)=false:=by simp;omega
          rcases hcase with ⟨c1,c2,hbad⟩|⟨c1,c2,rfl,hbad⟩|⟨hok,hbad⟩
          · have HT2:=Lib.hid (show tokOf s.data.toList=([],2,at_) by rw [HT.out,if_neg hk0,if_pos hbad])
            clear hbad
            go_wp2_with (first
              | (go_at_call 12;refine (r03one_any _ _ hx1 hx0).mono ?_;rintro e w' ⟨rfl,hq⟩;obtain⟨zh,zd,rfl⟩:=hq;rw [HX.out,tokV])
              | (go_at_call 13;refine (r02Number_any _ _ hn).mono ?_;rintro e w' ⟨rfl,rfl⟩;rw [HNV.out]))
            exact bodyPost_ret (v:=.tuple #[.slice none 0 0,.agg #[.int .i64 2,.int .i64 at_]]) (by simp [results,Tryd.results6,go_sem]) rfl ⟨none,0,by rw [HT2.out];rfl,by first|exact Grw.refl _|(repeat (first|exact Grw.refl _|apply Grw.ext|apply Grw.alloc|apply Grw.drewN|apply Grw.drew));done,by rw [HT2.out];exact World.ownsRow_nil _ _ _ _⟩
          · have HT2:=Lib.hid (show tokOf s.data.toList=([],2,at_) by rw [HT.out,if_neg hk0,if_pos hbad])
            clear hbad
            go_wp2_with (first
              | (go_at_call 12;refine (r03one_any _ _ hx1 hx0).mono ?_;rintro e w' ⟨rfl,hq⟩;obtain⟨zh,zd,rfl⟩:=hq;rw [HX.out,tokV])
              | (go_at_call 13;refine (r02Number_any _ _ hn).mono ?_;rintro e w' ⟨rfl,rfl⟩;rw [HNV.out]))
            exact bodyPost_ret (v:=.tuple #[.slice none 0 0,.agg #[.int .i64 2,.int .i64 at_]]) (by simp [results,Tryd.results6,go_sem]) rfl ⟨none,0,by rw [HT2.out];rfl,by first|exact Grw.refl _|(repeat (first|exact Grw.refl _|apply Grw.ext|apply Grw.alloc|apply Grw.drewN|apply Grw.drew));done,by rw [HT2.out];exact World.ownsRow_nil _ _ _ _⟩
          · have HT2:=Lib.hid (show tokOf s.data.toList=tokF f (at_+t.length+sk false (s.data.toList.drop (at_+t.length))) (s.data.toList.drop (at_+t.length+sk false (s.data.toList.drop (at_+t.length)))) (acc++[⟨k,t,at_⟩]) by
              rw [HT.out,if_neg hk0,if_neg (by rw [hbad];simp),List.drop_drop,List.drop_drop])
            clear hbad HT
            rcases hok with ⟨c1,c2,c3⟩|⟨c1,c2,rfl⟩|⟨c1,c2⟩
            all_goals
              have f3:(at_:Int)+(t.length:Int)≤(s.size:Int):=by omega
              have hx2:(s.extract (at_+t.length) s.size).size≤1000000000:=by rw [size_eq,extract_end,List.length_drop,←size_eq];omega
              have HX2:=Lib.hid (extract_end s (at_+t.length))
              have hskb:=sk_le (s.data.toList.drop (at_+t.length)) false
              rw [List.length_drop,←HS.out] at hskb
              go_wp2_with (first
                | (go_at_call 12;refine (r03one_any _ _ hx1 hx0).mono ?_;rintro e w' ⟨rfl,hq⟩;obtain⟨zh,zd,rfl⟩:=hq;rw [HX.out,tokV])
                | (go_at_call 13;refine (r02Number_any _ _ hn).mono ?_;rintro e w' ⟨rfl,rfl⟩;rw [HNV.out])
                | (go_at_call 11;refine (r03skip_any _ _ hx2).mono ?_;rintro e w' ⟨rfl,rfl⟩;rw [HX2.out])
                | (at_builtin
                   refine wpList_append_own _ rfl _ _ 27 rfl (w.heap.size+1) 41 i0 _ 3 32 Tryd.underlying27 hi0 hz0 hz1 hz2 rfl (by decide) (.slice A acc.length c) acc.length (acc.flatMap Tok.cells) rfl (((own_ext hown _ _).alloc _).alloc _) ⟨zh.size+(xh.size+(w.heap.size+1))+1,0,none⟩ 1 1 [.int .i64 k,.string (bs t),.int .i64 at_] rfl rfl ?c1 ?c2 ?c3 ?c4 ?c5 ?_
                   case c1=>exact news_alloc _ #[_,_,_] _ _ (by simp [wext_size])
                   case c2=>simp [Value.oneCell']
                   case c3=>simp only [maxLen];omega
                   case c4=>omega
                   case c5=>simp [wext_size];omega
                   intro v' w1 hown1 hgrow _
                   have hbox:w1.cell? ⟨zh.size+(xh.size+(w.heap.size+1)),1,none⟩=some (.string (bs t)):=hgrow.cell (by
                     rw [World.cell?_alloc_past _ _ _ (by simp [wext_size]),World.cell?_alloc_at _ _ _ _ (by simp [wext_size])];rfl) (fun e=>by have:=hown.lt _ e.symm;simp [wext_size] at this;omega)
                   obtain⟨yh,yd,rfl⟩:Grw (w.alloc (.cells #[.int .i64 0,.int .i64 0] 30)) w1:=(((((Grw.refl _).ext _ _).ext _ _).alloc _).alloc _).grown hgrow (fun k hk=>by have:=hown.lt k hk;simp;omega)))
              obtain⟨g,cap,hv,_,_⟩:=hown1.form (by omega)
              go_roundw
              case rel=>exact⟨at_+t.length+sk false (s.data.toList.drop (at_+t.length)),f,cap,some ⟨g,0,none⟩,acc++[⟨k,t,at_⟩],yh,yd,by omega,by go_num,by omega,HT2.out,by simp;omega,by rw [hv,List.length_append];rfl,rfl,by
                rw [hv] at hown1;rw [List.length_append,List.flatMap_append];exact hown1⟩
              case measure=>simp [intOf];omega
      · obtain rfl:at_=s.size:=by omega
        have hd:=drop_end s _ (Nat.le_refl s.size)
        rw [hd] at ht
        have HT:=Lib.hid (show tokOf s.data.toList=(acc++[⟨0,[],s.size⟩],0,0) by rw [ht];rfl)
        clear ht hd
        go_wp2_with (first
          | (at_builtin
             refine wpList_append_own _ rfl _ _ 27 rfl (w.heap.size+1) 41 i0 _ 3 32 Tryd.underlying27 hi0 hz0 hz1 hz2 rfl (by decide) (.slice A acc.length c) acc.length (acc.flatMap Tok.cells) rfl (hown.alloc _) ⟨xh.size+(w.heap.size+1),0,none⟩ 1 1 [.int .i64 0,.string ⟨#[]⟩,.int .i64 s.size] rfl rfl ?c1 ?c2 ?c3 ?c4 ?c5 ?_
             case c1=>exact news_alloc _ #[_,_,_] _ _ (by simp [wext_size])
             case c2=>simp [Value.oneCell']
             case c3=>simp only [maxLen];omega
             case c4=>omega
             case c5=>simp [wext_size];omega
             intro v' w1 hown1 hgrow _
             obtain⟨yh,yd,rfl⟩:Grw (w.alloc (.cells #[.int .i64 0,.int .i64 0] 30)) w1:=((((Grw.refl _).ext _ _).alloc _).grown hgrow (fun k hk=>by have:=hown.lt k hk;simp;omega))))
        obtain⟨g,cap,hv,_,_⟩:=hown1.form (by omega)
        have HV:=Lib.hid hv
        clear hv
        exact bodyPost_ret (v:=.tuple #[v',.agg #[.int .i64 0,.int .i64 0]]) (by simp [results,Tryd.results6,go_sem]) rfl ⟨some ⟨g,0,none⟩,cap,by rw [HT.out,HV.out,List.length_append];rfl,((Grw.refl _).alloc _).ext _ _,by
                  rw [HT.out,List.length_append,List.flatMap_append];rw [HV.out] at hown1;exact own_base hown1 (by omega)⟩
def isT (t:Tok) (s:List UInt8):Bool:=(t.kind==3||t.kind==4)&&t.text==s
def tkZ:Tok:=⟨0,[],0⟩
def nowT (l:List Tok) (a:Int):Tok:=if 0≤a∧a<l.length then l.getD a.toNat tkZ else match l.getLast? with
  | none=>tkZ
  | some t=>⟨0,[],t.pos⟩
structure Pt where
  e:Ex
  d:Int
structure Ps where
  at_:Int
  nest:Int
  err:Int
  fat:Int
def Ps.bad (s:Ps) (e p:Int):Ps:={ s with err:=e,fat:=p }
def Ps.adv (s:Ps):Ps:={ s with at_:=s.at_+1 }
def Ps.inn (s:Ps):Ps:={ s with nest:=s.nest+1,at_:=s.at_+1 }
def Ps.out (s:Ps):Ps:={ s with nest:=s.nest-1 }
def ptZ:Pt:=⟨Ex.zero,0⟩
def overP (k:Int) (l:List Pt):Pt:=⟨⟨k,0,[],l.map Pt.e⟩,l.foldl (fun m p=>max m p.d) 0+1⟩
section
variable (l:List Tok)
def mustP (s:Ps) (t:List UInt8):Bool×Ps:=if isT (nowT l s.at_) t=true then (true,s.adv) else (false,s.bad 3 (nowT l s.at_).pos)
def atomP (s:Ps) (null:Bool):Pt×Bool×Ps :=
  if (nowT l s.at_).kind=1 then (⟨⟨2,0,(nowT l s.at_).text,[]⟩,1⟩,true,s.adv)
  else if isT (nowT l s.at_) [116,104,105,115]=true then (⟨⟨3,0,[],[]⟩,1⟩,true,s.adv)
  else if (null&&isT (nowT l s.at_) [110,117,108,108])=true then (⟨⟨4,0,[],[]⟩,1⟩,true,s.adv)
  else (⟨Ex.zero,1⟩,false,s.bad 3 (nowT l s.at_).pos)
def nilP (s:Ps):Pt×Bool×Ps :=
  if (mustP l s [40]).1=true then
    if (atomP l (mustP l s [40]).2 false).2.1=true then
      (overP 13 [(atomP l (mustP l s [40]).2 false).1],mustP l (atomP l (mustP l s [40]).2 false).2.2 [41])
    else ((atomP l (mustP l s [40]).2 false).1,false,(atomP l (mustP l s [40]).2 false).2.2)
  else (ptZ,false,(mustP l s [40]).2)
def sam2 (x:Pt) (s:Ps):Pt×Bool×Ps :=
  if (mustP l s [44]).1=true then
    if (atomP l (mustP l s [44]).2 true).2.1=true then
      (overP 14 [x,(atomP l (mustP l s [44]).2 true).1],mustP l (atomP l (mustP l s [44]).2 true).2.2 [41])
    else ((atomP l (mustP l s [44]).2 true).1,false,(atomP l (mustP l s [44]).2 true).2.2)
  else (x,false,(mustP l s [44]).2)
def samP (s:Ps):Pt×Bool×Ps :=
  if (mustP l s [40]).1=true then
    if (atomP l (mustP l s [40]).2 true).2.1=true then sam2 l (atomP l (mustP l s [40]).2 true).1 (atomP l (mustP l s [40]).2 true).2.2
    else ((atomP l (mustP l s [40]).2 true).1,false,(atomP l (mustP l s [40]).2 true).2.2)
  else (ptZ,false,(mustP l s [40]).2)
def signP (least:Int) (s:Ps):Option Bd:=sgnL.find? fun b=>decide (b.level≥least)&&isT (nowT l s.at_) b.sign
def mostB (b:Bd):Int:=if b.kind=9∨b.kind=10 then b.level-1 else b.level
def easyP (s:Ps):Pt×Bool×Ps :=
  if isT (nowT l s.at_) [110,105,108]=true then nilP l s.adv
  else if isT (nowT l s.at_) [115,97,109,101]=true then samP l s.adv
  else if isT (nowT l s.at_) [105,110,112,117,116]=true then (⟨⟨5,0,[],[]⟩,1⟩,true,s.adv)
  else if (nowT l s.at_).kind=2 then (match numL (nowT l s.at_).text with
    | some n=>(⟨⟨1,n,[],[]⟩,1⟩,true,s.adv)
    | none=>atomP l s true)
  else atomP l s true
mutual
def climbF:Nat→Int→Ps→Option (Pt×Bool×Ps)
  | 0,_,_=>none
  | f+1,least,s=>(match tightF f s with
    | none=>none
    | some (x,ok,s')=>if ok=true then loopF f least x 5 s' else some (x,false,s'))
def loopF:Nat→Int→Pt→Int→Ps→Option (Pt×Bool×Ps)
  | 0,_,_,_,_=>none
  | f+1,least,x,most,s=>(match signP l least s with
    | none=>some (x,true,s)
    | some b=>if b.level>most then some (x,true,s) else (match climbF f (b.level+1) s.adv with
      | none=>none
      | some (y,ok,s')=>if ok=true then (if (overP b.kind [x,y]).d>20 then some (overP b.kind [x,y],false,s'.bad 5 (nowT l s.at_).pos) else loopF f least (overP b.kind [x,y]) (mostB b) s') else some (y,false,s')))
def tightF:Nat→Ps→Option (Pt×Bool×Ps)
  | 0,_=>none
  | f+1,s =>
    if isT (nowT l s.at_) [40]=true then
      if s.nest=20 then some (ptZ,false,s.bad 5 (nowT l s.at_).pos)
      else (match climbF f 1 s.inn with
        | none=>none
        | some (x,ok,s')=>if ok=true then some (x,mustP l s'.out [41]) else some (x,false,s'.out))
    else if isT (nowT l s.at_) [33]=true then
      if s.nest=20 then some (ptZ,false,s.bad 5 (nowT l s.at_).pos)
      else (match tightF f s.inn with
        | none=>none
        | some (x,ok,s')=>if ok=true then (if (overP 12 [x]).d>20 then some (overP 12 [x],false,s'.out.bad 5 (nowT l s.at_).pos) else some (overP 12 [x],true,s'.out)) else some (x,false,s'.out))
    else some (easyP l s)
end
end
/-! ### Where the reader ends -/
def Fwd (N:Int) (s:Ps) (ok:Bool) (s':Ps):Prop:=s.at_≤s'.at_∧s'.at_≤N∧s'.nest=s.nest∧(ok=true→s.at_<s'.at_)
section
variable {l:List Tok} {N:Int} (hN:∀a,N≤a→(nowT l a).kind=0)
include hN
theorem isT_lt {a:Int} {t:List UInt8} (h:isT (nowT l a) t=true):a<N:=by
  rcases (show a<N∨N≤a by omega) with h1|h1
  · exact h1
  · unfold isT at h;rw [hN a h1] at h;simp at h
theorem kind_lt {a:Int} (h:(nowT l a).kind≠0):a<N:=by
  rcases (show a<N∨N≤a by omega) with h1|h1
  · exact h1
  · exact absurd (hN a h1) h
theorem must_fwd {s:Ps} {t:List UInt8} (hs:s.at_≤N):Fwd N s (mustP l s t).1 (mustP l s t).2:=by
  unfold mustP
  split
  · rename_i h
    have:=isT_lt hN h
    exact⟨by show s.at_≤s.at_+1;omega,by show s.at_+1≤N;omega,rfl,fun _=>by show s.at_<s.at_+1;omega⟩
  · exact⟨Int.le_refl _,hs,rfl,fun h=>by cases h⟩
theorem atom_fwd {s:Ps} {b:Bool} (hs:s.at_≤N):Fwd N s (atomP l s b).2.1 (atomP l s b).2.2:=by
  unfold atomP
  have adv:s.at_<N→Fwd N s true s.adv:=fun h=>⟨by show s.at_≤s.at_+1;omega,by show s.at_+1≤N;omega,rfl,fun _=>by show s.at_<s.at_+1;omega⟩
  split
  · rename_i h;exact adv (kind_lt hN (by rw [h];decide))
  split
  · rename_i h;exact adv (isT_lt hN h)
  split
  · rename_i h;rw [Bool.and_eq_true] at h;exact adv (isT_lt hN h.2)
  · exact⟨Int.le_refl _,hs,rfl,fun h=>by cases h⟩
omit hN in
theorem Fwd.trans {s s1 s2:Ps} {a b c:Bool} (h:Fwd N s a s1) (g:Fwd N s1 b s2) (hc:c=true→a=true):Fwd N s c s2:=by
  obtain⟨h1,h2,h3,h4⟩:=h
  obtain⟨g1,g2,g3,g4⟩:=g
  exact⟨by omega,g2,g3.trans h3,fun hq=>by have:=h4 (hc hq);omega⟩
theorem nil_fwd {s:Ps} (hs:s.at_≤N):Fwd N s (nilP l s).2.1 (nilP l s).2.2:=by
  unfold nilP
  have h1:=must_fwd hN (t:=[40]) hs
  generalize mustP l s [40]=m at h1 ⊢
  split
  · rename_i hm
    have h2:=atom_fwd hN (b:=false) h1.2.1
    generalize atomP l m.2 false=a at h2 ⊢
    split
    · have h3:=must_fwd hN (t:=[41]) h2.2.1
      exact (h1.trans h2 (c:=true) fun _=>hm).trans h3 fun _=>rfl
    · exact h1.trans h2 fun h=>by cases h
  · exact⟨h1.1,h1.2.1,h1.2.2.1,fun h=>by cases h⟩
theorem sam2_fwd {s:Ps} {x:Pt} (hs:s.at_≤N):Fwd N s (sam2 l x s).2.1 (sam2 l x s).2.2:=by
  unfold sam2
  have h1:=must_fwd hN (t:=[44]) hs
  generalize mustP l s [44]=m at h1 ⊢
  split
  · rename_i hm
    have h2:=atom_fwd hN (b:=true) h1.2.1
    generalize atomP l m.2 true=a at h2 ⊢
    split
    · have h3:=must_fwd hN (t:=[41]) h2.2.1
      exact (h1.trans h2 (c:=true) fun _=>hm).trans h3 fun _=>rfl
    · exact h1.trans h2 fun h=>by cases h
  · exact⟨h1.1,h1.2.1,h1.2.2.1,fun h=>by cases h⟩
theorem sam_fwd {s:Ps} (hs:s.at_≤N):Fwd N s (samP l s).2.1 (samP l s).2.2:=by
  unfold samP
  have h1:=must_fwd hN (t:=[40]) hs
  generalize mustP l s [40]=m at h1 ⊢
  split
  · rename_i hm
    have h2:=atom_fwd hN (b:=true) h1.2.1
    generalize atomP l m.2 true=a at h2 ⊢
    split
    · exact (h1.trans h2 (c:=true) fun _=>hm).trans (sam2_fwd hN h2.2.1) fun _=>rfl
    · exact h1.trans h2 fun h=>by cases h
  · exact⟨h1.1,h1.2.1,h1.2.2.1,fun h=>by cases h⟩
theorem easy_fwd {s:Ps} (hs:s.at_≤N):Fwd N s (easyP l s).2.1 (easyP l s).2.2:=by
  unfold easyP
  have adv:s.at_<N→Fwd N s true s.adv:=fun h=>⟨by show s.at_≤s.at_+1;omega,by show s.at_+1≤N;omega,rfl,fun _=>by show s.at_<s.at_+1;omega⟩
  split
  · rename_i h
    have h0:=adv (isT_lt hN h)
    exact h0.trans (nil_fwd hN h0.2.1) fun _=>rfl
  split
  · rename_i h
    have h0:=adv (isT_lt hN h)
    exact h0.trans (sam_fwd hN h0.2.1) fun _=>rfl
  split
  · rename_i h;exact adv (isT_lt hN h)
  split
  · rename_i h
    split
    · exact adv (kind_lt hN (by rw [h];decide))
    · exact atom_fwd hN hs
  · exact atom_fwd hN hs
theorem sign_lt {s:Ps} {least:Int} {b:Bd} (h:signP l least s=some b):s.at_<N:=by
  have:=List.find?_some h
  rw [Bool.and_eq_true] at this
  exact isT_lt hN this.2
theorem all_fwd:∀f:Nat,(∀(least:Int) (s:Ps) (r:Pt×Bool×Ps),s.at_≤N→climbF l f least s=some r→Fwd N s r.2.1 r.2.2)∧(∀(least:Int) (x:Pt) (most:Int) (s:Ps) (r:Pt×Bool×Ps),s.at_≤N→loopF l f least x most s=some r→s.at_≤r.2.2.at_∧r.2.2.at_≤N∧r.2.2.nest=s.nest)∧(∀(s:Ps) (r:Pt×Bool×Ps),s.at_≤N→tightF l f s=some r→Fwd N s r.2.1 r.2.2)
  | 0=>⟨fun _ _ _ _ h=>by simp [climbF] at h,fun _ _ _ _ _ _ h=>by simp [loopF] at h,fun _ _ _ h=>by simp [tightF] at h⟩
  | f+1=>by
    obtain⟨ic,il,it⟩:=all_fwd f
    refine⟨fun least s r hs h=>?_,fun least x most s r hs h=>?_,fun s r hs h=>?_⟩
    · rw [climbF] at h
      split at h
      · cases h
      · rename_i x ok s' ht
        have h1:=it s _ hs ht
        dsimp only at h1
        split at h
        · rename_i hok
          obtain⟨l1,l2,l3⟩:=il least x 5 s' r h1.2.1 h
          have:=h1.2.2.2 hok
          exact⟨by have:=h1.1;omega,l2,l3.trans h1.2.2.1,fun _=>by omega⟩
        · injection h with h;subst h
          exact⟨h1.1,h1.2.1,h1.2.2.1,fun h=>by cases h⟩
    · rw [loopF] at h
      split at h
      · injection h with h;subst h;exact⟨Int.le_refl _,hs,rfl⟩
      · rename_i b hb
        have hlt:=sign_lt hN hb
        split at h
        · injection h with h;subst h;exact⟨Int.le_refl _,hs,rfl⟩
        · split at h
          · cases h
          · rename_i y ok s' hc
            have h1:=ic _ _ _ (by show s.at_+1≤N;omega) hc
            have h1a:s.at_+1≤s'.at_:=h1.1
            have h1b:s'.at_≤N:=h1.2.1
            have h1c:s'.nest=s.nest:=h1.2.2.1
            split at h
            · split at h
              · injection h with h;subst h
                exact⟨by show s.at_≤s'.at_;omega,h1b,h1c⟩
              · obtain⟨l1,l2,l3⟩:=il _ _ _ s' r h1b h
                exact⟨by omega,l2,l3.trans h1c⟩
            · injection h with h;subst h
              exact⟨by show s.at_≤s'.at_;omega,h1b,h1c⟩
    · rw [tightF] at h
      split at h
      · rename_i ht
        have hlt:=isT_lt hN ht
        split at h
        · injection h with h;subst h;exact⟨Int.le_refl _,hs,rfl,fun h=>by cases h⟩
        · split at h
          · cases h
          · rename_i x ok s' hc
            have h1:=ic _ _ _ (by show s.at_+1≤N;omega) hc
            have h1a:s.at_+1≤s'.at_:=h1.1
            have h1b:s'.at_≤N:=h1.2.1
            have h1c:s'.nest=s.nest+1:=h1.2.2.1
            split at h
            · injection h with h;subst h
              have h2:=must_fwd hN (s:=s'.out) (t:=[41]) h1b
              have h2a:s'.at_≤_:=h2.1
              have h2c:=h2.2.2.1
              exact⟨by show s.at_≤(mustP l s'.out [41]).2.at_;omega,h2.2.1,by show (mustP l s'.out [41]).2.nest=s.nest;rw [h2c];show s'.nest-1=_;omega,fun _=>by show s.at_<(mustP l s'.out [41]).2.at_;omega⟩
            · injection h with h;subst h
              exact⟨by show s.at_≤s'.at_;omega,h1b,by show s'.nest-1=s.nest;omega,fun h=>by cases h⟩
      · split at h
        · rename_i ht
          have hlt:=isT_lt hN ht
          split at h
          · injection h with h;subst h;exact⟨Int.le_refl _,hs,rfl,fun h=>by cases h⟩
          · split at h
            · cases h
            · rename_i x ok s' hc
              have h1:=it _ _ (by show s.at_+1≤N;omega) hc
              have h1a:s.at_+1≤s'.at_:=h1.1
              have h1b:s'.at_≤N:=h1.2.1
              have h1c:s'.nest=s.nest+1:=h1.2.2.1
              have hn:s'.nest-1=s.nest:=by omega
              split at h
              · split at h
                · injection h with h;subst h
                  exact⟨by show s.at_≤s'.at_;omega,h1b,hn,fun h=>by cases h⟩
                · injection h with h;subst h
                  exact⟨by show s.at_≤s'.at_;omega,h1b,hn,fun _=>by show s.at_<s'.at_;omega⟩
              · injection h with h;subst h
                exact⟨by show s.at_≤s'.at_;omega,h1b,hn,fun h=>by cases h⟩
        · injection h with h;subst h
          exact easy_fwd hN hs
end
section
variable {l:List Tok}
theorem fuel_up:∀f:Nat,(∀(least:Int) (s:Ps) r,climbF l f least s=some r→climbF l (f+1) least s=some r)∧(∀(least:Int) x (most:Int) (s:Ps) r,loopF l f least x most s=some r→loopF l (f+1) least x most s=some r)∧(∀(s:Ps) r,tightF l f s=some r→tightF l (f+1) s=some r)
  | 0=>⟨fun _ _ _ h=>by simp [climbF] at h,fun _ _ _ _ _ h=>by simp [loopF] at h,fun _ _ h=>by simp [tightF] at h⟩
  | f+1=>by
    obtain⟨ic,il,it⟩:=fuel_up f
    refine⟨fun least s r h=>?_,fun least x most s r h=>?_,fun s r h=>?_⟩
    · rw [climbF] at h ⊢
      cases ht:tightF l f s with
      | none=>rw [ht] at h;cases h
      | some q =>
        obtain⟨x,ok,s'⟩:=q
        rw [ht] at h
        rw [it _ _ ht]
        dsimp only at h ⊢
        split at h
        · exact (if_pos (by assumption)).trans (il _ _ _ _ _ h)
        · exact (if_neg (by assumption)).trans h
    · rw [loopF] at h ⊢
      cases hs:signP l least s with
      | none=>rw [hs] at h;exact h
      | some b =>
        rw [hs] at h
        dsimp only at h ⊢
        split at h
        · exact (if_pos (by assumption)).trans h
        · rename_i hm
          rw [if_neg hm]
          cases hc:climbF l f (b.level+1) s.adv with
          | none=>rw [hc] at h;cases h
          | some q =>
            obtain⟨y,ok,s'⟩:=q
            rw [hc] at h
            rw [ic _ _ _ hc]
            dsimp only at h ⊢
            split at h
            · rename_i hok
              rw [if_pos hok]
              split at h
              · exact (if_pos (by assumption)).trans h
              · exact (if_neg (by assumption)).trans (il _ _ _ _ _ h)
            · exact (if_neg (by assumption)).trans h
    · rw [tightF] at h ⊢
      split at h
      · rename_i h1
        rw [if_pos h1]
        split at h
        · exact (if_pos (by assumption)).trans h
        · rename_i h2
          rw [if_neg h2]
          cases hc:climbF l f 1 s.inn with
          | none=>rw [hc] at h;cases h
          | some q=>rw [hc] at h;rw [ic _ _ _ hc];exact h
      · rename_i h1
        rw [if_neg h1]
        split at h
        · rename_i h3
          rw [if_pos h3]
          split at h
          · exact (if_pos (by assumption)).trans h
          · rename_i h2
            rw [if_neg h2]
            cases hc:tightF l f s.inn with
            | none=>rw [hc] at h;cases h
            | some q=>rw [hc] at h;rw [it _ _ hc];exact h
        · exact (if_neg (by assumption)).trans h
theorem climb_up {f g:Nat} (h:f≤g) {least:Int} {s:Ps} {r:Pt×Bool×Ps} (hr:climbF l f least s=some r):climbF l g least s=some r:=by
  induction h with
  | refl=>exact hr
  | step _ ih=>exact (fuel_up _).1 _ _ _ ih
theorem loop_up {f g:Nat} (h:f≤g) {least most:Int} {x:Pt} {s:Ps} {r:Pt×Bool×Ps} (hr:loopF l f least x most s=some r):loopF l g least x most s=some r:=by
  induction h with
  | refl=>exact hr
  | step _ ih=>exact (fuel_up _).2.1 _ _ _ _ _ ih
theorem tight_up {f g:Nat} (h:f≤g) {s:Ps} {r:Pt×Bool×Ps} (hr:tightF l f s=some r):tightF l g s=some r:=by
  induction h with
  | refl=>exact hr
  | step _ ih=>exact (fuel_up _).2.2 _ _ ih
theorem all_end {N:Int} (hN:∀a,N≤a→(nowT l a).kind=0):∀(m:Nat) (s:Ps),s.at_≤N→N-s.at_≤m→(∃f r,tightF l f s=some r)∧(∀least,∃f r,climbF l f least s=some r)∧(∀least x most,∃f r,loopF l f least x most s=some r)
  | m,s,hs,hm=>by
    have IH:∀s2:Ps,s.at_<s2.at_→s2.at_≤N→(∃f r,tightF l f s2=some r)∧(∀least,∃f r,climbF l f least s2=some r)∧(∀least x most,∃f r,loopF l f least x most s2=some r):=fun s2 h1 h2=>by
      cases m with
      | zero=>omega
      | succ m=>exact all_end hN m s2 h2 (by omega)
    have hT:∃f r,tightF l f s=some r:=by
      by_cases h1:isT (nowT l s.at_) [40]=true
      · have hlt:=isT_lt hN h1
        by_cases h2:s.nest=20
        · exact⟨1,_,by rw [tightF,if_pos h1,if_pos h2]⟩
        · obtain⟨f,⟨x,ok,s'⟩,hc⟩:=(IH s.inn (by show s.at_<s.at_+1;omega) (by show s.at_+1≤N;omega)).2.1 1
          refine⟨f+1,if ok=true then (x,mustP l s'.out [41]) else (x,false,s'.out),?_⟩
          rw [tightF,if_pos h1,if_neg h2,hc]
          dsimp only
          split<;>rfl
      · by_cases h3:isT (nowT l s.at_) [33]=true
        · have hlt:=isT_lt hN h3
          by_cases h2:s.nest=20
          · exact⟨1,_,by rw [tightF,if_neg h1,if_pos h3,if_pos h2]⟩
          · obtain⟨f,⟨x,ok,s'⟩,hc⟩:=(IH s.inn (by show s.at_<s.at_+1;omega) (by show s.at_+1≤N;omega)).1
            refine⟨f+1,if ok=true then (if (overP 12 [x]).d>20 then (overP 12 [x],false,s'.out.bad 5 (nowT l s.at_).pos) else (overP 12 [x],true,s'.out)) else (x,false,s'.out),?_⟩
            rw [tightF,if_neg h1,if_pos h3,if_neg h2,hc]
            dsimp only
            split
            · split<;>rfl
            · rfl
        · exact⟨1,_,by rw [tightF,if_neg h1,if_neg h3]⟩
    have hL:∀least x most,∃f r,loopF l f least x most s=some r:=fun least x most=>by
      cases hb:signP l least s with
      | none=>exact⟨1,_,by rw [loopF,hb]⟩
      | some b =>
        have hlt:=sign_lt hN hb
        by_cases h1:b.level>most
        · exact⟨1,_,by rw [loopF,hb];dsimp only;rw [if_pos h1]⟩
        · obtain⟨f,⟨y,ok,s'⟩,hc⟩:=(IH s.adv (by show s.at_<s.at_+1;omega) (by show s.at_+1≤N;omega)).2.1 (b.level+1)
          have hf:=(all_fwd hN f).1 _ _ _ (by show s.at_+1≤N;omega) hc
          have h5:s.at_+1≤s'.at_:=hf.1
          have h6:s'.at_≤N:=hf.2.1
          by_cases hok:ok=true
          · by_cases hd:(overP b.kind [x,y]).d>20
            · exact⟨f+1,_,by rw [loopF,hb];dsimp only;rw [if_neg h1,hc];dsimp only;rw [if_pos hok,if_pos hd]⟩
            · obtain⟨f2,r,h4⟩:=(IH s' (by omega) h6).2.2 least (overP b.kind [x,y]) (mostB b)
              refine⟨max f f2+1,r,?_⟩
              rw [loopF,hb]
              dsimp only
              rw [if_neg h1,climb_up (Nat.le_max_left f f2) hc]
              dsimp only
              rw [if_pos hok,if_neg hd]
              exact loop_up (Nat.le_max_right f f2) h4
          · exact⟨f+1,_,by rw [loopF,hb];dsimp only;rw [if_neg h1,hc];dsimp only;rw [if_neg hok]⟩
    refine⟨hT,fun least=>?_,hL⟩
    obtain⟨f,⟨x,ok,s'⟩,ht⟩:=hT
    have hf:=(all_fwd hN f).2.2 _ _ hs ht
    by_cases hok:ok=true
    · have h5:s.at_<s'.at_:=hf.2.2.2 hok
      obtain⟨f2,r,h4⟩:=(IH s' h5 hf.2.1).2.2 least x 5
      refine⟨max f f2+1,r,?_⟩
      rw [climbF,tight_up (Nat.le_max_left f f2) ht]
      dsimp only
      rw [if_pos hok]
      exact loop_up (Nat.le_max_right f f2) h4
    · exact⟨f+1,_,by rw [climbF,ht];dsimp only;rw [if_neg hok]⟩
end
def Fine (x:Pt):Prop:=x.e.formB=true∧x.d=x.e.deep∧x.d≤20
theorem form_leaf (k:Int) (h:k=3∨k=4∨k=5):(⟨k,0,[],[]⟩:Ex).formB=true:=by
  rcases h with rfl|rfl|rfl<;>(rw [Ex.form_eq];simp [Ex.plainB,Ex.kidsN,Ex.formsB])
theorem form_var {s:List UInt8} (h:nameB s=true):(⟨2,0,s,[]⟩:Ex).formB=true:=by
  rw [Ex.form_eq];simp [Ex.plainB,Ex.kidsN,Ex.formsB,h]
theorem form_num {n:Nat} (h:n<1000000000):(⟨1,(n:Int),[],[]⟩:Ex).formB=true:=by
  rw [Ex.form_eq];simp [Ex.plainB,Ex.kidsN,Ex.formsB];omega
theorem form_bin {k:Int} {a b:Ex} (h:k=6∨k=7∨k=8∨k=9∨k=10∨k=11) (ha:a.formB=true) (hb:b.formB=true):(⟨k,0,[],[a,b]⟩:Ex).formB=true:=by
  rcases h with rfl|rfl|rfl|rfl|rfl|rfl<;>(rw [Ex.form_eq];simp [Ex.plainB,Ex.kidsN,Ex.formsB,Ex.kidB,ha,hb])
theorem form_not {a:Ex} (ha:a.formB=true):(⟨12,0,[],[a]⟩:Ex).formB=true:=by
  rw [Ex.form_eq];simp [Ex.plainB,Ex.kidsN,Ex.formsB,Ex.kidB,ha]
theorem form_nil {a:Ex} (ha:a.formB=true) (h:a.kind=2∨a.kind=3):(⟨13,0,[],[a]⟩:Ex).formB=true:=by
  rw [Ex.form_eq];rcases h with h|h<;>simp [Ex.plainB,Ex.kidsN,Ex.formsB,Ex.kidB,ha,h]
theorem form_same {a b:Ex} (ha:a.formB=true) (hb:b.formB=true) (h:a.kind=2∨a.kind=3∨a.kind=4) (g:b.kind=2∨b.kind=3∨b.kind=4):(⟨14,0,[],[a,b]⟩:Ex).formB=true:=by
  rw [Ex.form_eq];rcases h with h|h|h<;>rcases g with g|g|g<;>simp [Ex.plainB,Ex.kidsN,Ex.formsB,Ex.kidB,ha,hb,h,g]
theorem over_one (k:Int) (x:Pt):overP k [x]=⟨⟨k,0,[],[x.e]⟩,max 0 x.d+1⟩:=rfl
theorem over_two (k:Int) (x y:Pt):overP k [x,y]=⟨⟨k,0,[],[x.e,y.e]⟩,max (max 0 x.d) y.d+1⟩:=rfl
theorem deep_one (k:Int) (a:Ex):((⟨k,0,[],[a]⟩:Ex).deep:Int)=max 0 (a.deep:Int)+1:=by
  rw [Ex.deep_eq];show ((1+Ex.deeps [a]:Nat):Int)=_;rw [Ex.deeps_one];omega
theorem deep_two (k:Int) (a b:Ex):((⟨k,0,[],[a,b]⟩:Ex).deep:Int)=max (max 0 (a.deep:Int)) (b.deep:Int)+1:=by
  rw [Ex.deep_eq];show ((1+max a.deep (Ex.deeps [b]):Nat):Int)=_;rw [Ex.deeps_one];omega
section
variable {l:List Tok} (hT:∀a,(nowT l a).kind=1→nameB (nowT l a).text=true)
include hT
theorem atom_fine {s:Ps} {b:Bool} (h:(atomP l s b).2.1=true):Fine (atomP l s b).1∧(atomP l s b).1.d=1∧((atomP l s b).1.e.kind=2∨(atomP l s b).1.e.kind=3∨(b=true∧(atomP l s b).1.e.kind=4)):=by
  unfold atomP at h ⊢
  by_cases h1:(nowT l s.at_).kind=1
  · rw [if_pos h1]
    exact⟨⟨form_var (hT _ h1),rfl,(by show (1:Int)≤20;decide)⟩,rfl,.inl rfl⟩
  · rw [if_neg h1] at h ⊢
    by_cases h2:isT (nowT l s.at_) [116,104,105,115]=true
    · rw [if_pos h2]
      exact⟨⟨form_leaf 3 (.inl rfl),rfl,(by show (1:Int)≤20;decide)⟩,rfl,.inr (.inl rfl)⟩
    · rw [if_neg h2] at h ⊢
      by_cases h3:(b&&isT (nowT l s.at_) [110,117,108,108])=true
      · rw [if_pos h3]
        rw [Bool.and_eq_true] at h3
        exact⟨⟨form_leaf 4 (.inr (.inl rfl)),rfl,(by show (1:Int)≤20;decide)⟩,rfl,.inr (.inr ⟨h3.1,rfl⟩)⟩
      · rw [if_neg h3] at h;cases h
theorem nil_fine {s:Ps} (h:(nilP l s).2.1=true):Fine (nilP l s).1:=by
  unfold nilP at h ⊢
  generalize mustP l s [40]=m at h ⊢
  by_cases h1:m.1=true
  · rw [if_pos h1] at h ⊢
    by_cases h2:(atomP l m.2 false).2.1=true
    · rw [if_pos h2]
      obtain⟨⟨f1,f2,f3⟩,f4,f5⟩:=atom_fine hT h2
      have f6:(atomP l m.2 false).1.e.kind=2∨(atomP l m.2 false).1.e.kind=3:=by
        rcases f5 with h|h|⟨h,_⟩
        · exact .inl h
        · exact .inr h
        · cases h
      refine⟨form_nil f1 f6,?_,?_⟩
      · show max 0 (atomP l m.2 false).1.d+1=_
        rw [f2];exact (deep_one 13 _).symm
      · show max 0 (atomP l m.2 false).1.d+1≤20
        omega
    · rw [if_neg h2] at h;cases h
  · rw [if_neg h1] at h;cases h
theorem sam2_fine {s:Ps} {x:Pt} (hx:Fine x) (hd:x.d=1) (hk:x.e.kind=2∨x.e.kind=3∨x.e.kind=4) (h:(sam2 l x s).2.1=true):Fine (sam2 l x s).1:=by
  unfold sam2 at h ⊢
  generalize mustP l s [44]=m at h ⊢
  by_cases h1:m.1=true
  · rw [if_pos h1] at h ⊢
    by_cases h2:(atomP l m.2 true).2.1=true
    · rw [if_pos h2]
      obtain⟨⟨f1,f2,f3⟩,f4,f5⟩:=atom_fine hT h2
      have f6:(atomP l m.2 true).1.e.kind=2∨(atomP l m.2 true).1.e.kind=3∨(atomP l m.2 true).1.e.kind=4:=by
        rcases f5 with h|h|⟨_,h⟩
        · exact .inl h
        · exact .inr (.inl h)
        · exact .inr (.inr h)
      refine⟨form_same hx.1 f1 hk f6,?_,?_⟩
      · show max (max 0 x.d) (atomP l m.2 true).1.d+1=_
        rw [f2,hx.2.1];exact (deep_two 14 _ _).symm
      · show max (max 0 x.d) (atomP l m.2 true).1.d+1≤20
        omega
    · rw [if_neg h2] at h;cases h
  · rw [if_neg h1] at h;cases h
theorem sam_fine {s:Ps} (h:(samP l s).2.1=true):Fine (samP l s).1:=by
  unfold samP at h ⊢
  generalize mustP l s [40]=m at h ⊢
  by_cases h1:m.1=true
  · rw [if_pos h1] at h ⊢
    by_cases h2:(atomP l m.2 true).2.1=true
    · rw [if_pos h2] at h ⊢
      obtain⟨f1,f4,f5⟩:=atom_fine hT h2
      refine sam2_fine hT f1 f4 ?_ h
      rcases f5 with h|h|⟨_,h⟩
      · exact .inl h
      · exact .inr (.inl h)
      · exact .inr (.inr h)
    · rw [if_neg h2] at h;cases h
  · rw [if_neg h1] at h;cases h
theorem easy_fine {s:Ps} (h:(easyP l s).2.1=true):Fine (easyP l s).1:=by
  unfold easyP at h ⊢
  by_cases h1:isT (nowT l s.at_) [110,105,108]=true
  · rw [if_pos h1] at h ⊢;exact nil_fine hT h
  rw [if_neg h1] at h ⊢
  by_cases h2:isT (nowT l s.at_) [115,97,109,101]=true
  · rw [if_pos h2] at h ⊢;exact sam_fine hT h
  rw [if_neg h2] at h ⊢
  by_cases h3:isT (nowT l s.at_) [105,110,112,117,116]=true
  · rw [if_pos h3];exact⟨form_leaf 5 (.inr (.inr rfl)),rfl,(by show (1:Int)≤20;decide)⟩
  rw [if_neg h3] at h ⊢
  by_cases h4:(nowT l s.at_).kind=2
  · rw [if_pos h4] at h ⊢
    cases hn:numL (nowT l s.at_).text with
    | none=>rw [hn] at h;exact (atom_fine hT h).1
    | some n =>
      refine⟨form_num ?_,rfl,(by show (1:Int)≤20;decide)⟩
      unfold numL at hn
      split at hn
      · cases hn
      · rename_i hl
        split at hn
        · rename_i hd
          injection hn with hn
          have:=valL_lt _ _ rfl hd
          have h9:(nowT l s.at_).text.length≤9:=by omega
          have h10:10 ^ (nowT l s.at_).text.length≤10 ^ 9:=Nat.pow_le_pow_right (by decide) h9
          rw [←hn]
          exact Nat.lt_of_lt_of_le this h10
        · cases hn
  · rw [if_neg h4] at h ⊢;exact (atom_fine hT h).1
omit hT in
theorem sign_kind {least:Int} {s:Ps} {b:Bd} (h:signP l least s=some b):b.kind=6∨b.kind=7∨b.kind=8∨b.kind=9∨b.kind=10∨b.kind=11:=by
  have:=List.mem_of_find?_eq_some h
  unfold sgnL at this
  simp only [List.mem_cons,List.not_mem_nil,or_false] at this
  rcases this with rfl|rfl|rfl|rfl|rfl|rfl<;>simp
theorem all_fine:∀f:Nat,(∀(least:Int) (s:Ps) (r:Pt×Bool×Ps),climbF l f least s=some r→r.2.1=true→Fine r.1)∧(∀(least:Int) (x:Pt) (most:Int) (s:Ps) (r:Pt×Bool×Ps),Fine x→loopF l f least x most s=some r→r.2.1=true→Fine r.1)∧(∀(s:Ps) (r:Pt×Bool×Ps),tightF l f s=some r→r.2.1=true→Fine r.1)
  | 0=>⟨fun _ _ _ h=>by simp [climbF] at h,fun _ _ _ _ _ _ h=>by simp [loopF] at h,fun _ _ h=>by simp [tightF] at h⟩
  | f+1=>by
    obtain⟨ic,il,it⟩:=all_fine f
    refine⟨fun least s r h hk=>?_,fun least x most s r hx h hk=>?_,fun s r h hk=>?_⟩
    · rw [climbF] at h
      split at h
      · cases h
      · rename_i x ok s' ht
        split at h
        · rename_i hok
          exact il _ _ _ _ _ (it _ _ ht hok) h hk
        · injection h with h;subst h;cases hk
    · rw [loopF] at h
      split at h
      · injection h with h;subst h;exact hx
      · rename_i b hb
        split at h
        · injection h with h;subst h;exact hx
        · split at h
          · cases h
          · rename_i y ok s' hc
            split at h
            · rename_i hok
              split at h
              · injection h with h;subst h;cases hk
              · rename_i hd
                have hy:=ic _ _ _ hc hok
                refine il _ _ _ _ _ ⟨form_bin (sign_kind hb) hx.1 hy.1,?_,by omega⟩ h hk
                show max (max 0 x.d) y.d+1=_
                rw [hx.2.1,show y.d=y.e.deep from hy.2.1];exact (deep_two _ _ _).symm
            · injection h with h;subst h;cases hk
    · rw [tightF] at h
      split at h
      · split at h
        · injection h with h;subst h;cases hk
        · split at h
          · cases h
          · rename_i x ok s' hc
            split at h
            · rename_i hok
              injection h with h;subst h
              exact ic _ _ (x,ok,s') hc hok
            · injection h with h;subst h;cases hk
      · split at h
        · split at h
          · injection h with h;subst h;cases hk
          · split at h
            · cases h
            · rename_i x ok s' hc
              split at h
              · rename_i hok
                split at h
                · injection h with h;subst h;cases hk
                · rename_i hd
                  injection h with h;subst h
                  have hx:=it _ _ hc hok
                  refine⟨form_not hx.1,?_,by show (overP 12 [x]).d≤20;omega⟩
                  show max 0 x.d+1=_
                  rw [show x.d=x.e.deep from hx.2.1];exact (deep_one 12 _).symm
              · injection h with h;subst h;cases hk
        · injection h with h;subst h
          exact easy_fine hT hk
end
abbrev TK:=Int×List UInt8
def AtL (l:List Tok) (a:Int) (ts:List TK):Prop:=∀(i:Nat) (q:TK),ts[i]? = some q→(nowT l (a+i)).kind=q.1∧(nowT l (a+i)).text=q.2
theorem AtL.app {l:List Tok} {a:Int} {ts us:List TK} (h:AtL l a (ts++us)):AtL l a ts∧AtL l (a+ts.length) us:=by
  refine⟨fun i q hq=>h i q (by rw [List.getElem?_append_left (List.getElem?_eq_some_iff.1 hq).1];exact hq),fun i q hq=>?_⟩
  have:=h (ts.length+i) q (by rw [List.getElem?_append_right (by omega)];simpa using hq)
  rw [show a+ts.length+(i:Int)=a+((ts.length+i:Nat):Int) by omega];exact this
theorem AtL.hd {l:List Tok} {a:Int} {q:TK} {ts:List TK} (h:AtL l a (q::ts)):(nowT l a).kind=q.1∧(nowT l a).text=q.2:=by
  have:=h 0 q rfl
  simpa using this
theorem AtL.tl {l:List Tok} {a:Int} {q:TK} {ts:List TK} (h:AtL l a (q::ts)):AtL l (a+1) ts:=fun i q' hq=>by
  have:=h (i+1) q' (by simpa using hq)
  rw [show a+1+(i:Int)=a+((i+1:Nat):Int) by omega];exact this
def parT (least:Int) (x:Int×List TK):List TK:=if x.1<least then [(4,[40])]++x.2++[(4,[41])] else x.2
def tksK (dg:Int→List UInt8) (k n:Int) (name:List UInt8):List (Int×List TK)→List TK
  | []=>if k=1 then [(2,dg n)] else if k=2 then [(1,name)] else if k=3 then [(3,[116,104,105,115])] else if k=4 then [(3,[110,117,108,108])] else [(3,[105,110,112,117,116])]
  | [a]=>if k=12 then [(4,[33])]++parT 4 a else [(3,[110,105,108]),(4,[40])]++parT 4 a++[(4,[41])]
  | a::b::_=>if k=14 then [(3,[115,97,109,101]),(4,[40])]++parT 4 a++[(4,[44])]++parT 4 b++[(4,[41])] else parT (lfK k) a++[(4,sgK k)]++parT (lvK k+1) b
mutual
def Ex.tks (dg:Int→List UInt8):Ex→List TK
  | ⟨k,n,name,kids⟩=>tksK dg k n name (Ex.tkss dg kids)
def Ex.tkss (dg:Int→List UInt8):List Ex→List (Int×List TK)
  | []=>[]
  | e::r=>(lvK e.kind,e.tks dg)::Ex.tkss dg r
end
def Ex.wtk (dg:Int→List UInt8) (e:Ex) (least:Int):List TK:=parT least (lvK e.kind,e.tks dg)
def Ps.go (s:Ps) (n:Nat):Ps:={ s with at_:=s.at_+n }
def ptE (e:Ex):Pt:=⟨e,e.deep⟩
def mostE (e:Ex):Int:=if lvK e.kind=4 then 5 else if lvK e.kind=1 then 1 else lvK e.kind+1
def bndK (k:Int):Bd:=⟨sgK k,lvK k+1,k⟩
section
variable {l:List Tok}
theorem isT_at {a:Int} {k:Int} {t s:List UInt8} (h:(nowT l a).kind=k∧(nowT l a).text=t):isT (nowT l a) s=((k==3||k==4)&&t==s):=by
  unfold isT;rw [h.1,h.2]
theorem must_at {s:Ps} {k:Int} {t:List UInt8} (h:(nowT l s.at_).kind=k∧(nowT l s.at_).text=t) (hk:k=4):mustP l s t=(true,s.adv):=by
  unfold mustP;rw [isT_at h,hk];simp
theorem sign_at {s:Ps} {k least:Int} (hk:k=6∨k=7∨k=8∨k=9∨k=10∨k=11) (h:(nowT l s.at_).kind=4∧(nowT l s.at_).text=sgK k):signP l least s=if least≤lvK k+1 then some (bndK k) else none:=by
  have hi:∀t,isT (nowT l s.at_) t=(sgK k==t):=fun t=>by rw [isT_at h];simp
  unfold signP
  simp only [hi]
  rcases hk with rfl|rfl|rfl|rfl|rfl|rfl
  all_goals first
    | (by_cases hq:least≤3<;>simp [sgnL,sgK,lvK,bndK,List.find?,hq];done)
    | (by_cases hq:least≤4<;>simp [sgnL,sgK,lvK,bndK,List.find?,hq];done)
    | (by_cases hq:least≤2<;>simp [sgnL,sgK,lvK,bndK,List.find?,hq];done)
    | (by_cases hq:least≤1<;>simp [sgnL,sgK,lvK,bndK,List.find?,hq];done)
theorem sign_no {s:Ps} {least:Int} {k:Int} {t:List UInt8} (h:(nowT l s.at_).kind=k∧(nowT l s.at_).text=t) (ht:(k=4∧(t=[41]∨t=[44]))∨k=0):signP l least s=none:=by
  unfold signP
  rw [List.find?_eq_none]
  intro b hb
  rw [isT_at h]
  unfold sgnL at hb
  simp only [List.mem_cons,List.not_mem_nil,or_false] at hb
  rcases ht with ⟨rfl,rfl|rfl⟩|rfl<;>rcases hb with rfl|rfl|rfl|rfl|rfl|rfl<;>simp
theorem sign_up {s:Ps} {p q:Int} (h:signP l p s=none) (hpq:p≤q):signP l q s=none:=by
  unfold signP at h ⊢
  rw [List.find?_eq_none] at h ⊢
  intro b hb hc
  refine h b hb ?_
  simp only [Bool.and_eq_true,decide_eq_true_eq] at hc ⊢
  exact⟨by omega,hc.2⟩
theorem loop_stop {s:Ps} {least most:Int} {x:Pt} (h:signP l least s=none):loopF l 1 least x most s=some (x,true,s):=by rw [loopF,h]
end
theorem decL_step (n:Nat):decL n=(if n<10 then [] else decL (n / 10))++[UInt8.ofNat (48+n % 10)]:=by
  unfold decL
  rw [decR_eq,List.reverse_cons]
  split<;>simp
theorem dec_digit (n:Nat):(UInt8.ofNat (48+n % 10)).toNat=48+n % 10:=by
  rw [UInt8.toNat_ofNat'];omega
theorem decL_all:∀(m n:Nat),n≤m→digL (decL n)=true∧valL (decL n)=n∧1≤(decL n).length∧((decL n).head? = some 48→n=0)
  | m,n,h=>by
    have hdg:digitI (((UInt8.ofNat (48+n % 10)).toNat:Nat):Int)=true:=by rw [dec_digit,digitI_iff];omega
    by_cases h1:n<10
    · rw [decL_step,if_pos h1,List.nil_append]
      refine⟨by simp only [digL,List.all_cons,List.all_nil,Bool.and_true];exact hdg,?_,by simp,fun hh=>?_⟩
      · show 10*0+((UInt8.ofNat (48+n % 10)).toNat-48)=n
        rw [dec_digit];omega
      · simp only [List.head?_cons,Option.some.injEq] at hh
        have:=congrArg UInt8.toNat hh
        rw [dec_digit] at this
        have h48:(48:UInt8).toNat=48:=rfl
        omega
    · cases m with
      | zero=>omega
      | succ m =>
        obtain⟨i1,i2,i3,i4⟩:=decL_all m (n / 10) (by omega)
        rw [decL_step,if_neg h1]
        refine⟨by rw [digL_snoc,i1];exact hdg,by rw [valL_snoc,i2,dec_digit];omega,by simp,fun hh=>?_⟩
        rw [List.head?_append] at hh
        cases hd:(decL (n / 10)).head? with
        | none=>rw [List.head?_eq_none_iff] at hd;rw [hd] at i3;simp at i3
        | some c =>
          rw [hd] at hh
          simp at hh
          have:=i4 (by rw [hd,hh])
          omega
theorem numL_dec {n:Nat} (h:n<1000000000):numL (decL n)=some n:=by
  obtain⟨h1,h2,h3,h4⟩:=decL_all n n (Nat.le_refl _)
  have h9:=decL_len h
  unfold numL
  rw [if_neg,if_pos h1,h2]
  rintro (h5|h5|⟨h5,h6⟩)
  · omega
  · omega
  · have:=h4 h5
    subst this
    rw [decL_step] at h6
    simp at h6
section
variable {l:List Tok}
theorem tight_easy {s:Ps} (h1:isT (nowT l s.at_) [40]=false) (h2:isT (nowT l s.at_) [33]=false):tightF l 1 s=some (easyP l s):=by
  rw [tightF,if_neg (by rw [h1];decide),if_neg (by rw [h2];decide)]
theorem atom_at {s:Ps} {b:Bool} {a:Ex} (ha:a.formB=true) (hk:a.kind=2∨a.kind=3∨(b=true∧a.kind=4)) (h:AtL l s.at_ (a.tks dgN)):(a.tks dgN).length=1∧atomP l s b=(ptE a,true,s.adv):=by
  cases a.shp ha with
  | var t =>
    have h0:=AtL.hd (q:=(1,t)) (ts:=[]) h
    refine⟨rfl,?_⟩
    unfold atomP;rw [if_pos h0.1,h0.2];rfl
  | this =>
    have h0:=AtL.hd (q:=(3,[116,104,105,115])) (ts:=[]) h
    refine⟨rfl,?_⟩
    unfold atomP;rw [if_neg (by rw [h0.1];decide),if_pos (by rw [isT_at h0];rfl)];rfl
  | null =>
    have h0:=AtL.hd (q:=(3,[110,117,108,108])) (ts:=[]) h
    have hb:b=true:=by
      rcases hk with h|h|h
      · cases h
      · cases h
      · exact h.1
    refine⟨rfl,?_⟩
    unfold atomP;rw [if_neg (by rw [h0.1];decide),if_neg (by rw [isT_at h0];decide),if_pos (by rw [isT_at h0,hb];rfl)];rfl
  | num n _ =>
    rcases hk with h|h|h
    · cases h
    · cases h
    · cases h.2
  | input =>
    rcases hk with h|h|h
    · cases h
    · cases h
    · cases h.2
  | bin k a b hq _ _ =>
    exfalso
    dsimp only at hk
    omega
  | not a _ =>
    rcases hk with h|h|h
    · cases h
    · cases h
    · cases h.2
  | nil a _ _ =>
    rcases hk with h|h|h
    · cases h
    · cases h
    · cases h.2
  | same a b _ _ _ _ =>
    rcases hk with h|h|h
    · cases h
    · cases h
    · cases h.2
end
theorem nil_kid {a:Ex} (h:(⟨13,0,[],[a]⟩:Ex).formB=true):a.kind=2∨a.kind=3:=by
  rw [Ex.form_eq,Bool.and_eq_true] at h
  have:=h.2
  simp only [Ex.formsB,Ex.kidB] at this
  simp at this
  omega
theorem same_kid {a b:Ex} (h:(⟨14,0,[],[a,b]⟩:Ex).formB=true):(a.kind=2∨a.kind=3∨a.kind=4)∧(b.kind=2∨b.kind=3∨b.kind=4):=by
  rw [Ex.form_eq,Bool.and_eq_true] at h
  have:=h.2
  simp only [Ex.formsB,Ex.kidB] at this
  simp at this
  omega
theorem wtk_four {a:Ex} (h:lvK a.kind=4):a.wtk dgN 4=a.tks dgN:=by
  unfold Ex.wtk parT;rw [h];rfl
theorem lvK_le (k:Int):0≤lvK k∧lvK k≤4:=by
  unfold lvK
  repeat' split
  all_goals decide
section
variable (l:List Tok)
def RtA (e:Ex):Prop:=lvK e.kind=4→∀s:Ps,AtL l s.at_ (e.tks dgN)→s.nest+e.deep≤20→∃f,tightF l f s=some (ptE e,true,s.go (e.tks dgN).length)
def RtB (e:Ex):Prop:=∀(least:Int) (s:Ps),least≤lvK e.kind+1→AtL l s.at_ (e.tks dgN)→s.nest+e.deep≤(if lvK e.kind=4 then 20 else 21)→(lvK e.kind≠4→signP l (lvK e.kind+2) (s.go (e.tks dgN).length)=none) →
  ∀f r,loopF l f least (ptE e) (mostE e) (s.go (e.tks dgN).length)=some r→∃g,climbF l g least s=some r
variable {l}
theorem kidT {e:Ex} (hA:RtA l e) (hB:RtB l e) {least:Int} (h4:least≤4) (hl:lvK e.kind<least∨lvK e.kind=4) {s:Ps} (h:AtL l s.at_ (e.wtk dgN least)) (hn:s.nest+e.deep≤20):∃f,tightF l f s=some (ptE e,true,s.go (e.wtk dgN least).length):=by
  by_cases hlt:lvK e.kind<least
  · have hw:e.wtk dgN least=(4,[40])::(e.tks dgN++[(4,[41])]):=by unfold Ex.wtk parT;rw [if_pos hlt];simp
    rw [hw] at h ⊢
    have h0:=h.hd
    obtain⟨h1,h2⟩:=h.tl.app
    have h3:=h2.hd
    have hd:=e.deep_eq
    have hne:lvK e.kind≠4:=by have:=lvK_le e.kind;omega
    have hp:=lvK_le e.kind
    have hsn:∀p,signP l p (s.inn.go (e.tks dgN).length)=none:=fun p=>sign_no (s:=s.inn.go (e.tks dgN).length) h3 (.inl ⟨rfl,.inl rfl⟩)
    obtain⟨g,hg⟩:=hB 1 s.inn (by omega) h1 (by rw [if_neg hne];show s.nest+1+(e.deep:Int)≤21;omega) (fun _=>hsn _) 1 _ (loop_stop (hsn 1))
    refine⟨g+1,?_⟩
    rw [tightF,if_pos (by rw [isT_at h0];rfl),if_neg (by omega),hg]
    dsimp only
    rw [if_pos rfl,must_at (s:=(s.inn.go (e.tks dgN).length).out) (t:=[41]) h3 rfl]
    simp only [List.length_cons,List.length_append,List.length_nil,Ps.go,Ps.inn,Ps.out,Ps.adv]
    congr 4<;>omega
  · have hw:e.wtk dgN least=e.tks dgN:=by unfold Ex.wtk parT;rw [if_neg hlt]
    rw [hw] at h ⊢
    exact hA (hl.resolve_left hlt) s h hn
theorem kidC {e:Ex} (hA:RtA l e) (hB:RtB l e) {least lst:Int} (h4:least≤4) (h1:¬lvK e.kind<least→lst≤lvK e.kind+1) {s:Ps} (h:AtL l s.at_ (e.wtk dgN least)) (hn:s.nest+e.deep≤20) (hst:¬lvK e.kind<least→lvK e.kind≠4→signP l (lvK e.kind+2) (s.go (e.wtk dgN least).length)=none) {f:Nat} {r:Pt×Bool×Ps}
    (hr:loopF l f lst (ptE e) (if lvK e.kind<least then 5 else mostE e) (s.go (e.wtk dgN least).length)=some r):∃g,climbF l g lst s=some r:=by
  by_cases hlt:lvK e.kind<least
  · obtain⟨f2,ht⟩:=kidT hA hB h4 (.inl hlt) h hn
    rw [if_pos hlt] at hr
    refine⟨max f f2+1,?_⟩
    rw [climbF,tight_up (Nat.le_max_right f f2) ht]
    dsimp only
    rw [if_pos rfl]
    exact loop_up (Nat.le_max_left f f2) hr
  · have hw:e.wtk dgN least=e.tks dgN:=by unfold Ex.wtk parT;rw [if_neg hlt]
    rw [if_neg hlt] at hr
    have hst:=hst hlt
    rw [hw] at h hst hr
    exact hB lst s (h1 hlt) h (by split<;>omega) hst f r hr
theorem over_e1 (k:Int) (a:Ex):overP k [ptE a]=ptE ⟨k,0,[],[a]⟩:=by
  rw [over_one];unfold ptE;rw [deep_one]
theorem over_e2 (k:Int) (a b:Ex):overP k [ptE a,ptE b]=ptE ⟨k,0,[],[a,b]⟩:=by
  rw [over_two];unfold ptE;rw [deep_two]
theorem rtB_of {e:Ex} (h:lvK e.kind=4) (hA:RtA l e):RtB l e:=fun least s _ hat hn _ f r hr=>by
  rw [if_pos h] at hn
  obtain⟨f2,ht⟩:=hA h s hat hn
  have hm:mostE e=5:=by unfold mostE;rw [if_pos h]
  rw [hm] at hr
  refine⟨max f f2+1,?_⟩
  rw [climbF,tight_up (Nat.le_max_right f f2) ht]
  dsimp only
  rw [if_pos rfl]
  exact loop_up (Nat.le_max_left f f2) hr
theorem rt_bin {k:Int} {a b:Ex} (hk:k=6∨k=7∨k=8∨k=9∨k=10∨k=11) (hd:(⟨k,0,[],[a,b]⟩:Ex).deep≤20) (hAa:RtA l a) (hBa:RtB l a) (hAb:RtA l b) (hBb:RtB l b):RtB l ⟨k,0,[],[a,b]⟩:=fun least s hle hat hn hst f r hr=>by
  have hlk:0≤lvK k∧lvK k≤3:=by rcases hk with rfl|rfl|rfl|rfl|rfl|rfl<;>decide
  have hlf:lvK k≤lfK k∧lfK k≤3∧(lvK k=1→lfK k=2)∧(lvK k≠1→lfK k=lvK k):=by rcases hk with rfl|rfl|rfl|rfl|rfl|rfl<;>decide
  have htk:(⟨k,0,[],[a,b]⟩:Ex).tks dgN=a.wtk dgN (lfK k)++((4,sgK k)::b.wtk dgN (lvK k+1)):=by
    show (if k=14 then _ else _)=_
    rw [if_neg (by omega)]
    show parT (lfK k) (lvK a.kind,a.tks dgN)++[(4,sgK k)]++parT (lvK k+1) (lvK b.kind,b.tks dgN)=_
    rw [List.append_assoc];rfl
  have hkd:lvK (⟨k,0,[],[a,b]⟩:Ex).kind=lvK k:=rfl
  rw [hkd] at hle hn hst
  rw [if_neg (by omega)] at hn
  rw [htk] at hat hst hr
  obtain⟨h1,h2⟩:=hat.app
  have h3:=h2.hd
  have h5:=h2.tl
  have hde:=deep_two k a b
  have hda:s.nest+a.deep≤20:=by omega
  have hdb:s.nest+b.deep≤20:=by omega
  have hst:=hst (by omega)
  have e1:(s.go (a.wtk dgN (lfK k)).length).at_=s.at_+(a.wtk dgN (lfK k)).length:=rfl
  have hsg:∀p,signP l p (s.go (a.wtk dgN (lfK k)).length)=if p≤lvK k+1 then some (bndK k) else none:=fun p=>sign_at hk h3
  have e2:((s.go (a.wtk dgN (lfK k)).length).adv).go (b.wtk dgN (lvK k+1)).length=s.go (a.wtk dgN (lfK k)++((4,sgK k)::b.wtk dgN (lvK k+1))).length:=by
    simp only [List.length_cons,List.length_append,Ps.go,Ps.adv]
    congr 1;omega
  -- the right kid
  have hR:∃g,climbF l g (lvK k+2) (s.go (a.wtk dgN (lfK k)).length).adv=some (ptE b,true,s.go (a.wtk dgN (lfK k)++((4,sgK k)::b.wtk dgN (lvK k+1))).length):=by
    refine kidC hAb hBb (least:=lvK k+1) (by omega) (fun h=>by omega) (s:=(s.go (a.wtk dgN (lfK k)).length).adv) h5 hdb (fun h _=>by rw [e2];exact sign_up hst (by omega)) (f:=1) ?_
    rw [e2];exact loop_stop hst
  obtain⟨g,hg⟩:=hR
  have hdd:¬(overP (bndK k).kind [ptE a,ptE b]).d>20:=by
    show ¬(overP k [ptE a,ptE b]).d>20
    rw [over_e2];show ¬((⟨k,0,[],[a,b]⟩:Ex).deep:Int)>20;omega
  have hmost:mostB (bndK k)=mostE (⟨k,0,[],[a,b]⟩:Ex):=by rcases hk with rfl|rfl|rfl|rfl|rfl|rfl<;>rfl
  have hloop:∀most,lvK k+1≤most→loopF l (max g f+1) least (ptE a) most (s.go (a.wtk dgN (lfK k)).length)=some r:=fun most hm=>by
    rw [loopF,hsg,if_pos hle]
    dsimp only
    rw [if_neg (by show ¬lvK k+1>most;omega),show (bndK k).level+1=lvK k+2 by show lvK k+1+1=_;omega,climb_up (Nat.le_max_left g f) hg]
    dsimp only
    rw [if_pos rfl,if_neg hdd,hmost,show overP (bndK k).kind [ptE a,ptE b]=ptE ⟨k,0,[],[a,b]⟩ from over_e2 k a b]
    exact loop_up (Nat.le_max_right g f) hr
  refine kidC hAa hBa (least:=lfK k) (by omega) (fun h=>by omega) h1 hda (fun h hne=>by rw [hsg,if_neg (by omega)]) (hloop _ ?_)
  split
  · omega
  · rename_i hnl
    unfold mostE
    split
    · omega
    · split
      · rename_i h1'
        have:lvK k≠1:=fun h=>by have:=hlf.2.2.1 h;omega
        have:=hlf.2.2.2 this
        omega
      · omega
end
section
variable {l:List Tok}
theorem rt_num {n:Nat} (hn:n<1000000000):RtA l ⟨1,(n:Int),[],[]⟩:=fun _ s hat _=>by
  have h0:(nowT l s.at_).kind=2∧(nowT l s.at_).text=dgN (n:Int):=AtL.hd (q:=(2,dgN (n:Int))) (ts:=[]) hat
  have hi:∀t,isT (nowT l s.at_) t=false:=fun t=>by rw [isT_at h0];rfl
  refine⟨1,?_⟩
  rw [tight_easy (hi _) (hi _)]
  unfold easyP
  rw [hi,hi,hi,if_neg (by decide),if_neg (by decide),if_neg (by decide),if_pos h0.1,h0.2,show numL (dgN (n:Int))=some n from numL_dec hn]
  rfl
theorem rt_atom {e:Ex} (hf:e.formB=true) (hk:e.kind=2∨e.kind=3∨e.kind=4):RtA l e:=fun _ s hat _=>by
  obtain⟨h1,h2⟩:=atom_at (b:=true) hf (hk.elim .inl fun h=>.inr (h.elim .inl fun h=>.inr ⟨rfl,h⟩)) hat
  have hk2:∃k t,(k=1∨(k=3∧(t=[116,104,105,115]∨t=[110,117,108,108])))∧((nowT l s.at_).kind=k∧(nowT l s.at_).text=t):=by
    cases e.shp hf with
    | var t=>exact⟨1,t,.inl rfl,AtL.hd (q:=(1,t)) (ts:=[]) hat⟩
    | this=>exact⟨3,_,.inr ⟨rfl,.inl rfl⟩,AtL.hd (q:=(3,[116,104,105,115])) (ts:=[]) hat⟩
    | null=>exact⟨3,_,.inr ⟨rfl,.inr rfl⟩,AtL.hd (q:=(3,[110,117,108,108])) (ts:=[]) hat⟩
    | num n _=>exfalso;dsimp only at hk;omega
    | input=>exfalso;dsimp only at hk;omega
    | bin k a b hq _ _=>exfalso;dsimp only at hk;omega
    | not a _=>exfalso;dsimp only at hk;omega
    | nil a _ _=>exfalso;dsimp only at hk;omega
    | same a b _ _ _ _=>exfalso;dsimp only at hk;omega
  obtain⟨k,t,hkt,h0⟩:=hk2
  have hi:∀q,q=[40]∨q=[33]∨q=[110,105,108]∨q=[115,97,109,101]∨q=[105,110,112,117,116]→isT (nowT l s.at_) q=false:=fun q hq=>by
    rw [isT_at h0]
    rcases hkt with rfl|⟨rfl,rfl|rfl⟩
    · rfl
    · rcases hq with rfl|rfl|rfl|rfl|rfl<;>decide
    · rcases hq with rfl|rfl|rfl|rfl|rfl<;>decide
  have hk3:(nowT l s.at_).kind≠2:=by rw [h0.1];rcases hkt with rfl|⟨rfl,_⟩<;>decide
  refine⟨1,?_⟩
  rw [tight_easy (hi _ (.inl rfl)) (hi _ (.inr (.inl rfl)))]
  unfold easyP
  rw [hi _ (.inr (.inr (.inl rfl))),hi _ (.inr (.inr (.inr (.inl rfl)))),hi _ (.inr (.inr (.inr (.inr rfl)))),if_neg (by decide),if_neg (by decide),if_neg (by decide),if_neg hk3,h2,h1]
  rfl
theorem rt_input:RtA l ⟨5,0,[],[]⟩:=fun _ s hat _=>by
  have h0:=AtL.hd (q:=(3,[105,110,112,117,116])) (ts:=[]) hat
  have hi:∀q,isT (nowT l s.at_) q=((3==(3:Int)||3==(4:Int))&&([105,110,112,117,116]:List UInt8)==q):=fun q=>isT_at h0
  refine⟨1,?_⟩
  rw [tight_easy (by rw [hi];decide) (by rw [hi];decide)]
  unfold easyP
  rw [if_neg (by rw [hi];decide),if_neg (by rw [hi];decide),if_pos (by rw [hi];decide)]
  rfl
theorem rt_not {a:Ex} (hd:(⟨12,0,[],[a]⟩:Ex).deep≤20) (hA:RtA l a) (hB:RtB l a):RtA l ⟨12,0,[],[a]⟩:=fun _ s hat hn=>by
  have htk:(⟨12,0,[],[a]⟩:Ex).tks dgN=(4,[33])::a.wtk dgN 4:=rfl
  rw [htk] at hat ⊢
  have h0:=hat.hd
  have hde:=deep_one 12 a
  obtain⟨f,hf⟩:=kidT hA hB (least:=4) (Int.le_refl _) (by have:=lvK_le a.kind;omega) (s:=s.inn) hat.tl (by show s.nest+1+(a.deep:Int)≤20;omega)
  refine⟨f+1,?_⟩
  rw [tightF,if_neg (by rw [isT_at h0];decide),if_pos (by rw [isT_at h0];decide),if_neg (by omega),hf]
  dsimp only
  rw [if_pos rfl,over_e1,if_neg (by show ¬((⟨12,0,[],[a]⟩:Ex).deep:Int)>20;omega)]
  simp only [List.length_cons,Ps.go,Ps.inn,Ps.out]
  congr 4<;>omega
theorem rt_nil {a:Ex} (ha:a.formB=true) (hk:a.kind=2∨a.kind=3) (h4:lvK a.kind=4):RtA l ⟨13,0,[],[a]⟩:=fun _ s hat _=>by
  have htk:(⟨13,0,[],[a]⟩:Ex).tks dgN=(3,[110,105,108])::(4,[40])::(a.tks dgN++[(4,[41])]):=by
    show [(3,[110,105,108]),(4,[40])]++a.wtk dgN 4++[(4,[41])]=_
    rw [wtk_four h4];rfl
  rw [htk] at hat ⊢
  have h0:=hat.hd
  have h1:=hat.tl.hd
  obtain⟨h2,h3⟩:=hat.tl.tl.app
  obtain⟨g1,g2⟩:=atom_at (s:=s.adv.adv) (b:=false) ha (hk.elim .inl fun h=>.inr (.inl h)) h2
  rw [g1] at h3
  have h5:=h3.hd
  refine⟨1,?_⟩
  rw [tight_easy (by rw [isT_at h0];decide) (by rw [isT_at h0];decide)]
  unfold easyP
  rw [if_pos (by rw [isT_at h0];decide)]
  unfold nilP
  rw [must_at (s:=s.adv) (t:=[40]) h1 rfl]
  dsimp only
  rw [if_pos rfl,g2]
  dsimp only
  rw [if_pos rfl,must_at (s:=s.adv.adv.adv) (t:=[41]) h5 rfl,over_e1]
  simp only [List.length_cons,List.length_append,List.length_nil,g1,Ps.go,Ps.adv]
  congr 4<;>omega
theorem rt_same {a b:Ex} (ha:a.formB=true) (hb:b.formB=true) (hk:a.kind=2∨a.kind=3∨a.kind=4) (hq:b.kind=2∨b.kind=3∨b.kind=4) (h4:lvK a.kind=4) (g4:lvK b.kind=4):RtA l ⟨14,0,[],[a,b]⟩:=fun _ s hat _=>by
  have htk:(⟨14,0,[],[a,b]⟩:Ex).tks dgN=(3,[115,97,109,101])::(4,[40])::(a.tks dgN++((4,[44])::(b.tks dgN++[(4,[41])]))):=by
    show [(3,[115,97,109,101]),(4,[40])]++a.wtk dgN 4++[(4,[44])]++b.wtk dgN 4++[(4,[41])]=_
    rw [wtk_four h4,wtk_four g4];simp
  rw [htk] at hat ⊢
  have h0:=hat.hd
  have h1:=hat.tl.hd
  obtain⟨h2,h3⟩:=hat.tl.tl.app
  obtain⟨g1,g2⟩:=atom_at (s:=s.adv.adv) (b:=true) ha (hk.elim .inl fun h=>.inr (h.elim .inl fun h=>.inr ⟨rfl,h⟩)) h2
  rw [g1] at h3
  have h5:=h3.hd
  obtain⟨h6,h7⟩:=h3.tl.app
  obtain⟨g3,g5⟩:=atom_at (s:=s.adv.adv.adv.adv) (b:=true) hb (hq.elim .inl fun h=>.inr (h.elim .inl fun h=>.inr ⟨rfl,h⟩)) h6
  rw [g3] at h7
  have h8:=h7.hd
  refine⟨1,?_⟩
  rw [tight_easy (by rw [isT_at h0];decide) (by rw [isT_at h0];decide)]
  unfold easyP
  rw [if_neg (by rw [isT_at h0];decide),if_pos (by rw [isT_at h0];decide)]
  unfold samP
  rw [must_at (s:=s.adv) (t:=[40]) h1 rfl]
  dsimp only
  rw [if_pos rfl,g2]
  dsimp only
  rw [if_pos rfl]
  unfold sam2
  rw [must_at (s:=s.adv.adv.adv) (t:=[44]) h5 rfl]
  dsimp only
  rw [if_pos rfl,g5]
  dsimp only
  rw [if_pos rfl,must_at (s:=s.adv.adv.adv.adv.adv) (t:=[41]) h8 rfl,over_e2]
  simp only [List.length_cons,List.length_append,List.length_nil,g1,g3,Ps.go,Ps.adv]
  congr 4<;>omega
theorem rt_all:∀(m:Nat) (e:Ex),e.sz≤m→e.formB=true→e.deep≤20→RtA l e∧RtB l e
  | 0,e,h,_,_=>by have:=e.sz_pos;omega
  | m+1,e,h,hf,hd=>by
    have hz:=e.sz_eq
    have two:RtA l e→lvK e.kind=4→RtA l e∧RtB l e:=fun hA h4=>⟨hA,rtB_of h4 hA⟩
    cases e.shp hf with
    | num n hn=>exact two (rt_num hn) rfl
    | var s=>exact two (rt_atom hf (.inl rfl)) rfl
    | this=>exact two (rt_atom hf (.inr (.inl rfl))) rfl
    | null=>exact two (rt_atom hf (.inr (.inr rfl))) rfl
    | input=>exact two rt_input rfl
    | bin k a b hk ha hb =>
      have hzz:(⟨k,0,[],[a,b]⟩:Ex).sz=1+0+(a.sz+(b.sz+0)):=by rw [hz];rfl
      have hde:=deep_two k a b
      obtain⟨a1,a2⟩:=rt_all m a (by omega) ha (by omega)
      obtain⟨b1,b2⟩:=rt_all m b (by omega) hb (by omega)
      refine⟨fun h4=>?_,rt_bin hk hd a1 a2 b1 b2⟩
      exfalso
      have h4:lvK k=4:=h4
      rcases hk with rfl|rfl|rfl|rfl|rfl|rfl<;>exact absurd h4 (by decide)
    | not a ha =>
      have hzz:(⟨12,0,[],[a]⟩:Ex).sz=1+0+(a.sz+0):=by rw [hz];rfl
      have hde:=deep_one 12 a
      obtain⟨a1,a2⟩:=rt_all m a (by omega) ha (by omega)
      exact two (rt_not hd a1 a2) rfl
    | nil a ha h4=>exact two (rt_nil ha (nil_kid hf) h4) rfl
    | same a b ha hb h4 g4=>exact two (rt_same ha hb (same_kid hf).1 (same_kid hf).2 h4 g4) rfl
theorem rt_law {e:Ex} (hf:e.formB=true) (hd:e.deep≤20) {t:List UInt8} (h:AtL l 0 (e.tks dgN++[(0,t)])):∃f,climbF l f 1 ⟨0,0,0,0⟩=some (ptE e,true,⟨(e.tks dgN).length,0,0,0⟩):=by
  obtain⟨_,hB⟩:=rt_all (l:=l) e.sz e (Nat.le_refl _) hf hd
  obtain⟨h1,h2⟩:=h.app
  have hz:∀p,signP l p ((⟨0,0,0,0⟩:Ps).go (e.tks dgN).length)=none:=fun p=>sign_no (s:=(⟨0,0,0,0⟩:Ps).go (e.tks dgN).length) h2.hd (.inr rfl)
  have hg:(⟨0,0,0,0⟩:Ps).go (e.tks dgN).length=⟨(e.tks dgN).length,0,0,0⟩:=by unfold Ps.go;congr 1;exact Int.zero_add _
  have hp:=lvK_le e.kind
  obtain⟨g,hc⟩:=hB 1 ⟨0,0,0,0⟩ (by omega) h1 (by split<;>(show (0:Int)+e.deep≤_;omega)) (fun _=>hz _) 1 _ (loop_stop (hz 1))
  rw [hg] at hc
  exact⟨g,hc⟩
end
def tkE (t:Tok):TK:=(t.kind,t.text)
def safeL:List UInt8→Bool
  | []=>true
  | c::_=>c==32||c==40||c==41||c==44
def begL:List UInt8→Bool
  | []=>false
  | c::_=>!blankI c.toNat&&c != 47
theorem sk_beg {s:List UInt8} (h:begL s=true) (r:List UInt8):sk false (s++r)=0:=by
  cases s with
  | nil=>cases h
  | cons c t =>
    simp only [begL,Bool.and_eq_true,Bool.not_eq_true',bne_iff_ne] at h
    refine sk_none c (t++r) h.1 fun hq=>h.2 ?_
    exact UInt8.toNat_inj.1 (by rw [hq.1];rfl)
theorem sk_sp {s:List UInt8} (h:begL s=true) (r:List UInt8):sk false (32::(s++r))=1:=by
  rw [sk_blank 32 (s++r) rfl,sk_beg h]
def LexU (s:List UInt8) (ts:List TK):Prop:=∀(r:List UInt8) (f a:Nat) (acc:List Tok),∃X:List Tok,X.map tkE=ts∧tokF (f+ts.length) a (s++r) acc=tokF f (a+s.length+sk false r) (r.drop (sk false r)) (acc++X)
def Lex (s:List UInt8) (ts:List TK):Prop:=∀(r:List UInt8) (f a:Nat) (acc:List Tok),safeL r=true→∃X:List Tok,X.map tkE=ts∧tokF (f+ts.length) a (s++r) acc=tokF f (a+s.length+sk false r) (r.drop (sk false r)) (acc++X)
theorem LexU.lex {s:List UInt8} {ts:List TK} (h:LexU s ts):Lex s ts:=fun r f a acc _=>h r f a acc
theorem lexU_then {s t:List UInt8} {ts us:List TK} (h:LexU s ts) (ht:Lex t us) (hb:begL t=true):Lex (s++t) (ts++us):=fun r f a acc hr=>by
  obtain⟨X,h1,h2⟩:=h (t++r) (f+us.length) a acc
  rw [sk_beg hb,Nat.add_zero,List.drop_zero] at h2
  obtain⟨Y,h3,h4⟩:=ht r f (a+s.length) (acc++X) hr
  refine⟨X++Y,by rw [List.map_append,h1,h3],?_⟩
  rw [List.append_assoc,List.length_append,show f+(ts.length+us.length)=f+us.length+ts.length by omega,h2,h4,List.length_append,List.append_assoc]
  congr 1;omega
theorem lex_thenU {s t:List UInt8} {ts us:List TK} (h:Lex s ts) (ht:LexU t us) (hb:begL t=true) (hs:∀r,safeL (t++r)=true):LexU (s++t) (ts++us):=fun r f a acc=>by
  obtain⟨X,h1,h2⟩:=h (t++r) (f+us.length) a acc (hs r)
  rw [sk_beg hb,Nat.add_zero,List.drop_zero] at h2
  obtain⟨Y,h3,h4⟩:=ht r f (a+s.length) (acc++X)
  refine⟨X++Y,by rw [List.map_append,h1,h3],?_⟩
  rw [List.append_assoc,List.length_append,show f+(ts.length+us.length)=f+us.length+ts.length by omega,h2,h4,List.length_append,List.append_assoc]
  congr 1;omega
theorem lex_sp {s t:List UInt8} {ts us:List TK} (h:Lex s ts) (ht:Lex t us) (hb:begL t=true):Lex (s++[32]++t) (ts++us):=fun r f a acc hr=>by
  obtain⟨X,h1,h2⟩:=h (32::(t++r)) (f+us.length) a acc rfl
  rw [sk_sp hb,show (32::(t++r)).drop 1=t++r from rfl] at h2
  obtain⟨Y,h3,h4⟩:=ht r f (a+s.length+1) (acc++X) hr
  refine⟨X++Y,by rw [List.map_append,h1,h3],?_⟩
  rw [show s++[32]++t++r=s++(32::(t++r)) by simp,List.length_append,show f+(ts.length+us.length)=f+us.length+ts.length by omega,h2,h4,List.append_assoc]
  congr 1
  simp only [List.length_append,List.length_cons,List.length_nil];omega
theorem lex_one {s r:List UInt8} {k:Nat} (h0:s≠[]) (h:oneL (s++r)=(k,s)) (hk:k≠0) (hb:badT (k,s)=false) (f a:Nat) (acc:List Tok):∃X:List Tok,X.map tkE=[((k:Int),s)]∧tokF (f+[((k:Int),s)].length) a (s++r) acc=tokF f (a+s.length+sk false r) (r.drop (sk false r)) (acc++X):=by
  refine⟨[⟨k,s,a⟩],rfl,?_⟩
  show tokF (f+1) a (s++r) acc=_
  rw [tokF,if_neg (by intro hq;exact h0 (List.append_eq_nil_iff.1 hq).1),h,if_neg hk,hb,if_neg (by decide)]
  simp only [List.drop_left]
theorem twl_all {p:UInt8→Bool}:∀{s r:List UInt8},s.all p=true→(∀c t,r=c::t→p c=false)→twl p (s++r)=s.length
  | [],r,_,h=>by
    cases r with
    | nil=>rfl
    | cons c t=>exact twl_no (h c t rfl)
  | x::s,r,h1,h2=>by
    rw [List.all_cons,Bool.and_eq_true] at h1
    rw [List.cons_append,twl_yes h1.1,twl_all h1.2 h2,List.length_cons];omega
theorem safe_inner {r:List UInt8} (h:safeL r=true) (c:UInt8) (t:List UInt8) (hr:r=c::t):innerB c=false∧digB c=false:=by
  subst hr
  simp only [safeL,Bool.or_eq_true,beq_iff_eq] at h
  rcases h with ((rfl|rfl)|rfl)|rfl<;>exact⟨rfl,rfl⟩
theorem lex_word {c:UInt8} {t:List UInt8} (hc:letterI c.toNat=true) (hs:(c::t).all innerB=true) (hb:badT (if 0<findW (c::t) then 3 else 1,c::t)=false):Lex (c::t) [(((if 0<findW (c::t) then 3 else 1:Nat):Int),c::t)]:=fun r f a acc hr=>by
  refine lex_one (by simp) ?_ (by split<;>decide) hb f a acc
  rw [List.cons_append,oneL_letter hc,←List.cons_append,twl_all hs fun x y h=>(safe_inner hr x y h).1,List.take_left]
theorem lex_dig {c:UInt8} {t:List UInt8} (hs:(c::t).all digB=true) (hb:badT (2,c::t)=false):Lex (c::t) [(2,c::t)]:=fun r f a acc hr=>by
  have hd:digitI c.toNat=true:=by rw [List.all_cons,Bool.and_eq_true] at hs;exact hs.1
  have hl:letterI c.toNat=false:=by
    rw [digitI_iff] at hd
    simp only [letterI];simp;omega
  refine lex_one (k:=2) (by simp) ?_ (by decide) hb f a acc
  rw [List.cons_append,oneL_digit hl hd,←List.cons_append,twl_all hs fun x y h=>(safe_inner hr x y h).2,List.take_left]
theorem lex_sign {c:UInt8} (h:c=40∨c=41∨c=44∨c=33∨c=43∨c=45∨c=42∨c=60):LexU [c] [(4,[c])]:=fun r f a acc=>by
  refine lex_one (k:=4) (by simp) ?_ (by decide) (by simp [badT]) f a acc
  have hs:signL (c::r)=[c]:=by
    rw [signL_one (by rcases h with rfl|rfl|rfl|rfl|rfl|rfl|rfl|rfl<;>simp)]
    rcases h with rfl|rfl|rfl|rfl|rfl|rfl|rfl|rfl<;>decide
  show oneL (c::r)=_
  rw [oneL_sign (by rcases h with rfl|rfl|rfl|rfl|rfl|rfl|rfl|rfl<;>rfl) (by rcases h with rfl|rfl|rfl|rfl|rfl|rfl|rfl|rfl<;>rfl) (by rw [hs];simp),hs]
theorem lex_two {c:UInt8} (h:c=61∨c=38):LexU [c,c] [(4,[c,c])]:=fun r f a acc=>by
  refine lex_one (k:=4) (by simp) ?_ (by decide) (by simp [badT]) f a acc
  have hs:signL (c::c::r)=[c,c]:=by rw [signL_two (by rcases h with rfl|rfl<;>simp)];rfl
  show oneL (c::c::r)=_
  rw [oneL_sign (by rcases h with rfl|rfl<;>rfl) (by rcases h with rfl|rfl<;>rfl) (by rw [hs];simp),hs]
theorem lex_sg {k:Int} (hk:k=6∨k=7∨k=8∨k=9∨k=10∨k=11):LexU (sgK k) [(4,sgK k)]∧begL (sgK k)=true:=by
  rcases hk with rfl|rfl|rfl|rfl|rfl|rfl
  · exact⟨lex_sign (c:=43) (by decide),rfl⟩
  · exact⟨lex_sign (c:=45) (by decide),rfl⟩
  · exact⟨lex_sign (c:=42) (by decide),rfl⟩
  · exact⟨lex_sign (c:=60) (by decide),rfl⟩
  · exact⟨lex_two (c:=61) (.inl rfl),rfl⟩
  · exact⟨lex_two (c:=38) (.inr rfl),rfl⟩
end Go.Proofs.YtbhmfkjbaklfeaaDoor
