/- A region that draws its order, whose operations only read but for its calls, and whose calls come up one at a time: one walk, call by call. Plain law, no program in sight. Conditions: none. -/
import Derived.Test.YtibdalkdgjghoaaGreatDoorMg1
import Derived.OrdersHeld
import Derived.Deep.RegionHeld3
import Derived.BigQuiet
import Derived.Test.YtibdalkdgjghoaaGreatDoorMg2
set_option linter.unusedVariables false
set_option maxRecDepth 100000
set_option maxHeartbeats 8000000
set_option linter.unusedSimpArgs false
namespace Go.Proofs.YtibdalkdgjghoaaGreatDoor
open Go.RowKit
def Up (w w':World):Prop:=∃x:HD,w'=wext w x.h x.d
theorem Up.refl (w:World):Up w w:=⟨⟨#[],w.drawn⟩,by unfold wext;rw [Array.append_empty]⟩
theorem Up.trans {a b c:World}:Up a b→Up b c→Up a c:=fun ⟨x,hx⟩ ⟨y,hy⟩=>⟨⟨x.h++y.h,y.d⟩,by rw [hy,hx,wext_wext]⟩
section
variable {P:Program} {ops:Array Oper} {Q:Exit→Act→World→Prop} {md:Region.Mode}
def upAny (P:Program) (md:Region.Mode) (ops:Array Oper) (Q:Exit→Act→World→Prop):Nat→Array Bool→Act→World→Prop
 | 0,listed,a,w0=>Region.ready md ops listed=[]∧∀w,Up w0 w→Q .normal a w
 | fuel+1,listed,a,w0=>∀w,Up w0 w→(Region.ready md ops listed=[]→Q .normal a w) ∧
  ∀i∈Region.ready md ops listed,wpOp P ops Q i (fun a' w'=>Up w w'∧upAny P md ops Q fuel (listed.setIfInBounds i true) a' w') a w
theorem upAny.any:∀(fuel:Nat) (listed:Array Bool) (a:Act) (w:World),upAny P md ops Q fuel listed a w→wpAny P md ops Q fuel listed a w
 | 0,_,_,w,h=>⟨h.1,h.2 w (Up.refl w)⟩
 | fuel+1,_,_,w,h=>⟨(h w (Up.refl w)).1,fun i hi=>wpOp_mono (fun a' w' h'=>upAny.any fuel _ a' w' h'.2) ((h w (Up.refl w)).2 i hi)⟩
def pick:List Bool→List Oper→List Oper
 | [],_=>[]
 | _::_,[]=>[]
 | true::m,o::l=>o::pick m l
 | false::m,_::l=>pick m l
end
def chB (c:UInt8):Bool:=letterI c.toNat||digitI c.toNat
def nameB (s:List UInt8):Bool:=decide (1≤s.length)&&decide (s.length≤20)&&((s.head?.map fun c=>letterI c.toNat).getD false)&&s.all chB&&findW s==0
theorem nameB_short {s:List UInt8} (h:s.length<1∨20<s.length):nameB s=false:=by
 unfold nameB
 rcases h with h|h
 ·rw [decide_eq_false (show ¬1≤s.length by omega)];rfl
 ·rw [decide_eq_false (show ¬s.length≤20 by omega),Bool.and_false];rfl
theorem nameB_head {s:List UInt8} {c:UInt8} (hc:s.head? = some c) (h:letterI c.toNat=false):nameB s=false:=by
 unfold nameB
 rw [hc]
 show (_&&letterI c.toNat&&_&&_)=_
 rw [h,Bool.and_false];rfl
theorem nameB_find {s:List UInt8} (h:findW s≠0):nameB s=false:=by
 unfold nameB
 rw [show (findW s==0)=false by simpa using h,Bool.and_false]
theorem nameB_mid {s:List UInt8} {c:UInt8} (hc:c∈s) (h:chB c=false):nameB s=false:=by
 unfold nameB
 have:s.all chB=false:=by
  rw [List.all_eq_false];exact⟨c,hc,by simp [h]⟩
 rw [this,Bool.and_false];rfl
theorem nameB_end {s:List UInt8} {c:UInt8} (h0:s.head? = some c) (h1:s.length≤20) (h2:letterI c.toNat=true) (h3:s.all chB=true):nameB s=(findW s==0):=by
 have:1≤s.length:=by
  cases s with
  | nil=>cases h0
  | cons a r=>rw [List.length_cons];omega
 unfold nameB
 rw [decide_eq_true this,decide_eq_true h1,h0,h3]
 show (true&&true&&letterI c.toNat&&true&&(findW s==0))=_
 rw [h2];rfl
theorem head_at (s:ByteArray) (h:0<s.size):s.data.toList.head? = some s[0]:=by
 rw [List.head?_eq_getElem?,get_list s 0 h]
theorem take_at (s:ByteArray) (k:Nat) (h:k<s.size):s.data.toList.take (k+1)=s.data.toList.take k++[s[k]]:=by
 have h1:k<s.data.toList.length:=by rw [←size_eq];exact h
 have:=get_list s k h
 rw [List.take_succ_eq_append_getElem h1,(List.getElem?_eq_some_iff.1 this).2]
section
variable (w:World)
theorem r02Name_any (s:ByteArray) (hs:s.size≤1000000000):Calls Tryz.prog 32 #[.string s] w fun e w'=>e=.returned (.bool (nameB s.data.toList))∧Grw w w':=by
 by_cases h0:s.size<1
 ·have HN:=Lib.hid (nameB_short (s:=s.data.toList) (.inl h0))
  have e0:(s.size:Int)<1:=by omega
  clear h0
  go_enter Tryz.func32,Tryz.ntmps32
  go_wp2
  go_ret
  exact⟨ret_bool (by rw [HN.out]),Grw.refl _⟩
 ·have e0:¬(s.size:Int)<1:=by omega
  by_cases h20:20<s.size
  ·have HN:=Lib.hid (nameB_short (s:=s.data.toList) (.inr h20))
   have e1:(20:Int)<(s.size:Int):=by omega
   clear h0 h20
   go_enter Tryz.func32,Tryz.ntmps32
   go_wp2
   go_ret
   exact⟨ret_bool (by rw [HN.out]),Grw.refl _⟩
  ·have e1:¬(20:Int)<(s.size:Int):=by omega
   have hpos:0<s.size:=by omega
   have e2:(0:Int)<(s.size:Int):=by omega
   have HH:=Lib.hid (head_at s hpos)
   cases hl:letterI (s[0]'hpos).toNat
   ·have HN:=Lib.hid (nameB_head HH.out hl)
    have HL:=Lib.hid hl
    clear hl h0 h20
    go_enter Tryz.func32,Tryz.ntmps32
    go_wp2_with (go_at_call 82;refine (r02Letter_any _ _).mono ?_;rintro e w' ⟨rfl,rfl⟩;rw [HL.out])
    go_ret
    exact⟨ret_bool (by rw [HN.out]),Grw.refl _⟩
   ·have HL:=Lib.hid hl
    clear hl
    have hfb:findW s.data.toList≤23:=by have:=idxIn_le s.data.toList wordsL 0;rw [Nat.zero_add] at this;exact this
    obtain⟨fw,hfw⟩:∃n,findW s.data.toList=n:=⟨_,rfl⟩
    have HFW:=Lib.hid hfw
    rw [hfw] at hfb
    clear hfw
    by_cases hf:fw=0
    ·have e3:¬(0:Int)<(fw:Int):=by omega
     have e3n:decide (0<fw)=false:=decide_eq_false (by omega)
     have HF0:=Lib.hid hf
     clear hf
     go_enter Tryz.func32,Tryz.ntmps32
     go_wp2_with (first
      | (go_at_call 82;refine (r02Letter_any _ _).mono ?_;rintro e w' ⟨rfl,rfl⟩;rw [HL.out])
      | (go_at_call 83;refine (r02Find_any s _).mono ?_;rintro e w2 ⟨rfl,hq⟩;have HQ:=Lib.hid hq;clear hq;rw [HFW.out]))
     go_loopw [3] (fun i wr=>Grw w2 wr∧∃k:Nat,i=.int .i64 k∧k≤s.size∧(s.data.toList.take k).all chB=true) (fun i _=>s.size-(intOf i).toNat)
     case atStart=>exact⟨Grw.refl _,0,rfl,Nat.zero_le _,rfl⟩
     case round =>
      obtain⟨hg2,k,rfl,hk,hall⟩:=hrel
      have HG2:=Lib.hid hg2
      clear hg2
      have HALL:=Lib.hid hall
      clear hall
      by_cases hlt:k<s.size
      ·have k3:(k:Int)<(s.size:Int):=by omega
       have HT:=Lib.hid (take_at s k hlt)
       have HM:=Lib.hid (List.mem_of_getElem? (get_list s k hlt))
       cases h1:letterI (s[k]'hlt).toNat
       ·have H1:=Lib.hid h1
        cases h2:digitI (s[k]'hlt).toNat
        ·have H2:=Lib.hid h2
         have HN:=Lib.hid (nameB_mid HM.out (by unfold chB;rw [h1,h2];rfl))
         clear h1 h2
         go_wp2_with (first
          | (go_at_call 82;refine (r02Letter_any _ _).mono ?_;rintro e w' ⟨rfl,rfl⟩;rw [H1.out])
          | (go_at_call 84;refine (r02Digit_any _ _).mono ?_;rintro e w' ⟨rfl,rfl⟩;rw [H2.out]))
         go_ret
         exact⟨ret_bool (by rw [HN.out]),HQ.out.trans HG2.out⟩
        ·have H2:=Lib.hid h2
         have HC:=Lib.hid (show chB (s[k]'hlt)=true by unfold chB;rw [h1,h2];rfl)
         clear h1 h2
         go_wp2_with (first
          | (go_at_call 82;refine (r02Letter_any _ _).mono ?_;rintro e w' ⟨rfl,rfl⟩;rw [H1.out])
          | (go_at_call 84;refine (r02Digit_any _ _).mono ?_;rintro e w' ⟨rfl,rfl⟩;rw [H2.out]))
         go_roundw
         case rel=>first|exact⟨HG2.out,k+1,by go_num,by omega,by rw [HT.out,List.all_append,HALL.out];simp [HC.out]⟩|((repeat apply Exists.intro);exact⟨⟨HG2.out,k+1,by go_num,by omega,by rw [HT.out,List.all_append,HALL.out];simp [HC.out]⟩,rfl⟩)
         case measure=>simp [intOf];omega
       ·have H1:=Lib.hid h1
        have HC:=Lib.hid (show chB (s[k]'hlt)=true by unfold chB;rw [h1];rfl)
        clear h1
        go_wp2_with (first
         | (go_at_call 82;refine (r02Letter_any _ _).mono ?_;rintro e w' ⟨rfl,rfl⟩;rw [H1.out]))
        go_roundw
        case rel=>first|exact⟨HG2.out,k+1,by go_num,by omega,by rw [HT.out,List.all_append,HALL.out];simp [HC.out]⟩|((repeat apply Exists.intro);exact⟨⟨HG2.out,k+1,by go_num,by omega,by rw [HT.out,List.all_append,HALL.out];simp [HC.out]⟩,rfl⟩)
        case measure=>simp [intOf];omega
      ·obtain rfl:k=s.size:=by omega
       have HN:=Lib.hid (nameB_end HH.out (show s.data.toList.length≤20 from by show s.size≤20;omega) HL.out (by have:=HALL.out;rw [List.take_of_length_le (by show s.size≤s.size;omega)] at this;exact this))
       go_wp2
       go_ret
       exact⟨ret_bool (by rw [HN.out,HFW.out,HF0.out];rfl),HQ.out.trans HG2.out⟩
    ·have e3:(0:Int)<(fw:Int):=by omega
     have HN:=Lib.hid (nameB_find (s:=s.data.toList) (by rw [HFW.out];exact hf))
     clear hf
     go_enter Tryz.func32,Tryz.ntmps32
     go_wp2_with (first
      | (go_at_call 82;refine (r02Letter_any _ _).mono ?_;rintro e w' ⟨rfl,rfl⟩;rw [HL.out])
      | (go_at_call 83;refine (r02Find_any s _).mono ?_;rintro e w2 ⟨rfl,hq⟩;have HQ:=Lib.hid hq;clear hq;rw [HFW.out]))
     go_ret
     exact⟨ret_bool (by rw [HN.out]),HQ.out⟩
theorem wName_any (s:ByteArray) (hs:s.size≤1000000000) (hw:Wd w):Calls Tryz.prog 199 #[.string s] w fun e w'=>e=.returned (.bool (nameB s.data.toList))∧Grw w w':=by
 have HW:=Lib.hid hw
 clear hw
 by_cases h0:s.size<1
 ·have HN:=Lib.hid (nameB_short (s:=s.data.toList) (.inl h0))
  have hse:s=⟨#[]⟩:=by
   cases s with|mk d=>cases d with|mk l=>cases l with
    | nil=>rfl
    | cons a r=>simp [ByteArray.size] at h0
  subst hse
  clear h0
  go_enter Tryz.func199,Tryz.ntmps199
  go_wp2
  go_ret
  exact⟨ret_bool (by rw [HN.out]),Grw.refl _⟩
 ·have hpos:0<s.size:=by omega
  have hemp:=isEmpty_of_pos s hpos
  by_cases h20:20<s.size
  ·have HN:=Lib.hid (nameB_short (s:=s.data.toList) (.inr h20))
   have e1:(20:Int)<(s.size:Int):=by omega
   clear h0 h20
   go_enter Tryz.func199,Tryz.ntmps199
   go_wp2
   go_ret
   exact⟨ret_bool (by rw [HN.out]),Grw.refl _⟩
  ·have e1:¬(20:Int)<(s.size:Int):=by omega
   have e2:(0:Int)<(s.size:Int):=by omega
   have HH:=Lib.hid (head_at s hpos)
   cases hl:letterI (s[0]'hpos).toNat
   ·have HN:=Lib.hid (nameB_head HH.out hl)
    have HL:=Lib.hid hl
    clear hl h0 h20
    go_enter Tryz.func199,Tryz.ntmps199
    go_wp2_with (go_at_call 236;refine (wLetter_any _ _).mono ?_;rintro e w' ⟨rfl,rfl⟩;rw [HL.out])
    go_ret
    exact⟨ret_bool (by rw [HN.out]),Grw.refl _⟩
   ·have HL:=Lib.hid hl
    have kc:=fun w:World=>run_bytes_of_string (P:=Tryz.prog) w 9 246 5 s Tryz.underlying9 Tryz.underlying246 Tryz.underlying5
    clear hl
    go_enter Tryz.func199,Tryz.ntmps199
    go_wp2_with (go_at_call 236;refine (wLetter_any _ _).mono ?_;rintro e w' ⟨rfl,rfl⟩;rw [HL.out])
    clear kc
    have hcell:∀(C:Nat) (fr:Nat×Nat) (k:Nat) (hk:k<s.size),(w.alloc (.cells (bytesRow s C) 5 fr)).cell? ⟨w.heap.size,k,none⟩=some (.int .u8 ((s[k]).toNat:Int)):=by
     intro C fr k hk
     rw [World.cell?_alloc_mark]
     exact bytesRow_at s C k hk
    have HC:=Lib.hid hcell
    clear hcell
    go_loopw [21] (fun i wr=>Grw w wr∧(∀(k:Nat) (hk:k<s.size),wr.cell? ⟨w.heap.size,k,none⟩=some (.int .u8 ((s[k]).toNat:Int)))∧∃k:Nat,i=.int .i64 k∧k≤s.size∧(s.data.toList.take k).all chB=true) (fun i _=>s.size-(intOf i).toNat)
    case atStart=>exact⟨by first|exact Grw.refl _|(repeat (first|exact Grw.refl _|apply Grw.ext|apply Grw.alloc|apply Grw.drewN|apply Grw.drew));done,fun k hk=>HC.out _ _ k hk,0,rfl,Nat.zero_le _,rfl⟩
    case round =>
     obtain⟨hg2,hcell,k,rfl,hk,hall⟩:=hrel
     have HG2:=Lib.hid hg2
     have HALL:=Lib.hid hall
     have HCE:=Lib.hid hcell
     clear hall hg2
     by_cases hlt:k<s.size
     ·have k3:(k:Int)<(s.size:Int):=by omega
      have HT:=Lib.hid (take_at s k hlt)
      have HM:=Lib.hid (List.mem_of_getElem? (get_list s k hlt))
      have d1:=hcell k hlt
      clear hcell
      cases h1:letterI (s[k]'hlt).toNat
      ·have H1:=Lib.hid h1
       cases h2:digitI (s[k]'hlt).toNat
       ·have H2:=Lib.hid h2
        have HN:=Lib.hid (nameB_mid HM.out (by unfold chB;rw [h1,h2];rfl))
        clear h1 h2
        go_wp2_with (first
         | (go_at_call 236;refine (wLetter_any _ _).mono ?_;rintro e w' ⟨rfl,rfl⟩;rw [H1.out])
         | (go_at_call 237;refine (wDigit_any _ _).mono ?_;rintro e w' ⟨rfl,rfl⟩;rw [H2.out]))
        go_ret
        exact⟨ret_bool (by rw [HN.out]),HG2.out⟩
       ·have H2:=Lib.hid h2
        have HC2:=Lib.hid (show chB (s[k]'hlt)=true by unfold chB;rw [h1,h2];rfl)
        clear h1 h2
        go_wp2_with (first
         | (go_at_call 236;refine (wLetter_any _ _).mono ?_;rintro e w' ⟨rfl,rfl⟩;rw [H1.out])
         | (go_at_call 237;refine (wDigit_any _ _).mono ?_;rintro e w' ⟨rfl,rfl⟩;rw [H2.out]))
        go_roundw
        case rel=>first|exact⟨HG2.out,HCE.out,k+1,by go_num,by omega,by rw [HT.out,List.all_append,HALL.out];simp [HC2.out]⟩|((repeat apply Exists.intro);exact⟨⟨HG2.out,HCE.out,k+1,by go_num,by omega,by rw [HT.out,List.all_append,HALL.out];simp [HC2.out]⟩,rfl⟩)
        case measure=>simp [intOf];omega
      ·have H1:=Lib.hid h1
       have HC2:=Lib.hid (show chB (s[k]'hlt)=true by unfold chB;rw [h1];rfl)
       clear h1
       go_wp2_with (first
        | (go_at_call 236;refine (wLetter_any _ _).mono ?_;rintro e w' ⟨rfl,rfl⟩;rw [H1.out]))
       go_roundw
       case rel=>first|exact⟨HG2.out,HCE.out,k+1,by go_num,by omega,by rw [HT.out,List.all_append,HALL.out];simp [HC2.out]⟩|((repeat apply Exists.intro);exact⟨⟨HG2.out,HCE.out,k+1,by go_num,by omega,by rw [HT.out,List.all_append,HALL.out];simp [HC2.out]⟩,rfl⟩)
       case measure=>simp [intOf];omega
     ·obtain rfl:k=s.size:=by omega
      have HN:=Lib.hid (nameB_end HH.out (show s.data.toList.length≤20 from by show s.size≤20;omega) HL.out (by have:=HALL.out;rw [List.take_of_length_le (by show s.size≤s.size;omega)] at this;exact this))
      have hfb:findW s.data.toList≤23:=by have:=idxIn_le s.data.toList wordsL 0;rw [Nat.zero_add] at this;exact this
      obtain⟨fw,hfw⟩:∃n,findW s.data.toList=n:=⟨_,rfl⟩
      have HFW:=Lib.hid hfw
      rw [hfw] at hfb
      clear hfw hcell
      go_wp2_with (go_at_call 238;refine (wFind_any s.data.toList _ (HW.out.grw HG2.out)).mono ?_;rintro e w2 ⟨rfl,hq⟩;have HQ:=Lib.hid hq;clear hq;rw [HFW.out])
      go_ret
      exact⟨ret_bool (by rw [HN.out,HFW.out];rw [Bool.eq_iff_iff];simp),HG2.out.trans HQ.out⟩
end
end Go.Proofs.YtibdalkdgjghoaaGreatDoor
