/- A region that draws its order, whose operations only read but for its calls, and whose calls come up one at a time: one walk, call by call. Plain law, no program in sight. Conditions: none. -/
import Derived.Test.YthkojpnjdpbcgaaGreatDoorMg1
import Derived.OrdersHeld
import Derived.Deep.RegionHeld3
import Derived.BigQuiet
import Derived.Test.YthkojpnjdpbcgaaGreatDoorMg2
import Derived.Test.YthkojpnjdpbcgaaGreatDoorMg20
set_option linter.unusedVariables false
set_option maxRecDepth 100000
set_option maxHeartbeats 8000000
set_option linter.unusedSimpArgs false
namespace Go.Proofs.YthkojpnjdpbcgaaGreatDoor
open Go.RowKit
def Up (w w':World):Prop:=∃x:HD,w'=wext w x.h x.d
theorem Up.refl (w:World):Up w w:=⟨⟨#[],w.drawn⟩,by unfold wext;rw [Array.append_empty]⟩
theorem Up.trans {a b c:World}:Up a b→Up b c→Up a c:=fun ⟨x,hx⟩ ⟨y,hy⟩=>⟨⟨x.h++y.h,y.d⟩,by rw [hy,hx,qkh]⟩
section
variable {P:Program} {ops:Array Oper} {Q:Exit→Act→World→Prop} {md:Region.Mode}
def upAny (P:Program) (md:Region.Mode) (ops:Array Oper) (Q:Exit→Act→World→Prop):Nat→Array Bool→Act→World→Prop
 | 0,listed,a,w0=>Region.ready md ops listed=[]∧∀w,Up w0 w→Q .normal a w
 | fuel+1,listed,a,w0=>∀w,Up w0 w→(Region.ready md ops listed=[]→Q .normal a w) ∧
  ∀i∈Region.ready md ops listed,wpOp P ops Q i (fun a' w'=>Up w w'∧upAny P md ops Q fuel (listed.setIfInBounds i true) a' w') a w
theorem upAny.any:∀(fuel:Nat) (listed:Array Bool) (a:Act) (w:World),upAny P md ops Q fuel listed a w→wpAny P md ops Q fuel listed a w
 | 0,_,_,w,h=>⟨h.1,h.2 w (Up.refl w)⟩
 | fuel+1,_,_,w,h=>⟨(h w (Up.refl w)).1,fun i hi=>wpOp_mono (fun a' w' h'=>upAny.any fuel _ a' w' h'.2) ((h w (Up.refl w)).2 i hi)⟩
def pick:List Bool→List Oper→List Oper
 | [],_=>[]
 | _::_,[]=>[]
 | true::m,o::l=>o::pick m l
 | false::m,_::l=>pick m l
end
def chB (c:UInt8):Bool:=qce c.toNat||qnw c.toNat
def qgg (s:List UInt8):Bool:=decide (1≤s.length)&&decide (s.length≤20)&&((s.head?.map fun c=>qce c.toNat).getD false)&&s.all chB&&qli s==0
theorem qhe {s:List UInt8} (h:s.length<1∨20<s.length):qgg s=false:=by
 unfold qgg
 rcases h with h|h
 ·rw [decide_eq_false (show ¬1≤s.length by omega)];rfl
 ·rw [decide_eq_false (show ¬s.length≤20 by omega),Bool.and_false];rfl
theorem qoa {s:List UInt8} {c:UInt8} (hc:s.head? = some c) (h:qce c.toNat=false):qgg s=false:=by
 unfold qgg
 rw [hc]
 show (_&&qce c.toNat&&_&&_)=_
 rw [h,Bool.and_false];rfl
theorem nameB_mid {s:List UInt8} {c:UInt8} (hc:c∈s) (h:chB c=false):qgg s=false:=by
 unfold qgg
 have:s.all chB=false:=by
  rw [List.all_eq_false];exact⟨c,hc,by simp [h]⟩
 rw [this,Bool.and_false];rfl
theorem nameB_end {s:List UInt8} {c:UInt8} (h0:s.head? = some c) (h1:s.length≤20) (h2:qce c.toNat=true) (h3:s.all chB=true):qgg s=(qli s==0):=by
 have:1≤s.length:=by
  cases s with
  | nil=>cases h0
  | cons a r=>rw [List.length_cons];omega
 unfold qgg
 rw [decide_eq_true this,decide_eq_true h1,h0,h3]
 show (true&&true&&qce c.toNat&&true&&(qli s==0))=_
 rw [h2];rfl
theorem head_at (s:ByteArray) (h:0<s.size):s.data.toList.head? = some s[0]:=by
 rw [List.head?_eq_getElem?,qgr s 0 h]
theorem take_at (s:ByteArray) (k:Nat) (h:k<s.size):s.data.toList.take (k+1)=s.data.toList.take k++[s[k]]:=by
 have h1:k<s.data.toList.length:=by rw [←qjc];exact h
 have:=qgr s k h
 rw [List.take_succ_eq_append_getElem h1,(List.getElem?_eq_some_iff.1 this).2]
section
variable (w:World)
theorem wName_any (s:ByteArray) (hs:s.size≤1000000000) (hw:Wd w):Calls Tryz.prog 196 #[.string s] w fun e w'=>e=.returned (.bool (qgg s.data.toList))∧Grw w w':=by
 have HW:=Lib.hid hw
 clear hw
 by_cases h0:s.size<1
 ·have HN:=Lib.hid (qhe (s:=s.data.toList) (.inl h0))
  have hse:s=⟨#[]⟩:=by
   cases s with|mk d=>cases d with|mk l=>cases l with
    | nil=>rfl
    | cons a r=>simp [ByteArray.size] at h0
  subst hse
  clear h0
  go_enter Tryz.func196,Tryz.ntmps196
  go_wp2
  go_ret
  exact⟨qcn (by rw [HN.out]),Grw.refl _⟩
 ·have hpos:0<s.size:=by omega
  have hemp:=qh2 s hpos
  by_cases h20:20<s.size
  ·have HN:=Lib.hid (qhe (s:=s.data.toList) (.inr h20))
   have e1:(20:Int)<(s.size:Int):=by omega
   clear h0 h20
   go_enter Tryz.func196,Tryz.ntmps196
   go_wp2
   go_ret
   exact⟨qcn (by rw [HN.out]),Grw.refl _⟩
  ·have e1:¬(20:Int)<(s.size:Int):=by omega
   have e2:(0:Int)<(s.size:Int):=by omega
   have HH:=Lib.hid (head_at s hpos)
   cases hl:qce (s[0]'hpos).toNat
   ·have HN:=Lib.hid (qoa HH.out hl)
    have HL:=Lib.hid hl
    clear hl h0 h20
    go_enter Tryz.func196,Tryz.ntmps196
    go_wp2_with (go_at_call 228;refine (qcc _ _).mono ?_;rintro e w' ⟨rfl,rfl⟩;rw [HL.out])
    go_ret
    exact⟨qcn (by rw [HN.out]),Grw.refl _⟩
   ·have HL:=Lib.hid hl
    have kc:=fun w:World=>run_bytes_of_string (P:=Tryz.prog) w 9 257 5 s Tryz.underlying9 Tryz.underlying257 Tryz.underlying5
    clear hl
    go_enter Tryz.func196,Tryz.ntmps196
    go_wp2_with (go_at_call 228;refine (qcc _ _).mono ?_;rintro e w' ⟨rfl,rfl⟩;rw [HL.out])
    clear kc
    have hcell:∀(C:Nat) (fr:Nat×Nat) (k:Nat) (hk:k<s.size),(w.alloc (.cells (bytesRow s C) 5 fr)).cell? ⟨w.heap.size,k,none⟩=some (.int .u8 ((s[k]).toNat:Int)):=by
     intro C fr k hk
     rw [World.cell?_alloc_mark]
     exact bytesRow_at s C k hk
    have HC:=Lib.hid hcell
    clear hcell
    go_loopw [21] (fun i wr=>Grw w wr∧(∀(k:Nat) (hk:k<s.size),wr.cell? ⟨w.heap.size,k,none⟩=some (.int .u8 ((s[k]).toNat:Int)))∧∃k:Nat,i=.int .i64 k∧k≤s.size∧(s.data.toList.take k).all chB=true) (fun i _=>s.size-(intOf i).toNat)
    case atStart=>exact⟨by first|exact Grw.refl _|(repeat (first|exact Grw.refl _|apply Grw.ext|apply Grw.alloc|apply Grw.drewN|apply Grw.drew));done,fun k hk=>HC.out _ _ k hk,0,rfl,Nat.zero_le _,rfl⟩
    case round =>
     obtain⟨hg2,hcell,k,rfl,hk,hall⟩:=hrel
     have HG2:=Lib.hid hg2
     have HALL:=Lib.hid hall
     have HCE:=Lib.hid hcell
     clear hall hg2
     by_cases hlt:k<s.size
     ·have k3:(k:Int)<(s.size:Int):=by omega
      have HT:=Lib.hid (take_at s k hlt)
      have HM:=Lib.hid (lm4 (qgr s k hlt))
      have d1:=hcell k hlt
      clear hcell
      cases h1:qce (s[k]'hlt).toNat
      ·have H1:=Lib.hid h1
       cases h2:qnw (s[k]'hlt).toNat
       ·have H2:=Lib.hid h2
        have HN:=Lib.hid (nameB_mid HM.out (by unfold chB;rw [h1,h2];rfl))
        clear h1 h2
        go_wp2_with (first
         | (go_at_call 228;refine (qcc _ _).mono ?_;rintro e w' ⟨rfl,rfl⟩;rw [H1.out])
         | (go_at_call 229;refine (qib _ _).mono ?_;rintro e w' ⟨rfl,rfl⟩;rw [H2.out]))
        go_ret
        exact⟨qcn (by rw [HN.out]),HG2.out⟩
       ·have H2:=Lib.hid h2
        have HC2:=Lib.hid (show chB (s[k]'hlt)=true by unfold chB;rw [h1,h2];rfl)
        clear h1 h2
        go_wp2_with (first
         | (go_at_call 228;refine (qcc _ _).mono ?_;rintro e w' ⟨rfl,rfl⟩;rw [H1.out])
         | (go_at_call 229;refine (qib _ _).mono ?_;rintro e w' ⟨rfl,rfl⟩;rw [H2.out]))
        go_roundw
        case rel=>first|exact⟨HG2.out,HCE.out,k+1,by go_num,by omega,by rw [HT.out,List.all_append,HALL.out];simp [HC2.out]⟩|((repeat apply Exists.intro);exact⟨⟨HG2.out,HCE.out,k+1,by go_num,by omega,by rw [HT.out,List.all_append,HALL.out];simp [HC2.out]⟩,rfl⟩)
        case measure=>simp [intOf];omega
      ·have H1:=Lib.hid h1
       have HC2:=Lib.hid (show chB (s[k]'hlt)=true by unfold chB;rw [h1];rfl)
       clear h1
       go_wp2_with (first
        | (go_at_call 228;refine (qcc _ _).mono ?_;rintro e w' ⟨rfl,rfl⟩;rw [H1.out]))
       go_roundw
       case rel=>first|exact⟨HG2.out,HCE.out,k+1,by go_num,by omega,by rw [HT.out,List.all_append,HALL.out];simp [HC2.out]⟩|((repeat apply Exists.intro);exact⟨⟨HG2.out,HCE.out,k+1,by go_num,by omega,by rw [HT.out,List.all_append,HALL.out];simp [HC2.out]⟩,rfl⟩)
       case measure=>simp [intOf];omega
     ·obtain rfl:k=s.size:=by omega
      have HN:=Lib.hid (nameB_end HH.out (show s.data.toList.length≤20 from by show s.size≤20;omega) HL.out (by have:=HALL.out;rw [List.take_of_length_le (by show s.size≤s.size;omega)] at this;exact this))
      have hfb:qli s.data.toList≤23:=by have:=qj0 s.data.toList qer 0;rw [Nat.zero_add] at this;exact this
      obtain⟨fw,hfw⟩:∃n,qli s.data.toList=n:=⟨_,rfl⟩
      have HFW:=Lib.hid hfw
      rw [hfw] at hfb
      clear hfw hcell
      go_wp2_with (go_at_call 230;refine (wFind_any s.data.toList _ (HW.out.grw HG2.out)).mono ?_;rintro e w2 ⟨rfl,hq⟩;have HQ:=Lib.hid hq;clear hq;rw [HFW.out])
      go_ret
      exact⟨qcn (by rw [HN.out,HFW.out];rw [Bool.eq_iff_iff];simp),HG2.out.trans HQ.out⟩
end
def Ty.own (t:Ty):List (Int×Int):=[t.o0,t.o1,t.o2,t.o3]
theorem qak {α:Type} {l:List α} {m:Nat} {p:α} (h:l[m]? = some p):l.take (m+1)=l.take m++[p]:=by
 rw [List.take_add_one,h];rfl
namespace Ex
mutual
def sz:Ex→Nat
 | ⟨_,_,s,l⟩=>1+s.length+szs l
def szs:List Ex→Nat
 | []=>0
 | e::r=>e.sz+szs r
end
mutual
def deep:Ex→Nat
 | ⟨_,_,_,l⟩=>1+deeps l
def deeps:List Ex→Nat
 | []=>0
 | e::r=>max e.deep (deeps r)
end
theorem sz_eq (e:Ex):e.sz=1+e.name.length+szs e.kids:=by cases e;rfl
theorem deep_eq (e:Ex):e.deep=1+deeps e.kids:=by cases e;rfl
theorem szs_mem:∀{l:List Ex} {k:Ex},k∈l→k.sz≤szs l
 | e::r,k,h=>by
  rw [szs]
  rcases List.mem_cons.1 h with rfl|h
  ·omega
  ·have:=szs_mem h;omega
theorem sz_pos (e:Ex):0<e.sz:=by rw [sz_eq];omega
theorem szs_len:∀l:List Ex,l.length≤szs l
 | []=>Nat.le_refl _
 | e::r=>by have:=szs_len r;have:=sz_pos e;rw [szs,List.length_cons];omega
theorem kid_lt {e k:Ex} (h:k∈e.kids):k.sz<e.sz:=by have:=szs_mem h;rw [sz_eq e];omega
end Ex
end Go.Proofs.YthkojpnjdpbcgaaGreatDoor
