/- A region that draws its order, whose operations only read but for its calls, and whose calls come up one at a time: one walk, call by call. Plain law, no program in sight. Conditions: none. -/
import Derived.Test.YthkojpnjdpbcgaaGreatDoorMl1
import Derived.OrdersHeld
import Derived.Deep.RegionHeld3
import Derived.BigQuiet
import Derived.Test.YthkojpnjdpbcgaaGreatDoorMl2
import Derived.Test.YthkojpnjdpbcgaaGreatDoorMl13
set_option linter.unusedVariables false
set_option maxRecDepth 100000
set_option maxHeartbeats 8000000
set_option linter.unusedSimpArgs false
namespace Go.Proofs.YthkojpnjdpbcgaaGreatDoor
open Go.RowKit
def Up (w w':World):Prop:=∃x:HD,w'=wext w x.h x.d
theorem Up.trans {a b c:World}:Up a b→Up b c→Up a c:=fun ⟨x,hx⟩ ⟨y,hy⟩=>⟨⟨x.h++y.h,y.d⟩,by rw [hy,hx,qj5]⟩
section
variable {P:Program} {ops:Array Oper} {Q:Exit→Act→World→Prop} {md:Region.Mode}
def pick:List Bool→List Oper→List Oper
 | [],_=>[]
 | _::_,[]=>[]
 | true::m,o::l=>o::pick m l
 | false::m,_::l=>pick m l
end
def chB (c:UInt8):Bool:=qcm c.toNat||qnh c.toNat
def qaw (s:List UInt8):Bool:=decide (1≤s.length)&&decide (s.length≤20)&&((s.head?.map fun c=>qcm c.toNat).getD false)&&s.all chB&&qk6 s==0
theorem qg5 {s:List UInt8} (h:s.length<1∨20<s.length):qaw s=false:=by
 unfold qaw
 rcases h with h|h
 ·rw [decide_eq_false (show ¬1≤s.length by omega)];rfl
 ·rw [decide_eq_false (show ¬s.length≤20 by omega),Bool.and_false];rfl
theorem qn2 {s:List UInt8} {c:UInt8} (hc:s.head? = some c) (h:qcm c.toNat=false):qaw s=false:=by
 unfold qaw
 rw [hc]
 show (_&&qcm c.toNat&&_&&_)=_
 rw [h,Bool.and_false];rfl
theorem nameB_mid {s:List UInt8} {c:UInt8} (hc:c∈s) (h:chB c=false):qaw s=false:=by
 unfold qaw
 have:s.all chB=false:=by
  rw [List.all_eq_false];exact⟨c,hc,by simp [h]⟩
 rw [this,Bool.and_false];rfl
theorem nameB_end {s:List UInt8} {c:UInt8} (h0:s.head? = some c) (h1:s.length≤20) (h2:qcm c.toNat=true) (h3:s.all chB=true):qaw s=(qk6 s==0):=by
 have:1≤s.length:=by
  cases s with
  | nil=>cases h0
  | cons a r=>rw [List.length_cons];omega
 unfold qaw
 rw [decide_eq_true this,decide_eq_true h1,h0,h3]
 show (true&&true&&qcm c.toNat&&true&&(qk6 s==0))=_
 rw [h2];rfl
theorem head_at (s:ByteArray) (h:0<s.size):s.data.toList.head? = some s[0]:=by
 rw [List.head?_eq_getElem?,qgi s 0 h]
theorem take_at (s:ByteArray) (k:Nat) (h:k<s.size):s.data.toList.take (k+1)=s.data.toList.take k++[s[k]]:=by
 have h1:k<s.data.toList.length:=by rw [←qi7];exact h
 have:=qgi s k h
 rw [List.take_succ_eq_append_getElem h1,(List.getElem?_eq_some_iff.1 this).2]
section
variable (w:World)
theorem wName_any (s:ByteArray) (hs:s.size≤1000000000) (hw:Wd w):Calls Tryz.prog 196 #[.string s] w fun e w'=>e=.returned (.bool (qaw s.data.toList))∧Grw w w':=by
 have HW:=Lib.hid hw
 clear hw
 by_cases h0:s.size<1
 ·have HN:=Lib.hid (qg5 (s:=s.data.toList) (.inl h0))
  have hse:s=⟨#[]⟩:=by
   cases s with|mk d=>cases d with|mk l=>cases l with
    | nil=>rfl
    | cons a r=>simp [ByteArray.size] at h0
  subst hse
  clear h0
  go_enter Tryz.func196,Tryz.ntmps196
  go_wp2
  go_ret
  exact⟨qcu (by rw [HN.out]),Grw.refl _⟩
 ·have hpos:0<s.size:=by omega
  have hemp:=qhz s hpos
  by_cases h20:20<s.size
  ·have HN:=Lib.hid (qg5 (s:=s.data.toList) (.inr h20))
   have e1:(20:Int)<(s.size:Int):=by omega
   clear h0 h20
   go_enter Tryz.func196,Tryz.ntmps196
   go_wp2
   go_ret
   exact⟨qcu (by rw [HN.out]),Grw.refl _⟩
  ·have e1:¬(20:Int)<(s.size:Int):=by omega
   have e2:(0:Int)<(s.size:Int):=by omega
   have HH:=Lib.hid (head_at s hpos)
   cases hl:qcm (s[0]'hpos).toNat
   ·have HN:=Lib.hid (qn2 HH.out hl)
    have HL:=Lib.hid hl
    clear hl h0 h20
    go_enter Tryz.func196,Tryz.ntmps196
    go_wp2_with (go_at_call 228;refine (qci _ _).mono ?_;rintro e w' ⟨rfl,rfl⟩;rw [HL.out])
    go_ret
    exact⟨qcu (by rw [HN.out]),Grw.refl _⟩
   ·have HL:=Lib.hid hl
    have kc:=fun w:World=>run_bytes_of_string (P:=Tryz.prog) w 9 257 5 s Tryz.underlying9 Tryz.underlying257 Tryz.underlying5
    clear hl
    go_enter Tryz.func196,Tryz.ntmps196
    go_wp2_with (go_at_call 228;refine (qci _ _).mono ?_;rintro e w' ⟨rfl,rfl⟩;rw [HL.out])
    clear kc
    have hcell:∀(C:Nat) (fr:Nat×Nat) (k:Nat) (hk:k<s.size),(w.alloc (.cells (bytesRow s C) 5 fr)).cell? ⟨w.heap.size,k,none⟩=some (.int .u8 ((s[k]).toNat:Int)):=by
     intro C fr k hk
     rw [World.cell?_alloc_mark]
     exact bytesRow_at s C k hk
    have HC:=Lib.hid hcell
    clear hcell
    go_loopw [21] (fun i wr=>Grw w wr∧(∀(k:Nat) (hk:k<s.size),wr.cell? ⟨w.heap.size,k,none⟩=some (.int .u8 ((s[k]).toNat:Int)))∧∃k:Nat,i=.int .i64 k∧k≤s.size∧(s.data.toList.take k).all chB=true) (fun i _=>s.size-(intOf i).toNat)
    case atStart=>exact⟨by first|exact Grw.refl _|(repeat (first|exact Grw.refl _|apply Grw.ext|apply Grw.alloc|apply Grw.drewN|apply Grw.drew));done,fun k hk=>HC.out _ _ k hk,0,rfl,Nat.zero_le _,rfl⟩
    case round =>
     obtain⟨hg2,hcell,k,rfl,hk,hall⟩:=hrel
     have HG2:=Lib.hid hg2
     have HALL:=Lib.hid hall
     have HCE:=Lib.hid hcell
     clear hall hg2
     by_cases hlt:k<s.size
     ·have k3:(k:Int)<(s.size:Int):=by omega
      have HT:=Lib.hid (take_at s k hlt)
      have HM:=Lib.hid (lm4 (qgi s k hlt))
      have d1:=hcell k hlt
      clear hcell
      cases h1:qcm (s[k]'hlt).toNat
      ·have H1:=Lib.hid h1
       cases h2:qnh (s[k]'hlt).toNat
       ·have H2:=Lib.hid h2
        have HN:=Lib.hid (nameB_mid HM.out (by unfold chB;rw [h1,h2];rfl))
        clear h1 h2
        go_wp2_with (first
         | (go_at_call 228;refine (qci _ _).mono ?_;rintro e w' ⟨rfl,rfl⟩;rw [H1.out])
         | (go_at_call 229;refine (qh8 _ _).mono ?_;rintro e w' ⟨rfl,rfl⟩;rw [H2.out]))
        go_ret
        exact⟨qcu (by rw [HN.out]),HG2.out⟩
       ·have H2:=Lib.hid h2
        have HC2:=Lib.hid (show chB (s[k]'hlt)=true by unfold chB;rw [h1,h2];rfl)
        clear h1 h2
        go_wp2_with (first
         | (go_at_call 228;refine (qci _ _).mono ?_;rintro e w' ⟨rfl,rfl⟩;rw [H1.out])
         | (go_at_call 229;refine (qh8 _ _).mono ?_;rintro e w' ⟨rfl,rfl⟩;rw [H2.out]))
        go_roundw
        case rel=>first|exact⟨HG2.out,HCE.out,k+1,by go_num,by omega,by rw [HT.out,List.all_append,HALL.out];simp [HC2.out]⟩|((repeat apply Exists.intro);exact⟨⟨HG2.out,HCE.out,k+1,by go_num,by omega,by rw [HT.out,List.all_append,HALL.out];simp [HC2.out]⟩,rfl⟩)
        case measure=>simp [intOf];omega
      ·have H1:=Lib.hid h1
       have HC2:=Lib.hid (show chB (s[k]'hlt)=true by unfold chB;rw [h1];rfl)
       clear h1
       go_wp2_with (first
        | (go_at_call 228;refine (qci _ _).mono ?_;rintro e w' ⟨rfl,rfl⟩;rw [H1.out]))
       go_roundw
       case rel=>first|exact⟨HG2.out,HCE.out,k+1,by go_num,by omega,by rw [HT.out,List.all_append,HALL.out];simp [HC2.out]⟩|((repeat apply Exists.intro);exact⟨⟨HG2.out,HCE.out,k+1,by go_num,by omega,by rw [HT.out,List.all_append,HALL.out];simp [HC2.out]⟩,rfl⟩)
       case measure=>simp [intOf];omega
     ·obtain rfl:k=s.size:=by omega
      have HN:=Lib.hid (nameB_end HH.out (show s.data.toList.length≤20 from by show s.size≤20;omega) HL.out (by have:=HALL.out;rw [List.take_of_length_le (by show s.size≤s.size;omega)] at this;exact this))
      have hfb:qk6 s.data.toList≤23:=by have:=qjs s.data.toList qez 0;rw [Nat.zero_add] at this;exact this
      obtain⟨fw,hfw⟩:∃n,qk6 s.data.toList=n:=⟨_,rfl⟩
      have HFW:=Lib.hid hfw
      rw [hfw] at hfb
      clear hfw hcell
      go_wp2_with (go_at_call 230;refine (wFind_any s.data.toList _ (HW.out.grw HG2.out)).mono ?_;rintro e w2 ⟨rfl,hq⟩;have HQ:=Lib.hid hq;clear hq;rw [HFW.out])
      go_ret
      exact⟨qcu (by rw [HN.out,HFW.out];rw [Bool.eq_iff_iff];simp),HG2.out.trans HQ.out⟩
end
def owB (o:Int×Int) (p:Int):Bool :=
 if o.1=3 then decide (0<o.2)&&decide (o.2≤p) else if o.1=7 then decide (0≤o.2) else (o.1==1||o.1==2||o.1==4||o.1==5||o.1==6)&&o.2==0
def Ty.own (t:Ty):List (Int×Int):=[t.o0,t.o1,t.o2,t.o3]
def tyB (t:Ty) (p:Int):Bool :=
 if t.kind=0∨t.kind=1 then decide (t={ Ty.zero with kind:=t.kind })
 else if t.kind=2 then qaw t.cls&&decide (0≤t.n)&&decide (t.n≤3)&&(t.own.take (t.n.toNat+1)).all (fun o=>owB o p)&&((t.own.take (t.n.toNat+1)).drop 1).all (fun o=>o.1 != 6)&&(t.own.drop (t.n.toNat+1)).all (fun o=>decide (o=(0,0)))
 else false
def wrB (t:Ty) (p:Int):Bool:=tyB t p&&t.o1.1 != 7&&t.o2.1 != 7&&t.o3.1 != 7&&(t.o0.1 != 7||t.o0.2==0)
def vrB (p:Int) (v:Vr):Bool:=v.ty.kind != 0&&qaw v.name&&wrB v.ty p
def vrsB (l:List Vr) (most:Nat) (p:Int):Bool:=decide (l.length≤most)&&l.all (vrB p)
def okAt (n p:Int) (i:Nat) (o:Int×Int):Bool:=bif decide (n<(i:Int)) then decide (o=(0,0)) else owB o p&&(i==0||o.1 != 6)
theorem ty2 (t:Ty) (p:Int) (h2:t.kind=2):tyB t p=(qaw t.cls&&(decide (0≤t.n)&&(decide (t.n≤3)&&(okAt t.n p 0 t.o0&&(okAt t.n p 1 t.o1&&(okAt t.n p 2 t.o2&&okAt t.n p 3 t.o3)))))):=by
 obtain⟨k,cls,n,o0,o1,o2,o3⟩:=t
 dsimp only at h2 ⊢
 subst h2
 show (qaw cls&&decide (0≤n)&&decide (n≤3)&&(([o0,o1,o2,o3]:List (Int×Int)).take (n.toNat+1)).all (fun o=>owB o p)&&((([o0,o1,o2,o3]:List (Int×Int)).take (n.toNat+1)).drop 1).all (fun o=>o.1 != 6)&&(([o0,o1,o2,o3]:List (Int×Int)).drop (n.toNat+1)).all (fun o=>decide (o=(0,0))))=_
 by_cases h0:0≤n
 ·by_cases h3:n≤3
  ·have:n=0∨n=1∨n=2∨n=3:=by omega
   rcases this with rfl|rfl|rfl|rfl
   ·show (qaw cls&&true&&true&&(owB o0 p&&true)&&true&&(decide (o1=(0,0))&&(decide (o2=(0,0))&&(decide (o3=(0,0))&&true))))=(qaw cls&&(true&&(true&&((owB o0 p&&true)&&(decide (o1=(0,0))&&(decide (o2=(0,0))&&decide (o3=(0,0))))))))
    cases qaw cls<;>cases owB o0 p<;>cases decide (o1=(0,0))<;>cases decide (o2=(0,0))<;>cases decide (o3=(0,0))<;>rfl
   ·show (qaw cls&&true&&true&&(owB o0 p&&(owB o1 p&&true))&&((o1.1 != 6)&&true)&&(decide (o2=(0,0))&&(decide (o3=(0,0))&&true)))=(qaw cls&&(true&&(true&&((owB o0 p&&true)&&((owB o1 p&&(false||o1.1 != 6))&&(decide (o2=(0,0))&&decide (o3=(0,0))))))))
    cases qaw cls<;>cases owB o0 p<;>cases owB o1 p<;>cases (o1.1 != 6)<;>cases decide (o2=(0,0))<;>cases decide (o3=(0,0))<;>rfl
   ·show (qaw cls&&true&&true&&(owB o0 p&&(owB o1 p&&(owB o2 p&&true)))&&((o1.1 != 6)&&((o2.1 != 6)&&true))&&(decide (o3=(0,0))&&true))=(qaw cls&&(true&&(true&&((owB o0 p&&true)&&((owB o1 p&&(false||o1.1 != 6))&&((owB o2 p&&(false||o2.1 != 6))&&decide (o3=(0,0))))))))
    cases qaw cls<;>cases owB o0 p<;>cases owB o1 p<;>cases (o1.1 != 6)<;>cases owB o2 p<;>cases (o2.1 != 6)<;>cases decide (o3=(0,0))<;>rfl
   ·show (qaw cls&&true&&true&&(owB o0 p&&(owB o1 p&&(owB o2 p&&(owB o3 p&&true))))&&((o1.1 != 6)&&((o2.1 != 6)&&((o3.1 != 6)&&true)))&&true)=(qaw cls&&(true&&(true&&((owB o0 p&&true)&&((owB o1 p&&(false||o1.1 != 6))&&((owB o2 p&&(false||o2.1 != 6))&&(owB o3 p&&(false||o3.1 != 6))))))))
    cases qaw cls<;>cases owB o0 p<;>cases owB o1 p<;>cases (o1.1 != 6)<;>cases owB o2 p<;>cases (o2.1 != 6)<;>cases owB o3 p<;>cases (o3.1 != 6)<;>rfl
  ·rw [decide_eq_false h3];cases qaw cls<;>cases decide (0≤n)<;>rfl
 ·rw [decide_eq_false h0];cases qaw cls<;>rfl
theorem ty_own_ld (t:Ty):qae (some 2) (Ty.at t) 3=some (.r (owAt t.o0))∧qae (some 2) (Ty.at t) 5=some (.r (owAt t.o1))∧qae (some 2) (Ty.at t) 7=some (.r (owAt t.o2))∧qae (some 2) (Ty.at t) 9=some (.r (owAt t.o3)):=by
 obtain⟨k,cls,n,⟨a0,b0⟩,⟨a1,b1⟩,⟨a2,b2⟩,⟨a3,b3⟩⟩:=t
 exact⟨rfl,rfl,rfl,rfl⟩
theorem qao {α:Type} {l:List α} {m:Nat} {p:α} (h:l[m]? = some p):l.take (m+1)=l.take m++[p]:=by
 rw [List.take_add_one,h];rfl
namespace Ex
mutual
def sz:Ex→Nat
 | ⟨_,_,s,l⟩=>1+s.length+szs l
def szs:List Ex→Nat
 | []=>0
 | e::r=>e.sz+szs r
end
mutual
def deep:Ex→Nat
 | ⟨_,_,_,l⟩=>1+deeps l
def deeps:List Ex→Nat
 | []=>0
 | e::r=>max e.deep (deeps r)
end
def kidsN (k:Int):Int:=if (decide (k≥6)&&decide (k≤11)||k==14)=true then 2 else if (k==12||k==13)=true then 1 else 0
def plainB (e:Ex):Bool :=
 !(decide (e.kind<1)||decide (e.kind>14)||((e.kids.length:Int) != kidsN e.kind)||(e.kind != 1&&e.num != 0)||(e.kind != 2&&!(e.name==[]))||decide (e.num<0)||decide (e.num>999999999)||(e.kind==2&&!qaw e.name))
def kidB (k z:Int):Bool:=!(k==13&&z != 2&&z != 3||k==14&&z != 2&&z != 3&&z != 4)
mutual
def formB:Ex→Bool
 | ⟨k,n,s,l⟩=>plainB ⟨k,n,s,l⟩&&formsB k l
def formsB (k:Int):List Ex→Bool
 | []=>true
 | e::r=>(e.formB&&kidB k e.kind)&&formsB k r
end
def rightB (e:Ex):Bool:=e.formB&&decide (e.deep≤20)
mutual
def sameB:Ex→Ex→Bool
 | ⟨k,n,s,l⟩,⟨k',n',s',l'⟩=>k==k'&&(n==n'&&(s==s'&&samesB l l'))
def samesB:List Ex→List Ex→Bool
 | [],[]=>true
 | e::r,f::t=>e.sameB f&&samesB r t
 | _,_=>false
end
theorem sz_eq (e:Ex):e.sz=1+e.name.length+szs e.kids:=by cases e;rfl
theorem deep_eq (e:Ex):e.deep=1+deeps e.kids:=by cases e;rfl
theorem form_eq (e:Ex):e.formB=(plainB e&&formsB e.kind e.kids):=by cases e;rfl
theorem same_eq (e f:Ex):e.sameB f=(e.kind==f.kind&&(e.num==f.num&&(e.name==f.name&&samesB e.kids f.kids))):=by cases e;cases f;rfl
theorem szs_mem:∀{l:List Ex} {k:Ex},k∈l→k.sz≤szs l
 | e::r,k,h=>by
  rw [szs]
  rcases List.mem_cons.1 h with rfl|h
  ·omega
  ·have:=szs_mem h;omega
theorem sz_pos (e:Ex):0<e.sz:=by rw [sz_eq];omega
theorem szs_len:∀l:List Ex,l.length≤szs l
 | []=>Nat.le_refl _
 | e::r=>by have:=szs_len r;have:=sz_pos e;rw [szs,List.length_cons];omega
theorem kid_lt {e k:Ex} (h:k∈e.kids):k.sz<e.sz:=by have:=szs_mem h;rw [sz_eq e];omega
theorem samesB_zip:∀{l m:List Ex},l.length=m.length→samesB l m=(l.zip m).all fun p=>p.1.sameB p.2
 | [],[],_=>rfl
 | e::r,f::t,h=>by rw [samesB,List.zip_cons_cons,List.all_cons,samesB_zip (by simpa using h)]
theorem samesB_len:∀{l m:List Ex},l.length≠m.length→samesB l m=false
 | [],[],h=>absurd rfl h
 | [],_::_,_=>rfl
 | _::_,[],_=>rfl
 | e::r,f::t,h=>by rw [samesB,samesB_len (by simpa using h),Bool.and_false]
end Ex
end Go.Proofs.YthkojpnjdpbcgaaGreatDoor
