/- Contracts of the document's answer for layer 2 (demesneref02): what each function returns, at any string shorter than 10^9 bytes; nothing that was there is written. -/
import Derived.Test.YtbhmfkjbaklfeaaDoorMg2
set_option linter.unusedVariables false
set_option maxRecDepth 100000
set_option maxHeartbeats 8000000
set_option linter.unusedSimpArgs false
namespace Go.Proofs.YtbhmfkjbaklfeaaDoor
open Go.RowKit

theorem r02Blank_any (c:Int) (w:World) :
  Calls Tryd.prog 20 #[.int .u8 c] w fun e w'=>e=.returned (.bool (blankI c))∧w=w':=by
 go_enter Tryd.func20,Tryd.ntmps20
 go_wp2
 all_goals (go_ret;exact⟨ret_bool (by rw [Bool.eq_iff_iff];simp [blankI];try omega),rfl⟩)
def valL (l:List UInt8):Nat:=l.foldl (fun n c=>10*n+(c.toNat-48)) 0
def digL (l:List UInt8):Bool:=l.all fun c=>digitI c.toNat
def numL (l:List UInt8):Option Nat :=
 if l.length<1∨9<l.length∨(l.head? = some 48∧1<l.length) then none else if digL l then some (valL l) else none
theorem valL_snoc (l:List UInt8) (c:UInt8):valL (l++[c])=10*valL l+(c.toNat-48):=by simp [valL]
theorem digL_snoc (l:List UInt8) (c:UInt8):digL (l++[c])=(digL l&&digitI c.toNat):=by simp [digL]
theorem digitI_iff (c:Int):digitI c=true↔48≤c∧c≤57:=by simp [digitI]
theorem valL_lt:∀(n:Nat) (l:List UInt8),l.length=n→digL l=true→valL l<10 ^ n:=by
 intro n
 induction n with
 | zero=>intro l h _;simp [List.length_eq_zero_iff.1 h,valL]
 | succ n ih =>
  intro l h hd
  obtain⟨a,c,rfl⟩:∃a c,l=a++[c]:=⟨l.dropLast,l.getLast (by intro e;simp [e] at h),(List.dropLast_concat_getLast _).symm⟩
  simp at h
  rw [digL_snoc,Bool.and_eq_true,digitI_iff] at hd
  have:=ih a h hd.1
  rw [valL_snoc,Nat.pow_succ]
  omega
theorem take_snoc (s:ByteArray) (k:Nat) (h:k<s.size):s.data.toList.take (k+1)=s.data.toList.take k++[s[k]]:=by
 rw [List.take_succ_eq_append_getElem (by simpa using h)];rfl
theorem digL_take (l:List UInt8) (k:Nat) (h:digL l=true):digL (l.take k)=true:=by
 simp only [digL,List.all_eq_true] at *
 exact fun x hx=>h x (List.mem_of_mem_take hx)
def numV (l:List UInt8):Value:=match numL l with|none=>.tuple #[.int .i64 0,.bool false]|some n=>.tuple #[.int .i64 n,.bool true]
theorem numV_none {l:List UInt8} (h:numL l=none):numV l=.tuple #[.int .i64 0,.bool false]:=by rw [numV,h]
theorem numV_some {l:List UInt8} {n:Nat} (h:numL l=some n):numV l=.tuple #[.int .i64 n,.bool true]:=by rw [numV,h]
theorem head_zero (s:ByteArray) (h:0<s.size):s.data.toList.head? = some s[0]:=by
 have:=drop_get s 0 h
 rw [List.drop_zero] at this
 rw [this];rfl
theorem beq_u8 (c:UInt8) (n:Nat) (h:n<256):(((c.toNat:Nat):Int)==(n:Int))=(c==UInt8.ofNat n):=by
 rw [Bool.eq_iff_iff]
 simp only [beq_iff_eq]
 constructor
 ·intro e
  apply UInt8.toNat_inj.1
  simp;omega
 ·rintro rfl
  simp;omega
theorem r02Number_any (s:ByteArray) (w:World) (hs:s.size≤1000000000) :
  Calls Tryd.prog 13 #[.string s] w fun e w'=>e=.returned (numV s.data.toList)∧w=w':=by
 have HS:=Lib.hid (size_eq s)
 by_cases h1:s.size<1
 ·have hn:numL s.data.toList=none:=by unfold numL;rw [if_pos (by have:=HS.out;omega)]
  have HN:=Lib.hid (numV_none hn)
  clear hn
  go_enter Tryd.func13,Tryd.ntmps13
  go_wp2
  go_ret2
  exact⟨by rw [HN.out];rfl,rfl⟩
 by_cases h9:9<s.size
 ·have hn:numL s.data.toList=none:=by unfold numL;rw [if_pos (by have:=HS.out;omega)]
  have HN:=Lib.hid (numV_none hn)
  clear hn
  go_enter Tryd.func13,Tryd.ntmps13
  go_wp2
  go_ret2
  exact⟨by rw [HN.out];rfl,rfl⟩
 have hh:=head_zero s (by omega)
 have hpos:(0:Int)<(s.size:Int):=by omega
 by_cases hz:s[0]=48∧1<s.size
 ·have hn:numL s.data.toList=none:=by unfold numL;rw [if_pos (Or.inr (Or.inr ⟨by rw [hh,hz.1],by have:=HS.out;omega⟩))]
  have HN:=Lib.hid (numV_none hn)
  obtain⟨hz,h2⟩:=hz
  have hz':(((s[0]).toNat:Int)==48)=true:=by rw [hz];rfl
  clear hn hh hz
  go_enter Tryd.func13,Tryd.ntmps13
  go_wp2
  go_ret2
  exact⟨by rw [HN.out];rfl,rfl⟩
 ·have HL:=Lib.hid (show numL s.data.toList=if digL s.data.toList then some (valL s.data.toList) else none by
   unfold numL
   rw [if_neg]
   rintro (h|h|⟨h,h'⟩)
   ·have:=HS.out;omega
   ·have:=HS.out;omega
   ·exact hz ⟨Option.some.inj (hh.symm.trans h),by have:=HS.out;omega⟩)
  have hb1:decide ((s.size:Int)<1)=false:=by simp;omega
  have hb9:decide (9<(s.size:Int))=false:=by simp;omega
  have hc:((((s[0]).toNat:Int)==48)=true∧decide (1<(s.size:Int))=false)∨(((s[0]).toNat:Int)==48)=false:=by
   by_cases e:s[0]=48
   ·left
    exact⟨by rw [e];rfl,decide_eq_false (fun h=>hz ⟨e,by omega⟩)⟩
   ·right
    rw [show (48:Int)=((48:Nat):Int) from rfl,beq_u8 _ 48 (by omega)]
    simpa using e
  clear hz hh
  rcases hc with ⟨hc,hc2⟩|hc
  all_goals
   go_enter Tryd.func13,Tryd.ntmps13
   go_wp2
   go_loop [4,5] (fun n i=>∃k:Nat,k≤s.size∧i=.int .i64 k∧digL (s.data.toList.take k)=true∧n=.int .i64 (valL (s.data.toList.take k))) (fun _ i=>s.size-(intOf i).toNat)
   case atStart=>exact⟨0,Nat.zero_le _,rfl,rfl,rfl⟩
   case round =>
    obtain⟨k,hk,rfl,hd,rfl⟩:=hrel
    have hv:=valL_lt k _ (by rw [List.length_take];have:=HS.out;omega) hd
    have hv9:10 ^ k≤10 ^ 9:=Nat.pow_le_pow_right (by omega) (by omega)
    have hv10:k<9→10 ^ k≤100000000:=fun h=>(Nat.pow_le_pow_right (by omega) (show k≤8 by omega):10 ^ k≤10 ^ 8)
    have HD:=Lib.hid hd
    clear hd
    by_cases hlt:k<s.size
    ·have hts:=take_snoc s k hlt
     have HV:=Lib.hid (show valL (s.data.toList.take (k+1))=10*valL (s.data.toList.take k)+((s[k]).toNat-48) by rw [hts,valL_snoc])
     have HG:=Lib.hid (show digL (s.data.toList.take (k+1))=(digL (s.data.toList.take k)&&digitI (s[k]).toNat) by rw [hts,digL_snoc])
     have hvb:(valL (s.data.toList.take k):Int)≤100000000:=by have:=hv10 (by omega);omega
     have hv0:(0:Int)≤(valL (s.data.toList.take k):Int):=by omega
     clear hts hv hv9 hv10
     cases hdd:digitI (s[k]).toNat
     ·have hn:numL s.data.toList=none:=by
       rw [HL.out,if_neg]
       intro h
       have:=digL_take _ (k+1) h
       rw [HG.out,hdd] at this
       simp at this
      have HN:=Lib.hid (numV_none hn)
      have HDD:=Lib.hid hdd
      clear hn hdd
      go_wp2_with (go_at_call 22;refine (r02Digit_any _ _).mono ?_;rintro e w' ⟨rfl,rfl⟩;rw [HDD.out])
      go_ret2
      exact⟨by rw [HN.out];rfl,rfl⟩
     ·obtain⟨hb48,hb57⟩:=(digitI_iff _).1 hdd
      have HDD:=Lib.hid hdd
      clear hdd
      go_wp2_with (go_at_call 22;refine (r02Digit_any _ _).mono ?_;rintro e w' ⟨rfl,rfl⟩;rw [HDD.out])
      go_round
      case rel=>exact⟨k+1,by omega,by go_num,by rw [HG.out,HD.out,HDD.out];rfl,by rw [HV.out];congr 1;omega⟩
      case measure=>simp [intOf];omega
    ·obtain rfl:k=s.size:=by omega
     have hn:numL s.data.toList=some (valL s.data.toList):=by
      rw [HL.out,if_pos]
      have:=HD.out
      rwa [List.take_of_length_le (by have:=HS.out;omega)] at this
     have HN:=Lib.hid (numV_some hn)
     clear hn hv hv9 hv10
     go_wp2
     go_ret2
     exact⟨by rw [HN.out];rw [List.take_of_length_le (by have:=HS.out;omega)];rfl,rfl⟩
end Go.Proofs.YtbhmfkjbaklfeaaDoor
