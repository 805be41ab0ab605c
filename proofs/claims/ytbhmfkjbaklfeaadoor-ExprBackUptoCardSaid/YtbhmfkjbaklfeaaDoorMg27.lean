/- Contract of the program's layer 2 (word): Number: it answers as the document's does. -/
import Derived.Test.YtbhmfkjbaklfeaaDoorMg20
import Derived.Test.YtbhmfkjbaklfeaaDoorMg23
set_option linter.unusedVariables false
set_option maxRecDepth 100000
set_option maxHeartbeats 8000000
set_option linter.unusedSimpArgs false
namespace Go.Proofs.YtbhmfkjbaklfeaaDoor
open Go.RowKit Go.Sort
theorem and15_fin:∀n:Fin 256,digitI (n.val:Nat)=true→bits BinOp.and IntKind.u8 ((n.val:Nat):Int) 15=((n.val:Nat):Int)-48:=by decide +kernel
theorem and15 (c:UInt8) (h:digitI c.toNat=true):bits BinOp.and IntKind.u8 (c.toNat:Int) 15=(c.toNat:Int)-48:=and15_fin ⟨c.toNat,c.toNat_lt⟩ h
theorem dig_of (c:UInt8) (h:digitI c.toNat=true):UInt8.ofNat (48+(c.toNat-48))=c:=by
 have:=(digitI_iff _).1 h
 apply UInt8.toNat_inj.1
 rw [UInt8.toNat_ofNat']
 have:=c.toNat_lt
 omega
theorem snoc_ind {P:List UInt8→Prop} (h0:P []) (h1:∀a c,P a→P (a++[c])):∀l,P l:=by
 have:∀n l,l.length=n→P l:=by
  intro n
  induction n with
  | zero=>intro l h;rw [List.eq_nil_of_length_eq_zero h];exact h0
  | succ n ih =>
   intro l h
   have hne:l≠[]:=by intro e;simp [e] at h
   rw [←List.dropLast_concat_getLast hne]
   exact h1 _ _ (ih _ (by simp;omega))
 exact fun l=>this _ l rfl
theorem valL_pos:∀(l:List UInt8),digL l=true→l.head?≠some 48→l≠[]→0<valL l:=by
 refine snoc_ind (fun _ _ h=>absurd rfl h) ?_
 ·intro a c ih hd hh _
  rw [digL_snoc,Bool.and_eq_true,digitI_iff] at hd
  rw [valL_snoc]
  by_cases ha:a=[]
  ·subst ha
   simp [valL]
   have:c≠48:=by intro h;apply hh;simp [h]
   have:c.toNat≠48:=fun h=>this (UInt8.toNat_inj.1 h)
   omega
  ·have:=ih hd.1 (by intro h;apply hh;cases a with|nil=>exact absurd rfl ha|cons x r=>simpa using h) ha
   omega
theorem decR_val:∀(l:List UInt8),digL l=true→l≠[]→(l.head?≠some 48∨l.length=1)→decR (valL l)=l.reverse:=by
 refine snoc_ind (fun _ h _=>absurd rfl h) ?_
 ·intro a c ih hd _ hh
  rw [digL_snoc,Bool.and_eq_true] at hd
  have hc:=(digitI_iff _).1 hd.2
  have hdo:=dig_of c hd.2
  rw [valL_snoc,List.reverse_append]
  by_cases ha:a=[]
  ·subst ha
   rw [decR_eq]
   have h1:10*valL []+(c.toNat-48)=c.toNat-48:=by simp [valL]
   rw [h1,if_pos (by omega),Nat.mod_eq_of_lt (by omega),hdo];rfl
  ·have hh':a.head?≠some 48:=by
    rcases hh with hh|hh
    ·intro h;apply hh;cases a with|nil=>exact absurd rfl ha|cons x r=>simpa using h
    ·simp at hh;exact absurd hh ha
   have hp:=valL_pos a hd.1 hh' ha
   rw [decR_eq,if_neg (by omega)]
   rw [show (10*valL a+(c.toNat-48)) % 10=c.toNat-48 by omega,show (10*valL a+(c.toNat-48)) / 10=valL a by omega,hdo,ih hd.1 ha (.inl hh')];rfl
theorem decL_val (l:List UInt8) (hd:digL l=true) (h1:1≤l.length) (h9:l.length≤9):(decL (valL l)=l)↔¬(l.head? = some 48∧1<l.length):=by
 constructor
 ·rintro h ⟨h2,h3⟩
  cases l with
  | nil=>simp at h1
  | cons x r =>
   simp at h2 h3
   subst h2
   have hv:valL (48::r)=valL r:=by simp [valL]
   have hdr:digL r=true:=by simp [digL] at hd ⊢;exact hd.2
   have hlt:=valL_lt r.length r rfl hdr
   have:=decR_len r.length (valL r) hlt (by omega)
   have h4:=congrArg List.length h
   rw [hv] at h4
   unfold decL at h4
   simp at h4
   omega
 ·intro h
  unfold decL
  rw [decR_val l hd (by intro e;simp [e] at h1) (by
   by_cases e:l.head? = some 48
   ·right
    have:¬1<l.length:=fun h2=>h ⟨e,h2⟩
    omega
   ·exact .inl e)]
  simp
theorem wNumber_any (s:ByteArray) (w:World) (hs:s.size≤9223372036854775807) :
  Calls Tryd.prog 45 #[.string s] w fun e w'=>e=.returned (numV s.data.toList)∧Grw w w':=by
 have HS:=Lib.hid (size_eq s)
 by_cases h1:s.size=0
 ·have HN:=Lib.hid (numV_none (show numL s.data.toList=none by unfold numL;rw [if_pos (by have:=HS.out;omega)]))
  obtain rfl:s=⟨#[]⟩:=eq_bs (List.eq_nil_of_length_eq_zero (by rw [←size_eq];exact h1))
  clear h1
  go_enter Tryd.func45,Tryd.ntmps45
  go_wp2
  go_ret2
  exact⟨by rw [HN.out];rfl,by first|exact Grw.refl _|(repeat (first|exact Grw.refl _|apply Grw.ext|apply Grw.alloc|apply Grw.drewN|apply Grw.drew));done⟩
 have he:=isEmpty_of_pos s (by omega)
 by_cases h9:9<s.size
 ·have HN:=Lib.hid (numV_none (show numL s.data.toList=none by unfold numL;rw [if_pos (by have:=HS.out;omega)]))
  have f1:(9:Int)<(s.size:Int):=by omega
  go_enter Tryd.func45,Tryd.ntmps45
  go_wp2
  go_ret2
  exact⟨by rw [HN.out];rfl,by first|exact Grw.refl _|(repeat (first|exact Grw.refl _|apply Grw.ext|apply Grw.alloc|apply Grw.drewN|apply Grw.drew));done⟩
 have f1:(s.size:Int)≤9:=by omega
 have hb9:decide (9<(s.size:Int))=false:=by simp;omega
 have kc:=fun w:World=>run_bytes_of_string (P:=Tryd.prog) w 9 85 5 s Tryd.underlying9 Tryd.underlying85 Tryd.underlying5
 go_enter Tryd.func45,Tryd.ntmps45
 go_wp2
 clear kc
 have hcell:∀(C:Nat) (fr:Nat×Nat) (k:Nat) (hk:k<s.size),(w.alloc (.cells (bytesRow s C) 5 fr)).cell? ⟨w.heap.size,k,none⟩=some (.int .u8 ((s[k]).toNat:Int)):=by
  intro C fr k hk
  rw [World.cell?_alloc_mark]
  exact bytesRow_at s C k hk
 have HC:=Lib.hid hcell
 clear hcell
 go_loop [4,17] (fun n i=>∃k:Nat,k≤s.size∧i=.int .i64 k∧digL (s.data.toList.take k)=true∧n=.int .i64 (valL (s.data.toList.take k))) (fun _ i=>s.size-(intOf i).toNat)
 case atStart=>exact⟨0,Nat.zero_le _,rfl,rfl,rfl⟩
 case round =>
  obtain⟨k,hk,rfl,hd,rfl⟩:=hrel
  have hv:=valL_lt k _ (by rw [List.length_take];have:=HS.out;omega) hd
  have hv9:10 ^ k≤10 ^ 9:=Nat.pow_le_pow_right (by omega) (by omega)
  have hv10:k<9→10 ^ k≤100000000:=fun h=>(Nat.pow_le_pow_right (by omega) (show k≤8 by omega):10 ^ k≤10 ^ 8)
  have HD:=Lib.hid hd
  clear hd
  by_cases hlt:k<s.size
  ·have hts:=take_snoc s k hlt
   have HV:=Lib.hid (show valL (s.data.toList.take (k+1))=10*valL (s.data.toList.take k)+((s[k]).toNat-48) by rw [hts,valL_snoc])
   have HG:=Lib.hid (show digL (s.data.toList.take (k+1))=(digL (s.data.toList.take k)&&digitI (s[k]).toNat) by rw [hts,digL_snoc])
   have hvb:(valL (s.data.toList.take k):Int)≤100000000:=by have:=hv10 (by omega);omega
   have hv0:(0:Int)≤(valL (s.data.toList.take k):Int):=by omega
   have hck:=fun C fr=>HC.out C fr k hlt
   clear hts hv hv9 hv10
   have f2:(k:Int)<(s.size:Int):=by omega
   cases hdd:digitI (s[k]).toNat
   ·have hn:numL s.data.toList=none:=by
     unfold numL
     by_cases hq:s.data.toList.length<1∨9<s.data.toList.length∨(s.data.toList.head? = some 48∧1<s.data.toList.length)
     ·rw [if_pos hq]
     ·rw [if_neg hq,if_neg]
      intro h
      have:=digL_take _ (k+1) h
      rw [HG.out,hdd] at this
      simp at this
    have HN:=Lib.hid (numV_none hn)
    have HDD:=Lib.hid hdd
    clear hn hdd
    go_wp2_with (go_at_call 50;refine (wDigit_any _ _).mono ?_;rintro e w' ⟨rfl,rfl⟩;rw [HDD.out])
    go_ret2
    exact⟨by rw [HN.out];rfl,by first|exact Grw.refl _|(repeat (first|exact Grw.refl _|apply Grw.ext|apply Grw.alloc|apply Grw.drewN|apply Grw.drew));done⟩
   ·obtain⟨hb48,hb57⟩:=(digitI_iff _).1 hdd
    have h15:=and15 _ hdd
    have HDD:=Lib.hid hdd
    clear hdd
    go_wp2_with (go_at_call 50;refine (wDigit_any _ _).mono ?_;rintro e w' ⟨rfl,rfl⟩;rw [HDD.out])
    go_round
    case rel=>exact⟨k+1,by omega,by go_num,by rw [HG.out,HD.out,HDD.out];rfl,by rw [HV.out];congr 1;omega⟩
    case measure=>simp [intOf];omega
  ·obtain rfl:k=s.size:=by omega
   have hd:=HD.out
   rw [List.take_of_length_le (by have:=HS.out;omega)] at hd hv ⊢
   have hlt:valL s.data.toList<1000000000:=by omega
   have hdv:=decL_val s.data.toList hd (by have:=HS.out;omega) (by have:=HS.out;omega)
   clear hv hv9 hv10
   by_cases hz:s.data.toList.head? = some 48∧1<s.data.toList.length
   ·have HN:=Lib.hid (numV_none (show numL s.data.toList=none by unfold numL;rw [if_pos (.inr (.inr hz))]))
    have e1:(decL (valL s.data.toList)==s.toList)=false:=by rw [toList_eq_data];simp;intro h;exact hdv.1 h hz
    have e2:(decL (valL s.data.toList) != s.toList)=true:=by rw [bne,e1];rfl
    clear hdv hz hd HD
    go_wp2_with (go_at_call 52;refine (wDigits_any _ _ hlt).mono ?_;rintro e w' ⟨rfl,hq⟩;obtain⟨xh,xd,rfl⟩:=hq)
    go_ret2
    exact⟨by rw [HN.out];rfl,by first|exact Grw.refl _|(repeat (first|exact Grw.refl _|apply Grw.ext|apply Grw.alloc|apply Grw.drewN|apply Grw.drew));done⟩
   ·have HN:=Lib.hid (numV_some (show numL s.data.toList=some (valL s.data.toList) by unfold numL;rw [if_neg (by have:=HS.out;rintro (h|h|h);omega;omega;exact hz h),if_pos hd]))
    have e1:(decL (valL s.data.toList)==s.toList)=true:=by rw [toList_eq_data];simp;exact hdv.2 hz
    have e2:(decL (valL s.data.toList) != s.toList)=false:=by rw [bne,e1];rfl
    clear hdv hz hd HD
    go_wp2_with (go_at_call 52;refine (wDigits_any _ _ hlt).mono ?_;rintro e w' ⟨rfl,hq⟩;obtain⟨xh,xd,rfl⟩:=hq)
    go_ret2
    exact⟨by rw [HN.out];rfl,by first|exact Grw.refl _|(repeat (first|exact Grw.refl _|apply Grw.ext|apply Grw.alloc|apply Grw.drewN|apply Grw.drew));done⟩
end Go.Proofs.YtbhmfkjbaklfeaaDoor
