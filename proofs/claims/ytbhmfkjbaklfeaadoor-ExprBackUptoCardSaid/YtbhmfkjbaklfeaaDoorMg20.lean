/- Contracts of the program's layer 2 (word): slices.Reverse at bytes; Digits. -/
import Derived.Test.YtbhmfkjbaklfeaaDoorMg2
import Derived.Deep.LoopGhost
import Derived.Sort.WalkB12
import Derived.Lib.SlicesMore
import Derived.Laws.IdiomStrings
import Derived.RegionTactic
set_option linter.unusedVariables false
set_option maxRecDepth 100000
set_option maxHeartbeats 8000000
set_option linter.unusedSimpArgs false
namespace Go.Proofs.YtbhmfkjbaklfeaaDoor
open Go.RowKit Go.Sort
def encB (c:UInt8):Value:=.int .u8 c.toNat
theorem addr_add' (b o j:Nat):(⟨b,o,none⟩:Addr).add j=⟨b,o+j,none⟩:=by
  unfold Addr.add;split
  · rename_i h;rw [h,Nat.add_zero]
  · rfl
theorem slRevB_any (b off cap:Nat) (d:Array UInt8) (w:World) (hH:Holds encB w b off d) (hsz:d.size≤9223372036854775807) :
    Calls Tryd.prog 58 #[.slice (some ⟨b,off,none⟩) d.size cap] w fun e w'=>e=.returned (.tuple #[])∧∃n,w'=putRow encB (Sort.ahead w n) b off d.reverse:=by
  go_enter Tryd.func58,Tryd.ntmps58
  go_wp2
  go_loopg [2,3] d.size (fun k s2 s3 wr=>∃(i jn:Nat) (jz:Int) (dk:Array UInt8) (n:Nat),s2=.int .i64 i∧s3=.int .i64 jz∧((i:Int)<jz→jz=jn∧jn<d.size)∧(¬(i:Int)<jz→¬i<jn)∧jn-i≤k ∧
    dk.size=d.size∧wr=putRow encB (Sort.ahead w n) b off dk∧reverseLoop i jn dk=reverseLoop 0 (d.size-1) d)
  case atStart=>exact⟨0,d.size-1,(d.size:Int)-1,d,0,rfl,rfl,fun h=>⟨by omega,by omega⟩,fun h=>by omega,by omega,rfl,(putRow_self encB w b off d hH).symm,rfl⟩
  case round =>
    obtain⟨i,jn,jz,dk,n,rfl,rfl,h1,h2,hk,hds,hwr,heq⟩:=hrel
    by_cases hlt:(i:Int)<jz
    · obtain⟨rfl,hjn⟩:=h1 hlt
      have hij:i<jn:=by omega
      have hHk:Holds encB wr b off dk:=by rw [hwr];exact holds_putRow encB _ b off d dk (holds_ahead encB w n b off d hH) hds
      obtain⟨ci,fi⟩:=hHk i (by omega)
      obtain⟨cj,fj⟩:=hHk jn (by omega)
      have H:=Lib.hid hwr
      simp only [encB] at ci cj
      clear hwr hHk hH h1 h2
      go_wp2_with fail
      go_region
      go_wp2
      go_roundg (jn-1-(i+1))
      case measure=>omega
      case rel =>
        rw [reverseLoop,if_pos hij] at heq
        exact⟨i+1,jn-1,(jn:Int)-1,swp dk i jn,n+1,by simp,rfl,fun h=>⟨by omega,by omega⟩,fun h=>by omega,Nat.le_refl _,by rw [size_swp];exact hds,
          swap_world encB (by omega) (by omega) H.out (by first|rfl|simp [encB,getElem!_pos,show jn<dk.size by omega]) (by first|rfl|simp [encB,getElem!_pos,show i<dk.size by omega]),heq⟩
    · have hnot:=h2 hlt
      go_wp2
      go_end0
      refine⟨rfl,n,?_⟩
      rw [reverseLoop,if_neg hnot] at heq
      rw [←Lib.reverseLoop_reverse,←heq]
theorem slRevB_own (base g cap:Nat) (l:List UInt8) (w:World) (hown:w.ownsRow base 5 1 (.slice (some ⟨g,0,none⟩) l.length cap) l.length (l.map encB)) (hn:0<l.length) (hsz:l.length≤1000000) :
    Calls Tryd.prog 58 #[.slice (some ⟨g,0,none⟩) l.length cap] w fun e w'=>e=.returned (.tuple #[])∧Below base w w'∧∀j (hj:j<l.reverse.length),w'.cell? ((⟨g,0,none⟩:Addr).add j)=some (.int .u8 (l.reverse[j].toNat:Int)):=by
  have hbase:base≤g:=(hown.lt g rfl).1
  have hH:Holds encB w g 0 l.toArray:=by
    intro j hj
    rw [Nat.zero_add]
    refine⟨?_,hown.frozenAt j⟩
    rw [hown.cellAt j (by simpa using hj)]
    simp at hj
    simp [hj]
  have h:=slRevB_any g 0 cap l.toArray w hH (by simp;omega)
  simp only [List.size_toArray] at h
  refine h.mono fun e w' ⟨he,n,hw⟩=>⟨he,?_,?_⟩
  · subst hw
    refine⟨rfl,rfl,rfl,by simp [Sort.ahead],fun k hk=>?_⟩
    show ((Sort.ahead w n).heap.modify g _)[k]? = _
    rw [Array.getElem?_modify,if_neg (by omega)];rfl
  · intro j hj
    subst hw
    have hH2:=holds_ahead encB w n g 0 _ hH
    have hj':j<l.length:=by simpa using hj
    have:=cell?_putRow encB (Sort.ahead w n) g 0 l.toArray l.toArray.reverse hH2 (by simp) j (by simpa using hj')
    rw [addr_add']
    rw [Nat.zero_add] at this ⊢
    rw [this]
    simp [encB,hj']
def decR (n:Nat):List UInt8:=if n<10 then [UInt8.ofNat (48+n % 10)] else UInt8.ofNat (48+n % 10)::decR (n / 10)
termination_by n
decreasing_by omega
def decL (n:Nat):List UInt8:=(decR n).reverse
theorem decR_eq (n:Nat):decR n=UInt8.ofNat (48+n % 10)::(if n<10 then [] else decR (n / 10)):=by
  rw [decR];split<;>rfl
theorem encB_dig (m:Nat):encB (UInt8.ofNat (48+m % 10))=.int .u8 (48+(m:Int) % 10):=by
  unfold encB
  congr 1
  rw [UInt8.toNat_ofNat']
  omega
theorem info_u8:(Tryd.prog.info? 5).map (fun i=>(i.zero,i.size,i.bytes))=some (some (.int .u8 0),1,1):=by kernel_rfl
theorem decR_len:∀(k n:Nat),n<10 ^ k→0<k→(decR n).length≤k
  | 0,_,_,h=>by omega
  | k+1,n,h,_=>by
    rw [decR_eq,List.length_cons]
    split
    · simp
    · have h2:n / 10<10 ^ k:=by rw [Nat.pow_succ] at h;omega
      have:0<k:=by
        rcases Nat.eq_zero_or_pos k with rfl|h0
        · simp at h;omega
        · exact h0
      have:=decR_len k (n / 10) h2 this
      omega
theorem wDigits_any (n:Nat) (w:World) (hn:n<1000000000) :
    Calls Tryd.prog 52 #[.int .i64 n] w fun e w'=>e=.returned (.string (bs (decL n)))∧Grw w w':=by
  obtain⟨i0,hi0,hz0,hz1,hz2⟩:=info_parts info_u8
  have hl9:=decR_len 9 n (by omega) (by omega)
  go_enter Tryd.func52,Tryd.ntmps52
  go_wp2_with (first
    | (at_builtin
       refine wpList_append_own _ rfl _ _ 85 rfl w.heap.size 5 i0 _ 1 1 Tryd.underlying85 hi0 hz0 hz1 hz2 rfl (by decide) (.slice none 0 0) 0 [] rfl (World.ownsRow_nil _ _ _ _) ⟨w.heap.size,0,none⟩ 1 1 [.int .u8 (48+(n:Int) % 10)] rfl rfl ?c1 ?c2 ?c3 ?c4 ?c5 ?_
       case c1=>exact news_alloc _ #[_] _ _ (by simp)
       case c2=>simp [Value.oneCell']
       case c3=>simp only [maxLen];omega
       case c4=>omega
       case c5=>simp
       intro v' w1 hown1 hgrow _))
  obtain⟨gg,cap,rfl,hgg,_⟩:=hown1.form (by omega)
  obtain⟨xh,xd,rfl⟩:Grw w w1:=Grw.grown (by first|exact Grw.refl _|(repeat (first|exact Grw.refl _|apply Grw.ext|apply Grw.alloc|apply Grw.drewN|apply Grw.drew));done) hgrow (fun k hk=>by cases hk)
  rw [←encB_dig] at hown1
  have HN:=Lib.hid (decR_eq n)
  go_loopw [3,4] (fun sz b wr=>∃(m cap:Nat) (acc:List UInt8) (A:Option Addr) (xh:Array Obj) (xd:Nat),m<1000000000∧sz=.int .u64 m∧0<acc.length∧acc.length≤9∧b=.slice A acc.length cap∧decR n=acc++(if m<10 then [] else decR (m / 10)) ∧
    wr=wext w xh xd∧wr.ownsRow w.heap.size 5 1 (.slice A acc.length cap) acc.length (acc.map encB)) (fun sz _ _=>(intOf sz).toNat)
  case atStart=>exact⟨n,cap,[UInt8.ofNat (48+n % 10)],_,xh,xd,hn,rfl,by simp,by simp,rfl,HN.out,rfl,hown1⟩
  case round =>
    obtain⟨m,cap,acc,A,xh,xd,hm,rfl,hp,hl9',rfl,hd,rfl,hown⟩:=hrel
    by_cases hlt:m<10
    · rw [if_pos hlt,List.append_nil] at hd
      have HD:=Lib.hid hd
      clear hd
      have f1:¬(10:Int)≤(m:Int):=by omega
      obtain⟨gg',cap',hv,_,_⟩:=hown.form (by omega)
      injection hv with hA hc hcap
      subst hA
      subst hcap
      have hkb:=fun (w:World) (hc:∀j (hj:j<acc.reverse.length),w.cell? ((⟨gg',0,none⟩:Addr).add j)=some (.int .u8 (acc.reverse[j].toNat:Int)))=>run_convert_bytes_back (P:=Tryd.prog) w 85 9 5 ⟨gg',0,none⟩ cap acc.reverse Tryd.underlying85 Tryd.underlying5 Tryd.underlying9 hc
      have HKB:=Lib.hid hkb
      clear hkb
      go_wp2_with fail
      refine (slRevB_own w.heap.size gg' cap acc _ hown hp (by omega)).mono ?_
      rintro e w' ⟨rfl,hb,hcell⟩
      have hrun:=HKB.out w' hcell
      rw [List.length_reverse] at hrun
      have HC:=Lib.hid hcell
      clear hcell
      go_wp2
      go_ret
      exact⟨ret_string (by unfold decL;rw [HD.out];rfl),Grw.of_below (((Grw.refl w).ext _ _).below.trans hb)⟩
    · rw [if_neg hlt] at hd
      have hl:=hl9
      rw [hd,List.length_append] at hl
      have h1:0<(decR (m / 10)).length:=by rw [decR_eq];simp
      rw [decR_eq (m / 10)] at hd
      have HD:=Lib.hid hd
      have f1:(10:Int)≤(m:Int):=by omega
      clear hd
      go_wp2_with (first
        | (at_builtin
           refine wpList_append_own _ rfl _ _ 85 rfl w.heap.size 5 i0 _ 1 1 Tryd.underlying85 hi0 hz0 hz1 hz2 rfl (by decide) (.slice A acc.length cap) acc.length (acc.map encB) rfl (hown.alloc _) ⟨xh.size+w.heap.size,0,none⟩ 1 1 [.int .u8 (48+(m:Int) / 10 % 10)] rfl rfl ?d1 ?d2 ?d3 ?d4 ?d5 ?_
           case d1=>exact news_alloc _ #[_] _ _ (by simp [wext_size])
           case d2=>simp [Value.oneCell']
           case d3=>simp only [maxLen];omega
           case d4=>omega
           case d5=>simp only [wext_size,World.size_alloc];omega
           intro v' w1 hown1 hgrow _
           obtain⟨gg',cap',rfl,_,_⟩:=hown1.form (by omega)
           obtain⟨yh,yd,rfl⟩:Grw w w1:=Grw.grown (by first|exact Grw.refl _|(repeat (first|exact Grw.refl _|apply Grw.ext|apply Grw.alloc|apply Grw.drewN|apply Grw.drew));done) hgrow (fun k hk=>by have:=hown.lt k hk;omega)))
      have hE:=encB_dig (m / 10)
      rw [show ((m / 10:Nat):Int)=(m:Int) / 10 by omega] at hE
      rw [←hE] at hown1
      have hrel2:∃(m2 cap:Nat) (acc2:List UInt8) (A:Option Addr) (xh:Array Obj) (xd:Nat),m2<1000000000∧Value.int .u64 ((m:Int) / 10)=.int .u64 m2∧0<acc2.length∧acc2.length≤9∧Value.slice (some ⟨gg',0,none⟩) (acc.length+1) cap'=.slice A acc2.length cap∧decR n=acc2++(if m2<10 then [] else decR (m2 / 10)) ∧
          wext w yh yd=wext w xh xd∧(wext w yh yd).ownsRow w.heap.size 5 1 (.slice A acc2.length cap) acc2.length (acc2.map encB) :=
        ⟨m / 10,cap',acc++[UInt8.ofNat (48+m / 10 % 10)],some ⟨gg',0,none⟩,yh,yd,by omega,by go_num,by simp,by simp;omega,by rw [List.length_append];rfl,by rw [HD.out,List.append_assoc];rfl,rfl,by
          rw [List.length_append,List.map_append];exact hown1⟩
      go_roundw
      case rel=>first|exact hrel2|((repeat apply Exists.intro);exact⟨hrel2,rfl⟩)
      case measure=>simp [intOf];omega
end Go.Proofs.YtbhmfkjbaklfeaaDoor
