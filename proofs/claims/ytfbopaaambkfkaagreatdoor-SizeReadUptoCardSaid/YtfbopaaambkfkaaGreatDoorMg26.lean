/- Contracts of the document's answer for layer 2 (demesneref02): what each function returns, at any string shorter than 10^9 bytes; nothing that was there is written. -/
import Derived.Test.YtfbopaaambkfkaaGreatDoorMg2
import Derived.Outline
import Derived.Maps.AppendAt
import Derived.Deep.AppendLies
set_option linter.unusedVariables false
set_option maxRecDepth 100000
set_option maxHeartbeats 8000000
set_option linter.unusedSimpArgs false
namespace Go.Proofs.YtfbopaaambkfkaaGreatDoor
open Go.RowKit

theorem qci (c:Int) (w:World) :
    Calls Tryz.prog 56 #[.int .u8 c] w fun e w'=>e=.returned (.bool (qf5 c))∧w=w':=by
  go_enter Tryz.func56,Tryz.ntmps56
  go_wp2
  all_goals (go_ret;exact⟨qb9 (by rw [Bool.eq_iff_iff];simp [qf5];try omega),rfl⟩)
def valL (l:List UInt8):Nat:=l.foldl (fun n c=>10*n+(c.toNat-48)) 0
def digL (l:List UInt8):Bool:=l.all fun c=>qby c.toNat
def numL (l:List UInt8):Option Nat :=
  if l.length<1∨9<l.length∨(l.head? = some 48∧1<l.length) then none else if digL l then some (valL l) else none
theorem qi5 (l:List UInt8) (c:UInt8):valL (l++[c])=10*valL l+(c.toNat-48):=by simp [valL]
theorem qjy (l:List UInt8) (c:UInt8):digL (l++[c])=(digL l&&qby c.toNat):=by simp [digL]
theorem qhy (c:Int):qby c=true↔48≤c∧c≤57:=by simp [qby]
theorem valL_lt:∀(n:Nat) (l:List UInt8),l.length=n→digL l=true→valL l<10 ^ n:=by
  intro n
  induction n with
  | zero=>intro l h _;simp [List.length_eq_zero_iff.1 h,valL]
  | succ n ih =>
    intro l h hd
    obtain⟨a,c,rfl⟩:∃a c,l=a++[c]:=⟨l.dropLast,l.getLast (by intro e;simp [e] at h),(List.dropLast_concat_getLast _).symm⟩
    simp at h
    rw [qjy,Bool.and_eq_true,qhy] at hd
    have:=ih a h hd.1
    rw [qi5,Nat.pow_succ]
    omega
theorem qja (s:ByteArray) (k:Nat) (h:k<s.size):s.data.toList.take (k+1)=s.data.toList.take k++[s[k]]:=by
  rw [List.take_succ_eq_append_getElem (by simpa using h)];rfl
theorem digL_take (l:List UInt8) (k:Nat) (h:digL l=true):digL (l.take k)=true:=by
  simp only [digL,List.all_eq_true] at *
  exact fun x hx=>h x (List.mem_of_mem_take hx)
def numV (l:List UInt8):Value:=match numL l with|none=>.tuple #[.int .i64 0,.bool false]|some n=>.tuple #[.int .i64 n,.bool true]
theorem qfh {l:List UInt8} (h:numL l=none):numV l=.tuple #[.int .i64 0,.bool false]:=by rw [numV,h]
theorem numV_some {l:List UInt8} {n:Nat} (h:numL l=some n):numV l=.tuple #[.int .i64 n,.bool true]:=by rw [numV,h]
theorem head_zero (s:ByteArray) (h:0<s.size):s.data.toList.head? = some s[0]:=by
  have:=qcg s 0 h
  rw [List.drop_zero] at this
  rw [this];rfl
theorem beq_u8 (c:UInt8) (n:Nat) (h:n<256):(((c.toNat:Nat):Int)==(n:Int))=(c==UInt8.ofNat n):=by
  rw [Bool.eq_iff_iff]
  simp only [beq_iff_eq]
  constructor
  · intro e
    apply UInt8.toNat_inj.1
    simp;omega
  · rintro rfl
    simp;omega
theorem qcr (s:ByteArray) (w:World) (hs:s.size≤1000000000) :
    Calls Tryz.prog 29 #[.string s] w fun e w'=>e=.returned (numV s.data.toList)∧w=w':=by
  have HS:=Lib.hid (qb0 s)
  by_cases h1:s.size<1
  · have hn:numL s.data.toList=none:=by unfold numL;rw [if_pos (by have:=HS.out;omega)]
    have HN:=Lib.hid (qfh hn)
    clear hn
    go_enter Tryz.func29,Tryz.ntmps29
    go_wp2
    go_ret2
    exact⟨by rw [HN.out];rfl,rfl⟩
  by_cases h9:9<s.size
  · have hn:numL s.data.toList=none:=by unfold numL;rw [if_pos (by have:=HS.out;omega)]
    have HN:=Lib.hid (qfh hn)
    clear hn
    go_enter Tryz.func29,Tryz.ntmps29
    go_wp2
    go_ret2
    exact⟨by rw [HN.out];rfl,rfl⟩
  have hh:=head_zero s (by omega)
  have hpos:(0:Int)<(s.size:Int):=by omega
  by_cases hz:s[0]=48∧1<s.size
  · have hn:numL s.data.toList=none:=by unfold numL;rw [if_pos (Or.inr (Or.inr ⟨by rw [hh,hz.1],by have:=HS.out;omega⟩))]
    have HN:=Lib.hid (qfh hn)
    obtain⟨hz,h2⟩:=hz
    have hz':(((s[0]).toNat:Int)==48)=true:=by rw [hz];rfl
    clear hn hh hz
    go_enter Tryz.func29,Tryz.ntmps29
    go_wp2
    go_ret2
    exact⟨by rw [HN.out];rfl,rfl⟩
  · have HL:=Lib.hid (show numL s.data.toList=if digL s.data.toList then some (valL s.data.toList) else none by
      unfold numL
      rw [if_neg]
      rintro (h|h|⟨h,h'⟩)
      · have:=HS.out;omega
      · have:=HS.out;omega
      · exact hz ⟨Option.some.inj (hh.symm.trans h),by have:=HS.out;omega⟩)
    have hb1:decide ((s.size:Int)<1)=false:=by simp;omega
    have hb9:decide (9<(s.size:Int))=false:=by simp;omega
    have hc:((((s[0]).toNat:Int)==48)=true∧decide (1<(s.size:Int))=false)∨(((s[0]).toNat:Int)==48)=false:=by
      by_cases e:s[0]=48
      · left
        exact⟨by rw [e];rfl,decide_eq_false (fun h=>hz ⟨e,by omega⟩)⟩
      · right
        rw [show (48:Int)=((48:Nat):Int) from rfl,beq_u8 _ 48 (by omega)]
        simpa using e
    clear hz hh
    rcases hc with ⟨hc,hc2⟩|hc
    all_goals
      go_enter Tryz.func29,Tryz.ntmps29
      go_wp2
      go_loop [4,5] (fun n i=>∃k:Nat,k≤s.size∧i=.int .i64 k∧digL (s.data.toList.take k)=true∧n=.int .i64 (valL (s.data.toList.take k))) (fun _ i=>s.size-(intOf i).toNat)
      case atStart=>exact⟨0,Nat.zero_le _,rfl,rfl,rfl⟩
      case round =>
        obtain⟨k,hk,rfl,hd,rfl⟩:=hrel
        have hv:=valL_lt k _ (by rw [List.length_take];have:=HS.out;omega) hd
        have hv9:10 ^ k≤10 ^ 9:=Nat.pow_le_pow_right (by omega) (by omega)
        have hv10:k<9→10 ^ k≤100000000:=fun h=>(Nat.pow_le_pow_right (by omega) (show k≤8 by omega):10 ^ k≤10 ^ 8)
        have HD:=Lib.hid hd
        clear hd
        by_cases hlt:k<s.size
        · have hts:=qja s k hlt
          have HV:=Lib.hid (show valL (s.data.toList.take (k+1))=10*valL (s.data.toList.take k)+((s[k]).toNat-48) by rw [hts,qi5])
          have HG:=Lib.hid (show digL (s.data.toList.take (k+1))=(digL (s.data.toList.take k)&&qby (s[k]).toNat) by rw [hts,qjy])
          have hvb:(valL (s.data.toList.take k):Int)≤100000000:=by have:=hv10 (by omega);omega
          have hv0:(0:Int)≤(valL (s.data.toList.take k):Int):=by omega
          clear hts hv hv9 hv10
          cases hdd:qby (s[k]).toNat
          · have hn:numL s.data.toList=none:=by
              rw [HL.out,if_neg]
              intro h
              have:=digL_take _ (k+1) h
              rw [HG.out,hdd] at this
              simp at this
            have HN:=Lib.hid (qfh hn)
            have HDD:=Lib.hid hdd
            clear hn hdd
            go_wp2_with (go_at_call 58;refine (qa0 _ _).mono ?_;rintro e w' ⟨rfl,rfl⟩;rw [HDD.out])
            go_ret2
            exact⟨by rw [HN.out];rfl,rfl⟩
          · obtain⟨hb48,hb57⟩:=(qhy _).1 hdd
            have HDD:=Lib.hid hdd
            clear hdd
            go_wp2_with (go_at_call 58;refine (qa0 _ _).mono ?_;rintro e w' ⟨rfl,rfl⟩;rw [HDD.out])
            go_round
            case rel=>exact⟨k+1,by omega,by go_num,by rw [HG.out,HD.out,HDD.out];rfl,by rw [HV.out];congr 1;omega⟩
            case measure=>simp [intOf];omega
        · obtain rfl:k=s.size:=by omega
          have hn:numL s.data.toList=some (valL s.data.toList):=by
            rw [HL.out,if_pos]
            have:=HD.out
            rwa [List.take_of_length_le (by have:=HS.out;omega)] at this
          have HN:=Lib.hid (numV_some hn)
          clear hn hv hv9 hv10
          go_wp2
          go_ret2
          exact⟨by rw [HN.out];rw [List.take_of_length_le (by have:=HS.out;omega)];rfl,rfl⟩
def sk:Bool→List UInt8→Nat
  | _,[]=>0
  | true,c::r=>if c.toNat=10 then 1+sk false r else 1+sk true r
  | false,c::r=>if qf5 c.toNat then 1+sk false r else if c.toNat=47∧(r.head?.map UInt8.toNat)=some 47 then 1+sk true r else 0
theorem sk_le:∀(l:List UInt8) (b:Bool),sk b l≤l.length
  | [],b=>by cases b<;>simp [sk]
  | c::r,b=>by
    have h1:=sk_le r true
    have h2:=sk_le r false
    cases b<;>simp only [sk,List.length_cons]<;>(repeat' split)<;>omega
theorem sk_blank (c:UInt8) (r:List UInt8) (h:qf5 c.toNat=true):sk false (c::r)=1+sk false r:=by simp only [sk,h,if_true]
theorem qkc (c:UInt8) (r:List UInt8) (h:qf5 c.toNat=false) (h2:¬(c.toNat=47∧(r.head?.map UInt8.toNat)=some 47)):sk false (c::r)=0:=by simp only [sk,h,Bool.false_eq_true,if_false,if_neg h2]
theorem sk_remark (c:UInt8) (r:List UInt8) (h:qf5 c.toNat=false) (h2:c.toNat=47∧(r.head?.map UInt8.toNat)=some 47):sk false (c::r)=sk true (c::r):=by
  have h3:¬c.toNat=10:=by omega
  simp only [sk,h,Bool.false_eq_true,if_false,if_pos h2,if_neg h3]
theorem sk_on (c:UInt8) (r:List UInt8) (h:¬c.toNat=10):sk true (c::r)=1+sk true r:=by simp only [sk,if_neg h]
theorem sk_line (c:UInt8) (r:List UInt8) (h:c.toNat=10):sk true (c::r)=sk false (c::r):=by
  have hb:qf5 c.toNat=true:=by rw [h];rfl
  simp only [sk,if_pos h,hb,if_true]
theorem head_drop (s:ByteArray) (k:Nat):(s.data.toList.drop k).head?.map UInt8.toNat=if h:k<s.size then some (s[k]).toNat else none:=by
  split
  · rename_i h;rw [qcg s k h];rfl
  · rename_i h;rw [qei s k (by omega)];rfl

theorem qgn (s:ByteArray) (w:World) (hs:s.size≤1000000000) :
    Calls Tryz.prog 27 #[.string s] w fun e w'=>e=.returned (.int .i64 (sk false s.data.toList))∧w=w':=by
  go_enter Tryz.func27,Tryz.ntmps27
  go_wp2
  go_loop [3] (fun i=>∃k:Nat,k≤s.size∧i=.int .i64 k∧sk false s.data.toList=k+sk false (s.data.toList.drop k)) (fun i=>s.size-(intOf i).toNat)
  case atStart=>exact⟨0,by omega,rfl,by simp⟩
  case round =>
    obtain⟨k,hk,rfl,hf⟩:=hrel
    by_cases hlt:k<s.size
    · have hd:=qcg s k hlt
      have hh:=head_drop s (k+1)
      rw [hd] at hf
      have HF:=Lib.hid hf
      have HH:=Lib.hid hh
      have HD:=Lib.hid hd
      clear hf hd hh
      cases hbl:qf5 (s[k]).toNat
      · have HB:=Lib.hid hbl
        clear hbl
        by_cases h47:((s[k]).toNat:Int)=47
        · have b1:(((s[k]).toNat:Int) != 47)=false:=by simp [h47]
          have H47:=Lib.hid h47
          clear h47
          by_cases hlt1:k+1<s.size
          · have f1:(k:Int)+1<(s.size:Int):=by omega
            by_cases h48:((s[k+1]).toNat:Int)=47
            · have b2:(((s[k+1]).toNat:Int) != 47)=false:=by simp [h48]
              have H48:=Lib.hid h48
              clear h48
              have hc:(s[k]).toNat=47∧((s.data.toList.drop (k+1)).head?.map UInt8.toNat)=some 47:=⟨by have:=H47.out;omega,by rw [HH.out,dif_pos hlt1];have:=H48.out;congr 1;omega⟩
              have HS2:=Lib.hid (sk_remark _ _ HB.out hc)
              clear hc
              go_wp2_with (go_at_call 56;refine (qci _ _).mono ?_;rintro e w' ⟨rfl,rfl⟩;rw [HB.out])
              go_loop [3] (fun i=>∃j:Nat,k≤j∧j≤s.size∧i=.int .i64 j∧(j=k∨True)∧sk false s.data.toList=j+sk true (s.data.toList.drop j)) (fun i=>s.size-(intOf i).toNat)
              case atStart=>exact⟨k,Nat.le_refl _,hk,rfl,.inr trivial,by rw [HF.out,HS2.out,HD.out]⟩
              case round =>
                obtain⟨j,hj1,hj2,rfl,_,hf⟩:=hrel
                by_cases hltj:j<s.size
                · have hd:=qcg s j hltj
                  rw [hd] at hf
                  have HF:=Lib.hid hf
                  have HD:=Lib.hid hd
                  clear hf hd
                  by_cases h10:((s[j]).toNat:Int)=10
                  · have b3:(((s[j]).toNat:Int) != 10)=false:=by simp [h10]
                    have HS3:=Lib.hid (sk_line s[j] (s.data.toList.drop (j+1)) (by omega))
                    have H10:=Lib.hid h10
                    clear h10
                    go_wp2
                    go_round
                    case rel=>exact⟨j,hj2,rfl,by rw [HF.out,HS3.out,HD.out]⟩
                    case measure =>
                      simp [intOf]
                      have:j≠k:=by rintro rfl;have:=H47.out;have:=H10.out;omega
                      omega
                  · have b3:(((s[j]).toNat:Int) != 10)=true:=by simp [h10]
                    have HS3:=Lib.hid (sk_on s[j] (s.data.toList.drop (j+1)) (by omega))
                    have H10:=Lib.hid h10
                    clear h10
                    go_wp2
                    go_round
                    case rel=>exact⟨j+1,by omega,by omega,by go_num,.inr trivial,by rw [HF.out,HS3.out];omega⟩
                    case measure=>simp [intOf];omega
                · obtain rfl:j=s.size:=by omega
                  have HF:=Lib.hid hf
                  clear hf
                  go_wp2
                  go_round
                  case rel=>exact⟨s.size,Nat.le_refl _,rfl,by rw [HF.out,qei _ _ (Nat.le_refl _)];rfl⟩
                  case measure=>simp [intOf];omega
            · have b2:(((s[k+1]).toNat:Int) != 47)=true:=by simp [h48]
              have HS2:=Lib.hid (qkc s[k] (s.data.toList.drop (k+1)) HB.out (by rintro⟨_,h⟩;rw [HH.out,dif_pos hlt1] at h;injection h with h;omega))
              have H48:=Lib.hid h48
              clear h48
              go_wp2_with (go_at_call 56;refine (qci _ _).mono ?_;rintro e w' ⟨rfl,rfl⟩;rw [HB.out])
              go_ret
              exact⟨qdk (by rw [HF.out,HS2.out];simp),rfl⟩
          · have HS2:=Lib.hid (qkc s[k] (s.data.toList.drop (k+1)) HB.out (by rintro⟨_,h⟩;rw [HH.out,dif_neg hlt1] at h;cases h))
            have f1:(s.size:Int)≤(k:Int)+1:=by omega
            go_wp2_with (go_at_call 56;refine (qci _ _).mono ?_;rintro e w' ⟨rfl,rfl⟩;rw [HB.out])
            go_ret
            exact⟨qdk (by rw [HF.out,HS2.out];simp),rfl⟩
        · have b1:(((s[k]).toNat:Int) != 47)=true:=by simp [h47]
          have HS2:=Lib.hid (qkc s[k] (s.data.toList.drop (k+1)) HB.out (by rintro⟨h,_⟩;omega))
          have H47:=Lib.hid h47
          clear h47
          go_wp2_with (go_at_call 56;refine (qci _ _).mono ?_;rintro e w' ⟨rfl,rfl⟩;rw [HB.out])
          all_goals
            go_ret
            exact⟨qdk (by rw [HF.out,HS2.out];simp),rfl⟩
      · have HS2:=Lib.hid (sk_blank s[k] (s.data.toList.drop (k+1)) hbl)
        have HB:=Lib.hid hbl
        clear hbl
        go_wp2_with (go_at_call 56;refine (qci _ _).mono ?_;rintro e w' ⟨rfl,rfl⟩;rw [HB.out])
        go_round
        case rel=>exact⟨k+1,by omega,by go_num,by rw [HF.out,HS2.out];omega⟩
        case measure=>simp [intOf];omega
    · obtain rfl:k=s.size:=by omega
      have HF:=Lib.hid hf
      clear hf
      go_wp2
      go_ret
      exact⟨qdk (by rw [HF.out,qei _ _ (Nat.le_refl _)];simp [sk]),rfl⟩

def sgs:List UInt8:=[123,125,40,41,60,62,44,59,46,61,43,45,42,33]
def qdy (l:List UInt8):List UInt8 :=
  if l.take 2=[61,61]∨l.take 2=[38,38] then l.take 2
  else match l with
    | []=>[]
    | c::_=>if c∈sgs then [c] else []
theorem qjb {l:List UInt8} (h:l.take 2=[61,61]∨l.take 2=[38,38]):qdy l=l.take 2:=by unfold qdy;rw [if_pos h]
theorem signL_one {c:UInt8} {r:List UInt8} (h:¬((c::r).take 2=[61,61]∨(c::r).take 2=[38,38])):qdy (c::r)=if c∈sgs then [c] else []:=by unfold qdy;rw [if_neg h]
theorem sgs_at (sg:ByteArray) (h:sg=⟨#[123,125,40,41,60,62,44,59,46,61,43,45,42,33]⟩) (k:Nat) (hk:k<sg.size):sgs.take (k+1)=sgs.take k++[sg[k]]:=by
  have:sgs=sg.data.toList:=by rw [h];rfl
  rw [this,qja sg k hk]
theorem qgo (s:ByteArray) (w:World) (hs:s.size≤1000000000) :
    Calls Tryz.prog 60 #[.string s] w fun e w'=>e=.returned (.string (bs (qdy s.data.toList)))∧Qt w w':=by
  by_cases h0:s.size=0
  · have hl:s.data.toList=[]:=List.eq_nil_of_length_eq_zero (by rw [←qb0];exact h0)
    obtain rfl:s=⟨#[]⟩:=qjv hl
    clear hl h0
    go_enter Tryz.func60,Tryz.ntmps60
    go_wp2
    go_loop [4] (fun i=>i=.int .i64 0) (fun i=>0)
    case atStart=>rfl
    case round =>
      subst hrel
      go_wp2
      go_ret
      exact⟨rfl,Qt.refl _⟩
  have f0:0<s.size:=by omega
  have he:=qen s f0
  have hcons:=qcg s 0 f0
  rw [List.drop_zero] at hcons
  have HC:=Lib.hid hcons
  have ht2:=qcx s 2
  have HT:=Lib.hid ht2
  have e1:((s.extract 0 2).toList==[61,61])=decide (s.data.toList.take 2=[61,61]):=by rw [qa9,ht2,Bool.eq_iff_iff];simp
  have e2:((s.extract 0 2).toList==[38,38])=decide (s.data.toList.take 2=[38,38]):=by rw [qa9,ht2,Bool.eq_iff_iff];simp
  have hlen:s.data.toList.take 2=[61,61]∨s.data.toList.take 2=[38,38]→1<s.size:=by
    intro h
    have:2≤(s.data.toList.take 2).length:=by rcases h with h|h<;>rw [h]<;>simp
    rw [List.length_take] at this
    have:=qb0 s
    omega
  clear hcons ht2
  by_cases h2:s.data.toList.take 2=[61,61]
  · have h1:=hlen (.inl h2)
    have f2:(2:Int)≤(s.size:Int):=by omega
    have f1:(1:Int)<(s.size:Int):=by omega
    have HS:=Lib.hid (qjb (.inl h2))
    have b2:((s.extract 0 2).toList==[61,61])=true:=by rw [e1];simpa using h2
    clear e1 e2 hlen h2
    go_enter Tryz.func60,Tryz.ntmps60
    go_wp2
    go_ret
    exact⟨qef (by rw [HS.out];exact qjv HT.out),Qt.refl _⟩
  by_cases h3:s.data.toList.take 2=[38,38]
  · have h1:=hlen (.inr h3)
    have f2:(2:Int)≤(s.size:Int):=by omega
    have f1:(1:Int)<(s.size:Int):=by omega
    have HS:=Lib.hid (qjb (.inr h3))
    have b2:((s.extract 0 2).toList==[61,61])=false:=by rw [e1];simpa using h2
    have b3:((s.extract 0 2).toList==[38,38])=true:=by rw [e2];simpa using h3
    clear e1 e2 hlen h2 h3
    go_enter Tryz.func60,Tryz.ntmps60
    go_wp2
    go_ret
    exact⟨qef (by rw [HS.out];exact qjv HT.out),Qt.refl _⟩
  have hso:qdy s.data.toList=if s[0]∈sgs then [s[0]] else []:=by
    rw [HC.out] at h2 h3 ⊢
    exact signL_one (fun h=>h.elim h2 h3)
  have HS:=Lib.hid hso
  have ht1:=qcx s 1
  rw [HC.out] at ht1
  have HT1:=Lib.hid ht1
  have h2':decide (1<(s.size:Int))=true∧((s.extract 0 2).toList==[61,61])=false∧((s.extract 0 2).toList==[38,38])=false∧(2:Int)≤(s.size:Int)∨decide (1<(s.size:Int))=false:=by
    by_cases h1:1<s.size
    · exact .inl ⟨by simp;omega,by rw [e1];simpa using h2,by rw [e2];simpa using h3,by omega⟩
    · exact .inr (by simp;omega)
  obtain⟨sg,hsg⟩:∃x:ByteArray,x=⟨#[123,125,40,41,60,62,44,59,46,61,43,45,42,33]⟩:=⟨_,rfl⟩
  have z1:sg.size≤14:=by rw [hsg];exact Nat.le_refl _
  have z2:14≤sg.size:=by rw [hsg];exact Nat.le_refl _
  have HSG:=Lib.hid hsg
  clear h2 h3 e1 e2 hlen hso ht1
  rcases h2' with ⟨b1,b2,b3,f2⟩|b1
  all_goals
    go_enter Tryz.func60,Tryz.ntmps60
    go_wp2
    rw [←hsg]
    clear hsg
    go_loopw [4] (fun i wr=>∃k n:Nat,k≤14∧i=.int .i64 k∧s[0]∉sgs.take k∧wr=w.drewN n) (fun i _=>14-(intOf i).toNat)
    case atStart=>exact⟨0,0,by omega,rfl,by simp,rfl⟩
    case round =>
      obtain⟨k,n,hk,rfl,hn,rfl⟩:=hrel
      have HN:=Lib.hid hn
      clear hn
      by_cases hlt:k<14
      · have f3:(k:Int)<(sg.size:Int):=by omega
        have HA:=Lib.hid (sgs_at sg HSG.out k (by omega))
        have hu:=u8_eq_iff sg[k] s[0]
        cases hq:(sg[k]==s[0])
        · rw [hq] at hu
          have HQ:=Lib.hid hq
          clear hq
          go_wp2
          go_quiet (fail)
          go_wp2
          go_roundw
          case rel=>exact⟨k+1,n+nq,by omega,by go_num,by
            rw [HA.out,List.mem_append]
            rintro (h|h)
            · exact HN.out h
            · have:=HQ.out
              simp only [List.mem_singleton] at h
              rw [h] at this
              simp at this,rfl⟩
          case measure=>simp [intOf];omega
        · rw [hq] at hu
          have HQ:=Lib.hid hq
          clear hq
          go_wp2
          go_quiet (fail)
          go_wp2
          go_ret
          refine⟨qef ?_,Qt.mk' _ _⟩
          rw [HS.out,if_pos]
          · exact qjv HT1.out
          · have h:=HA.out
            have h2:s[0]∈sgs.take (k+1):=by rw [h,←beq_iff_eq.1 HQ.out];simp
            exact List.mem_of_mem_take h2
      · have f3:(sg.size:Int)≤(k:Int):=by omega
        go_wp2
        go_ret
        refine⟨qef ?_,Qt.mk' _ _⟩
        rw [HS.out,if_neg]
        · rfl
        · have:=HN.out
          rwa [List.take_of_length_le (by simp [sgs];omega)] at this
def twl (p:UInt8→Bool):List UInt8→Nat
  | []=>0
  | c::r=>if p c then 1+twl p r else 0
theorem qfm {p:UInt8→Bool} {c:UInt8} {r:List UInt8} (h:p c=true):twl p (c::r)=1+twl p r:=by simp only [twl,h,if_true]
theorem twl_no {p:UInt8→Bool} {c:UInt8} {r:List UInt8} (h:p c=false):twl p (c::r)=0:=by simp only [twl,h,Bool.false_eq_true,if_false]
def qb5 (c:UInt8):Bool:=qa2 c.toNat||qby c.toNat
def digB (c:UInt8):Bool:=qby c.toNat
def oneL (l:List UInt8):Nat×List UInt8 :=
  match l with
  | []=>(0,[])
  | c::_ =>
    if qa2 c.toNat then (if 0<qc2 (l.take (twl qb5 l)) then 3 else 1,l.take (twl qb5 l))
    else if qby c.toNat then (2,l.take (twl digB l))
    else if qdy l=[] then (0,[]) else (4,qdy l)
theorem qgt {c:UInt8} {r:List UInt8} (h:qa2 c.toNat=true):oneL (c::r)=(if 0<qc2 ((c::r).take (twl qb5 (c::r))) then 3 else 1,(c::r).take (twl qb5 (c::r))):=by
  simp only [oneL,h,if_true]
theorem qmq {c:UInt8} {r:List UInt8} (h:qa2 c.toNat=false) (h2:qby c.toNat=true):oneL (c::r)=(2,(c::r).take (twl digB (c::r))):=by
  simp only [oneL,h,h2,if_true,Bool.false_eq_true,if_false]
theorem oneL_sign {c:UInt8} {r:List UInt8} (h:qa2 c.toNat=false) (h2:qby c.toNat=false) (h3:qdy (c::r)≠[]):oneL (c::r)=(4,qdy (c::r)):=by
  simp only [oneL,h,h2,Bool.false_eq_true,if_false,if_neg h3]
theorem oneL_none {c:UInt8} {r:List UInt8} (h:qa2 c.toNat=false) (h2:qby c.toNat=false) (h3:qdy (c::r)=[]):oneL (c::r)=(0,[]):=by
  simp only [oneL,h,h2,Bool.false_eq_true,if_false,if_pos h3]
def tokV (k:Nat) (l:List UInt8) (at_:Nat):Value:=.agg #[.int .i64 k,.string (bs l),.int .i64 at_]
theorem qeg (s:ByteArray) (w:World) (hs:s.size≤1000000000) (h0:0<s.size) :
    Calls Tryz.prog 28 #[.string s] w fun e w'=>e=.returned (tokV (oneL s.data.toList).1 (oneL s.data.toList).2 0)∧Grw w w':=by
  have hcons:=qcg s 0 h0
  rw [List.drop_zero] at hcons
  cases hl:qa2 (s[0]).toNat
  · cases hd:qby (s[0]).toNat
    · by_cases hsg:qdy s.data.toList=[]
      · have HO:=Lib.hid (show oneL s.data.toList=(0,[]) by rw [hcons] at hsg ⊢;exact oneL_none hl hd hsg)
        have b1:(qdy s.data.toList).isEmpty=true:=by rw [hsg];rfl
        have HL:=Lib.hid hl
        have HD:=Lib.hid hd
        clear hl hd hsg hcons
        go_enter Tryz.func28,Tryz.ntmps28
        go_wp2_with (first
          | (go_at_call 57;refine (qa6 _ _).mono ?_;rintro e w' ⟨rfl,rfl⟩;rw [HL.out])
          | (go_at_call 58;refine (qa0 _ _).mono ?_;rintro e w' ⟨rfl,rfl⟩;rw [HD.out])
          | (go_at_call 60;refine (qgo _ _ hs).mono ?_;rintro e w' ⟨rfl,hq⟩;obtain⟨nq,rfl⟩:=hq))
        exact bodyPost_ret (v:=.agg #[.int .i64 0,.string ⟨#[]⟩,.int .i64 0]) (by simp [results,Tryz.results28,go_sem]) rfl ⟨by rw [HO.out];rfl,((Grw.refl _).alloc _).drewN _⟩
      · have HO:=Lib.hid (show oneL s.data.toList=(4,qdy s.data.toList) by rw [hcons] at hsg ⊢;exact oneL_sign hl hd hsg)
        have b1:(qdy s.data.toList).isEmpty=false:=by simpa using hsg
        have HL:=Lib.hid hl
        have HD:=Lib.hid hd
        clear hl hd hsg hcons
        go_enter Tryz.func28,Tryz.ntmps28
        go_wp2_with (first
          | (go_at_call 57;refine (qa6 _ _).mono ?_;rintro e w' ⟨rfl,rfl⟩;rw [HL.out])
          | (go_at_call 58;refine (qa0 _ _).mono ?_;rintro e w' ⟨rfl,rfl⟩;rw [HD.out])
          | (go_at_call 60;refine (qgo _ _ hs).mono ?_;rintro e w' ⟨rfl,hq⟩;obtain⟨nq,rfl⟩:=hq))
        exact bodyPost_ret (v:=.agg #[.int .i64 4,.string (bs (qdy s.data.toList)),.int .i64 0]) (by simp [results,Tryz.results28,go_sem]) rfl ⟨by rw [HO.out];rfl,((Grw.refl _).alloc _).drewN _⟩
    · have HO:=Lib.hid (show oneL s.data.toList=(2,s.data.toList.take (twl digB s.data.toList)) by rw [hcons];exact qmq hl hd)
      have HL:=Lib.hid hl
      have HD:=Lib.hid hd
      clear hl hd hcons
      go_enter Tryz.func28,Tryz.ntmps28
      go_wp2_with (first
        | (go_at_call 57;refine (qa6 _ _).mono ?_;rintro e w' ⟨rfl,rfl⟩;rw [HL.out])
        | (go_at_call 58;refine (qa0 _ _).mono ?_;rintro e w' ⟨rfl,rfl⟩;rw [HD.out]))
      go_loop [3] (fun i=>∃k:Nat,k≤s.size∧i=.int .i64 k∧twl digB s.data.toList=k+twl digB (s.data.toList.drop k)) (fun i=>s.size-(intOf i).toNat)
      case atStart=>exact⟨0,by omega,rfl,by simp⟩
      case round =>
        obtain⟨k,hk,rfl,hf⟩:=hrel
        by_cases hlt:k<s.size
        · rw [qcg s k hlt] at hf
          cases hdk:qby (s[k]).toNat
          · rw [twl_no hdk] at hf
            have HF:=Lib.hid hf
            have HDK:=Lib.hid hdk
            clear hf hdk
            have f1:(k:Int)≤(s.size:Int):=by omega
            have HX:=Lib.hid (qcx s k)
            go_wp2_with (go_at_call 58;refine (qa0 _ _).mono ?_;rintro e w' ⟨rfl,rfl⟩;rw [HDK.out])
            exact bodyPost_ret (v:=.agg #[.int .i64 2,.string (s.extract 0 k),.int .i64 0]) (by simp [results,Tryz.results28,go_sem]) rfl ⟨by rw [HO.out,HF.out,tokV,qjv HX.out];rfl,(Grw.refl _).alloc _⟩
          · rw [qfm hdk] at hf
            have HF:=Lib.hid hf
            have HDK:=Lib.hid hdk
            clear hf hdk
            go_wp2_with (go_at_call 58;refine (qa0 _ _).mono ?_;rintro e w' ⟨rfl,rfl⟩;rw [HDK.out])
            go_round
            case rel=>exact⟨k+1,by omega,by go_num,by rw [HF.out];omega⟩
            case measure=>simp [intOf];omega
        · obtain rfl:k=s.size:=by omega
          rw [qei s _ (Nat.le_refl _)] at hf
          have HF:=Lib.hid hf
          clear hf
          have HX:=Lib.hid (qcx s s.size)
          go_wp2_with fail
          exact bodyPost_ret (v:=.agg #[.int .i64 2,.string (s.extract 0 s.size),.int .i64 0]) (by simp [results,Tryz.results28,go_sem]) rfl ⟨by rw [HO.out,HF.out,tokV,qjv HX.out];rfl,(Grw.refl _).alloc _⟩
  · have HO:=Lib.hid (show oneL s.data.toList=(if 0<qc2 (s.data.toList.take (twl qb5 s.data.toList)) then 3 else 1,s.data.toList.take (twl qb5 s.data.toList)) by rw [hcons];exact qgt hl)
    have HL:=Lib.hid hl
    clear hl hcons
    go_enter Tryz.func28,Tryz.ntmps28
    go_wp2_with (go_at_call 57;refine (qa6 _ _).mono ?_;rintro e w' ⟨rfl,rfl⟩;rw [HL.out])
    go_loop [3] (fun i=>∃k:Nat,k≤s.size∧i=.int .i64 k∧twl qb5 s.data.toList=k+twl qb5 (s.data.toList.drop k)) (fun i=>s.size-(intOf i).toNat)
    case atStart=>exact⟨0,by omega,rfl,by simp⟩
    case round =>
      obtain⟨k,hk,rfl,hf⟩:=hrel
      by_cases hlt:k<s.size
      · rw [qcg s k hlt] at hf
        cases hlk:qa2 (s[k]).toNat
        · cases hdk:qby (s[k]).toNat
          · rw [twl_no (show qb5 s[k]=false by simp [qb5,hlk,hdk])] at hf
            have HF:=Lib.hid hf
            have HLK:=Lib.hid hlk
            have HDK:=Lib.hid hdk
            clear hf hlk hdk
            have f1:(k:Int)≤(s.size:Int):=by omega
            have HX:=Lib.hid (qcx s k)
            have hfw:0<qc2 (s.data.toList.take k)∨qc2 (s.data.toList.take k)=0:=by omega
            rcases hfw with hfw|hfw
            · obtain⟨m,hm⟩:∃m,qc2 (s.extract 0 k).data.toList=m+1:=⟨qc2 (s.extract 0 k).data.toList-1,by rw [HX.out];omega⟩
              have HM:=Lib.hid hm
              clear hm
              have HW:=Lib.hid hfw
              clear hfw
              go_wp2_with (first
                | (go_at_call 59;refine (qdl _ _).mono ?_;rintro e w1 ⟨rfl,hb⟩;obtain⟨xh,xd,rfl⟩:=hb;rw [HM.out])
                | (go_at_call 57;refine (qa6 _ _).mono ?_;rintro e w' ⟨rfl,rfl⟩;rw [HLK.out])
                | (go_at_call 58;refine (qa0 _ _).mono ?_;rintro e w' ⟨rfl,rfl⟩;rw [HDK.out]))
              exact bodyPost_ret (v:=.agg #[.int .i64 3,.string (s.extract 0 k),.int .i64 0]) (by simp [results,Tryz.results28,go_sem]) rfl ⟨by rw [HO.out,HF.out,if_pos (by simpa using HW.out),tokV,qjv HX.out];rfl,((Grw.refl _).alloc _).ext _ _⟩
            · have HM:=Lib.hid (show qc2 (s.extract 0 k).data.toList=0 by rw [HX.out];omega)
              have HW:=Lib.hid hfw
              clear hfw
              go_wp2_with (first
                | (go_at_call 59;refine (qdl _ _).mono ?_;rintro e w1 ⟨rfl,hb⟩;obtain⟨xh,xd,rfl⟩:=hb;rw [HM.out])
                | (go_at_call 57;refine (qa6 _ _).mono ?_;rintro e w' ⟨rfl,rfl⟩;rw [HLK.out])
                | (go_at_call 58;refine (qa0 _ _).mono ?_;rintro e w' ⟨rfl,rfl⟩;rw [HDK.out]))
              exact bodyPost_ret (v:=.agg #[.int .i64 1,.string (s.extract 0 k),.int .i64 0]) (by simp [results,Tryz.results28,go_sem]) rfl ⟨by rw [HO.out,HF.out,if_neg (by have:=HW.out;simp;omega),tokV,qjv HX.out];rfl,((Grw.refl _).alloc _).ext _ _⟩
          · rw [qfm (show qb5 s[k]=true by simp [qb5,hdk])] at hf
            have HF:=Lib.hid hf
            have HLK:=Lib.hid hlk
            have HDK:=Lib.hid hdk
            clear hf hlk hdk
            go_wp2_with (first
              | (go_at_call 57;refine (qa6 _ _).mono ?_;rintro e w' ⟨rfl,rfl⟩;rw [HLK.out])
              | (go_at_call 58;refine (qa0 _ _).mono ?_;rintro e w' ⟨rfl,rfl⟩;rw [HDK.out]))
            go_round
            case rel=>exact⟨k+1,by omega,by go_num,by rw [HF.out];omega⟩
            case measure=>simp [intOf];omega
        · rw [qfm (show qb5 s[k]=true by simp [qb5,hlk])] at hf
          have HF:=Lib.hid hf
          have HLK:=Lib.hid hlk
          clear hf hlk
          go_wp2_with (go_at_call 57;refine (qa6 _ _).mono ?_;rintro e w' ⟨rfl,rfl⟩;rw [HLK.out])
          go_round
          case rel=>exact⟨k+1,by omega,by go_num,by rw [HF.out];omega⟩
          case measure=>simp [intOf];omega
      · obtain rfl:k=s.size:=by omega
        rw [qei s _ (Nat.le_refl _),show twl qb5 []=0 from rfl] at hf
        have HF:=Lib.hid hf
        clear hf
        have HX:=Lib.hid (show s.data.toList.take (s.size+0)=s.data.toList from List.take_of_length_le (by rw [qb0];exact Nat.le_refl _))
        have hfw:0<qc2 s.data.toList∨qc2 s.data.toList=0:=by omega
        rcases hfw with hfw|hfw
        · obtain⟨m,hm⟩:∃m,qc2 s.data.toList=m+1:=⟨qc2 s.data.toList-1,by omega⟩
          have HM:=Lib.hid hm
          clear hm
          have HW:=Lib.hid hfw
          clear hfw
          go_wp2_with (first
            | (go_at_call 59;refine (qdl _ _).mono ?_;rintro e w1 ⟨rfl,hb⟩;obtain⟨xh,xd,rfl⟩:=hb;rw [HM.out]))
          exact bodyPost_ret (v:=.agg #[.int .i64 3,.string s,.int .i64 0]) (by simp [results,Tryz.results28,go_sem]) rfl ⟨by rw [HO.out,HF.out,HX.out,if_pos HW.out];rfl,((Grw.refl _).alloc _).ext _ _⟩
        · have HM:=Lib.hid hfw
          clear hfw
          go_wp2_with (first
            | (go_at_call 59;refine (qdl _ _).mono ?_;rintro e w1 ⟨rfl,hb⟩;obtain⟨xh,xd,rfl⟩:=hb;rw [HM.out]))
          exact bodyPost_ret (v:=.agg #[.int .i64 1,.string s,.int .i64 0]) (by simp [results,Tryz.results28,go_sem]) rfl ⟨by rw [HO.out,HF.out,HX.out,if_neg (by have:=HM.out;omega)];rfl,((Grw.refl _).alloc _).ext _ _⟩
structure Tok where
  kind:Int
  text:List UInt8
  pos:Int
def Tok.cells (t:Tok):List Value:=[.int .i64 t.kind,.string (bs t.text),.int .i64 t.pos]
theorem Tok.len (t:Tok):t.cells.length=3:=rfl
def badT (t:Nat×List UInt8):Bool:=(t.1==1&&decide (20<t.2.length))||(t.1==2&&(numL t.2).isNone)
def tokF:Nat→Nat→List UInt8→List Tok→List Tok×Nat×Nat
  | 0,_,_,acc=>(acc,0,0)
  | f+1,at_,l,acc =>
    if l=[] then (acc++[⟨0,[],at_⟩],0,0)
    else if (oneL l).1=0 then ([],1,at_)
    else if badT (oneL l) then ([],2,at_)
    else tokF f (at_+(oneL l).2.length+sk false (l.drop (oneL l).2.length)) ((l.drop (oneL l).2.length).drop (sk false (l.drop (oneL l).2.length))) (acc++[⟨(oneL l).1,(oneL l).2,at_⟩])
def qbl (l:List UInt8):List Tok×Nat×Nat :=
  if 16384<l.length then ([],6,0) else tokF (l.length+1) (sk false l) (l.drop (sk false l)) []
theorem signL_le (l:List UInt8):(qdy l).length≤l.length:=by
  unfold qdy
  split
  · rw [List.length_take];omega
  · cases l with
    | nil=>exact Nat.le_refl _
    | cons c r=>dsimp only;split<;>simp
theorem qko (l:List UInt8):(oneL l).2.length≤l.length:=by
  unfold oneL
  cases l with
  | nil=>exact Nat.le_refl _
  | cons c r =>
    dsimp only
    split
    · simp only [List.length_take];omega
    · split
      · simp only [List.length_take];omega
      · split
        · simp
        · exact signL_le _
theorem twl_pos {p:UInt8→Bool} {c:UInt8} {r:List UInt8} (h:p c=true):0<((c::r).take (twl p (c::r))).length:=by
  rw [List.length_take,qfm h];simp;omega
theorem qlz (l:List UInt8) (h:(oneL l).1≠0):0<(oneL l).2.length:=by
  cases l with
  | nil=>simp [oneL] at h
  | cons c r =>
    unfold oneL at h ⊢
    dsimp only at h ⊢
    split
    · rename_i hc;exact twl_pos (by simp [qb5,hc])
    · rename_i hc
      rw [if_neg hc] at h
      split
      · rename_i hd;exact twl_pos hd
      · rename_i hd
        rw [if_neg hd] at h
        split
        · rename_i hs;rw [if_pos hs] at h;simp at h
        · rename_i hs;exact List.length_pos_iff.2 hs
theorem qmx:(Tryz.prog.info? 54).map (fun i=>(i.zero,i.size,i.bytes))=some (some (.agg #[.int .i64 0,.string ⟨#[]⟩,.int .i64 0]),3,32):=by kernel_rfl

def OfPost (s:ByteArray) (w:World) (e:Ending) (w':World):Prop :=
  ∃A c,e=.returned (.tuple #[.slice A (qbl s.data.toList).1.length c,.agg #[.int .i64 (qbl s.data.toList).2.1,.int .i64 (qbl s.data.toList).2.2]])∧Grw w w' ∧
    w'.ownsRow w.heap.size 54 3 (.slice A (qbl s.data.toList).1.length c) (qbl s.data.toList).1.length ((qbl s.data.toList).1.flatMap Tok.cells)
theorem r03Of_any (s:ByteArray) (w:World) (hS:s.size≤9223372036854775807):Calls Tryz.prog 11 #[.string s] w (OfPost s w):=by
  have hsz:=qb0 s
  by_cases hbig:16384<s.size
  · have HO:=Lib.hid (show qbl s.data.toList=([],6,0) by unfold qbl;rw [if_pos (by omega)])
    have f1:(16384:Int)<(s.size:Int):=by omega
    have HS:=Lib.hid hsz
    clear hsz
    go_enter Tryz.func11,Tryz.ntmps11
    go_wp2
    exact bodyPost_ret (v:=.tuple #[.slice none 0 0,.agg #[.int .i64 6,.int .i64 0]]) (by simp [results,Tryz.results11,go_sem]) rfl ⟨none,0,by rw [HO.out];rfl,(Grw.refl _).alloc _,by rw [HO.out];exact World.ownsRow_nil _ _ _ _⟩
  · have HO:=Lib.hid (show qbl s.data.toList=tokF (s.size+1) (sk false s.data.toList) (s.data.toList.drop (sk false s.data.toList)) [] by unfold qbl;rw [if_neg (by omega)];rfl)
    have hs:s.size≤1000000000:=by omega
    have f1:(s.size:Int)≤16384:=by omega
    have hsk:=sk_le s.data.toList false
    rw [←hsz] at hsk
    have HS:=Lib.hid hsz
    clear hsz
    obtain⟨i0,hi0,hz0,hz1,hz2⟩:=info_parts qmx
    go_enter Tryz.func11,Tryz.ntmps11
    go_wp2_with (go_at_call 27;refine (qgn _ _ hs).mono ?_;rintro e w' ⟨rfl,rfl⟩)
    go_loopw [4,5] (fun out i wr=>∃(at_ f c:Nat) (A:Option Addr) (acc:List Tok) (xh:Array Obj) (xd:Nat),at_≤s.size∧i=.int .i64 at_∧s.size-at_<f ∧
        qbl s.data.toList=tokF f at_ (s.data.toList.drop at_) acc∧acc.length≤at_∧out=.slice A acc.length c∧wr=wext (w.alloc (.cells #[.int .i64 0,.int .i64 0] 26)) xh xd ∧
        wr.ownsRow (w.heap.size+1) 54 3 (.slice A acc.length c) acc.length (acc.flatMap Tok.cells)) (fun _ i _=>s.size-(intOf i).toNat)
    case atStart=>exact⟨sk false s.data.toList,s.size+1,0,none,[],#[],w.drawn,hsk,rfl,by omega,HO.out,Nat.zero_le _,rfl,wext_self _,World.ownsRow_nil _ _ _ _⟩
    case round =>
      obtain⟨at_,f,c,A,acc,xh,xd,hat,rfl,hf,ht,hacc,rfl,rfl,hown⟩:=hrel
      obtain⟨f,rfl⟩:∃g,f=g+1:=⟨f-1,by omega⟩
      by_cases hlt:at_<s.size
      · have hne:s.data.toList.drop at_≠[]:=by rw [qcg s at_ hlt];simp
        have hle:=qko (s.data.toList.drop at_)
        have hpos:=qlz (s.data.toList.drop at_)
        obtain⟨k,t,ho⟩:∃k t,oneL (s.data.toList.drop at_)=(k,t):=⟨_,_,rfl⟩
        simp only [tokF,if_neg hne,ho] at ht
        rw [ho,List.length_drop,←HS.out] at hle
        rw [ho] at hpos
        dsimp only at hle hpos
        have HX:=Lib.hid (show oneL (s.extract at_ s.size).data.toList=(k,t) by rw [qdp,ho])
        have hxs:(s.extract at_ s.size).size=s.size-at_:=by rw [qb0,qdp,List.length_drop,←qb0]
        have hx1:(s.extract at_ s.size).size≤1000000000:=by omega
        have hx0:0<(s.extract at_ s.size).size:=by omega
        have f2:(at_:Int)≤(s.size:Int):=by omega
        have HT:=Lib.hid ht
        have HXS:=Lib.hid hxs
        clear hxs ho hne ht
        by_cases hk0:k=0
        · have HT2:=Lib.hid (show qbl s.data.toList=([],1,at_) by rw [HT.out,if_pos hk0])
          subst hk0
          go_wp2_with (go_at_call 28;refine (qeg _ _ hx1 hx0).mono ?_;rintro e w' ⟨rfl,hq⟩;obtain⟨zh,zd,rfl⟩:=hq;rw [HX.out,tokV])
          exact bodyPost_ret (v:=.tuple #[.slice none 0 0,.agg #[.int .i64 1,.int .i64 at_]]) (by simp [results,Tryz.results11,go_sem]) rfl ⟨none,0,by rw [HT2.out];rfl,by first|exact Grw.refl _|(repeat (first|exact Grw.refl _|apply Grw.ext|apply Grw.alloc|apply Grw.drewN|apply Grw.drew));done,by rw [HT2.out];exact World.ownsRow_nil _ _ _ _⟩
        · have hp:=hpos hk0
          have hn:(bs t).size≤1000000000:=by rw [qk4];omega
          obtain⟨n,b,hnv,hb⟩:∃(n:Int) (b:Bool),numV t=.tuple #[.int .i64 n,.bool b]∧b=(numL t).isSome:=by
            unfold numV;cases numL t<;>exact⟨_,_,rfl,rfl⟩
          have HNV:=Lib.hid (show numV (bs t).data.toList=.tuple #[.int .i64 n,.bool b] from hnv)
          have hcase:(((k:Int)==1)=true∧20<(t.length:Int)∧badT (k,t)=true)∨(((k:Int)==1)=false∧((k:Int)==2)=true∧b=false∧badT (k,t)=true) ∨
              ((((k:Int)==1)=true∧(t.length:Int)≤20∧((k:Int)==2)=false∨((k:Int)==1)=false∧((k:Int)==2)=true∧b=true∨((k:Int)==1)=false∧((k:Int)==2)=false)∧badT (k,t)=false):=by
            subst hb
            by_cases e1:k=1
            · subst e1
              by_cases e20:20<t.length
              · exact .inl ⟨rfl,by omega,by simp [badT,e20]⟩
              · exact .inr (.inr ⟨.inl ⟨rfl,by omega,rfl⟩,by simp [badT,e20]⟩)
            · have n1:((k:Int)==1)=false:=by simp;omega
              by_cases e2:k=2
              · subst e2
                cases hq:numL t
                · exact .inr (.inl ⟨n1,rfl,rfl,by simp [badT,hq]⟩)
                · exact .inr (.inr ⟨.inr (.inl ⟨n1,rfl,rfl⟩),by simp [badT,hq]⟩)
              · exact .inr (.inr ⟨.inr (.inr ⟨n1,by simp;omega⟩),by simp [badT,e1,e2]⟩)
          clear hnv hb hpos
          have b0:((k:Int)==0)=false:=by simp;omega
          rcases hcase with ⟨c1,c2,hbad⟩|⟨c1,c2,rfl,hbad⟩|⟨hok,hbad⟩
          · have HT2:=Lib.hid (show qbl s.data.toList=([],2,at_) by rw [HT.out,if_neg hk0,if_pos hbad])
            clear hbad
            go_wp2_with (first
              | (go_at_call 28;refine (qeg _ _ hx1 hx0).mono ?_;rintro e w' ⟨rfl,hq⟩;obtain⟨zh,zd,rfl⟩:=hq;rw [HX.out,tokV])
              | (go_at_call 29;refine (qcr _ _ hn).mono ?_;rintro e w' ⟨rfl,rfl⟩;rw [HNV.out]))
            exact bodyPost_ret (v:=.tuple #[.slice none 0 0,.agg #[.int .i64 2,.int .i64 at_]]) (by simp [results,Tryz.results11,go_sem]) rfl ⟨none,0,by rw [HT2.out];rfl,by first|exact Grw.refl _|(repeat (first|exact Grw.refl _|apply Grw.ext|apply Grw.alloc|apply Grw.drewN|apply Grw.drew));done,by rw [HT2.out];exact World.ownsRow_nil _ _ _ _⟩
          · have HT2:=Lib.hid (show qbl s.data.toList=([],2,at_) by rw [HT.out,if_neg hk0,if_pos hbad])
            clear hbad
            go_wp2_with (first
              | (go_at_call 28;refine (qeg _ _ hx1 hx0).mono ?_;rintro e w' ⟨rfl,hq⟩;obtain⟨zh,zd,rfl⟩:=hq;rw [HX.out,tokV])
              | (go_at_call 29;refine (qcr _ _ hn).mono ?_;rintro e w' ⟨rfl,rfl⟩;rw [HNV.out]))
            exact bodyPost_ret (v:=.tuple #[.slice none 0 0,.agg #[.int .i64 2,.int .i64 at_]]) (by simp [results,Tryz.results11,go_sem]) rfl ⟨none,0,by rw [HT2.out];rfl,by first|exact Grw.refl _|(repeat (first|exact Grw.refl _|apply Grw.ext|apply Grw.alloc|apply Grw.drewN|apply Grw.drew));done,by rw [HT2.out];exact World.ownsRow_nil _ _ _ _⟩
          · have HT2:=Lib.hid (show qbl s.data.toList=tokF f (at_+t.length+sk false (s.data.toList.drop (at_+t.length))) (s.data.toList.drop (at_+t.length+sk false (s.data.toList.drop (at_+t.length)))) (acc++[⟨k,t,at_⟩]) by
              rw [HT.out,if_neg hk0,if_neg (by rw [hbad];simp),List.drop_drop,List.drop_drop])
            clear hbad HT
            rcases hok with ⟨c1,c2,c3⟩|⟨c1,c2,rfl⟩|⟨c1,c2⟩
            all_goals
              have f3:(at_:Int)+(t.length:Int)≤(s.size:Int):=by omega
              have hx2:(s.extract (at_+t.length) s.size).size≤1000000000:=by rw [qb0,qdp,List.length_drop,←qb0];omega
              have HX2:=Lib.hid (qdp s (at_+t.length))
              have hskb:=sk_le (s.data.toList.drop (at_+t.length)) false
              rw [List.length_drop,←HS.out] at hskb
              go_wp2_with (first
                | (go_at_call 28;refine (qeg _ _ hx1 hx0).mono ?_;rintro e w' ⟨rfl,hq⟩;obtain⟨zh,zd,rfl⟩:=hq;rw [HX.out,tokV])
                | (go_at_call 29;refine (qcr _ _ hn).mono ?_;rintro e w' ⟨rfl,rfl⟩;rw [HNV.out])
                | (go_at_call 27;refine (qgn _ _ hx2).mono ?_;rintro e w' ⟨rfl,rfl⟩;rw [HX2.out])
                | (at_builtin
                   refine wpList_append_own _ rfl _ _ 50 rfl (w.heap.size+1) 54 i0 _ 3 32 Tryz.underlying50 hi0 hz0 hz1 hz2 rfl (by decide) (.slice A acc.length c) acc.length (acc.flatMap Tok.cells) rfl (((own_ext hown _ _).alloc _).alloc _) ⟨zh.size+(xh.size+(w.heap.size+1))+1,0,none⟩ 1 1 [.int .i64 k,.string (bs t),.int .i64 at_] rfl rfl ?c1 ?c2 ?c3 ?c4 ?c5 ?_
                   case c1=>exact qht _ #[_,_,_] _ _ (by simp [qbu])
                   case c2=>simp [Value.oneCell']
                   case c3=>simp only [maxLen];omega
                   case c4=>omega
                   case c5=>simp [qbu];omega
                   intro v' w1 hown1 hgrow _
                   have hbox:w1.cell? ⟨zh.size+(xh.size+(w.heap.size+1)),1,none⟩=some (.string (bs t)):=hgrow.cell (by
                     rw [World.cell?_alloc_past _ _ _ (by simp [qbu]),World.cell?_alloc_at _ _ _ _ (by simp [qbu])];rfl) (fun e=>by have:=hown.lt _ e.symm;simp [qbu] at this;omega)
                   obtain⟨yh,yd,rfl⟩:Grw (w.alloc (.cells #[.int .i64 0,.int .i64 0] 26)) w1:=(((((Grw.refl _).ext _ _).ext _ _).alloc _).alloc _).grown hgrow (fun k hk=>by have:=hown.lt k hk;simp;omega)))
              obtain⟨g,cap,hv,_,_⟩:=hown1.form (by omega)
              go_roundw
              case rel=>exact⟨at_+t.length+sk false (s.data.toList.drop (at_+t.length)),f,cap,some ⟨g,0,none⟩,acc++[⟨k,t,at_⟩],yh,yd,by omega,by go_num,by omega,HT2.out,by simp;omega,by rw [hv,List.length_append];rfl,rfl,by
                rw [hv] at hown1;rw [List.length_append,List.flatMap_append];exact hown1⟩
              case measure=>simp [intOf];omega
      · obtain rfl:at_=s.size:=by omega
        have hd:=qei s _ (Nat.le_refl s.size)
        rw [hd] at ht
        have HT:=Lib.hid (show qbl s.data.toList=(acc++[⟨0,[],s.size⟩],0,0) by rw [ht];rfl)
        clear ht hd
        go_wp2_with (first
          | (at_builtin
             refine wpList_append_own _ rfl _ _ 50 rfl (w.heap.size+1) 54 i0 _ 3 32 Tryz.underlying50 hi0 hz0 hz1 hz2 rfl (by decide) (.slice A acc.length c) acc.length (acc.flatMap Tok.cells) rfl (hown.alloc _) ⟨xh.size+(w.heap.size+1),0,none⟩ 1 1 [.int .i64 0,.string ⟨#[]⟩,.int .i64 s.size] rfl rfl ?c1 ?c2 ?c3 ?c4 ?c5 ?_
             case c1=>exact qht _ #[_,_,_] _ _ (by simp [qbu])
             case c2=>simp [Value.oneCell']
             case c3=>simp only [maxLen];omega
             case c4=>omega
             case c5=>simp [qbu];omega
             intro v' w1 hown1 hgrow _
             obtain⟨yh,yd,rfl⟩:Grw (w.alloc (.cells #[.int .i64 0,.int .i64 0] 26)) w1:=((((Grw.refl _).ext _ _).alloc _).grown hgrow (fun k hk=>by have:=hown.lt k hk;simp;omega))))
        obtain⟨g,cap,hv,_,_⟩:=hown1.form (by omega)
        have HV:=Lib.hid hv
        clear hv
        exact bodyPost_ret (v:=.tuple #[v',.agg #[.int .i64 0,.int .i64 0]]) (by simp [results,Tryz.results11,go_sem]) rfl ⟨some ⟨g,0,none⟩,cap,by rw [HT.out,HV.out,List.length_append];rfl,((Grw.refl _).alloc _).ext _ _,by
                  rw [HT.out,List.length_append,List.flatMap_append];rw [HV.out] at hown1;exact own_base hown1 (by omega)⟩
end Go.Proofs.YtfbopaaambkfkaaGreatDoor
