/- Numbers' digits, as the program and as the document write them, on plain data. Conditions: numbers below 10^9. -/
import Derived.Test.YtbhmfkjbaklfeaaDoorMg19
import Derived.Test.YtbhmfkjbaklfeaaDoorMg20
import Derived.Test.YtbhmfkjbaklfeaaDoorMg9
import Derived.Test.YtbhmfkjbaklfeaaDoorMg14
set_option linter.unusedVariables false
set_option maxRecDepth 100000
set_option maxHeartbeats 8000000
set_option linter.unusedSimpArgs false
namespace Go.Proofs.YtbhmfkjbaklfeaaDoor
open Go.RowKit
section
variable {P:Program} {C:Cx P} {ops:Array Oper} {r:List Oper} {e:Nat→D} {st:List Bx} {dst:Option Nat} {ty src tgt el:TypeId} {pos:String} {after:Array Edge} {K:(Nat→D)→List Bx→Prop} {guard:Option (Nat×Bool)} {x:Operand}
@[go_sem] theorem evQ_conv:evQ P st e ⟨dst,.convert src tgt x,ty,pos,after,guard⟩=none:=rfl
@[go_sem] theorem evG_conv:evG P st e ⟨dst,.convert src tgt x,ty,pos,after,guard⟩=none:=rfl
end
theorem adds {x y:List UInt8} (h:x.length+y.length≤9223372036854775807):∀b,evBin b .add (.string (bs x)) (.string (bs y))=some (.string (bs (x++y))):=fun b=>by
 show (if (bs x).size+(bs y).size≤9223372036854775807 then some (Value.string (bs x++bs y)) else none)=_
 have h1:(bs x).size=x.length:=by show x.toArray.size=_;simp
 have h2:(bs y).size=y.length:=by show y.toArray.size=_;simp
 rw [if_pos (by omega)]
 refine congrArg (fun z=>some (Value.string z)) ?_
 apply ByteArray.ext
 simp [bs]
def dgN (z:Int):List UInt8:=decL z.toNat
theorem decL_len {n:Nat} (hn:n<1000000000):(decL n).length≤9:=by
 unfold decL
 rw [List.length_reverse]
 exact decR_len 9 n (by omega) (by omega)
theorem pwDigits (n:Nat) (hn:n<1000000000):DPure Tryd.prog 52 [.a (.v (.int .i64 n))] (.a (.v (.string (bs (decL n))))):=by
 have:=DPure.scal (P:=Tryd.prog) (f:=52) (xs:=[.int .i64 n]) (z:=.string (bs (decL n))) (callFunc_of Tryd.func52 rfl rfl) rfl fun w _=>wDigits_any n w hn
 exact this
inductive Shp:Ex→Prop
 | num (n:Nat):n<1000000000→Shp ⟨1,n,[],[]⟩
 | var (s:List UInt8):Shp ⟨2,0,s,[]⟩
 | this:Shp ⟨3,0,[],[]⟩
 | null:Shp ⟨4,0,[],[]⟩
 | input:Shp ⟨5,0,[],[]⟩
 | bin (k:Int) (a b:Ex):k=6∨k=7∨k=8∨k=9∨k=10∨k=11→a.formB=true→b.formB=true→Shp ⟨k,0,[],[a,b]⟩
 | not (a:Ex):a.formB=true→Shp ⟨12,0,[],[a]⟩
 | nil (a:Ex):a.formB=true→lvK a.kind=4→Shp ⟨13,0,[],[a]⟩
 | same (a b:Ex):a.formB=true→b.formB=true→lvK a.kind=4→lvK b.kind=4→Shp ⟨14,0,[],[a,b]⟩
theorem Ex.shp (e:Ex) (h:e.formB=true):Shp e:=by
 obtain⟨k,n,s,l⟩:=e
 rw [Ex.form_eq,Bool.and_eq_true] at h
 obtain⟨hp,hf⟩:=h
 dsimp only at hf
 have key:∀x∈l,x.formB=true∧Ex.kidB k x.kind=true:=fun x hx=>by
  cases hq:(x.formB&&Ex.kidB k x.kind)
  ·rw [Ex.formsB_mem k hx hq] at hf;cases hf
  ·rwa [Bool.and_eq_true] at hq
 have hlv:∀x∈l,k=13∨k=14→lvK x.kind=4:=fun x hx hk=>by
  have h2:=(key x hx).2
  have:x.kind=2∨x.kind=3∨x.kind=4:=by
   rcases hk with rfl|rfl
   ·simp only [Ex.kidB] at h2;simp at h2;omega
   ·simp only [Ex.kidB] at h2;simp at h2;omega
  rcases this with h3|h3|h3<;>rw [h3]<;>rfl
 simp only [Ex.plainB,Bool.not_eq_true',Bool.or_eq_false_iff,decide_eq_false_iff_not,Bool.and_eq_false_iff,bne_eq_false_iff_eq,Bool.not_eq_false',beq_iff_eq] at hp
 obtain⟨⟨⟨⟨⟨⟨⟨h1,h2⟩,h3⟩,h4⟩,h5⟩,h6⟩,h7⟩,_⟩:=hp
 have h8:k=1∨k=2∨k=3∨k=4∨k=5∨(k=6∨k=7∨k=8∨k=9∨k=10∨k=11)∨k=12∨k=13∨k=14:=by omega
 have h0:∀{l:List Ex},(l.length:Int)=0→l=[]:=fun h=>List.eq_nil_of_length_eq_zero (by omega)
 have ho:∀{l:List Ex},(l.length:Int)=1→∃a,l=[a]:=fun h=>List.length_eq_one_iff.1 (by omega)
 have ht:∀{l:List Ex},(l.length:Int)=2→∃a b,l=[a,b]:=fun {l} h=>by
  match l with
  | []=>simp at h
  | [_]=>simp at h
  | [a,b]=>exact⟨a,b,rfl⟩
  | _::_::_::_=>simp at h;omega
 rcases h8 with rfl|rfl|rfl|rfl|rfl|hb|rfl|rfl|rfl
 ·obtain rfl:=h0 h3
  have hs:s=[]:=by simpa using h5
  subst hs
  obtain⟨m,rfl⟩:∃m:Nat,n=m:=⟨n.toNat,by omega⟩
  exact .num m (by omega)
 ·obtain rfl:=h0 h3
  have hn:n=0:=by simpa using h4
  subst hn
  exact .var s
 ·obtain rfl:=h0 h3
  obtain rfl:n=0:=by simpa using h4
  obtain rfl:s=[]:=by simpa using h5
  exact .this
 ·obtain rfl:=h0 h3
  obtain rfl:n=0:=by simpa using h4
  obtain rfl:s=[]:=by simpa using h5
  exact .null
 ·obtain rfl:=h0 h3
  obtain rfl:n=0:=by simpa using h4
  obtain rfl:s=[]:=by simpa using h5
  exact .input
 ·have h2:Ex.kidsN k=2:=by rcases hb with rfl|rfl|rfl|rfl|rfl|rfl<;>rfl
  obtain⟨a,b,rfl⟩:=ht (h3.trans h2)
  have hn:n=0:=by rcases h4 with h|h<;>omega
  have hs:s=[]:=h5.elim (fun h=>absurd h (by omega)) id
  subst hn;subst hs
  exact .bin k a b hb (key a (by simp)).1 (key b (by simp)).1
 ·obtain⟨a,rfl⟩:=ho h3
  obtain rfl:n=0:=by simpa using h4
  obtain rfl:s=[]:=by simpa using h5
  exact .not a (key a (by simp)).1
 ·obtain⟨a,rfl⟩:=ho h3
  obtain rfl:n=0:=by simpa using h4
  obtain rfl:s=[]:=by simpa using h5
  exact .nil a (key a (by simp)).1 (hlv a (by simp) (.inl rfl))
 ·obtain⟨a,b,rfl⟩:=ht h3
  obtain rfl:n=0:=by simpa using h4
  obtain rfl:s=[]:=by simpa using h5
  exact .same a b (key a (by simp)).1 (key b (by simp)).1 (hlv a (by simp) (.inr rfl)) (hlv b (by simp) (.inr rfl))
theorem parB_t {least k:Int} {s:List UInt8} (h:k<least):parB least (k,s)=[40]++s++[41]:=if_pos h
theorem parB_f {least k:Int} {s:List UInt8} (h:¬k<least):parB least (k,s)=s:=if_neg h
theorem parB_len (least:Int) (x:Int×List UInt8):(parB least x).length≤x.2.length+2:=by
 unfold parB
 split
 ·simp only [List.length_append,List.length_singleton];omega
 ·omega
theorem sgK_len (k:Int):(sgK k).length≤2:=by
 unfold sgK
 repeat' split
 all_goals decide
theorem Ex.txt_len:∀(m:Nat) (e:Ex),e.sz≤m→e.formB=true→(e.txt dgN).length+2≤16*e.sz
 | 0,e,h,_=>by have:=e.sz_pos;omega
 | m+1,e,h,hf=>by
  have hz:=e.sz_eq
  cases e.shp hf with
  | num n hn =>
   rw [hz]
   have:=decL_len hn
   show (decL ((n:Int).toNat)).length+2≤_
   rw [Int.toNat_natCast];omega
  | var s=>rw [hz];show s.length+2≤16*(1+s.length+0);omega
  | this=>rw [hz];show 4+2≤16*(1+0+0);omega
  | null=>rw [hz];show 4+2≤16*(1+0+0);omega
  | input=>rw [hz];show 5+2≤16*(1+0+0);omega
  | bin k a b hk ha hb =>
   have hzz:(⟨k,0,[],[a,b]⟩:Ex).sz=1+0+(a.sz+(b.sz+0)):=by rw [hz];rfl
   rw [hzz] at h ⊢
   have i1:=Ex.txt_len m a (by omega) ha
   have i2:=Ex.txt_len m b (by omega) hb
   have p1:=parB_len (lfK k) (lvK a.kind,a.txt dgN)
   have p2:=parB_len (lvK k+1) (lvK b.kind,b.txt dgN)
   have p3:=sgK_len k
   have:(⟨k,0,[],[a,b]⟩:Ex).txt dgN=parB (lfK k) (lvK a.kind,a.txt dgN)++[32]++sgK k++[32]++parB (lvK k+1) (lvK b.kind,b.txt dgN):=by
    rw [Ex.txt_eq,Ex.txts_map]
    show (if k=14 then _ else _)=_
    rw [if_neg (by omega)]
   rw [this]
   simp only [List.length_append,List.length_singleton]
   dsimp only at p1 p2
   omega
  | not a ha =>
   have hzz:(⟨12,0,[],[a]⟩:Ex).sz=1+0+(a.sz+0):=by rw [hz];rfl
   rw [hzz] at h ⊢
   have i1:=Ex.txt_len m a (by omega) ha
   have p1:=parB_len 4 (lvK a.kind,a.txt dgN)
   show ([33]++parB 4 (lvK a.kind,a.txt dgN)).length+2≤_
   simp only [List.length_append,List.length_singleton]
   dsimp only at p1
   omega
  | nil a ha _ =>
   have hzz:(⟨13,0,[],[a]⟩:Ex).sz=1+0+(a.sz+0):=by rw [hz];rfl
   rw [hzz] at h ⊢
   have i1:=Ex.txt_len m a (by omega) ha
   have p1:=parB_len 4 (lvK a.kind,a.txt dgN)
   show ([110,105,108,40]++parB 4 (lvK a.kind,a.txt dgN)++[41]).length+2≤_
   simp only [List.length_append,List.length_cons,List.length_nil]
   dsimp only at p1
   omega
  | same a b ha hb _ _ =>
   have hzz:(⟨14,0,[],[a,b]⟩:Ex).sz=1+0+(a.sz+(b.sz+0)):=by rw [hz];rfl
   rw [hzz] at h ⊢
   have i1:=Ex.txt_len m a (by omega) ha
   have i2:=Ex.txt_len m b (by omega) hb
   have p1:=parB_len 4 (lvK a.kind,a.txt dgN)
   have p2:=parB_len 4 (lvK b.kind,b.txt dgN)
   show ([115,97,109,101,40]++parB 4 (lvK a.kind,a.txt dgN)++[44,32]++parB 4 (lvK b.kind,b.txt dgN)++[41]).length+2≤_
   simp only [List.length_append,List.length_cons,List.length_nil]
   dsimp only at p1 p2
   omega
theorem Ex.wrt_len (e:Ex) (hf:e.formB=true) (least:Int):(e.wrt dgN least).length≤16*e.sz:=by
 have h1:=Ex.txt_len e.sz e (Nat.le_refl _) hf
 have h2:=parB_len least (lvK e.kind,e.txt dgN)
 unfold Ex.wrt
 dsimp only at h2
 omega
end Go.Proofs.YtbhmfkjbaklfeaaDoor
