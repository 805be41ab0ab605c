/- Numbers' digits, as the program and as the document write them, on plain data. Conditions: numbers below 10^9. -/
import Derived.Test.YtmnpabgdlajdiaaDoorMg19
import Derived.Test.YtmnpabgdlajdiaaDoorMg20
import Derived.Test.YtmnpabgdlajdiaaDoorMg9
import Derived.Test.YtmnpabgdlajdiaaDoorMg14
import Derived.Test.YtmnpabgdlajdiaaDoorMg21
import Derived.Test.YtmnpabgdlajdiaaDoorMg22
import Derived.Test.YtmnpabgdlajdiaaDoorMg23
import Derived.Test.YtmnpabgdlajdiaaDoorMg24
import Derived.Lib.Join
import Derived.Test.YtmnpabgdlajdiaaDoorMg25
import Derived.Test.YtmnpabgdlajdiaaDoorMg26
set_option linter.unusedVariables false
set_option maxRecDepth 100000
set_option maxHeartbeats 8000000
set_option linter.unusedSimpArgs false
namespace Go.Proofs.YtmnpabgdlajdiaaDoor
open Go.RowKit
section
variable {P:Program} {C:Cx P} {ops:Array Oper} {r:List Oper} {e:Nat→D} {st:List Bx} {dst:Option Nat} {ty src tgt el:TypeId} {pos:String} {after:Array Edge} {K:(Nat→D)→List Bx→Prop} {guard:Option (Nat×Bool)} {x:Operand}
@[go_sem] theorem evQ_conv:evQ P st e ⟨dst,.convert src tgt x,ty,pos,after,guard⟩=none:=rfl
@[go_sem] theorem evG_conv:evG P st e ⟨dst,.convert src tgt x,ty,pos,after,guard⟩=none:=rfl
theorem RS.cI {k q:IntKind} {z:Int} (hs:(P.underlying src).isSome=true) (hd:P.underlying tgt=some (.int q)) (h:RS C ops r (putE e dst (.a (.v (.int q (q.wrap z))))) st K) (hx:evO e x=.a (.v (.int k z)):=by (simp only [go_sem,simprocAttr,fx])<;>rfl):RS C ops (⟨dst,.convert src tgt x,ty,pos,after,guard⟩::r) e st K :=
 .inl ⟨_,st,.inr ⟨rfl,.of (.convI rfl hx hs hd)⟩,h⟩
theorem RS.cF {rows:List (List A)} {l:List UInt8} (hs:P.underlying src=some (.slice el)) (he:P.underlying el=some (.int .u8)) (hd:P.underlying tgt=some .string) (hr:rowB rows=some l) (h:RS C ops r (putE e dst (.a (.v (.string (bs l))))) st K) (hx:evO e x=.a (.sl rows):=by (simp only [go_sem,simprocAttr,fx])<;>rfl):RS C ops (⟨dst,.convert src tgt x,ty,pos,after,guard⟩::r) e st K :=
 .inl ⟨_,st,.inr ⟨rfl,.of (.convF rfl hx hs he hd hr)⟩,h⟩
end
theorem rowB_one {d:Nat} (h:d<256):rowB [[.v (.int .u8 (d:Int))]]=some [UInt8.ofNat d]:=by
 show (if Nat.blt d 256=true then (rowB []).map fun l=>UInt8.ofNat d::l else none)=_
 rw [if_pos (by simpa [Nat.blt_eq] using h)];rfl
theorem adds {x y:List UInt8} (h:x.length+y.length≤9223372036854775807):∀b,evBin b .add (.string (bs x)) (.string (bs y))=some (.string (bs (x++y))):=fun b=>by
 show (if (bs x).size+(bs y).size≤9223372036854775807 then some (Value.string (bs x++bs y)) else none)=_
 have h1:(bs x).size=x.length:=by show x.toArray.size=_;simp
 have h2:(bs y).size=y.length:=by show y.toArray.size=_;simp
 rw [if_pos (by omega)]
 refine congrArg (fun z=>some (Value.string z)) ?_
 apply ByteArray.ext
 simp [bs]
def dgN (z:Int):List UInt8:=decL z.toNat
theorem decL_len {n:Nat} (hn:n<1000000000):(decL n).length≤9:=by
 unfold decL
 rw [List.length_reverse]
 exact decR_len 9 n (by omega) (by omega)
theorem pwDigits (n:Nat) (hn:n<1000000000):DPure Tryd.prog 55 [.a (.v (.int .i64 n))] (.a (.v (.string (bs (decL n))))):=by
 have:=DPure.scal (P:=Tryd.prog) (f:=55) (xs:=[.int .i64 n]) (z:=.string (bs (decL n))) (callFunc_of Tryd.func55 rfl rfl) rfl fun w _=>wDigits_any n w hn
 exact this
theorem pr02Digits (n:Nat) (hn:n<1000000000):DPure Tryd.prog 39 [.a (.v (.int .i64 n))] (.a (.v (.string (bs (decL n))))):=by
 have h0:decide ((n:Int)<0)=false:=decide_eq_false (by omega)
 have hneg:IntKind.i64.wrap (0-(n:Int)) = -(n:Int):=(wrap64 (by omega) (by omega)).trans (by omega)
 have hrem:∀(b:Bool) (m:Nat),evBin b .rem (.int .i64 (-(m:Int))) (.int .i64 10)=some (.int .i64 (-((m % 10:Nat):Int))):=fun b m=>by
  show some (Value.int .i64 ((-(m:Int)).tmod 10))=_
  rw [Int.neg_tmod];rfl
 have hsub:∀m:Nat,IntKind.i64.wrap (48 - -((m % 10:Nat):Int))=((48+m % 10:Nat):Int):=fun m=>(wrap64 (by omega) (by omega)).trans (by omega)
 have hu8:∀m:Nat,IntKind.u8.wrap ((48+m % 10:Nat):Int)=((48+m % 10:Nat):Int):=fun m=>by
  show ((48+m % 10:Nat):Int) % 256=_
  omega
 have hd8:48+n % 10<256:=by omega
 have hl9:=decR_len 9 n (by omega) (by omega)
 refine DPure.go Tryd.func39 rfl Tryd.ntmps39 rfl rfl rfl (fun C hro=>?_)
 have fx:=trivial
 replace fx:=And.intro h0 (And.intro hneg (And.intro hrem (And.intro hsub (And.intro hu8 trivial))))
 repeat' (first|refine stp [0,2,3,4,6,16] ?_|(refine RS.ls ?_;refine rnx ?_)|(refine RS.bC ?_;refine rnx ?_)|(refine RS.cI (hs:=by rw [Tryd.underlying3];rfl) (hd:=Tryd.underlying5) (h:=?_);refine rnx ?_)|(refine RS.cF (hs:=Tryd.underlying80) (he:=Tryd.underlying5) (hd:=Tryd.underlying9) (hr:=rowB_one hd8) (h:=?_);refine rnx ?_)|refine WP.cn (fun hc=>?_) (fun hc=>?_)|fail)
 refine WP.loopX (α:={ y:Nat×List UInt8 // y.1≤n∧decR n=y.2.reverse++(if y.1<10 then [] else decR (y.1 / 10)) }) (fun y=>[(0,.a (.v (.int .i64 (-(y.1.1:Int))))),(3,.a (.v (.string ⟨#[]⟩))),(4,.a (.v (.string (bs y.1.2))))]) (fun _=>[]) (fun y=>y.1.1) ⟨(n,[UInt8.ofNat (48+n % 10)]),Nat.le_refl _,decR_eq n⟩ (by simp only [Agree,go_sem,simprocAttr];first|done|rfl) rfl ?_
 rintro⟨⟨m,s⟩,hm,hinv⟩
 dsimp only at hm hinv ⊢
 have hsl:s.length≤9:=by have:=congrArg List.length hinv;rw [List.length_append,List.length_reverse] at this;omega
 by_cases hlt:m<10
 ·have hle:decide (-(m:Int)≤-10)=false:=decide_eq_false (by omega)
  have hadd:∀b,evBin b .add (.string ⟨#[]⟩) (.string (bs s))=some (.string (bs s)):=adds (x:=[]) (y:=s) (by simp only [List.length_nil];omega)
  rw [if_pos hlt,List.append_nil] at hinv
  replace fx:=And.intro hle (And.intro hadd trivial)
  repeat' (first|refine stp [0,2,3,4,6,16] ?_|(refine RS.ls ?_;refine rnx ?_)|(refine RS.bC ?_;refine rnx ?_)|(refine RS.cI (hs:=by rw [Tryd.underlying3];rfl) (hd:=Tryd.underlying5) (h:=?_);refine rnx ?_)|(refine RS.cF (hs:=Tryd.underlying80) (he:=Tryd.underlying5) (hd:=Tryd.underlying9) (hr:=rowB_one hd8) (h:=?_);refine rnx ?_)|refine WP.cn (fun hc=>?_) (fun hc=>?_)|fail)
  unfold decL
  rw [hinv,List.reverse_reverse]
 ·have hle:decide (-(m:Int)≤-10)=true:=decide_eq_true (by omega)
  have hquo:∀b:Bool,evBin b .quo (.int .i64 (-(m:Int))) (.int .i64 10)=some (.int .i64 (-((m / 10:Nat):Int))):=fun b=>by
   show some (Value.int .i64 (IntKind.i64.wrap ((-(m:Int)).tdiv 10)))=_
   rw [Int.neg_tdiv,show (m:Int).tdiv 10=((m / 10:Nat):Int) from rfl,wrap64 (by omega) (by omega)]
  have hd8:48+m / 10 % 10<256:=by omega
  have hadd:=adds (x:=[UInt8.ofNat (48+m / 10 % 10)]) (y:=s) (by simp only [List.length_singleton];omega)
  rw [if_neg hlt,decR_eq (m / 10)] at hinv
  replace fx:=And.intro hle (And.intro hquo (And.intro hrem (And.intro hsub (And.intro hu8 (And.intro hadd trivial)))))
  repeat' (first|refine stp [0,2,3,4,6,16] ?_|(refine RS.ls ?_;refine rnx ?_)|(refine RS.bC ?_;refine rnx ?_)|(refine RS.cI (hs:=by rw [Tryd.underlying3];rfl) (hd:=Tryd.underlying5) (h:=?_);refine rnx ?_)|(refine RS.cF (hs:=Tryd.underlying80) (he:=Tryd.underlying5) (hd:=Tryd.underlying9) (hr:=rowB_one hd8) (h:=?_);refine rnx ?_)|refine WP.cn (fun hc=>?_) (fun hc=>?_)|fail)
  refine⟨⟨(m / 10,[UInt8.ofNat (48+m / 10 % 10)]++s),by dsimp only;omega,by dsimp only;rw [hinv,List.reverse_append,List.append_assoc];rfl⟩,[],by dsimp only;omega,by simp only [Agree,go_sem,simprocAttr],rfl,by simp only [nrE,nrD,List.all_cons,List.all_nil,go_sem,simprocAttr],by first|rfl|simp only [go_sem,simprocAttr]⟩
inductive Shp:Ex→Prop
 | num (n:Nat):n<1000000000→Shp ⟨1,n,[],[]⟩
 | var (s:List UInt8):Shp ⟨2,0,s,[]⟩
 | this:Shp ⟨3,0,[],[]⟩
 | null:Shp ⟨4,0,[],[]⟩
 | input:Shp ⟨5,0,[],[]⟩
 | bin (k:Int) (a b:Ex):k=6∨k=7∨k=8∨k=9∨k=10∨k=11→a.formB=true→b.formB=true→Shp ⟨k,0,[],[a,b]⟩
 | not (a:Ex):a.formB=true→Shp ⟨12,0,[],[a]⟩
 | nil (a:Ex):a.formB=true→lvK a.kind=4→Shp ⟨13,0,[],[a]⟩
 | same (a b:Ex):a.formB=true→b.formB=true→lvK a.kind=4→lvK b.kind=4→Shp ⟨14,0,[],[a,b]⟩
theorem Ex.shp (e:Ex) (h:e.formB=true):Shp e:=by
 obtain⟨k,n,s,l⟩:=e
 rw [Ex.form_eq,Bool.and_eq_true] at h
 obtain⟨hp,hf⟩:=h
 dsimp only at hf
 have key:∀x∈l,x.formB=true∧Ex.kidB k x.kind=true:=fun x hx=>by
  cases hq:(x.formB&&Ex.kidB k x.kind)
  ·rw [Ex.formsB_mem k hx hq] at hf;cases hf
  ·rwa [Bool.and_eq_true] at hq
 have hlv:∀x∈l,k=13∨k=14→lvK x.kind=4:=fun x hx hk=>by
  have h2:=(key x hx).2
  have:x.kind=2∨x.kind=3∨x.kind=4:=by
   rcases hk with rfl|rfl
   ·simp only [Ex.kidB] at h2;simp at h2;omega
   ·simp only [Ex.kidB] at h2;simp at h2;omega
  rcases this with h3|h3|h3<;>rw [h3]<;>rfl
 simp only [Ex.plainB,Bool.not_eq_true',Bool.or_eq_false_iff,decide_eq_false_iff_not,Bool.and_eq_false_iff,bne_eq_false_iff_eq,Bool.not_eq_false',beq_iff_eq] at hp
 obtain⟨⟨⟨⟨⟨⟨⟨h1,h2⟩,h3⟩,h4⟩,h5⟩,h6⟩,h7⟩,_⟩:=hp
 have h8:k=1∨k=2∨k=3∨k=4∨k=5∨(k=6∨k=7∨k=8∨k=9∨k=10∨k=11)∨k=12∨k=13∨k=14:=by omega
 have h0:∀{l:List Ex},(l.length:Int)=0→l=[]:=fun h=>List.eq_nil_of_length_eq_zero (by omega)
 have ho:∀{l:List Ex},(l.length:Int)=1→∃a,l=[a]:=fun h=>List.length_eq_one_iff.1 (by omega)
 have ht:∀{l:List Ex},(l.length:Int)=2→∃a b,l=[a,b]:=fun {l} h=>by
  match l with
  | []=>simp at h
  | [_]=>simp at h
  | [a,b]=>exact⟨a,b,rfl⟩
  | _::_::_::_=>simp at h;omega
 rcases h8 with rfl|rfl|rfl|rfl|rfl|hb|rfl|rfl|rfl
 ·obtain rfl:=h0 h3
  have hs:s=[]:=by simpa using h5
  subst hs
  obtain⟨m,rfl⟩:∃m:Nat,n=m:=⟨n.toNat,by omega⟩
  exact .num m (by omega)
 ·obtain rfl:=h0 h3
  have hn:n=0:=by simpa using h4
  subst hn
  exact .var s
 ·obtain rfl:=h0 h3
  obtain rfl:n=0:=by simpa using h4
  obtain rfl:s=[]:=by simpa using h5
  exact .this
 ·obtain rfl:=h0 h3
  obtain rfl:n=0:=by simpa using h4
  obtain rfl:s=[]:=by simpa using h5
  exact .null
 ·obtain rfl:=h0 h3
  obtain rfl:n=0:=by simpa using h4
  obtain rfl:s=[]:=by simpa using h5
  exact .input
 ·have h2:Ex.kidsN k=2:=by rcases hb with rfl|rfl|rfl|rfl|rfl|rfl<;>rfl
  obtain⟨a,b,rfl⟩:=ht (h3.trans h2)
  have hn:n=0:=by rcases h4 with h|h<;>omega
  have hs:s=[]:=h5.elim (fun h=>absurd h (by omega)) id
  subst hn;subst hs
  exact .bin k a b hb (key a (by simp)).1 (key b (by simp)).1
 ·obtain⟨a,rfl⟩:=ho h3
  obtain rfl:n=0:=by simpa using h4
  obtain rfl:s=[]:=by simpa using h5
  exact .not a (key a (by simp)).1
 ·obtain⟨a,rfl⟩:=ho h3
  obtain rfl:n=0:=by simpa using h4
  obtain rfl:s=[]:=by simpa using h5
  exact .nil a (key a (by simp)).1 (hlv a (by simp) (.inl rfl))
 ·obtain⟨a,b,rfl⟩:=ht h3
  obtain rfl:n=0:=by simpa using h4
  obtain rfl:s=[]:=by simpa using h5
  exact .same a b (key a (by simp)).1 (key b (by simp)).1 (hlv a (by simp) (.inr rfl)) (hlv b (by simp) (.inr rfl))
theorem parB_t {least k:Int} {s:List UInt8} (h:k<least):parB least (k,s)=[40]++s++[41]:=if_pos h
theorem parB_f {least k:Int} {s:List UInt8} (h:¬k<least):parB least (k,s)=s:=if_neg h
theorem parB_len (least:Int) (x:Int×List UInt8):(parB least x).length≤x.2.length+2:=by
 unfold parB
 split
 ·simp only [List.length_append,List.length_singleton];omega
 ·omega
theorem sgK_len (k:Int):(sgK k).length≤2:=by
 unfold sgK
 repeat' split
 all_goals decide
theorem Ex.txt_len:∀(m:Nat) (e:Ex),e.sz≤m→e.formB=true→(e.txt dgN).length+2≤16*e.sz
 | 0,e,h,_=>by have:=e.sz_pos;omega
 | m+1,e,h,hf=>by
  have hz:=e.sz_eq
  cases e.shp hf with
  | num n hn =>
   rw [hz]
   have:=decL_len hn
   show (decL ((n:Int).toNat)).length+2≤_
   rw [Int.toNat_natCast];omega
  | var s=>rw [hz];show s.length+2≤16*(1+s.length+0);omega
  | this=>rw [hz];show 4+2≤16*(1+0+0);omega
  | null=>rw [hz];show 4+2≤16*(1+0+0);omega
  | input=>rw [hz];show 5+2≤16*(1+0+0);omega
  | bin k a b hk ha hb =>
   have hzz:(⟨k,0,[],[a,b]⟩:Ex).sz=1+0+(a.sz+(b.sz+0)):=by rw [hz];rfl
   rw [hzz] at h ⊢
   have i1:=Ex.txt_len m a (by omega) ha
   have i2:=Ex.txt_len m b (by omega) hb
   have p1:=parB_len (lfK k) (lvK a.kind,a.txt dgN)
   have p2:=parB_len (lvK k+1) (lvK b.kind,b.txt dgN)
   have p3:=sgK_len k
   have:(⟨k,0,[],[a,b]⟩:Ex).txt dgN=parB (lfK k) (lvK a.kind,a.txt dgN)++[32]++sgK k++[32]++parB (lvK k+1) (lvK b.kind,b.txt dgN):=by
    rw [Ex.txt_eq,Ex.txts_map]
    show (if k=14 then _ else _)=_
    rw [if_neg (by omega)]
   rw [this]
   simp only [List.length_append,List.length_singleton]
   dsimp only at p1 p2
   omega
  | not a ha =>
   have hzz:(⟨12,0,[],[a]⟩:Ex).sz=1+0+(a.sz+0):=by rw [hz];rfl
   rw [hzz] at h ⊢
   have i1:=Ex.txt_len m a (by omega) ha
   have p1:=parB_len 4 (lvK a.kind,a.txt dgN)
   show ([33]++parB 4 (lvK a.kind,a.txt dgN)).length+2≤_
   simp only [List.length_append,List.length_singleton]
   dsimp only at p1
   omega
  | nil a ha _ =>
   have hzz:(⟨13,0,[],[a]⟩:Ex).sz=1+0+(a.sz+0):=by rw [hz];rfl
   rw [hzz] at h ⊢
   have i1:=Ex.txt_len m a (by omega) ha
   have p1:=parB_len 4 (lvK a.kind,a.txt dgN)
   show ([110,105,108,40]++parB 4 (lvK a.kind,a.txt dgN)++[41]).length+2≤_
   simp only [List.length_append,List.length_cons,List.length_nil]
   dsimp only at p1
   omega
  | same a b ha hb _ _ =>
   have hzz:(⟨14,0,[],[a,b]⟩:Ex).sz=1+0+(a.sz+(b.sz+0)):=by rw [hz];rfl
   rw [hzz] at h ⊢
   have i1:=Ex.txt_len m a (by omega) ha
   have i2:=Ex.txt_len m b (by omega) hb
   have p1:=parB_len 4 (lvK a.kind,a.txt dgN)
   have p2:=parB_len 4 (lvK b.kind,b.txt dgN)
   show ([115,97,109,101,40]++parB 4 (lvK a.kind,a.txt dgN)++[44,32]++parB 4 (lvK b.kind,b.txt dgN)++[41]).length+2≤_
   simp only [List.length_append,List.length_cons,List.length_nil]
   dsimp only at p1 p2
   omega
theorem Ex.wrt_len (e:Ex) (hf:e.formB=true) (least:Int):(e.wrt dgN least).length≤16*e.sz:=by
 have h1:=Ex.txt_len e.sz e (Nat.le_refl _) hf
 have h2:=parB_len least (lvK e.kind,e.txt dgN)
 unfold Ex.wrt
 dsimp only at h2
 omega
theorem lvX0 (q2:Option (Nat×Nat)):ixD (some 1) q2 (.a (.sl [[.v (.int .i64 2)],[.v (.int .i64 2)],[.v (.int .i64 3)],[.v (.int .i64 1)],[.v (.int .i64 1)],[.v (.int .i64 0)]])) (.a (.v (.int .i64 0)))=some (.a (.ref [.v (.int .i64 2)] 0)):=by refine ixD_at (j:=0) (row:=[.v (.int .i64 2)]) ?_ ?_ ?_<;>rfl
theorem lvX1 (q2:Option (Nat×Nat)):ixD (some 1) q2 (.a (.sl [[.v (.int .i64 2)],[.v (.int .i64 2)],[.v (.int .i64 3)],[.v (.int .i64 1)],[.v (.int .i64 1)],[.v (.int .i64 0)]])) (.a (.v (.int .i64 1)))=some (.a (.ref [.v (.int .i64 2)] 0)):=by refine ixD_at (j:=1) (row:=[.v (.int .i64 2)]) ?_ ?_ ?_<;>rfl
theorem lvX2 (q2:Option (Nat×Nat)):ixD (some 1) q2 (.a (.sl [[.v (.int .i64 2)],[.v (.int .i64 2)],[.v (.int .i64 3)],[.v (.int .i64 1)],[.v (.int .i64 1)],[.v (.int .i64 0)]])) (.a (.v (.int .i64 2)))=some (.a (.ref [.v (.int .i64 3)] 0)):=by refine ixD_at (j:=2) (row:=[.v (.int .i64 3)]) ?_ ?_ ?_<;>rfl
theorem lvX3 (q2:Option (Nat×Nat)):ixD (some 1) q2 (.a (.sl [[.v (.int .i64 2)],[.v (.int .i64 2)],[.v (.int .i64 3)],[.v (.int .i64 1)],[.v (.int .i64 1)],[.v (.int .i64 0)]])) (.a (.v (.int .i64 3)))=some (.a (.ref [.v (.int .i64 1)] 0)):=by refine ixD_at (j:=3) (row:=[.v (.int .i64 1)]) ?_ ?_ ?_<;>rfl
theorem lvX4 (q2:Option (Nat×Nat)):ixD (some 1) q2 (.a (.sl [[.v (.int .i64 2)],[.v (.int .i64 2)],[.v (.int .i64 3)],[.v (.int .i64 1)],[.v (.int .i64 1)],[.v (.int .i64 0)]])) (.a (.v (.int .i64 4)))=some (.a (.ref [.v (.int .i64 1)] 0)):=by refine ixD_at (j:=4) (row:=[.v (.int .i64 1)]) ?_ ?_ ?_<;>rfl
theorem lvX5 (q2:Option (Nat×Nat)):ixD (some 1) q2 (.a (.sl [[.v (.int .i64 2)],[.v (.int .i64 2)],[.v (.int .i64 3)],[.v (.int .i64 1)],[.v (.int .i64 1)],[.v (.int .i64 0)]])) (.a (.v (.int .i64 5)))=some (.a (.ref [.v (.int .i64 0)] 0)):=by refine ixD_at (j:=5) (row:=[.v (.int .i64 0)]) ?_ ?_ ?_<;>rfl
theorem sgX0 (q2:Option (Nat×Nat)):ixD (some 1) q2 (.a (.sl [[.v (.string ⟨#[43]⟩)],[.v (.string ⟨#[45]⟩)],[.v (.string ⟨#[42]⟩)],[.v (.string ⟨#[60]⟩)],[.v (.string ⟨#[61,61]⟩)],[.v (.string ⟨#[38,38]⟩)]])) (.a (.v (.int .i64 0)))=some (.a (.ref [.v (.string ⟨#[43]⟩)] 0)):=by refine ixD_at (j:=0) (row:=[.v (.string ⟨#[43]⟩)]) ?_ ?_ ?_<;>rfl
theorem sgX1 (q2:Option (Nat×Nat)):ixD (some 1) q2 (.a (.sl [[.v (.string ⟨#[43]⟩)],[.v (.string ⟨#[45]⟩)],[.v (.string ⟨#[42]⟩)],[.v (.string ⟨#[60]⟩)],[.v (.string ⟨#[61,61]⟩)],[.v (.string ⟨#[38,38]⟩)]])) (.a (.v (.int .i64 1)))=some (.a (.ref [.v (.string ⟨#[45]⟩)] 0)):=by refine ixD_at (j:=1) (row:=[.v (.string ⟨#[45]⟩)]) ?_ ?_ ?_<;>rfl
theorem sgX2 (q2:Option (Nat×Nat)):ixD (some 1) q2 (.a (.sl [[.v (.string ⟨#[43]⟩)],[.v (.string ⟨#[45]⟩)],[.v (.string ⟨#[42]⟩)],[.v (.string ⟨#[60]⟩)],[.v (.string ⟨#[61,61]⟩)],[.v (.string ⟨#[38,38]⟩)]])) (.a (.v (.int .i64 2)))=some (.a (.ref [.v (.string ⟨#[42]⟩)] 0)):=by refine ixD_at (j:=2) (row:=[.v (.string ⟨#[42]⟩)]) ?_ ?_ ?_<;>rfl
theorem sgX3 (q2:Option (Nat×Nat)):ixD (some 1) q2 (.a (.sl [[.v (.string ⟨#[43]⟩)],[.v (.string ⟨#[45]⟩)],[.v (.string ⟨#[42]⟩)],[.v (.string ⟨#[60]⟩)],[.v (.string ⟨#[61,61]⟩)],[.v (.string ⟨#[38,38]⟩)]])) (.a (.v (.int .i64 3)))=some (.a (.ref [.v (.string ⟨#[60]⟩)] 0)):=by refine ixD_at (j:=3) (row:=[.v (.string ⟨#[60]⟩)]) ?_ ?_ ?_<;>rfl
theorem sgX4 (q2:Option (Nat×Nat)):ixD (some 1) q2 (.a (.sl [[.v (.string ⟨#[43]⟩)],[.v (.string ⟨#[45]⟩)],[.v (.string ⟨#[42]⟩)],[.v (.string ⟨#[60]⟩)],[.v (.string ⟨#[61,61]⟩)],[.v (.string ⟨#[38,38]⟩)]])) (.a (.v (.int .i64 4)))=some (.a (.ref [.v (.string ⟨#[61,61]⟩)] 0)):=by refine ixD_at (j:=4) (row:=[.v (.string ⟨#[61,61]⟩)]) ?_ ?_ ?_<;>rfl
theorem sgX5 (q2:Option (Nat×Nat)):ixD (some 1) q2 (.a (.sl [[.v (.string ⟨#[43]⟩)],[.v (.string ⟨#[45]⟩)],[.v (.string ⟨#[42]⟩)],[.v (.string ⟨#[60]⟩)],[.v (.string ⟨#[61,61]⟩)],[.v (.string ⟨#[38,38]⟩)]])) (.a (.v (.int .i64 5)))=some (.a (.ref [.v (.string ⟨#[38,38]⟩)] 0)):=by refine ixD_at (j:=5) (row:=[.v (.string ⟨#[38,38]⟩)]) ?_ ?_ ?_<;>rfl
theorem kx0 (q2:Option (Nat×Nat)) (a:Ex) (l:List (List A)):ixD (some 4) q2 (.a (.sl (Ex.at a::l))) (.a (.v (.int .i64 0)))=some (.a (.ref (Ex.at a) 0)):=by refine ixD_at (j:=0) (row:=Ex.at a) rfl rfl (by simp only [go_sem])
theorem kx1 (q2:Option (Nat×Nat)) (a b:Ex) (l:List (List A)):ixD (some 4) q2 (.a (.sl (Ex.at a::Ex.at b::l))) (.a (.v (.int .i64 1)))=some (.a (.ref (Ex.at b) 0)):=by refine ixD_at (j:=1) (row:=Ex.at b) rfl rfl (by simp only [go_sem])
theorem addE (x y:List UInt8) (h:x.length+y.length≤9223372036854775807):∃z,z=x++y∧z.length=x.length+y.length∧∀b,evBin b .add (.string (bs x)) (.string (bs y))=some (.string (bs z)):=⟨_,rfl,List.length_append,adds h⟩
theorem addL (x y:List UInt8) (h:x.length+y.length≤9223372036854775807):∃z,z=x++y∧z.length=x.length+y.length∧∀b,evBin b .add (.string ⟨x.toArray⟩) (.string (bs y))=some (.string (bs z)):=addE x y h
theorem addR (x y:List UInt8) (h:x.length+y.length≤9223372036854775807):∃z,z=x++y∧z.length=x.length+y.length∧∀b,evBin b .add (.string (bs x)) (.string ⟨y.toArray⟩)=some (.string (bs z)):=addE x y h
theorem addB (x y:List UInt8) (h:x.length+y.length≤9223372036854775807):∃z,z=x++y∧z.length=x.length+y.length∧∀b,evBin b .add (.string ⟨x.toArray⟩) (.string ⟨y.toArray⟩)=some (.string (bs z)):=addE x y h
theorem pr06level (e:Ex):DPure Tryd.prog 38 [.r (Ex.at e)] (.a (.v (.int .i64 (lvK e.kind)))):=by
 by_cases h:6≤e.kind
 ·have g1:decide (e.kind≥6)=true:=decide_eq_true h
  by_cases h2:e.kind≤11
  ·have:e.kind=6∨e.kind=7∨e.kind=8∨e.kind=9∨e.kind=10∨e.kind=11:=by omega
   rcases this with hk|hk|hk|hk|hk|hk<;>rw [hk]
   all_goals
    have h0:=lvX0
    have h1:=lvX1
    have h2:=lvX2
    have h3:=lvX3
    have h4:=lvX4
    have h5:=lvX5
    refine DPure.go Tryd.func38 rfl Tryd.ntmps38 rfl rfl rfl (fun C hro=>?_)
    have fx:=trivial
    replace fx:=And.intro hk (And.intro h0 (And.intro h1 (And.intro h2 (And.intro h3 (And.intro h4 (And.intro h5 trivial))))))
    repeat' (first|refine stp [0,1,2,3,12] ?_|(refine RS.ls ?_;refine rnx ?_)|(refine RS.pk ?_;refine rnx ?_)|(refine RS.gF ?_;refine rnx ?_)|(refine RS.xC ?_;refine rnx ?_)|(refine RS.bC ?_;refine rnx ?_)|refine WP.cn (fun hc=>?_) (fun hc=>?_)|fail)
    rfl
  ·have g2:decide (e.kind≤11)=false:=decide_eq_false h2
   rw [show lvK e.kind=4 by unfold lvK;rw [if_neg (by omega),if_neg (by omega),if_neg (by omega),if_neg (by omega)]]
   refine DPure.go Tryd.func38 rfl Tryd.ntmps38 rfl rfl rfl (fun C hro=>?_)
   have fx:=trivial
   replace fx:=And.intro g1 (And.intro g2 trivial)
   repeat' (first|refine stp [0,1,2,3,12] ?_|(refine RS.ls ?_;refine rnx ?_)|(refine RS.pk ?_;refine rnx ?_)|(refine RS.gF ?_;refine rnx ?_)|(refine RS.xC ?_;refine rnx ?_)|(refine RS.bC ?_;refine rnx ?_)|refine WP.cn (fun hc=>?_) (fun hc=>?_)|fail)
   rfl
 ·have g1:decide (e.kind≥6)=false:=decide_eq_false h
  rw [show lvK e.kind=4 by unfold lvK;rw [if_neg (by omega),if_neg (by omega),if_neg (by omega),if_neg (by omega)]]
  refine DPure.go Tryd.func38 rfl Tryd.ntmps38 rfl rfl rfl (fun C hro=>?_)
  have fx:=trivial
  replace fx:=And.intro g1 trivial
  repeat' (first|refine stp [0,1,2,3,12] ?_|(refine RS.ls ?_;refine rnx ?_)|(refine RS.pk ?_;refine rnx ?_)|(refine RS.gF ?_;refine rnx ?_)|(refine RS.xC ?_;refine rnx ?_)|(refine RS.bC ?_;refine rnx ?_)|refine WP.cn (fun hc=>?_) (fun hc=>?_)|fail)
  rfl
theorem pr06write:∀(m:Nat) (e:Ex) (least:Int),e.sz≤m→e.sz≤1048576→e.formB=true→DPure Tryd.prog 22 [.r (Ex.at e),.a (.v (.int .i64 least))] (.a (.v (.string (bs (e.wrt dgN least)))))
 | 0,e,_,h,_,_=>by have:=e.sz_pos;omega
 | m+1,e,least,h,hz,hf=>by
  have IH:∀(k:Ex) (l:Int),k.sz<e.sz→k.formB=true→DPure Tryd.prog 22 [.r (Ex.at k),.a (.v (.int .i64 l))] (.a (.v (.string (bs (k.wrt dgN l))))):=fun k l hk hkf=>pr06write m k l (by omega) (by omega) hkf
  have hzz:=e.sz_eq
  have hx0:=kx0
  have hx1:=kx1
  cases e.shp hf with
  | num n hn =>
   have hlv:DPure Tryd.prog 38 [.r (Ex.at ⟨1,(n:Int),[],[]⟩)] (.a (.v (.int .i64 4))):=pr06level _
   have hdl:=decL_len hn
   have hdg:=pr02Digits n hn
   obtain⟨p1,e1,l1,hp1⟩:=addL [40] (decL n) (by simp only [List.length_cons,List.length_nil] at *;omega)
   obtain⟨p2,e2,l2,hp2⟩:=addR p1 [41] (by simp only [List.length_cons,List.length_nil] at *;omega)
   by_cases hls:(4:Int)<least
   ·have hl:=decide_eq_true hls
    refine DPure.go Tryd.func22 rfl Tryd.ntmps22 rfl rfl rfl (fun C hro=>?_)
    have fx:=trivial
    replace fx:=And.intro hl (And.intro hp1 (And.intro hp2 (And.intro hx0 trivial)))
    repeat' (first|refine stp [0,1,2,4,5,6,7,8,13,16,42,48,53,56,59,62,71,81,98] ?_|(refine RS.ls ?_;refine rnx ?_)|(refine RS.xC ?_;refine rnx ?_)|(refine RS.bC ?_;refine rnx ?_)|(refine stc (r1:=by first|exact hlv|exact hdg) (r2:=?_);refine rnx ?_)|refine WP.cn (fun hc=>?_) (fun hc=>?_)|((first|refine WP.dw (id:=8) 24 [0,1,2,4,5,6,7,8,13,16,42,48,53,56,59,62,71,81,98] ?_|refine WP.dw (id:=24) 15 [0,1,2,4,5,6,7,8,13,16,42,48,53,56,59,62,71,81,98] ?_);simp only [RQr_mk,List.drop_succ_cons,List.drop_zero,List.drop_nil])|fail)
    subst e2 e1 
    exact congrArg (fun z=>D.a (.v (.string (bs z)))) (parB_t hls).symm
   ·have hl:=decide_eq_false hls
    refine DPure.go Tryd.func22 rfl Tryd.ntmps22 rfl rfl rfl (fun C hro=>?_)
    have fx:=trivial
    replace fx:=And.intro hl (And.intro hx0 trivial)
    repeat' (first|refine stp [0,1,2,4,5,6,7,8,13,16,42,48,53,56,59,62,71,81,98] ?_|(refine RS.ls ?_;refine rnx ?_)|(refine RS.xC ?_;refine rnx ?_)|(refine RS.bC ?_;refine rnx ?_)|(refine stc (r1:=by first|exact hlv|exact hdg) (r2:=?_);refine rnx ?_)|refine WP.cn (fun hc=>?_) (fun hc=>?_)|((first|refine WP.dw (id:=8) 24 [0,1,2,4,5,6,7,8,13,16,42,48,53,56,59,62,71,81,98] ?_|refine WP.dw (id:=24) 15 [0,1,2,4,5,6,7,8,13,16,42,48,53,56,59,62,71,81,98] ?_);simp only [RQr_mk,List.drop_succ_cons,List.drop_zero,List.drop_nil])|fail)
    subst e2 e1 
    exact congrArg (fun z=>D.a (.v (.string (bs z)))) (parB_f hls).symm
  | var s =>
   have hlv:DPure Tryd.prog 38 [.r (Ex.at ⟨2,0,s,[]⟩)] (.a (.v (.int .i64 4))):=pr06level _
   have hsz:(⟨2,0,s,[]⟩:Ex).sz=1+s.length+0:=hzz
   obtain⟨p1,e1,l1,hp1⟩:=addL [40] (s) (by simp only [List.length_cons,List.length_nil] at *;omega)
   obtain⟨p2,e2,l2,hp2⟩:=addR p1 [41] (by simp only [List.length_cons,List.length_nil] at *;omega)
   by_cases hls:(4:Int)<least
   ·have hl:=decide_eq_true hls
    refine DPure.go Tryd.func22 rfl Tryd.ntmps22 rfl rfl rfl (fun C hro=>?_)
    have fx:=trivial
    replace fx:=And.intro hl (And.intro hp1 (And.intro hp2 (And.intro hx0 trivial)))
    repeat' (first|refine stp [0,1,2,4,5,6,7,8,13,16,42,48,53,56,59,62,71,81,98] ?_|(refine RS.ls ?_;refine rnx ?_)|(refine RS.xC ?_;refine rnx ?_)|(refine RS.bC ?_;refine rnx ?_)|(refine stc (r1:=by exact hlv) (r2:=?_);refine rnx ?_)|refine WP.cn (fun hc=>?_) (fun hc=>?_)|((first|refine WP.dw (id:=8) 24 [0,1,2,4,5,6,7,8,13,16,42,48,53,56,59,62,71,81,98] ?_|refine WP.dw (id:=24) 15 [0,1,2,4,5,6,7,8,13,16,42,48,53,56,59,62,71,81,98] ?_);simp only [RQr_mk,List.drop_succ_cons,List.drop_zero,List.drop_nil])|fail)
    subst e2 e1 
    exact congrArg (fun z=>D.a (.v (.string (bs z)))) (parB_t hls).symm
   ·have hl:=decide_eq_false hls
    refine DPure.go Tryd.func22 rfl Tryd.ntmps22 rfl rfl rfl (fun C hro=>?_)
    have fx:=trivial
    replace fx:=And.intro hl (And.intro hx0 trivial)
    repeat' (first|refine stp [0,1,2,4,5,6,7,8,13,16,42,48,53,56,59,62,71,81,98] ?_|(refine RS.ls ?_;refine rnx ?_)|(refine RS.xC ?_;refine rnx ?_)|(refine RS.bC ?_;refine rnx ?_)|(refine stc (r1:=by exact hlv) (r2:=?_);refine rnx ?_)|refine WP.cn (fun hc=>?_) (fun hc=>?_)|((first|refine WP.dw (id:=8) 24 [0,1,2,4,5,6,7,8,13,16,42,48,53,56,59,62,71,81,98] ?_|refine WP.dw (id:=24) 15 [0,1,2,4,5,6,7,8,13,16,42,48,53,56,59,62,71,81,98] ?_);simp only [RQr_mk,List.drop_succ_cons,List.drop_zero,List.drop_nil])|fail)
    subst e2 e1 
    exact congrArg (fun z=>D.a (.v (.string (bs z)))) (parB_f hls).symm
  | this =>
   have hlv:DPure Tryd.prog 38 [.r (Ex.at ⟨3,0,[],[]⟩)] (.a (.v (.int .i64 4))):=pr06level _
   have hll:([116,104,105,115]:List UInt8).length≤10:=by decide
   obtain⟨p1,e1,l1,hp1⟩:=addB [40] ([116,104,105,115]) (by simp only [List.length_cons,List.length_nil] at *;omega)
   obtain⟨p2,e2,l2,hp2⟩:=addR p1 [41] (by simp only [List.length_cons,List.length_nil] at *;omega)
   by_cases hls:(4:Int)<least
   ·have hl:=decide_eq_true hls
    refine DPure.go Tryd.func22 rfl Tryd.ntmps22 rfl rfl rfl (fun C hro=>?_)
    have fx:=trivial
    replace fx:=And.intro hl (And.intro hp1 (And.intro hp2 (And.intro hx0 trivial)))
    repeat' (first|refine stp [0,1,2,4,5,6,7,8,13,16,42,48,53,56,59,62,71,81,98] ?_|(refine RS.ls ?_;refine rnx ?_)|(refine RS.xC ?_;refine rnx ?_)|(refine RS.bC ?_;refine rnx ?_)|(refine stc (r1:=by exact hlv) (r2:=?_);refine rnx ?_)|refine WP.cn (fun hc=>?_) (fun hc=>?_)|((first|refine WP.dw (id:=8) 24 [0,1,2,4,5,6,7,8,13,16,42,48,53,56,59,62,71,81,98] ?_|refine WP.dw (id:=24) 15 [0,1,2,4,5,6,7,8,13,16,42,48,53,56,59,62,71,81,98] ?_);simp only [RQr_mk,List.drop_succ_cons,List.drop_zero,List.drop_nil])|fail)
    subst e2 e1 
    exact congrArg (fun z=>D.a (.v (.string (bs z)))) (parB_t hls).symm
   ·have hl:=decide_eq_false hls
    refine DPure.go Tryd.func22 rfl Tryd.ntmps22 rfl rfl rfl (fun C hro=>?_)
    have fx:=trivial
    replace fx:=And.intro hl (And.intro hx0 trivial)
    repeat' (first|refine stp [0,1,2,4,5,6,7,8,13,16,42,48,53,56,59,62,71,81,98] ?_|(refine RS.ls ?_;refine rnx ?_)|(refine RS.xC ?_;refine rnx ?_)|(refine RS.bC ?_;refine rnx ?_)|(refine stc (r1:=by exact hlv) (r2:=?_);refine rnx ?_)|refine WP.cn (fun hc=>?_) (fun hc=>?_)|((first|refine WP.dw (id:=8) 24 [0,1,2,4,5,6,7,8,13,16,42,48,53,56,59,62,71,81,98] ?_|refine WP.dw (id:=24) 15 [0,1,2,4,5,6,7,8,13,16,42,48,53,56,59,62,71,81,98] ?_);simp only [RQr_mk,List.drop_succ_cons,List.drop_zero,List.drop_nil])|fail)
    subst e2 e1 
    exact congrArg (fun z=>D.a (.v (.string (bs z)))) (parB_f hls).symm
  | null =>
   have hlv:DPure Tryd.prog 38 [.r (Ex.at ⟨4,0,[],[]⟩)] (.a (.v (.int .i64 4))):=pr06level _
   have hll:([110,117,108,108]:List UInt8).length≤10:=by decide
   obtain⟨p1,e1,l1,hp1⟩:=addB [40] ([110,117,108,108]) (by simp only [List.length_cons,List.length_nil] at *;omega)
   obtain⟨p2,e2,l2,hp2⟩:=addR p1 [41] (by simp only [List.length_cons,List.length_nil] at *;omega)
   by_cases hls:(4:Int)<least
   ·have hl:=decide_eq_true hls
    refine DPure.go Tryd.func22 rfl Tryd.ntmps22 rfl rfl rfl (fun C hro=>?_)
    have fx:=trivial
    replace fx:=And.intro hl (And.intro hp1 (And.intro hp2 (And.intro hx0 trivial)))
    repeat' (first|refine stp [0,1,2,4,5,6,7,8,13,16,42,48,53,56,59,62,71,81,98] ?_|(refine RS.ls ?_;refine rnx ?_)|(refine RS.xC ?_;refine rnx ?_)|(refine RS.bC ?_;refine rnx ?_)|(refine stc (r1:=by exact hlv) (r2:=?_);refine rnx ?_)|refine WP.cn (fun hc=>?_) (fun hc=>?_)|((first|refine WP.dw (id:=8) 24 [0,1,2,4,5,6,7,8,13,16,42,48,53,56,59,62,71,81,98] ?_|refine WP.dw (id:=24) 15 [0,1,2,4,5,6,7,8,13,16,42,48,53,56,59,62,71,81,98] ?_);simp only [RQr_mk,List.drop_succ_cons,List.drop_zero,List.drop_nil])|fail)
    subst e2 e1 
    exact congrArg (fun z=>D.a (.v (.string (bs z)))) (parB_t hls).symm
   ·have hl:=decide_eq_false hls
    refine DPure.go Tryd.func22 rfl Tryd.ntmps22 rfl rfl rfl (fun C hro=>?_)
    have fx:=trivial
    replace fx:=And.intro hl (And.intro hx0 trivial)
    repeat' (first|refine stp [0,1,2,4,5,6,7,8,13,16,42,48,53,56,59,62,71,81,98] ?_|(refine RS.ls ?_;refine rnx ?_)|(refine RS.xC ?_;refine rnx ?_)|(refine RS.bC ?_;refine rnx ?_)|(refine stc (r1:=by exact hlv) (r2:=?_);refine rnx ?_)|refine WP.cn (fun hc=>?_) (fun hc=>?_)|((first|refine WP.dw (id:=8) 24 [0,1,2,4,5,6,7,8,13,16,42,48,53,56,59,62,71,81,98] ?_|refine WP.dw (id:=24) 15 [0,1,2,4,5,6,7,8,13,16,42,48,53,56,59,62,71,81,98] ?_);simp only [RQr_mk,List.drop_succ_cons,List.drop_zero,List.drop_nil])|fail)
    subst e2 e1 
    exact congrArg (fun z=>D.a (.v (.string (bs z)))) (parB_f hls).symm
  | input =>
   have hlv:DPure Tryd.prog 38 [.r (Ex.at ⟨5,0,[],[]⟩)] (.a (.v (.int .i64 4))):=pr06level _
   have hll:([105,110,112,117,116]:List UInt8).length≤10:=by decide
   obtain⟨p1,e1,l1,hp1⟩:=addB [40] ([105,110,112,117,116]) (by simp only [List.length_cons,List.length_nil] at *;omega)
   obtain⟨p2,e2,l2,hp2⟩:=addR p1 [41] (by simp only [List.length_cons,List.length_nil] at *;omega)
   by_cases hls:(4:Int)<least
   ·have hl:=decide_eq_true hls
    refine DPure.go Tryd.func22 rfl Tryd.ntmps22 rfl rfl rfl (fun C hro=>?_)
    have fx:=trivial
    replace fx:=And.intro hl (And.intro hp1 (And.intro hp2 (And.intro hx0 trivial)))
    repeat' (first|refine stp [0,1,2,4,5,6,7,8,13,16,42,48,53,56,59,62,71,81,98] ?_|(refine RS.ls ?_;refine rnx ?_)|(refine RS.xC ?_;refine rnx ?_)|(refine RS.bC ?_;refine rnx ?_)|(refine stc (r1:=by exact hlv) (r2:=?_);refine rnx ?_)|refine WP.cn (fun hc=>?_) (fun hc=>?_)|((first|refine WP.dw (id:=8) 24 [0,1,2,4,5,6,7,8,13,16,42,48,53,56,59,62,71,81,98] ?_|refine WP.dw (id:=24) 15 [0,1,2,4,5,6,7,8,13,16,42,48,53,56,59,62,71,81,98] ?_);simp only [RQr_mk,List.drop_succ_cons,List.drop_zero,List.drop_nil])|fail)
    subst e2 e1 
    exact congrArg (fun z=>D.a (.v (.string (bs z)))) (parB_t hls).symm
   ·have hl:=decide_eq_false hls
    refine DPure.go Tryd.func22 rfl Tryd.ntmps22 rfl rfl rfl (fun C hro=>?_)
    have fx:=trivial
    replace fx:=And.intro hl (And.intro hx0 trivial)
    repeat' (first|refine stp [0,1,2,4,5,6,7,8,13,16,42,48,53,56,59,62,71,81,98] ?_|(refine RS.ls ?_;refine rnx ?_)|(refine RS.xC ?_;refine rnx ?_)|(refine RS.bC ?_;refine rnx ?_)|(refine stc (r1:=by exact hlv) (r2:=?_);refine rnx ?_)|refine WP.cn (fun hc=>?_) (fun hc=>?_)|((first|refine WP.dw (id:=8) 24 [0,1,2,4,5,6,7,8,13,16,42,48,53,56,59,62,71,81,98] ?_|refine WP.dw (id:=24) 15 [0,1,2,4,5,6,7,8,13,16,42,48,53,56,59,62,71,81,98] ?_);simp only [RQr_mk,List.drop_succ_cons,List.drop_zero,List.drop_nil])|fail)
    subst e2 e1 
    exact congrArg (fun z=>D.a (.v (.string (bs z)))) (parB_f hls).symm
  | bin k a b hk ha hb =>
   have hsz:(⟨k,0,[],[a,b]⟩:Ex).sz=1+0+(a.sz+(b.sz+0)):=hzz
   clear hf hzz
   rcases hk with rfl|rfl|rfl|rfl|rfl|rfl
   ·have hlv:DPure Tryd.prog 38 [.r (Ex.at ⟨6,0,[],[a,b]⟩)] (.a (.v (.int .i64 2))):=pr06level _
    have hla:=Ex.wrt_len a ha 2
    have ca:=IH a 2 (by omega) ha
    have hlb:=Ex.wrt_len b hb 3
    have cb:=IH b 3 (by omega) hb
    obtain⟨s1,f1,n1,q1⟩:=addR (a.wrt dgN 2) [32] (by simp only [List.length_cons,List.length_nil] at *;omega)
    obtain⟨s2,f2,n2,q2⟩:=addR (s1) [43] (by simp only [List.length_cons,List.length_nil] at *;omega)
    obtain⟨s3,f3,n3,q3⟩:=addR (s2) [32] (by simp only [List.length_cons,List.length_nil] at *;omega)
    obtain⟨s4,f4,n4,q4⟩:=addE (s3) (b.wrt dgN 3) (by simp only [List.length_cons,List.length_nil] at *;omega)
    have h0:=sgX0
    obtain⟨p1,e1,l1,hp1⟩:=addL [40] (s4) (by simp only [List.length_cons,List.length_nil] at *;omega)
    obtain⟨p2,e2,l2,hp2⟩:=addR p1 [41] (by simp only [List.length_cons,List.length_nil] at *;omega)
    by_cases hls:(2:Int)<least
    ·have hl:=decide_eq_true hls
     refine DPure.go Tryd.func22 rfl Tryd.ntmps22 rfl rfl rfl (fun C hro=>?_)
     have fx:=trivial
     replace fx:=And.intro hl (And.intro hp1 (And.intro hp2 (And.intro hx0 (And.intro hx1 (And.intro q1 (And.intro q2 (And.intro q3 (And.intro q4 (And.intro h0 trivial)))))))))
     repeat' (first|refine stp [0,1,2,4,5,6,7,8,13,16,42,48,53,56,59,62,71,81,98] ?_|(refine RS.ls ?_;refine rnx ?_)|(refine RS.xC ?_;refine rnx ?_)|(refine RS.bC ?_;refine rnx ?_)|(refine stc (r1:=by first|exact hlv|exact ca|exact cb) (r2:=?_);refine rnx ?_)|refine WP.cn (fun hc=>?_) (fun hc=>?_)|((first|refine WP.dw (id:=8) 24 [0,1,2,4,5,6,7,8,13,16,42,48,53,56,59,62,71,81,98] ?_|refine WP.dw (id:=24) 15 [0,1,2,4,5,6,7,8,13,16,42,48,53,56,59,62,71,81,98] ?_);simp only [RQr_mk,List.drop_succ_cons,List.drop_zero,List.drop_nil])|fail)
     subst e2 e1 f4 f3 f2 f1
     exact congrArg (fun z=>D.a (.v (.string (bs z)))) (parB_t hls).symm
    ·have hl:=decide_eq_false hls
     refine DPure.go Tryd.func22 rfl Tryd.ntmps22 rfl rfl rfl (fun C hro=>?_)
     have fx:=trivial
     replace fx:=And.intro hl (And.intro hx0 (And.intro hx1 (And.intro q1 (And.intro q2 (And.intro q3 (And.intro q4 (And.intro h0 trivial)))))))
     repeat' (first|refine stp [0,1,2,4,5,6,7,8,13,16,42,48,53,56,59,62,71,81,98] ?_|(refine RS.ls ?_;refine rnx ?_)|(refine RS.xC ?_;refine rnx ?_)|(refine RS.bC ?_;refine rnx ?_)|(refine stc (r1:=by first|exact hlv|exact ca|exact cb) (r2:=?_);refine rnx ?_)|refine WP.cn (fun hc=>?_) (fun hc=>?_)|((first|refine WP.dw (id:=8) 24 [0,1,2,4,5,6,7,8,13,16,42,48,53,56,59,62,71,81,98] ?_|refine WP.dw (id:=24) 15 [0,1,2,4,5,6,7,8,13,16,42,48,53,56,59,62,71,81,98] ?_);simp only [RQr_mk,List.drop_succ_cons,List.drop_zero,List.drop_nil])|fail)
     subst e2 e1 f4 f3 f2 f1
     exact congrArg (fun z=>D.a (.v (.string (bs z)))) (parB_f hls).symm
   ·have hlv:DPure Tryd.prog 38 [.r (Ex.at ⟨7,0,[],[a,b]⟩)] (.a (.v (.int .i64 2))):=pr06level _
    have hla:=Ex.wrt_len a ha 2
    have ca:=IH a 2 (by omega) ha
    have hlb:=Ex.wrt_len b hb 3
    have cb:=IH b 3 (by omega) hb
    obtain⟨s1,f1,n1,q1⟩:=addR (a.wrt dgN 2) [32] (by simp only [List.length_cons,List.length_nil] at *;omega)
    obtain⟨s2,f2,n2,q2⟩:=addR (s1) [45] (by simp only [List.length_cons,List.length_nil] at *;omega)
    obtain⟨s3,f3,n3,q3⟩:=addR (s2) [32] (by simp only [List.length_cons,List.length_nil] at *;omega)
    obtain⟨s4,f4,n4,q4⟩:=addE (s3) (b.wrt dgN 3) (by simp only [List.length_cons,List.length_nil] at *;omega)
    have h0:=sgX1
    obtain⟨p1,e1,l1,hp1⟩:=addL [40] (s4) (by simp only [List.length_cons,List.length_nil] at *;omega)
    obtain⟨p2,e2,l2,hp2⟩:=addR p1 [41] (by simp only [List.length_cons,List.length_nil] at *;omega)
    by_cases hls:(2:Int)<least
    ·have hl:=decide_eq_true hls
     refine DPure.go Tryd.func22 rfl Tryd.ntmps22 rfl rfl rfl (fun C hro=>?_)
     have fx:=trivial
     replace fx:=And.intro hl (And.intro hp1 (And.intro hp2 (And.intro hx0 (And.intro hx1 (And.intro q1 (And.intro q2 (And.intro q3 (And.intro q4 (And.intro h0 trivial)))))))))
     repeat' (first|refine stp [0,1,2,4,5,6,7,8,13,16,42,48,53,56,59,62,71,81,98] ?_|(refine RS.ls ?_;refine rnx ?_)|(refine RS.xC ?_;refine rnx ?_)|(refine RS.bC ?_;refine rnx ?_)|(refine stc (r1:=by first|exact hlv|exact ca|exact cb) (r2:=?_);refine rnx ?_)|refine WP.cn (fun hc=>?_) (fun hc=>?_)|((first|refine WP.dw (id:=8) 24 [0,1,2,4,5,6,7,8,13,16,42,48,53,56,59,62,71,81,98] ?_|refine WP.dw (id:=24) 15 [0,1,2,4,5,6,7,8,13,16,42,48,53,56,59,62,71,81,98] ?_);simp only [RQr_mk,List.drop_succ_cons,List.drop_zero,List.drop_nil])|fail)
     subst e2 e1 f4 f3 f2 f1
     exact congrArg (fun z=>D.a (.v (.string (bs z)))) (parB_t hls).symm
    ·have hl:=decide_eq_false hls
     refine DPure.go Tryd.func22 rfl Tryd.ntmps22 rfl rfl rfl (fun C hro=>?_)
     have fx:=trivial
     replace fx:=And.intro hl (And.intro hx0 (And.intro hx1 (And.intro q1 (And.intro q2 (And.intro q3 (And.intro q4 (And.intro h0 trivial)))))))
     repeat' (first|refine stp [0,1,2,4,5,6,7,8,13,16,42,48,53,56,59,62,71,81,98] ?_|(refine RS.ls ?_;refine rnx ?_)|(refine RS.xC ?_;refine rnx ?_)|(refine RS.bC ?_;refine rnx ?_)|(refine stc (r1:=by first|exact hlv|exact ca|exact cb) (r2:=?_);refine rnx ?_)|refine WP.cn (fun hc=>?_) (fun hc=>?_)|((first|refine WP.dw (id:=8) 24 [0,1,2,4,5,6,7,8,13,16,42,48,53,56,59,62,71,81,98] ?_|refine WP.dw (id:=24) 15 [0,1,2,4,5,6,7,8,13,16,42,48,53,56,59,62,71,81,98] ?_);simp only [RQr_mk,List.drop_succ_cons,List.drop_zero,List.drop_nil])|fail)
     subst e2 e1 f4 f3 f2 f1
     exact congrArg (fun z=>D.a (.v (.string (bs z)))) (parB_f hls).symm
   ·have hlv:DPure Tryd.prog 38 [.r (Ex.at ⟨8,0,[],[a,b]⟩)] (.a (.v (.int .i64 3))):=pr06level _
    have hla:=Ex.wrt_len a ha 3
    have ca:=IH a 3 (by omega) ha
    have hlb:=Ex.wrt_len b hb 4
    have cb:=IH b 4 (by omega) hb
    obtain⟨s1,f1,n1,q1⟩:=addR (a.wrt dgN 3) [32] (by simp only [List.length_cons,List.length_nil] at *;omega)
    obtain⟨s2,f2,n2,q2⟩:=addR (s1) [42] (by simp only [List.length_cons,List.length_nil] at *;omega)
    obtain⟨s3,f3,n3,q3⟩:=addR (s2) [32] (by simp only [List.length_cons,List.length_nil] at *;omega)
    obtain⟨s4,f4,n4,q4⟩:=addE (s3) (b.wrt dgN 4) (by simp only [List.length_cons,List.length_nil] at *;omega)
    have h0:=sgX2
    obtain⟨p1,e1,l1,hp1⟩:=addL [40] (s4) (by simp only [List.length_cons,List.length_nil] at *;omega)
    obtain⟨p2,e2,l2,hp2⟩:=addR p1 [41] (by simp only [List.length_cons,List.length_nil] at *;omega)
    by_cases hls:(3:Int)<least
    ·have hl:=decide_eq_true hls
     refine DPure.go Tryd.func22 rfl Tryd.ntmps22 rfl rfl rfl (fun C hro=>?_)
     have fx:=trivial
     replace fx:=And.intro hl (And.intro hp1 (And.intro hp2 (And.intro hx0 (And.intro hx1 (And.intro q1 (And.intro q2 (And.intro q3 (And.intro q4 (And.intro h0 trivial)))))))))
     repeat' (first|refine stp [0,1,2,4,5,6,7,8,13,16,42,48,53,56,59,62,71,81,98] ?_|(refine RS.ls ?_;refine rnx ?_)|(refine RS.xC ?_;refine rnx ?_)|(refine RS.bC ?_;refine rnx ?_)|(refine stc (r1:=by first|exact hlv|exact ca|exact cb) (r2:=?_);refine rnx ?_)|refine WP.cn (fun hc=>?_) (fun hc=>?_)|((first|refine WP.dw (id:=8) 24 [0,1,2,4,5,6,7,8,13,16,42,48,53,56,59,62,71,81,98] ?_|refine WP.dw (id:=24) 15 [0,1,2,4,5,6,7,8,13,16,42,48,53,56,59,62,71,81,98] ?_);simp only [RQr_mk,List.drop_succ_cons,List.drop_zero,List.drop_nil])|fail)
     subst e2 e1 f4 f3 f2 f1
     exact congrArg (fun z=>D.a (.v (.string (bs z)))) (parB_t hls).symm
    ·have hl:=decide_eq_false hls
     refine DPure.go Tryd.func22 rfl Tryd.ntmps22 rfl rfl rfl (fun C hro=>?_)
     have fx:=trivial
     replace fx:=And.intro hl (And.intro hx0 (And.intro hx1 (And.intro q1 (And.intro q2 (And.intro q3 (And.intro q4 (And.intro h0 trivial)))))))
     repeat' (first|refine stp [0,1,2,4,5,6,7,8,13,16,42,48,53,56,59,62,71,81,98] ?_|(refine RS.ls ?_;refine rnx ?_)|(refine RS.xC ?_;refine rnx ?_)|(refine RS.bC ?_;refine rnx ?_)|(refine stc (r1:=by first|exact hlv|exact ca|exact cb) (r2:=?_);refine rnx ?_)|refine WP.cn (fun hc=>?_) (fun hc=>?_)|((first|refine WP.dw (id:=8) 24 [0,1,2,4,5,6,7,8,13,16,42,48,53,56,59,62,71,81,98] ?_|refine WP.dw (id:=24) 15 [0,1,2,4,5,6,7,8,13,16,42,48,53,56,59,62,71,81,98] ?_);simp only [RQr_mk,List.drop_succ_cons,List.drop_zero,List.drop_nil])|fail)
     subst e2 e1 f4 f3 f2 f1
     exact congrArg (fun z=>D.a (.v (.string (bs z)))) (parB_f hls).symm
   ·have hlv:DPure Tryd.prog 38 [.r (Ex.at ⟨9,0,[],[a,b]⟩)] (.a (.v (.int .i64 1))):=pr06level _
    have hla:=Ex.wrt_len a ha 2
    have ca:=IH a 2 (by omega) ha
    have hlb:=Ex.wrt_len b hb 2
    have cb:=IH b 2 (by omega) hb
    obtain⟨s1,f1,n1,q1⟩:=addR (a.wrt dgN 2) [32] (by simp only [List.length_cons,List.length_nil] at *;omega)
    obtain⟨s2,f2,n2,q2⟩:=addR (s1) [60] (by simp only [List.length_cons,List.length_nil] at *;omega)
    obtain⟨s3,f3,n3,q3⟩:=addR (s2) [32] (by simp only [List.length_cons,List.length_nil] at *;omega)
    obtain⟨s4,f4,n4,q4⟩:=addE (s3) (b.wrt dgN 2) (by simp only [List.length_cons,List.length_nil] at *;omega)
    have h0:=sgX3
    obtain⟨p1,e1,l1,hp1⟩:=addL [40] (s4) (by simp only [List.length_cons,List.length_nil] at *;omega)
    obtain⟨p2,e2,l2,hp2⟩:=addR p1 [41] (by simp only [List.length_cons,List.length_nil] at *;omega)
    by_cases hls:(1:Int)<least
    ·have hl:=decide_eq_true hls
     refine DPure.go Tryd.func22 rfl Tryd.ntmps22 rfl rfl rfl (fun C hro=>?_)
     have fx:=trivial
     replace fx:=And.intro hl (And.intro hp1 (And.intro hp2 (And.intro hx0 (And.intro hx1 (And.intro q1 (And.intro q2 (And.intro q3 (And.intro q4 (And.intro h0 trivial)))))))))
     repeat' (first|refine stp [0,1,2,4,5,6,7,8,13,16,42,48,53,56,59,62,71,81,98] ?_|(refine RS.ls ?_;refine rnx ?_)|(refine RS.xC ?_;refine rnx ?_)|(refine RS.bC ?_;refine rnx ?_)|(refine stc (r1:=by first|exact hlv|exact ca|exact cb) (r2:=?_);refine rnx ?_)|refine WP.cn (fun hc=>?_) (fun hc=>?_)|((first|refine WP.dw (id:=8) 24 [0,1,2,4,5,6,7,8,13,16,42,48,53,56,59,62,71,81,98] ?_|refine WP.dw (id:=24) 15 [0,1,2,4,5,6,7,8,13,16,42,48,53,56,59,62,71,81,98] ?_);simp only [RQr_mk,List.drop_succ_cons,List.drop_zero,List.drop_nil])|fail)
     subst e2 e1 f4 f3 f2 f1
     exact congrArg (fun z=>D.a (.v (.string (bs z)))) (parB_t hls).symm
    ·have hl:=decide_eq_false hls
     refine DPure.go Tryd.func22 rfl Tryd.ntmps22 rfl rfl rfl (fun C hro=>?_)
     have fx:=trivial
     replace fx:=And.intro hl (And.intro hx0 (And.intro hx1 (And.intro q1 (And.intro q2 (And.intro q3 (And.intro q4 (And.intro h0 trivial)))))))
     repeat' (first|refine stp [0,1,2,4,5,6,7,8,13,16,42,48,53,56,59,62,71,81,98] ?_|(refine RS.ls ?_;refine rnx ?_)|(refine RS.xC ?_;refine rnx ?_)|(refine RS.bC ?_;refine rnx ?_)|(refine stc (r1:=by first|exact hlv|exact ca|exact cb) (r2:=?_);refine rnx ?_)|refine WP.cn (fun hc=>?_) (fun hc=>?_)|((first|refine WP.dw (id:=8) 24 [0,1,2,4,5,6,7,8,13,16,42,48,53,56,59,62,71,81,98] ?_|refine WP.dw (id:=24) 15 [0,1,2,4,5,6,7,8,13,16,42,48,53,56,59,62,71,81,98] ?_);simp only [RQr_mk,List.drop_succ_cons,List.drop_zero,List.drop_nil])|fail)
     subst e2 e1 f4 f3 f2 f1
     exact congrArg (fun z=>D.a (.v (.string (bs z)))) (parB_f hls).symm
   ·have hlv:DPure Tryd.prog 38 [.r (Ex.at ⟨10,0,[],[a,b]⟩)] (.a (.v (.int .i64 1))):=pr06level _
    have hla:=Ex.wrt_len a ha 2
    have ca:=IH a 2 (by omega) ha
    have hlb:=Ex.wrt_len b hb 2
    have cb:=IH b 2 (by omega) hb
    obtain⟨s1,f1,n1,q1⟩:=addR (a.wrt dgN 2) [32] (by simp only [List.length_cons,List.length_nil] at *;omega)
    obtain⟨s2,f2,n2,q2⟩:=addR (s1) [61,61] (by simp only [List.length_cons,List.length_nil] at *;omega)
    obtain⟨s3,f3,n3,q3⟩:=addR (s2) [32] (by simp only [List.length_cons,List.length_nil] at *;omega)
    obtain⟨s4,f4,n4,q4⟩:=addE (s3) (b.wrt dgN 2) (by simp only [List.length_cons,List.length_nil] at *;omega)
    have h0:=sgX4
    obtain⟨p1,e1,l1,hp1⟩:=addL [40] (s4) (by simp only [List.length_cons,List.length_nil] at *;omega)
    obtain⟨p2,e2,l2,hp2⟩:=addR p1 [41] (by simp only [List.length_cons,List.length_nil] at *;omega)
    by_cases hls:(1:Int)<least
    ·have hl:=decide_eq_true hls
     refine DPure.go Tryd.func22 rfl Tryd.ntmps22 rfl rfl rfl (fun C hro=>?_)
     have fx:=trivial
     replace fx:=And.intro hl (And.intro hp1 (And.intro hp2 (And.intro hx0 (And.intro hx1 (And.intro q1 (And.intro q2 (And.intro q3 (And.intro q4 (And.intro h0 trivial)))))))))
     repeat' (first|refine stp [0,1,2,4,5,6,7,8,13,16,42,48,53,56,59,62,71,81,98] ?_|(refine RS.ls ?_;refine rnx ?_)|(refine RS.xC ?_;refine rnx ?_)|(refine RS.bC ?_;refine rnx ?_)|(refine stc (r1:=by first|exact hlv|exact ca|exact cb) (r2:=?_);refine rnx ?_)|refine WP.cn (fun hc=>?_) (fun hc=>?_)|((first|refine WP.dw (id:=8) 24 [0,1,2,4,5,6,7,8,13,16,42,48,53,56,59,62,71,81,98] ?_|refine WP.dw (id:=24) 15 [0,1,2,4,5,6,7,8,13,16,42,48,53,56,59,62,71,81,98] ?_);simp only [RQr_mk,List.drop_succ_cons,List.drop_zero,List.drop_nil])|fail)
     subst e2 e1 f4 f3 f2 f1
     exact congrArg (fun z=>D.a (.v (.string (bs z)))) (parB_t hls).symm
    ·have hl:=decide_eq_false hls
     refine DPure.go Tryd.func22 rfl Tryd.ntmps22 rfl rfl rfl (fun C hro=>?_)
     have fx:=trivial
     replace fx:=And.intro hl (And.intro hx0 (And.intro hx1 (And.intro q1 (And.intro q2 (And.intro q3 (And.intro q4 (And.intro h0 trivial)))))))
     repeat' (first|refine stp [0,1,2,4,5,6,7,8,13,16,42,48,53,56,59,62,71,81,98] ?_|(refine RS.ls ?_;refine rnx ?_)|(refine RS.xC ?_;refine rnx ?_)|(refine RS.bC ?_;refine rnx ?_)|(refine stc (r1:=by first|exact hlv|exact ca|exact cb) (r2:=?_);refine rnx ?_)|refine WP.cn (fun hc=>?_) (fun hc=>?_)|((first|refine WP.dw (id:=8) 24 [0,1,2,4,5,6,7,8,13,16,42,48,53,56,59,62,71,81,98] ?_|refine WP.dw (id:=24) 15 [0,1,2,4,5,6,7,8,13,16,42,48,53,56,59,62,71,81,98] ?_);simp only [RQr_mk,List.drop_succ_cons,List.drop_zero,List.drop_nil])|fail)
     subst e2 e1 f4 f3 f2 f1
     exact congrArg (fun z=>D.a (.v (.string (bs z)))) (parB_f hls).symm
   ·have hlv:DPure Tryd.prog 38 [.r (Ex.at ⟨11,0,[],[a,b]⟩)] (.a (.v (.int .i64 0))):=pr06level _
    have hla:=Ex.wrt_len a ha 0
    have ca:=IH a 0 (by omega) ha
    have hlb:=Ex.wrt_len b hb 1
    have cb:=IH b 1 (by omega) hb
    obtain⟨s1,f1,n1,q1⟩:=addR (a.wrt dgN 0) [32] (by simp only [List.length_cons,List.length_nil] at *;omega)
    obtain⟨s2,f2,n2,q2⟩:=addR (s1) [38,38] (by simp only [List.length_cons,List.length_nil] at *;omega)
    obtain⟨s3,f3,n3,q3⟩:=addR (s2) [32] (by simp only [List.length_cons,List.length_nil] at *;omega)
    obtain⟨s4,f4,n4,q4⟩:=addE (s3) (b.wrt dgN 1) (by simp only [List.length_cons,List.length_nil] at *;omega)
    have h0:=sgX5
    obtain⟨p1,e1,l1,hp1⟩:=addL [40] (s4) (by simp only [List.length_cons,List.length_nil] at *;omega)
    obtain⟨p2,e2,l2,hp2⟩:=addR p1 [41] (by simp only [List.length_cons,List.length_nil] at *;omega)
    by_cases hls:(0:Int)<least
    ·have hl:=decide_eq_true hls
     refine DPure.go Tryd.func22 rfl Tryd.ntmps22 rfl rfl rfl (fun C hro=>?_)
     have fx:=trivial
     replace fx:=And.intro hl (And.intro hp1 (And.intro hp2 (And.intro hx0 (And.intro hx1 (And.intro q1 (And.intro q2 (And.intro q3 (And.intro q4 (And.intro h0 trivial)))))))))
     repeat' (first|refine stp [0,1,2,4,5,6,7,8,13,16,42,48,53,56,59,62,71,81,98] ?_|(refine RS.ls ?_;refine rnx ?_)|(refine RS.xC ?_;refine rnx ?_)|(refine RS.bC ?_;refine rnx ?_)|(refine stc (r1:=by first|exact hlv|exact ca|exact cb) (r2:=?_);refine rnx ?_)|refine WP.cn (fun hc=>?_) (fun hc=>?_)|((first|refine WP.dw (id:=8) 24 [0,1,2,4,5,6,7,8,13,16,42,48,53,56,59,62,71,81,98] ?_|refine WP.dw (id:=24) 15 [0,1,2,4,5,6,7,8,13,16,42,48,53,56,59,62,71,81,98] ?_);simp only [RQr_mk,List.drop_succ_cons,List.drop_zero,List.drop_nil])|fail)
     subst e2 e1 f4 f3 f2 f1
     exact congrArg (fun z=>D.a (.v (.string (bs z)))) (parB_t hls).symm
    ·have hl:=decide_eq_false hls
     refine DPure.go Tryd.func22 rfl Tryd.ntmps22 rfl rfl rfl (fun C hro=>?_)
     have fx:=trivial
     replace fx:=And.intro hl (And.intro hx0 (And.intro hx1 (And.intro q1 (And.intro q2 (And.intro q3 (And.intro q4 (And.intro h0 trivial)))))))
     repeat' (first|refine stp [0,1,2,4,5,6,7,8,13,16,42,48,53,56,59,62,71,81,98] ?_|(refine RS.ls ?_;refine rnx ?_)|(refine RS.xC ?_;refine rnx ?_)|(refine RS.bC ?_;refine rnx ?_)|(refine stc (r1:=by first|exact hlv|exact ca|exact cb) (r2:=?_);refine rnx ?_)|refine WP.cn (fun hc=>?_) (fun hc=>?_)|((first|refine WP.dw (id:=8) 24 [0,1,2,4,5,6,7,8,13,16,42,48,53,56,59,62,71,81,98] ?_|refine WP.dw (id:=24) 15 [0,1,2,4,5,6,7,8,13,16,42,48,53,56,59,62,71,81,98] ?_);simp only [RQr_mk,List.drop_succ_cons,List.drop_zero,List.drop_nil])|fail)
     subst e2 e1 f4 f3 f2 f1
     exact congrArg (fun z=>D.a (.v (.string (bs z)))) (parB_f hls).symm
  | not a ha =>
   have hlv:DPure Tryd.prog 38 [.r (Ex.at ⟨12,0,[],[a]⟩)] (.a (.v (.int .i64 4))):=pr06level _
   have hsz:(⟨12,0,[],[a]⟩:Ex).sz=1+0+(a.sz+0):=hzz
   have hla:=Ex.wrt_len a ha 4
   have ca:=IH a 4 (by omega) ha
   obtain⟨s1,f1,n1,q1⟩:=addL [33] (a.wrt dgN 4) (by simp only [List.length_cons,List.length_nil] at *;omega)
   obtain⟨p1,e1,l1,hp1⟩:=addL [40] (s1) (by simp only [List.length_cons,List.length_nil] at *;omega)
   obtain⟨p2,e2,l2,hp2⟩:=addR p1 [41] (by simp only [List.length_cons,List.length_nil] at *;omega)
   by_cases hls:(4:Int)<least
   ·have hl:=decide_eq_true hls
    refine DPure.go Tryd.func22 rfl Tryd.ntmps22 rfl rfl rfl (fun C hro=>?_)
    have fx:=trivial
    replace fx:=And.intro hl (And.intro hp1 (And.intro hp2 (And.intro hx0 (And.intro hx1 (And.intro q1 trivial)))))
    repeat' (first|refine stp [0,1,2,4,5,6,7,8,13,16,42,48,53,56,59,62,71,81,98] ?_|(refine RS.ls ?_;refine rnx ?_)|(refine RS.xC ?_;refine rnx ?_)|(refine RS.bC ?_;refine rnx ?_)|(refine stc (r1:=by first|exact hlv|exact ca) (r2:=?_);refine rnx ?_)|refine WP.cn (fun hc=>?_) (fun hc=>?_)|((first|refine WP.dw (id:=8) 24 [0,1,2,4,5,6,7,8,13,16,42,48,53,56,59,62,71,81,98] ?_|refine WP.dw (id:=24) 15 [0,1,2,4,5,6,7,8,13,16,42,48,53,56,59,62,71,81,98] ?_);simp only [RQr_mk,List.drop_succ_cons,List.drop_zero,List.drop_nil])|fail)
    subst e2 e1 f1
    exact congrArg (fun z=>D.a (.v (.string (bs z)))) (parB_t hls).symm
   ·have hl:=decide_eq_false hls
    refine DPure.go Tryd.func22 rfl Tryd.ntmps22 rfl rfl rfl (fun C hro=>?_)
    have fx:=trivial
    replace fx:=And.intro hl (And.intro hx0 (And.intro hx1 (And.intro q1 trivial)))
    repeat' (first|refine stp [0,1,2,4,5,6,7,8,13,16,42,48,53,56,59,62,71,81,98] ?_|(refine RS.ls ?_;refine rnx ?_)|(refine RS.xC ?_;refine rnx ?_)|(refine RS.bC ?_;refine rnx ?_)|(refine stc (r1:=by first|exact hlv|exact ca) (r2:=?_);refine rnx ?_)|refine WP.cn (fun hc=>?_) (fun hc=>?_)|((first|refine WP.dw (id:=8) 24 [0,1,2,4,5,6,7,8,13,16,42,48,53,56,59,62,71,81,98] ?_|refine WP.dw (id:=24) 15 [0,1,2,4,5,6,7,8,13,16,42,48,53,56,59,62,71,81,98] ?_);simp only [RQr_mk,List.drop_succ_cons,List.drop_zero,List.drop_nil])|fail)
    subst e2 e1 f1
    exact congrArg (fun z=>D.a (.v (.string (bs z)))) (parB_f hls).symm
  | nil a ha hk =>
   have hlv:DPure Tryd.prog 38 [.r (Ex.at ⟨13,0,[],[a]⟩)] (.a (.v (.int .i64 4))):=pr06level _
   have hsz:(⟨13,0,[],[a]⟩:Ex).sz=1+0+(a.sz+0):=hzz
   have hla:=Ex.wrt_len a ha 4
   have ca:=IH a 4 (by omega) ha
   obtain⟨s1,f1,n1,q1⟩:=addL [110,105,108,40] (a.wrt dgN 4) (by simp only [List.length_cons,List.length_nil] at *;omega)
   obtain⟨s2,f2,n2,q2⟩:=addR (s1) [41] (by simp only [List.length_cons,List.length_nil] at *;omega)
   obtain⟨p1,e1,l1,hp1⟩:=addL [40] (s2) (by simp only [List.length_cons,List.length_nil] at *;omega)
   obtain⟨p2,e2,l2,hp2⟩:=addR p1 [41] (by simp only [List.length_cons,List.length_nil] at *;omega)
   by_cases hls:(4:Int)<least
   ·have hl:=decide_eq_true hls
    refine DPure.go Tryd.func22 rfl Tryd.ntmps22 rfl rfl rfl (fun C hro=>?_)
    have fx:=trivial
    replace fx:=And.intro hl (And.intro hp1 (And.intro hp2 (And.intro hx0 (And.intro hx1 (And.intro q1 (And.intro q2 trivial))))))
    repeat' (first|refine stp [0,1,2,4,5,6,7,8,13,16,42,48,53,56,59,62,71,81,98] ?_|(refine RS.ls ?_;refine rnx ?_)|(refine RS.xC ?_;refine rnx ?_)|(refine RS.bC ?_;refine rnx ?_)|(refine stc (r1:=by first|exact hlv|exact ca) (r2:=?_);refine rnx ?_)|refine WP.cn (fun hc=>?_) (fun hc=>?_)|((first|refine WP.dw (id:=8) 24 [0,1,2,4,5,6,7,8,13,16,42,48,53,56,59,62,71,81,98] ?_|refine WP.dw (id:=24) 15 [0,1,2,4,5,6,7,8,13,16,42,48,53,56,59,62,71,81,98] ?_);simp only [RQr_mk,List.drop_succ_cons,List.drop_zero,List.drop_nil])|fail)
    subst e2 e1 f2 f1
    exact congrArg (fun z=>D.a (.v (.string (bs z)))) (parB_t hls).symm
   ·have hl:=decide_eq_false hls
    refine DPure.go Tryd.func22 rfl Tryd.ntmps22 rfl rfl rfl (fun C hro=>?_)
    have fx:=trivial
    replace fx:=And.intro hl (And.intro hx0 (And.intro hx1 (And.intro q1 (And.intro q2 trivial))))
    repeat' (first|refine stp [0,1,2,4,5,6,7,8,13,16,42,48,53,56,59,62,71,81,98] ?_|(refine RS.ls ?_;refine rnx ?_)|(refine RS.xC ?_;refine rnx ?_)|(refine RS.bC ?_;refine rnx ?_)|(refine stc (r1:=by first|exact hlv|exact ca) (r2:=?_);refine rnx ?_)|refine WP.cn (fun hc=>?_) (fun hc=>?_)|((first|refine WP.dw (id:=8) 24 [0,1,2,4,5,6,7,8,13,16,42,48,53,56,59,62,71,81,98] ?_|refine WP.dw (id:=24) 15 [0,1,2,4,5,6,7,8,13,16,42,48,53,56,59,62,71,81,98] ?_);simp only [RQr_mk,List.drop_succ_cons,List.drop_zero,List.drop_nil])|fail)
    subst e2 e1 f2 f1
    exact congrArg (fun z=>D.a (.v (.string (bs z)))) (parB_f hls).symm
  | same a b ha hb hka hkb =>
   have hlv:DPure Tryd.prog 38 [.r (Ex.at ⟨14,0,[],[a,b]⟩)] (.a (.v (.int .i64 4))):=pr06level _
   have hsz:(⟨14,0,[],[a,b]⟩:Ex).sz=1+0+(a.sz+(b.sz+0)):=hzz
   have hla:=Ex.wrt_len a ha 4
   have ca:=IH a 4 (by omega) ha
   have hlb:=Ex.wrt_len b hb 4
   have cb:=IH b 4 (by omega) hb
   obtain⟨s1,f1,n1,q1⟩:=addL [115,97,109,101,40] (a.wrt dgN 4) (by simp only [List.length_cons,List.length_nil] at *;omega)
   obtain⟨s2,f2,n2,q2⟩:=addR (s1) [44,32] (by simp only [List.length_cons,List.length_nil] at *;omega)
   obtain⟨s3,f3,n3,q3⟩:=addE (s2) (b.wrt dgN 4) (by simp only [List.length_cons,List.length_nil] at *;omega)
   obtain⟨s4,f4,n4,q4⟩:=addR (s3) [41] (by simp only [List.length_cons,List.length_nil] at *;omega)
   obtain⟨p1,e1,l1,hp1⟩:=addL [40] (s4) (by simp only [List.length_cons,List.length_nil] at *;omega)
   obtain⟨p2,e2,l2,hp2⟩:=addR p1 [41] (by simp only [List.length_cons,List.length_nil] at *;omega)
   by_cases hls:(4:Int)<least
   ·have hl:=decide_eq_true hls
    refine DPure.go Tryd.func22 rfl Tryd.ntmps22 rfl rfl rfl (fun C hro=>?_)
    have fx:=trivial
    replace fx:=And.intro hl (And.intro hp1 (And.intro hp2 (And.intro hx0 (And.intro hx1 (And.intro q1 (And.intro q2 (And.intro q3 (And.intro q4 trivial))))))))
    repeat' (first|refine stp [0,1,2,4,5,6,7,8,13,16,42,48,53,56,59,62,71,81,98] ?_|(refine RS.ls ?_;refine rnx ?_)|(refine RS.xC ?_;refine rnx ?_)|(refine RS.bC ?_;refine rnx ?_)|(refine stc (r1:=by first|exact hlv|exact ca|exact cb) (r2:=?_);refine rnx ?_)|refine WP.cn (fun hc=>?_) (fun hc=>?_)|((first|refine WP.dw (id:=8) 24 [0,1,2,4,5,6,7,8,13,16,42,48,53,56,59,62,71,81,98] ?_|refine WP.dw (id:=24) 15 [0,1,2,4,5,6,7,8,13,16,42,48,53,56,59,62,71,81,98] ?_);simp only [RQr_mk,List.drop_succ_cons,List.drop_zero,List.drop_nil])|fail)
    subst e2 e1 f4 f3 f2 f1
    exact congrArg (fun z=>D.a (.v (.string (bs z)))) (parB_t hls).symm
   ·have hl:=decide_eq_false hls
    refine DPure.go Tryd.func22 rfl Tryd.ntmps22 rfl rfl rfl (fun C hro=>?_)
    have fx:=trivial
    replace fx:=And.intro hl (And.intro hx0 (And.intro hx1 (And.intro q1 (And.intro q2 (And.intro q3 (And.intro q4 trivial))))))
    repeat' (first|refine stp [0,1,2,4,5,6,7,8,13,16,42,48,53,56,59,62,71,81,98] ?_|(refine RS.ls ?_;refine rnx ?_)|(refine RS.xC ?_;refine rnx ?_)|(refine RS.bC ?_;refine rnx ?_)|(refine stc (r1:=by first|exact hlv|exact ca|exact cb) (r2:=?_);refine rnx ?_)|refine WP.cn (fun hc=>?_) (fun hc=>?_)|((first|refine WP.dw (id:=8) 24 [0,1,2,4,5,6,7,8,13,16,42,48,53,56,59,62,71,81,98] ?_|refine WP.dw (id:=24) 15 [0,1,2,4,5,6,7,8,13,16,42,48,53,56,59,62,71,81,98] ?_);simp only [RQr_mk,List.drop_succ_cons,List.drop_zero,List.drop_nil])|fail)
    subst e2 e1 f4 f3 f2 f1
    exact congrArg (fun z=>D.a (.v (.string (bs z)))) (parB_f hls).symm
theorem chunk_binds:chunk bindR 0 3 0 6=sgnL.map Bd.at:=rfl
theorem bindR_0:ldRow (some 3) bindR 0=some (.r (Bd.at ⟨[38,38],1,11⟩)):=rfl
theorem bindR_1:ldRow (some 3) bindR 3=some (.r (Bd.at ⟨[60],2,9⟩)):=rfl
theorem bindR_2:ldRow (some 3) bindR 6=some (.r (Bd.at ⟨[61,61],2,10⟩)):=rfl
theorem bindR_3:ldRow (some 3) bindR 9=some (.r (Bd.at ⟨[43],3,6⟩)):=rfl
theorem bindR_4:ldRow (some 3) bindR 12=some (.r (Bd.at ⟨[45],3,7⟩)):=rfl
theorem bindR_5:ldRow (some 3) bindR 15=some (.r (Bd.at ⟨[42],4,8⟩)):=rfl
theorem pIxBind (q:Bd→Bool) (l:List Bd) (fn:FuncId) (caps:List A) (hcl:caps.all clA=true) (hn:l.length≤1048576) (hf:∀k∈l,DPure Tryd.prog fn (.r (Bd.at k)::caps.map D.a) (.a (.v (.bool (q k))))):DPure Tryd.prog 56 [.a (.sl (l.map Bd.at)),.a (.fn fn caps)] (.a (.v (.int .i64 (ixOf q l 0)))):=by
 have hcd:=cap_okD hcl
 have hld:=cap_ldD hcl
 refine DPure.go Tryd.func56 rfl Tryd.ntmps56 rfl rfl rfl (fun C hro=>?_)
 have fx:=trivial
 repeat' (first|refine stp [0,1,4,5,7,8,9,16] ?_|(refine RS.sA (hc:=chunk_binds) (k:=?_);refine rnx ?_)|refine retTT ?_|(refine RQ.ls ?_;refine rnx ?_)|refine WP.cn (fun hc=>?_) (fun hc=>?_)|fail)
 refine WP.loop (α:={ k:Nat // k≤l.length∧(l.take k).any q=false }) (fun y=>[(0,.a (.sl (l.map Bd.at))),(1,.a (.fn fn caps)),(7,.a (.v (.int .i64 (l.length:Nat)))),(8,.a (.v (.int .i64 (y.1:Nat))))]) (fun _=>[]) (fun y=>l.length-y.1) ⟨0,by omega,rfl⟩ (by simp only [Agree,go_sem,simprocAttr];first|done|rfl) rfl ?_
 rintro⟨k,hk,hinv⟩
 dsimp only
 by_cases hlt:k<l.length
 ·have hlt2:decide ((k:Int)<((l.length:Nat):Int))=true:=decide_eq_true (by omega)
  obtain⟨z,hz⟩:∃z,l[k]? = some z:=⟨_,List.getElem?_eq_getElem hlt⟩
  have hzm:z∈l:=List.mem_of_getElem? hz
  have hzt:=take_snocA hz
  have hix:∀q2,ixD (some 3) q2 (.a (.sl (l.map Bd.at))) (.a (.v (.int .i64 (k:Int))))=some (.a (.ref (Bd.at z) 0)):=fun q2=>ixD_at rfl (by rw [List.getElem?_map,hz];rfl) (by simp only [go_sem])
  have hw:k<9223372036854775807:=by omega
  have hwu:=wrap64n (k:=k) (by omega)
  replace fx:=And.intro hlt2 (And.intro hix (And.intro hwu (And.intro hcd (And.intro hld trivial))))
  repeat' (first|refine stp [0,1,4,5,7,8,9,16] ?_|(refine stc (r1:=by exact hf z hzm) (r2:=?_);refine rnx ?_)|(refine RS.sA (hc:=chunk_binds) (k:=?_);refine rnx ?_)|refine retTT ?_|(refine RQ.ls ?_;refine rnx ?_)|refine WP.cn (fun hc=>?_) (fun hc=>?_)|fail)
  ·rw [ixOf_at q l k 0 z hz hinv hc,Nat.zero_add]
  ·refine⟨⟨k+1,by omega,by rw [hzt,List.any_append,hinv];simpa using hc⟩,by dsimp only;omega,?_,rfl⟩
   simp only [Agree,go_sem,simprocAttr]
 obtain rfl:k=l.length:=by omega
 rw [List.take_length] at hinv
 have hlt2:decide ((l.length:Int)<(l.length:Int))=false:=decide_eq_false (by omega)
 replace fx:=And.intro hlt2 trivial
 repeat' (first|refine stp [0,1,4,5,7,8,9,16] ?_|(refine RS.sA (hc:=chunk_binds) (k:=?_);refine rnx ?_)|refine retTT ?_|(refine RQ.ls ?_;refine rnx ?_)|refine WP.cn (fun hc=>?_) (fun hc=>?_)|fail)
 rw [ixOf_none q l 0 hinv]
theorem peText1 (e:Ex) (b:Bd):DPure Tryd.prog 57 [.r (Bd.at b),.a (.ref (Ex.at e) 0)] (.a (.v (.bool (b.kind==e.kind)))):=by
 refine DPure.go Tryd.func57 rfl Tryd.ntmps57 rfl rfl rfl (fun C hro=>?_)
 have fx:=trivial
 repeat' (first|refine stp [0,1,2,3] ?_|(refine RS.sA (hc:=chunk_binds) (k:=?_);refine rnx ?_)|refine retTT ?_|(refine RQ.ls ?_;refine rnx ?_)|fail)
 rfl
theorem retTT {P:Program} {n:Nat} {e:Nat→D} {st:List Bx} {d d1 d2:D} {t u:Nat} (h:.t [d1,d2]=d) (ht:decide (t<n)=true:=by rfl) (hu:decide (u<n)=true:=by rfl) (he:seeD1 st (e t)=d1:=by (simp only [go_sem,simprocAttr,fx])<;>rfl) (he2:seeD1 st (e u)=d2:=by (simp only [go_sem,simprocAttr,fx])<;>rfl) (hc1:clD1 d1=true:=by simp only [go_sem,fx]) (hc2:clD1 d2=true:=by simp only [go_sem,fx]):retN P n [.tmp t,.tmp u] d .ret e st:=by
 subst h
 show resL P n e st [.tmp t,.tmp u] _
 refine⟨[d1,d2],rfl,?_,by simp [hc1,hc2]⟩
 simp only [List.map_cons,List.map_nil,res1]
 rw [if_pos (of_decide_eq_true ht),if_pos (of_decide_eq_true hu),he,he2]
theorem join3 (x y z:List UInt8):Lib.join [x,y,z] [32]=x++[32]++y++[32]++z:=by simp [Lib.join,List.intercalate,List.intersperse]
theorem pJoin (l:List (List UInt8)) (sep:List UInt8) (h0:l≠[]) (hn:l.length≤1048576) (hl:(Lib.join l sep).length≤140737488355328):DPure Tryd.prog 58 [.a (.sl (l.map strAt)),.a (.v (.string (bs sep)))] (.a (.v (.string (bs (Lib.join l sep))))):=by
 refine⟨callFunc_of Tryd.func58 rfl rfl,fun w x vs hx hg hvl hr=>?_⟩
 match vs,hvl with
 | [u,v],_ =>
  have h1:RepD (out w x) (.a (.sl (l.map strAt))) u:=hr 0 _ rfl
  have h2:RepD (out w x) (.a (.v (.string (bs sep)))) v:=hr 1 _ rfl
  obtain⟨rfl,_⟩:=h2.v_inv
  have h3:=h1.c_inv rfl
  generalize hrows:l.map strAt=rows at h3
  cases h3 with
  | sl0 a c=>exact absurd (List.map_eq_nil_iff.1 hrows) h0
  | sl _ n b o c val hC hM hc hlen hcell hrep =>
   have hat:∀(j:Nat) (s:List UInt8),l[j]? = some s→w.cell? ⟨b,o+j,none⟩=some (.string (bs s)):=fun j s hj=>by
    have hr1:rows[j]? = some (strAt s):=by rw [←hrows,List.getElem?_map,hj];rfl
    have hn1:1=n:=hlen j _ hr1
    subst hn1
    have h4:=hcell j _ 0 _ hr1 rfl
    have h5:=hrep j _ 0 _ hr1 rfl
    rw [Nat.mul_one,Nat.add_zero] at h4
    generalize val j 0=u at h4 h5
    cases h5
    exact h4
   have hlr:rows.length=(l.map bs).length:=by rw [←hrows];simp
   rw [hlr]
   have hll:(l.map bs).length≤140737488355328:=by rw [List.length_map];omega
   have hbd:(l.map bs).map (·.data.toList)=l:=by
    rw [List.map_map];conv=>rhs;rw [←List.map_id l]
    exact List.map_congr_left fun s _=>bs_data s
   have:=Tryd.strings_Join b o c (l.map bs) (bs sep) w (fun j y hy=>by
    rw [List.getElem?_map,Option.map_eq_some_iff] at hy
    obtain⟨s,hs,rfl⟩:=hy
    exact hat j s hs) hC.lt hll (by rw [←hlr];exact hc) (by rw [hbd,bs_data];exact hl)
   refine this.mono ?_
   rintro en w' ⟨rfl,hq⟩
   refine⟨_,rfl,Grw.of_below hq,?_⟩
   rw [hbd,bs_data]
   exact .a _ _ (.c _ _ (.v _ rfl))
theorem peAtOf (e:Ex) (hz:e.sz≤1048576) (hf:e.formB=true) (hT:DPure Tryd.prog 37 [.r (Ex.at e)] (.t [.a (.v (.string (bs (e.txt dgN)))),.a (.v (.int .i64 (lvK e.kind+1)))])) (least:Int):DPure Tryd.prog 21 [.r (Ex.at e),.a (.v (.int .i64 least))] (.a (.v (.string (bs (e.wrt dgN (least-1)))))):=by
 have hlen:=Ex.txt_len _ e (Nat.le_refl _) hf
 obtain⟨p1,e1,l1,hp1⟩:=addL [40] (e.txt dgN) (by simp only [List.length_cons,List.length_nil] at *;omega)
 obtain⟨p2,e2,l2,hp2⟩:=addR p1 [41] (by simp only [List.length_cons,List.length_nil] at *;omega)
 by_cases hls:lvK e.kind+1<least
 ·have hl:=decide_eq_true hls
  refine DPure.go Tryd.func21 rfl Tryd.ntmps21 rfl rfl rfl (fun C hro=>?_)
  have fx:=trivial
  replace fx:=And.intro hl (And.intro hp1 (And.intro hp2 trivial))
  repeat' (first|refine stp [0,1,2,4,5,6,14] ?_|(refine stc (r1:=by exact hT) (r2:=?_);refine rnx ?_)|(refine RS.sA (hc:=chunk_binds) (k:=?_);refine rnx ?_)|refine retTT ?_|(refine RQ.ls ?_;refine rnx ?_)|refine WP.cn (fun hc=>?_) (fun hc=>?_)|fail)
  subst e2 e1
  exact congrArg (fun z=>D.a (.v (.string (bs z)))) (parB_t (by omega)).symm
 ·have hl:=decide_eq_false hls
  refine DPure.go Tryd.func21 rfl Tryd.ntmps21 rfl rfl rfl (fun C hro=>?_)
  have fx:=trivial
  replace fx:=And.intro hl trivial
  repeat' (first|refine stp [0,1,2,4,5,6,14] ?_|(refine stc (r1:=by exact hT) (r2:=?_);refine rnx ?_)|(refine RS.sA (hc:=chunk_binds) (k:=?_);refine rnx ?_)|refine retTT ?_|(refine RQ.ls ?_;refine rnx ?_)|refine WP.cn (fun hc=>?_) (fun hc=>?_)|fail)
  exact congrArg (fun z=>D.a (.v (.string (bs z)))) (parB_f (by omega)).symm
theorem wrt_low (e:Ex) (h:lvK e.kind=4):e.wrt dgN (-1)=e.wrt dgN 4:=by
 unfold Ex.wrt;rw [h,parB_f (by decide),parB_f (by decide)]
theorem lvK_nn (k:Int):0≤lvK k:=by
 unfold lvK
 repeat' split
 all_goals decide
theorem peText:∀(m:Nat) (e:Ex),e.sz≤m→e.sz≤1048576→e.formB=true→DPure Tryd.prog 37 [.r (Ex.at e)] (.t [.a (.v (.string (bs (e.txt dgN)))),.a (.v (.int .i64 (lvK e.kind+1)))])
 | 0,e,h,_,_=>by have:=e.sz_pos;omega
 | m+1,e,h,hz,hf=>by
  have IH:∀(k:Ex) (l:Int),k.sz<e.sz→k.formB=true→DPure Tryd.prog 21 [.r (Ex.at k),.a (.v (.int .i64 l))] (.a (.v (.string (bs (k.wrt dgN (l-1)))))):=fun k l hk hkf=>peAtOf k (by omega) hkf (peText m k (by omega) (by omega) hkf) l
  have hzz:=e.sz_eq
  have hx0:=kx0
  have hx1:=kx1
  cases e.shp hf with
  | num n hn =>
   have hdg:=pwDigits n hn
   refine DPure.go Tryd.func37 rfl Tryd.ntmps37 rfl rfl rfl (fun C hro=>?_)
   have fx:=trivial
   replace fx:=And.intro hx0 trivial
   repeat' (first|(refine RWL.fin ?_;try simp only [thenQ_n,blockQ_n])|refine stp [0,1,2,3,4,5,6,8,9,14,18,20,22,24,32,41,72] ?_|(refine RS.ls ?_;refine rnx ?_)|(refine RS.sE ?_;refine rnx ?_)|(refine RS.pk ?_;refine rnx ?_)|(refine RS.gF ?_;refine rnx ?_)|(refine RS.sN ?_;refine rnx ?_)|(refine RS.sC ?_;refine rnx ?_)|(refine RS.xC ?_;refine rnx ?_)|(refine RS.bC ?_;refine rnx ?_)|refine RWL.fr ?_|refine RWL.wt ?_|refine RWL.lS ?_|refine RWL.bC ?_|(refine stc (r1:=by exact hdg) (r2:=?_);refine rnx ?_)|(refine' WP.dl (id:=23) [0,1,3,7,0,31,0,64,0,256,768,1792,0,4096,12288,32575,65535,131071,0,262144,262143,2097151] [0,1,2,3,4,5,6,8,9,14,18,20,22,24,32,41,72] [] [] ?_)|refine RWL.re ?_ ?_|refine RdO.oz|refine RdO.oa ?_|refine RdO.oe ?_|refine RdO.on|(refine RS.sA (hc:=chunk_binds) (k:=?_);refine rnx ?_)|refine retTT ?_|(refine RQ.ls ?_;refine rnx ?_)|refine WP.cn (fun hc=>?_) (fun hc=>?_)|(refine RQ.sC ?_;refine rnx ?_)|(refine RQ.sA (hc:=chunk_binds) (k:=?_);refine rnx ?_)|((first|refine WP.dw (id:=17) 16 [0,1,2,3,4,5,6,8,9,14,18,20,22,24,32,41,72] ?_);simp only [RQr_mk,List.drop_succ_cons,List.drop_zero,List.drop_nil])|fail)
   rfl
  | var s =>
   refine DPure.go Tryd.func37 rfl Tryd.ntmps37 rfl rfl rfl (fun C hro=>?_)
   have fx:=trivial
   replace fx:=And.intro hx0 trivial
   repeat' (first|(refine RWL.fin ?_;try simp only [thenQ_n,blockQ_n])|refine stp [0,1,2,3,4,5,6,8,9,14,18,20,22,24,32,41,72] ?_|(refine RS.ls ?_;refine rnx ?_)|(refine RS.sE ?_;refine rnx ?_)|(refine RS.pk ?_;refine rnx ?_)|(refine RS.gF ?_;refine rnx ?_)|(refine RS.sN ?_;refine rnx ?_)|(refine RS.sC ?_;refine rnx ?_)|(refine RS.xC ?_;refine rnx ?_)|(refine RS.bC ?_;refine rnx ?_)|refine RWL.fr ?_|refine RWL.wt ?_|refine RWL.lS ?_|refine RWL.bC ?_|(refine' WP.dl (id:=23) [0,1,3,7,0,31,0,64,0,256,768,1792,0,4096,12288,32575,65535,131071,0,262144,262143,2097151] [0,1,2,3,4,5,6,8,9,14,18,20,22,24,32,41,72] [] [] ?_)|refine RWL.re ?_ ?_|refine RdO.oz|refine RdO.oa ?_|refine RdO.oe ?_|refine RdO.on|(refine RS.sA (hc:=chunk_binds) (k:=?_);refine rnx ?_)|refine retTT ?_|(refine RQ.ls ?_;refine rnx ?_)|refine WP.cn (fun hc=>?_) (fun hc=>?_)|(refine RQ.sC ?_;refine rnx ?_)|(refine RQ.sA (hc:=chunk_binds) (k:=?_);refine rnx ?_)|((first|refine WP.dw (id:=17) 16 [0,1,2,3,4,5,6,8,9,14,18,20,22,24,32,41,72] ?_);simp only [RQr_mk,List.drop_succ_cons,List.drop_zero,List.drop_nil])|fail)
   rfl
  | this =>
   refine DPure.go Tryd.func37 rfl Tryd.ntmps37 rfl rfl rfl (fun C hro=>?_)
   have fx:=trivial
   replace fx:=And.intro hx0 trivial
   repeat' (first|(refine RWL.fin ?_;try simp only [thenQ_n,blockQ_n])|refine stp [0,1,2,3,4,5,6,8,9,14,18,20,22,24,32,41,72] ?_|(refine RS.ls ?_;refine rnx ?_)|(refine RS.sE ?_;refine rnx ?_)|(refine RS.pk ?_;refine rnx ?_)|(refine RS.gF ?_;refine rnx ?_)|(refine RS.sN ?_;refine rnx ?_)|(refine RS.sC ?_;refine rnx ?_)|(refine RS.xC ?_;refine rnx ?_)|(refine RS.bC ?_;refine rnx ?_)|refine RWL.fr ?_|refine RWL.wt ?_|refine RWL.lS ?_|refine RWL.bC ?_|(refine' WP.dl (id:=23) [0,1,3,7,0,31,0,64,0,256,768,1792,0,4096,12288,32575,65535,131071,0,262144,262143,2097151] [0,1,2,3,4,5,6,8,9,14,18,20,22,24,32,41,72] [] [] ?_)|refine RWL.re ?_ ?_|refine RdO.oz|refine RdO.oa ?_|refine RdO.oe ?_|refine RdO.on|(refine RS.sA (hc:=chunk_binds) (k:=?_);refine rnx ?_)|refine retTT ?_|(refine RQ.ls ?_;refine rnx ?_)|refine WP.cn (fun hc=>?_) (fun hc=>?_)|(refine RQ.sC ?_;refine rnx ?_)|(refine RQ.sA (hc:=chunk_binds) (k:=?_);refine rnx ?_)|((first|refine WP.dw (id:=17) 16 [0,1,2,3,4,5,6,8,9,14,18,20,22,24,32,41,72] ?_);simp only [RQr_mk,List.drop_succ_cons,List.drop_zero,List.drop_nil])|fail)
   rfl
  | null =>
   refine DPure.go Tryd.func37 rfl Tryd.ntmps37 rfl rfl rfl (fun C hro=>?_)
   have fx:=trivial
   replace fx:=And.intro hx0 trivial
   repeat' (first|(refine RWL.fin ?_;try simp only [thenQ_n,blockQ_n])|refine stp [0,1,2,3,4,5,6,8,9,14,18,20,22,24,32,41,72] ?_|(refine RS.ls ?_;refine rnx ?_)|(refine RS.sE ?_;refine rnx ?_)|(refine RS.pk ?_;refine rnx ?_)|(refine RS.gF ?_;refine rnx ?_)|(refine RS.sN ?_;refine rnx ?_)|(refine RS.sC ?_;refine rnx ?_)|(refine RS.xC ?_;refine rnx ?_)|(refine RS.bC ?_;refine rnx ?_)|refine RWL.fr ?_|refine RWL.wt ?_|refine RWL.lS ?_|refine RWL.bC ?_|(refine' WP.dl (id:=23) [0,1,3,7,0,31,0,64,0,256,768,1792,0,4096,12288,32575,65535,131071,0,262144,262143,2097151] [0,1,2,3,4,5,6,8,9,14,18,20,22,24,32,41,72] [] [] ?_)|refine RWL.re ?_ ?_|refine RdO.oz|refine RdO.oa ?_|refine RdO.oe ?_|refine RdO.on|(refine RS.sA (hc:=chunk_binds) (k:=?_);refine rnx ?_)|refine retTT ?_|(refine RQ.ls ?_;refine rnx ?_)|refine WP.cn (fun hc=>?_) (fun hc=>?_)|(refine RQ.sC ?_;refine rnx ?_)|(refine RQ.sA (hc:=chunk_binds) (k:=?_);refine rnx ?_)|((first|refine WP.dw (id:=17) 16 [0,1,2,3,4,5,6,8,9,14,18,20,22,24,32,41,72] ?_);simp only [RQr_mk,List.drop_succ_cons,List.drop_zero,List.drop_nil])|fail)
   rfl
  | input =>
   refine DPure.go Tryd.func37 rfl Tryd.ntmps37 rfl rfl rfl (fun C hro=>?_)
   have fx:=trivial
   replace fx:=And.intro hx0 trivial
   repeat' (first|(refine RWL.fin ?_;try simp only [thenQ_n,blockQ_n])|refine stp [0,1,2,3,4,5,6,8,9,14,18,20,22,24,32,41,72] ?_|(refine RS.ls ?_;refine rnx ?_)|(refine RS.sE ?_;refine rnx ?_)|(refine RS.pk ?_;refine rnx ?_)|(refine RS.gF ?_;refine rnx ?_)|(refine RS.sN ?_;refine rnx ?_)|(refine RS.sC ?_;refine rnx ?_)|(refine RS.xC ?_;refine rnx ?_)|(refine RS.bC ?_;refine rnx ?_)|refine RWL.fr ?_|refine RWL.wt ?_|refine RWL.lS ?_|refine RWL.bC ?_|(refine' WP.dl (id:=23) [0,1,3,7,0,31,0,64,0,256,768,1792,0,4096,12288,32575,65535,131071,0,262144,262143,2097151] [0,1,2,3,4,5,6,8,9,14,18,20,22,24,32,41,72] [] [] ?_)|refine RWL.re ?_ ?_|refine RdO.oz|refine RdO.oa ?_|refine RdO.oe ?_|refine RdO.on|(refine RS.sA (hc:=chunk_binds) (k:=?_);refine rnx ?_)|refine retTT ?_|(refine RQ.ls ?_;refine rnx ?_)|refine WP.cn (fun hc=>?_) (fun hc=>?_)|(refine RQ.sC ?_;refine rnx ?_)|(refine RQ.sA (hc:=chunk_binds) (k:=?_);refine rnx ?_)|((first|refine WP.dw (id:=17) 16 [0,1,2,3,4,5,6,8,9,14,18,20,22,24,32,41,72] ?_);simp only [RQr_mk,List.drop_succ_cons,List.drop_zero,List.drop_nil])|fail)
   rfl
  | bin k a b hk ha hb =>
   have hsz:(⟨k,0,[],[a,b]⟩:Ex).sz=1+0+(a.sz+(b.sz+0)):=hzz
   clear hf hzz
   rcases hk with rfl|rfl|rfl|rfl|rfl|rfl
   ·have hI:DPure Tryd.prog 56 [.a (.sl (sgnL.map Bd.at)),.a (.fn 57 [.ref (Ex.at ⟨6,0,[],[a,b]⟩) 0])] (.a (.v (.int .i64 3))):=pIxBind (fun b=>b.kind==6) sgnL 57 [.ref (Ex.at ⟨6,0,[],[a,b]⟩) 0] rfl (by decide) fun z _=>peText1 ⟨6,0,[],[a,b]⟩ z
    have hla:=Ex.wrt_len a ha 2
    have hlb:=Ex.wrt_len b hb 3
    have ca:DPure Tryd.prog 21 [.r (Ex.at a),.a (.v (.int .i64 3))] (.a (.v (.string (bs (a.wrt dgN 2))))):=IH a 3 (by omega) ha
    have cb:DPure Tryd.prog 21 [.r (Ex.at b),.a (.v (.int .i64 4))] (.a (.v (.string (bs (b.wrt dgN 3))))):=IH b 4 (by omega) hb
    have hb0:=bindR_3
    have hz0:putRow [.v (.string ⟨#[]⟩),.v (.int .i64 0),.v (.int .i64 0)] 0 (Bd.at ⟨[43],3,6⟩)=Bd.at ⟨[43],3,6⟩:=rfl
    have hJ:=pJoin [a.wrt dgN 2,[43],b.wrt dgN 3] [32] (by simp) (by simp) (by rw [join3];simp only [List.length_append,List.length_cons,List.length_nil];omega)
    rw [join3] at hJ
    refine DPure.go Tryd.func37 rfl Tryd.ntmps37 rfl rfl rfl (fun C hro=>?_)
    have fx:=trivial
    replace fx:=And.intro hx0 (And.intro hx1 (And.intro hb0 (And.intro hz0 trivial)))
    repeat' (first|(refine RWL.fin ?_;try simp only [thenQ_n,blockQ_n])|refine stp [0,1,2,3,4,5,6,8,9,14,18,20,22,24,32,41,72] ?_|(refine RS.ls ?_;refine rnx ?_)|(refine RS.sE ?_;refine rnx ?_)|(refine RS.pk ?_;refine rnx ?_)|(refine RS.gF ?_;refine rnx ?_)|(refine RS.sN ?_;refine rnx ?_)|(refine RS.sC ?_;refine rnx ?_)|(refine RS.xC ?_;refine rnx ?_)|(refine RS.bC ?_;refine rnx ?_)|refine RWL.fr ?_|refine RWL.wt ?_|refine RWL.lS ?_|refine RWL.bC ?_|(refine stc (r1:=by first|exact hI|exact ca|exact cb|exact hJ) (r2:=?_);refine rnx ?_)|(refine' WP.dl (id:=23) [0,1,3,7,0,31,0,64,0,256,768,1792,0,4096,12288,32575,65535,131071,0,262144,262143,2097151] [0,1,2,3,4,5,6,8,9,14,18,20,22,24,32,41,72] [] [] ?_)|refine RWL.re ?_ ?_|refine RdO.oz|refine RdO.oa ?_|refine RdO.oe ?_|refine RdO.on|(refine RS.sA (hc:=chunk_binds) (k:=?_);refine rnx ?_)|refine retTT ?_|(refine RQ.ls ?_;refine rnx ?_)|refine WP.cn (fun hc=>?_) (fun hc=>?_)|(refine RQ.sC ?_;refine rnx ?_)|(refine RQ.sA (hc:=chunk_binds) (k:=?_);refine rnx ?_)|((first|refine WP.dw (id:=17) 16 [0,1,2,3,4,5,6,8,9,14,18,20,22,24,32,41,72] ?_);simp only [RQr_mk,List.drop_succ_cons,List.drop_zero,List.drop_nil])|fail)
    rfl
   ·have hI:DPure Tryd.prog 56 [.a (.sl (sgnL.map Bd.at)),.a (.fn 57 [.ref (Ex.at ⟨7,0,[],[a,b]⟩) 0])] (.a (.v (.int .i64 4))):=pIxBind (fun b=>b.kind==7) sgnL 57 [.ref (Ex.at ⟨7,0,[],[a,b]⟩) 0] rfl (by decide) fun z _=>peText1 ⟨7,0,[],[a,b]⟩ z
    have hla:=Ex.wrt_len a ha 2
    have hlb:=Ex.wrt_len b hb 3
    have ca:DPure Tryd.prog 21 [.r (Ex.at a),.a (.v (.int .i64 3))] (.a (.v (.string (bs (a.wrt dgN 2))))):=IH a 3 (by omega) ha
    have cb:DPure Tryd.prog 21 [.r (Ex.at b),.a (.v (.int .i64 4))] (.a (.v (.string (bs (b.wrt dgN 3))))):=IH b 4 (by omega) hb
    have hb0:=bindR_4
    have hz0:putRow [.v (.string ⟨#[]⟩),.v (.int .i64 0),.v (.int .i64 0)] 0 (Bd.at ⟨[45],3,7⟩)=Bd.at ⟨[45],3,7⟩:=rfl
    have hJ:=pJoin [a.wrt dgN 2,[45],b.wrt dgN 3] [32] (by simp) (by simp) (by rw [join3];simp only [List.length_append,List.length_cons,List.length_nil];omega)
    rw [join3] at hJ
    refine DPure.go Tryd.func37 rfl Tryd.ntmps37 rfl rfl rfl (fun C hro=>?_)
    have fx:=trivial
    replace fx:=And.intro hx0 (And.intro hx1 (And.intro hb0 (And.intro hz0 trivial)))
    repeat' (first|(refine RWL.fin ?_;try simp only [thenQ_n,blockQ_n])|refine stp [0,1,2,3,4,5,6,8,9,14,18,20,22,24,32,41,72] ?_|(refine RS.ls ?_;refine rnx ?_)|(refine RS.sE ?_;refine rnx ?_)|(refine RS.pk ?_;refine rnx ?_)|(refine RS.gF ?_;refine rnx ?_)|(refine RS.sN ?_;refine rnx ?_)|(refine RS.sC ?_;refine rnx ?_)|(refine RS.xC ?_;refine rnx ?_)|(refine RS.bC ?_;refine rnx ?_)|refine RWL.fr ?_|refine RWL.wt ?_|refine RWL.lS ?_|refine RWL.bC ?_|(refine stc (r1:=by first|exact hI|exact ca|exact cb|exact hJ) (r2:=?_);refine rnx ?_)|(refine' WP.dl (id:=23) [0,1,3,7,0,31,0,64,0,256,768,1792,0,4096,12288,32575,65535,131071,0,262144,262143,2097151] [0,1,2,3,4,5,6,8,9,14,18,20,22,24,32,41,72] [] [] ?_)|refine RWL.re ?_ ?_|refine RdO.oz|refine RdO.oa ?_|refine RdO.oe ?_|refine RdO.on|(refine RS.sA (hc:=chunk_binds) (k:=?_);refine rnx ?_)|refine retTT ?_|(refine RQ.ls ?_;refine rnx ?_)|refine WP.cn (fun hc=>?_) (fun hc=>?_)|(refine RQ.sC ?_;refine rnx ?_)|(refine RQ.sA (hc:=chunk_binds) (k:=?_);refine rnx ?_)|((first|refine WP.dw (id:=17) 16 [0,1,2,3,4,5,6,8,9,14,18,20,22,24,32,41,72] ?_);simp only [RQr_mk,List.drop_succ_cons,List.drop_zero,List.drop_nil])|fail)
    rfl
   ·have hI:DPure Tryd.prog 56 [.a (.sl (sgnL.map Bd.at)),.a (.fn 57 [.ref (Ex.at ⟨8,0,[],[a,b]⟩) 0])] (.a (.v (.int .i64 5))):=pIxBind (fun b=>b.kind==8) sgnL 57 [.ref (Ex.at ⟨8,0,[],[a,b]⟩) 0] rfl (by decide) fun z _=>peText1 ⟨8,0,[],[a,b]⟩ z
    have hla:=Ex.wrt_len a ha 3
    have hlb:=Ex.wrt_len b hb 4
    have ca:DPure Tryd.prog 21 [.r (Ex.at a),.a (.v (.int .i64 4))] (.a (.v (.string (bs (a.wrt dgN 3))))):=IH a 4 (by omega) ha
    have cb:DPure Tryd.prog 21 [.r (Ex.at b),.a (.v (.int .i64 5))] (.a (.v (.string (bs (b.wrt dgN 4))))):=IH b 5 (by omega) hb
    have hb0:=bindR_5
    have hz0:putRow [.v (.string ⟨#[]⟩),.v (.int .i64 0),.v (.int .i64 0)] 0 (Bd.at ⟨[42],4,8⟩)=Bd.at ⟨[42],4,8⟩:=rfl
    have hJ:=pJoin [a.wrt dgN 3,[42],b.wrt dgN 4] [32] (by simp) (by simp) (by rw [join3];simp only [List.length_append,List.length_cons,List.length_nil];omega)
    rw [join3] at hJ
    refine DPure.go Tryd.func37 rfl Tryd.ntmps37 rfl rfl rfl (fun C hro=>?_)
    have fx:=trivial
    replace fx:=And.intro hx0 (And.intro hx1 (And.intro hb0 (And.intro hz0 trivial)))
    repeat' (first|(refine RWL.fin ?_;try simp only [thenQ_n,blockQ_n])|refine stp [0,1,2,3,4,5,6,8,9,14,18,20,22,24,32,41,72] ?_|(refine RS.ls ?_;refine rnx ?_)|(refine RS.sE ?_;refine rnx ?_)|(refine RS.pk ?_;refine rnx ?_)|(refine RS.gF ?_;refine rnx ?_)|(refine RS.sN ?_;refine rnx ?_)|(refine RS.sC ?_;refine rnx ?_)|(refine RS.xC ?_;refine rnx ?_)|(refine RS.bC ?_;refine rnx ?_)|refine RWL.fr ?_|refine RWL.wt ?_|refine RWL.lS ?_|refine RWL.bC ?_|(refine stc (r1:=by first|exact hI|exact ca|exact cb|exact hJ) (r2:=?_);refine rnx ?_)|(refine' WP.dl (id:=23) [0,1,3,7,0,31,0,64,0,256,768,1792,0,4096,12288,32575,65535,131071,0,262144,262143,2097151] [0,1,2,3,4,5,6,8,9,14,18,20,22,24,32,41,72] [] [] ?_)|refine RWL.re ?_ ?_|refine RdO.oz|refine RdO.oa ?_|refine RdO.oe ?_|refine RdO.on|(refine RS.sA (hc:=chunk_binds) (k:=?_);refine rnx ?_)|refine retTT ?_|(refine RQ.ls ?_;refine rnx ?_)|refine WP.cn (fun hc=>?_) (fun hc=>?_)|(refine RQ.sC ?_;refine rnx ?_)|(refine RQ.sA (hc:=chunk_binds) (k:=?_);refine rnx ?_)|((first|refine WP.dw (id:=17) 16 [0,1,2,3,4,5,6,8,9,14,18,20,22,24,32,41,72] ?_);simp only [RQr_mk,List.drop_succ_cons,List.drop_zero,List.drop_nil])|fail)
    rfl
   ·have hI:DPure Tryd.prog 56 [.a (.sl (sgnL.map Bd.at)),.a (.fn 57 [.ref (Ex.at ⟨9,0,[],[a,b]⟩) 0])] (.a (.v (.int .i64 1))):=pIxBind (fun b=>b.kind==9) sgnL 57 [.ref (Ex.at ⟨9,0,[],[a,b]⟩) 0] rfl (by decide) fun z _=>peText1 ⟨9,0,[],[a,b]⟩ z
    have hla:=Ex.wrt_len a ha 2
    have hlb:=Ex.wrt_len b hb 2
    have ca:DPure Tryd.prog 21 [.r (Ex.at a),.a (.v (.int .i64 3))] (.a (.v (.string (bs (a.wrt dgN 2))))):=IH a 3 (by omega) ha
    have cb:DPure Tryd.prog 21 [.r (Ex.at b),.a (.v (.int .i64 3))] (.a (.v (.string (bs (b.wrt dgN 2))))):=IH b 3 (by omega) hb
    have hb0:=bindR_1
    have hz0:putRow [.v (.string ⟨#[]⟩),.v (.int .i64 0),.v (.int .i64 0)] 0 (Bd.at ⟨[60],2,9⟩)=Bd.at ⟨[60],2,9⟩:=rfl
    have hJ:=pJoin [a.wrt dgN 2,[60],b.wrt dgN 2] [32] (by simp) (by simp) (by rw [join3];simp only [List.length_append,List.length_cons,List.length_nil];omega)
    rw [join3] at hJ
    refine DPure.go Tryd.func37 rfl Tryd.ntmps37 rfl rfl rfl (fun C hro=>?_)
    have fx:=trivial
    replace fx:=And.intro hx0 (And.intro hx1 (And.intro hb0 (And.intro hz0 trivial)))
    repeat' (first|(refine RWL.fin ?_;try simp only [thenQ_n,blockQ_n])|refine stp [0,1,2,3,4,5,6,8,9,14,18,20,22,24,32,41,72] ?_|(refine RS.ls ?_;refine rnx ?_)|(refine RS.sE ?_;refine rnx ?_)|(refine RS.pk ?_;refine rnx ?_)|(refine RS.gF ?_;refine rnx ?_)|(refine RS.sN ?_;refine rnx ?_)|(refine RS.sC ?_;refine rnx ?_)|(refine RS.xC ?_;refine rnx ?_)|(refine RS.bC ?_;refine rnx ?_)|refine RWL.fr ?_|refine RWL.wt ?_|refine RWL.lS ?_|refine RWL.bC ?_|(refine stc (r1:=by first|exact hI|exact ca|exact cb|exact hJ) (r2:=?_);refine rnx ?_)|(refine' WP.dl (id:=23) [0,1,3,7,0,31,0,64,0,256,768,1792,0,4096,12288,32575,65535,131071,0,262144,262143,2097151] [0,1,2,3,4,5,6,8,9,14,18,20,22,24,32,41,72] [] [] ?_)|refine RWL.re ?_ ?_|refine RdO.oz|refine RdO.oa ?_|refine RdO.oe ?_|refine RdO.on|(refine RS.sA (hc:=chunk_binds) (k:=?_);refine rnx ?_)|refine retTT ?_|(refine RQ.ls ?_;refine rnx ?_)|refine WP.cn (fun hc=>?_) (fun hc=>?_)|(refine RQ.sC ?_;refine rnx ?_)|(refine RQ.sA (hc:=chunk_binds) (k:=?_);refine rnx ?_)|((first|refine WP.dw (id:=17) 16 [0,1,2,3,4,5,6,8,9,14,18,20,22,24,32,41,72] ?_);simp only [RQr_mk,List.drop_succ_cons,List.drop_zero,List.drop_nil])|fail)
    rfl
   ·have hI:DPure Tryd.prog 56 [.a (.sl (sgnL.map Bd.at)),.a (.fn 57 [.ref (Ex.at ⟨10,0,[],[a,b]⟩) 0])] (.a (.v (.int .i64 2))):=pIxBind (fun b=>b.kind==10) sgnL 57 [.ref (Ex.at ⟨10,0,[],[a,b]⟩) 0] rfl (by decide) fun z _=>peText1 ⟨10,0,[],[a,b]⟩ z
    have hla:=Ex.wrt_len a ha 2
    have hlb:=Ex.wrt_len b hb 2
    have ca:DPure Tryd.prog 21 [.r (Ex.at a),.a (.v (.int .i64 3))] (.a (.v (.string (bs (a.wrt dgN 2))))):=IH a 3 (by omega) ha
    have cb:DPure Tryd.prog 21 [.r (Ex.at b),.a (.v (.int .i64 3))] (.a (.v (.string (bs (b.wrt dgN 2))))):=IH b 3 (by omega) hb
    have hb0:=bindR_2
    have hz0:putRow [.v (.string ⟨#[]⟩),.v (.int .i64 0),.v (.int .i64 0)] 0 (Bd.at ⟨[61,61],2,10⟩)=Bd.at ⟨[61,61],2,10⟩:=rfl
    have hJ:=pJoin [a.wrt dgN 2,[61,61],b.wrt dgN 2] [32] (by simp) (by simp) (by rw [join3];simp only [List.length_append,List.length_cons,List.length_nil];omega)
    rw [join3] at hJ
    refine DPure.go Tryd.func37 rfl Tryd.ntmps37 rfl rfl rfl (fun C hro=>?_)
    have fx:=trivial
    replace fx:=And.intro hx0 (And.intro hx1 (And.intro hb0 (And.intro hz0 trivial)))
    repeat' (first|(refine RWL.fin ?_;try simp only [thenQ_n,blockQ_n])|refine stp [0,1,2,3,4,5,6,8,9,14,18,20,22,24,32,41,72] ?_|(refine RS.ls ?_;refine rnx ?_)|(refine RS.sE ?_;refine rnx ?_)|(refine RS.pk ?_;refine rnx ?_)|(refine RS.gF ?_;refine rnx ?_)|(refine RS.sN ?_;refine rnx ?_)|(refine RS.sC ?_;refine rnx ?_)|(refine RS.xC ?_;refine rnx ?_)|(refine RS.bC ?_;refine rnx ?_)|refine RWL.fr ?_|refine RWL.wt ?_|refine RWL.lS ?_|refine RWL.bC ?_|(refine stc (r1:=by first|exact hI|exact ca|exact cb|exact hJ) (r2:=?_);refine rnx ?_)|(refine' WP.dl (id:=23) [0,1,3,7,0,31,0,64,0,256,768,1792,0,4096,12288,32575,65535,131071,0,262144,262143,2097151] [0,1,2,3,4,5,6,8,9,14,18,20,22,24,32,41,72] [] [] ?_)|refine RWL.re ?_ ?_|refine RdO.oz|refine RdO.oa ?_|refine RdO.oe ?_|refine RdO.on|(refine RS.sA (hc:=chunk_binds) (k:=?_);refine rnx ?_)|refine retTT ?_|(refine RQ.ls ?_;refine rnx ?_)|refine WP.cn (fun hc=>?_) (fun hc=>?_)|(refine RQ.sC ?_;refine rnx ?_)|(refine RQ.sA (hc:=chunk_binds) (k:=?_);refine rnx ?_)|((first|refine WP.dw (id:=17) 16 [0,1,2,3,4,5,6,8,9,14,18,20,22,24,32,41,72] ?_);simp only [RQr_mk,List.drop_succ_cons,List.drop_zero,List.drop_nil])|fail)
    rfl
   ·have hI:DPure Tryd.prog 56 [.a (.sl (sgnL.map Bd.at)),.a (.fn 57 [.ref (Ex.at ⟨11,0,[],[a,b]⟩) 0])] (.a (.v (.int .i64 0))):=pIxBind (fun b=>b.kind==11) sgnL 57 [.ref (Ex.at ⟨11,0,[],[a,b]⟩) 0] rfl (by decide) fun z _=>peText1 ⟨11,0,[],[a,b]⟩ z
    have hla:=Ex.wrt_len a ha 0
    have hlb:=Ex.wrt_len b hb 1
    have ca:DPure Tryd.prog 21 [.r (Ex.at a),.a (.v (.int .i64 1))] (.a (.v (.string (bs (a.wrt dgN 0))))):=IH a 1 (by omega) ha
    have cb:DPure Tryd.prog 21 [.r (Ex.at b),.a (.v (.int .i64 2))] (.a (.v (.string (bs (b.wrt dgN 1))))):=IH b 2 (by omega) hb
    have hb0:=bindR_0
    have hz0:putRow [.v (.string ⟨#[]⟩),.v (.int .i64 0),.v (.int .i64 0)] 0 (Bd.at ⟨[38,38],1,11⟩)=Bd.at ⟨[38,38],1,11⟩:=rfl
    have hJ:=pJoin [a.wrt dgN 0,[38,38],b.wrt dgN 1] [32] (by simp) (by simp) (by rw [join3];simp only [List.length_append,List.length_cons,List.length_nil];omega)
    rw [join3] at hJ
    refine DPure.go Tryd.func37 rfl Tryd.ntmps37 rfl rfl rfl (fun C hro=>?_)
    have fx:=trivial
    replace fx:=And.intro hx0 (And.intro hx1 (And.intro hb0 (And.intro hz0 trivial)))
    repeat' (first|(refine RWL.fin ?_;try simp only [thenQ_n,blockQ_n])|refine stp [0,1,2,3,4,5,6,8,9,14,18,20,22,24,32,41,72] ?_|(refine RS.ls ?_;refine rnx ?_)|(refine RS.sE ?_;refine rnx ?_)|(refine RS.pk ?_;refine rnx ?_)|(refine RS.gF ?_;refine rnx ?_)|(refine RS.sN ?_;refine rnx ?_)|(refine RS.sC ?_;refine rnx ?_)|(refine RS.xC ?_;refine rnx ?_)|(refine RS.bC ?_;refine rnx ?_)|refine RWL.fr ?_|refine RWL.wt ?_|refine RWL.lS ?_|refine RWL.bC ?_|(refine stc (r1:=by first|exact hI|exact ca|exact cb|exact hJ) (r2:=?_);refine rnx ?_)|(refine' WP.dl (id:=23) [0,1,3,7,0,31,0,64,0,256,768,1792,0,4096,12288,32575,65535,131071,0,262144,262143,2097151] [0,1,2,3,4,5,6,8,9,14,18,20,22,24,32,41,72] [] [] ?_)|refine RWL.re ?_ ?_|refine RdO.oz|refine RdO.oa ?_|refine RdO.oe ?_|refine RdO.on|(refine RS.sA (hc:=chunk_binds) (k:=?_);refine rnx ?_)|refine retTT ?_|(refine RQ.ls ?_;refine rnx ?_)|refine WP.cn (fun hc=>?_) (fun hc=>?_)|(refine RQ.sC ?_;refine rnx ?_)|(refine RQ.sA (hc:=chunk_binds) (k:=?_);refine rnx ?_)|((first|refine WP.dw (id:=17) 16 [0,1,2,3,4,5,6,8,9,14,18,20,22,24,32,41,72] ?_);simp only [RQr_mk,List.drop_succ_cons,List.drop_zero,List.drop_nil])|fail)
    rfl
  | not a ha =>
   have hsz:(⟨12,0,[],[a]⟩:Ex).sz=1+0+(a.sz+0):=hzz
   have hla:=Ex.wrt_len a ha 4
   have ca:DPure Tryd.prog 21 [.r (Ex.at a),.a (.v (.int .i64 5))] (.a (.v (.string (bs (a.wrt dgN 4))))):=IH a 5 (by omega) ha
   obtain⟨s1,f1,n1,q1⟩:=addL [33] (a.wrt dgN 4) (by simp only [List.length_cons,List.length_nil] at *;omega)
   refine DPure.go Tryd.func37 rfl Tryd.ntmps37 rfl rfl rfl (fun C hro=>?_)
   have fx:=trivial
   replace fx:=And.intro hx0 (And.intro hx1 (And.intro q1 trivial))
   repeat' (first|(refine RWL.fin ?_;try simp only [thenQ_n,blockQ_n])|refine stp [0,1,2,3,4,5,6,8,9,14,18,20,22,24,32,41,72] ?_|(refine RS.ls ?_;refine rnx ?_)|(refine RS.sE ?_;refine rnx ?_)|(refine RS.pk ?_;refine rnx ?_)|(refine RS.gF ?_;refine rnx ?_)|(refine RS.sN ?_;refine rnx ?_)|(refine RS.sC ?_;refine rnx ?_)|(refine RS.xC ?_;refine rnx ?_)|(refine RS.bC ?_;refine rnx ?_)|refine RWL.fr ?_|refine RWL.wt ?_|refine RWL.lS ?_|refine RWL.bC ?_|(refine stc (r1:=by first|exact ca) (r2:=?_);refine rnx ?_)|(refine' WP.dl (id:=23) [0,1,3,7,0,31,0,64,0,256,768,1792,0,4096,12288,32575,65535,131071,0,262144,262143,2097151] [0,1,2,3,4,5,6,8,9,14,18,20,22,24,32,41,72] [] [] ?_)|refine RWL.re ?_ ?_|refine RdO.oz|refine RdO.oa ?_|refine RdO.oe ?_|refine RdO.on|(refine RS.sA (hc:=chunk_binds) (k:=?_);refine rnx ?_)|refine retTT ?_|(refine RQ.ls ?_;refine rnx ?_)|refine WP.cn (fun hc=>?_) (fun hc=>?_)|(refine RQ.sC ?_;refine rnx ?_)|(refine RQ.sA (hc:=chunk_binds) (k:=?_);refine rnx ?_)|((first|refine WP.dw (id:=17) 16 [0,1,2,3,4,5,6,8,9,14,18,20,22,24,32,41,72] ?_);simp only [RQr_mk,List.drop_succ_cons,List.drop_zero,List.drop_nil])|fail)
   subst f1
   rfl
  | nil a ha hk =>
   have hsz:(⟨13,0,[],[a]⟩:Ex).sz=1+0+(a.sz+0):=hzz
   have hla:=Ex.wrt_len a ha (-1)
   have ca:DPure Tryd.prog 21 [.r (Ex.at a),.a (.v (.int .i64 0))] (.a (.v (.string (bs (a.wrt dgN (-1)))))):=IH a 0 (by omega) ha
   obtain⟨s1,f1,n1,q1⟩:=addL [110,105,108,40] (a.wrt dgN (-1)) (by simp only [List.length_cons,List.length_nil] at *;omega)
   obtain⟨s2,f2,n2,q2⟩:=addR (s1) [41] (by simp only [List.length_cons,List.length_nil] at *;omega)
   refine DPure.go Tryd.func37 rfl Tryd.ntmps37 rfl rfl rfl (fun C hro=>?_)
   have fx:=trivial
   replace fx:=And.intro hx0 (And.intro hx1 (And.intro q1 (And.intro q2 trivial)))
   repeat' (first|(refine RWL.fin ?_;try simp only [thenQ_n,blockQ_n])|refine stp [0,1,2,3,4,5,6,8,9,14,18,20,22,24,32,41,72] ?_|(refine RS.ls ?_;refine rnx ?_)|(refine RS.sE ?_;refine rnx ?_)|(refine RS.pk ?_;refine rnx ?_)|(refine RS.gF ?_;refine rnx ?_)|(refine RS.sN ?_;refine rnx ?_)|(refine RS.sC ?_;refine rnx ?_)|(refine RS.xC ?_;refine rnx ?_)|(refine RS.bC ?_;refine rnx ?_)|refine RWL.fr ?_|refine RWL.wt ?_|refine RWL.lS ?_|refine RWL.bC ?_|(refine stc (r1:=by first|exact ca) (r2:=?_);refine rnx ?_)|(refine' WP.dl (id:=23) [0,1,3,7,0,31,0,64,0,256,768,1792,0,4096,12288,32575,65535,131071,0,262144,262143,2097151] [0,1,2,3,4,5,6,8,9,14,18,20,22,24,32,41,72] [] [] ?_)|refine RWL.re ?_ ?_|refine RdO.oz|refine RdO.oa ?_|refine RdO.oe ?_|refine RdO.on|(refine RS.sA (hc:=chunk_binds) (k:=?_);refine rnx ?_)|refine retTT ?_|(refine RQ.ls ?_;refine rnx ?_)|refine WP.cn (fun hc=>?_) (fun hc=>?_)|(refine RQ.sC ?_;refine rnx ?_)|(refine RQ.sA (hc:=chunk_binds) (k:=?_);refine rnx ?_)|((first|refine WP.dw (id:=17) 16 [0,1,2,3,4,5,6,8,9,14,18,20,22,24,32,41,72] ?_);simp only [RQr_mk,List.drop_succ_cons,List.drop_zero,List.drop_nil])|fail)
   subst f2 f1
   rw [wrt_low a hk]
   rfl
  | same a b ha hb hka hkb =>
   have hsz:(⟨14,0,[],[a,b]⟩:Ex).sz=1+0+(a.sz+(b.sz+0)):=hzz
   have hla:=Ex.wrt_len a ha (-1)
   have ca:DPure Tryd.prog 21 [.r (Ex.at a),.a (.v (.int .i64 0))] (.a (.v (.string (bs (a.wrt dgN (-1)))))):=IH a 0 (by omega) ha
   have hlb:=Ex.wrt_len b hb (-1)
   have cb:DPure Tryd.prog 21 [.r (Ex.at b),.a (.v (.int .i64 0))] (.a (.v (.string (bs (b.wrt dgN (-1)))))):=IH b 0 (by omega) hb
   obtain⟨s1,f1,n1,q1⟩:=addL [115,97,109,101,40] (a.wrt dgN (-1)) (by simp only [List.length_cons,List.length_nil] at *;omega)
   obtain⟨s2,f2,n2,q2⟩:=addR (s1) [44,32] (by simp only [List.length_cons,List.length_nil] at *;omega)
   obtain⟨s3,f3,n3,q3⟩:=addE (s2) (b.wrt dgN (-1)) (by simp only [List.length_cons,List.length_nil] at *;omega)
   obtain⟨s4,f4,n4,q4⟩:=addR (s3) [41] (by simp only [List.length_cons,List.length_nil] at *;omega)
   refine DPure.go Tryd.func37 rfl Tryd.ntmps37 rfl rfl rfl (fun C hro=>?_)
   have fx:=trivial
   replace fx:=And.intro hx0 (And.intro hx1 (And.intro q1 (And.intro q2 (And.intro q3 (And.intro q4 trivial)))))
   repeat' (first|(refine RWL.fin ?_;try simp only [thenQ_n,blockQ_n])|refine stp [0,1,2,3,4,5,6,8,9,14,18,20,22,24,32,41,72] ?_|(refine RS.ls ?_;refine rnx ?_)|(refine RS.sE ?_;refine rnx ?_)|(refine RS.pk ?_;refine rnx ?_)|(refine RS.gF ?_;refine rnx ?_)|(refine RS.sN ?_;refine rnx ?_)|(refine RS.sC ?_;refine rnx ?_)|(refine RS.xC ?_;refine rnx ?_)|(refine RS.bC ?_;refine rnx ?_)|refine RWL.fr ?_|refine RWL.wt ?_|refine RWL.lS ?_|refine RWL.bC ?_|(refine stc (r1:=by first|exact ca|exact cb) (r2:=?_);refine rnx ?_)|(refine' WP.dl (id:=23) [0,1,3,7,0,31,0,64,0,256,768,1792,0,4096,12288,32575,65535,131071,0,262144,262143,2097151] [0,1,2,3,4,5,6,8,9,14,18,20,22,24,32,41,72] [] [] ?_)|refine RWL.re ?_ ?_|refine RdO.oz|refine RdO.oa ?_|refine RdO.oe ?_|refine RdO.on|(refine RS.sA (hc:=chunk_binds) (k:=?_);refine rnx ?_)|refine retTT ?_|(refine RQ.ls ?_;refine rnx ?_)|refine WP.cn (fun hc=>?_) (fun hc=>?_)|(refine RQ.sC ?_;refine rnx ?_)|(refine RQ.sA (hc:=chunk_binds) (k:=?_);refine rnx ?_)|((first|refine WP.dw (id:=17) 16 [0,1,2,3,4,5,6,8,9,14,18,20,22,24,32,41,72] ?_);simp only [RQr_mk,List.drop_succ_cons,List.drop_zero,List.drop_nil])|fail)
   subst f4 f3 f2 f1
   rw [wrt_low a hka,wrt_low b hkb]
   rfl
def Ex.txS (e:Ex):List UInt8:=if e.rightB=true then e.txt dgN else []
theorem peTextX (e:Ex) (hz:e.sz≤1048576):DPure Tryd.prog 10 [.r (Ex.at e)] (.a (.v (.string (bs e.txS)))):=by
 have hR:=peRight e hz
 unfold Ex.txS
 cases hr:e.rightB
 ·rw [if_neg (by simp)]
  rw [hr] at hR
  refine DPure.go Tryd.func10 rfl Tryd.ntmps10 rfl rfl rfl (fun C hro=>?_)
  have fx:=trivial
  repeat' (first|refine stp [0,1,2,5] ?_|(refine stc (r1:=by exact hR) (r2:=?_);refine rnx ?_)|(refine RS.sA (hc:=chunk_binds) (k:=?_);refine rnx ?_)|refine retTT ?_|(refine RQ.ls ?_;refine rnx ?_)|refine WP.cn (fun hc=>?_) (fun hc=>?_)|fail)
  rfl
 ·rw [if_pos rfl]
  rw [hr] at hR
  have hf:e.formB=true:=by unfold Ex.rightB at hr;rw [Bool.and_eq_true] at hr;exact hr.1
  have hA:=peAtOf e hz hf (peText _ e (Nat.le_refl _) hz hf) 0
  refine DPure.go Tryd.func10 rfl Tryd.ntmps10 rfl rfl rfl (fun C hro=>?_)
  have fx:=trivial
  repeat' (first|refine stp [0,1,2,5] ?_|(refine stc (r1:=by first|exact hR|exact hA) (r2:=?_);refine rnx ?_)|(refine RS.sA (hc:=chunk_binds) (k:=?_);refine rnx ?_)|refine retTT ?_|(refine RQ.ls ?_;refine rnx ?_)|refine WP.cn (fun hc=>?_) (fun hc=>?_)|fail)
  exact congrArg (fun z=>D.a (.v (.string (bs z)))) (parB_f (by have:=lvK_nn e.kind;omega))
theorem pr06Text (e:Ex) (hz:e.sz≤1048576):DPure Tryd.prog 11 [.r (Ex.at e)] (.a (.v (.string (bs e.txS)))):=by
 have hR:=pERight e hz
 unfold Ex.txS
 cases hr:e.rightB
 ·rw [if_neg (by simp)]
  rw [hr] at hR
  refine DPure.go Tryd.func11 rfl Tryd.ntmps11 rfl rfl rfl (fun C hro=>?_)
  have fx:=trivial
  repeat' (first|refine stp [0,1,2,5] ?_|(refine stc (r1:=by exact hR) (r2:=?_);refine rnx ?_)|(refine RS.sA (hc:=chunk_binds) (k:=?_);refine rnx ?_)|refine retTT ?_|(refine RQ.ls ?_;refine rnx ?_)|refine WP.cn (fun hc=>?_) (fun hc=>?_)|fail)
  rfl
 ·rw [if_pos rfl]
  rw [hr] at hR
  have hf:e.formB=true:=by unfold Ex.rightB at hr;rw [Bool.and_eq_true] at hr;exact hr.1
  have hA:=pr06write _ e 0 (Nat.le_refl _) hz hf
  refine DPure.go Tryd.func11 rfl Tryd.ntmps11 rfl rfl rfl (fun C hro=>?_)
  have fx:=trivial
  repeat' (first|refine stp [0,1,2,5] ?_|(refine stc (r1:=by first|exact hR|exact hA) (r2:=?_);refine rnx ?_)|(refine RS.sA (hc:=chunk_binds) (k:=?_);refine rnx ?_)|refine retTT ?_|(refine RQ.ls ?_;refine rnx ?_)|refine WP.cn (fun hc=>?_) (fun hc=>?_)|fail)
  exact congrArg (fun z=>D.a (.v (.string (bs z)))) (parB_f (by have:=lvK_nn e.kind;omega))
def knName (f:FuncId) (ds:List D):Option D :=
 match ds with
 | [.a (.v (.string ⟨⟨s⟩⟩))]=>if (Nat.beq f 33&&Nat.ble s.length 1000000000)=true then some (.a (.v (.bool (nameB s)))) else none
 | _=>none
theorem knName_ok:∀f ds d,knName f ds=some d→DPure Tryd.prog f ds d:=fun f ds d h=>by
 unfold knName at h
 split at h
 ·rename_i s
  split at h
  ·rename_i hc
   rw [Bool.and_eq_true,Nat.ble_eq] at hc
   have:=Nat.eq_of_beq_eq_true hc.1
   subst this
   injection h with h;subst h
   exact pwName s hc.2
  ·cases h
 ·cases h
def decF:Nat→Nat→List UInt8
 | 0,_=>[]
 | k+1,n=>UInt8.ofNat (48+n % 10)::(if Nat.blt n 10=true then [] else decF k (n / 10))
theorem decF_eq:∀(k n:Nat),n<10 ^ (k+1)→decF (k+1) n=decR n
 | 0,n,h=>by
  have h1:n<10:=by simpa using h
  rw [decR_eq,decF,if_pos h1,if_pos (by simpa [Nat.blt_eq] using h1)]
 | k+1,n,h=>by
  rw [decR_eq,decF]
  by_cases h1:n<10
  ·rw [if_pos h1,if_pos (by simpa [Nat.blt_eq] using h1)]
  ·rw [if_neg h1,if_neg (by simpa [Nat.blt_eq] using h1),decF_eq k (n / 10) (by rw [Nat.pow_succ] at h;omega)]
def knDig (f:FuncId) (ds:List D):Option D :=
 match ds with
 | [.a (.v (.int .i64 (.ofNat n)))]=>if (Nat.beq f 55&&Nat.blt n 1000000000)=true then some (.a (.v (.string (bs (decF 10 n).reverse)))) else none
 | _=>none
theorem knDig_ok:∀f ds d,knDig f ds=some d→DPure Tryd.prog f ds d:=fun f ds d h=>by
 unfold knDig at h
 split at h
 ·rename_i n
  split at h
  ·rename_i hc
   rw [Bool.and_eq_true,Nat.blt_eq] at hc
   have:=Nat.eq_of_beq_eq_true hc.1
   subst this
   injection h with h;subst h
   rw [decF_eq 9 n (by omega)]
   exact pwDigits n hc.2
  ·cases h
 ·cases h
def rowsStr:List (List A)→Option (List (List UInt8))
 | []=>some []
 | [.v (.string ⟨⟨s⟩⟩)]::r=>(rowsStr r).map fun l=>s::l
 | _=>none
theorem rowsStr_eq:∀{rows:List (List A)} {l:List (List UInt8)},rowsStr rows=some l→rows=l.map strAt
 | [],l,h=>by injection h with h;subst h;rfl
 | x::r,l,h=>by
  unfold rowsStr at h
  split at h
  ·rename_i h0;cases h0
  ·rename_i s r' h0
   injection h0 with h1 h2
   subst h1;subst h2
   rw [Option.map_eq_some_iff] at h
   obtain⟨l',h1,rfl⟩:=h
   rw [rowsStr_eq h1];rfl
  ·cases h
def joinF (sep:List UInt8):List (List UInt8)→List UInt8
 | []=>[]
 | [x]=>x
 | x::r=>x++sep++joinF sep r
theorem joinF_eq (sep:List UInt8):∀l:List (List UInt8),joinF sep l=Lib.join l sep
 | []=>rfl
 | [x]=>by simp [joinF,Lib.join,List.intercalate,List.intersperse]
 | x::y::r=>by
  have:=joinF_eq sep (y::r)
  rw [joinF,this]
  simp [Lib.join,List.intercalate,List.intersperse]
  all_goals simp
def knJoin (f:FuncId) (ds:List D):Option D :=
 match ds with
 | [.a (.sl (x::rows)),.a (.v (.string ⟨⟨s⟩⟩))]=>if Nat.beq f 58=true then (match rowsStr (x::rows) with
  | some l=>if (Nat.ble l.length 1048576&&Nat.ble (joinF s l).length 140737488355328)=true then some (.a (.v (.string (bs (joinF s l))))) else none
  | none=>none) else none
 | _=>none
theorem knJoin_ok:∀f ds d,knJoin f ds=some d→DPure Tryd.prog f ds d:=fun f ds d h=>by
 unfold knJoin at h
 split at h
 ·rename_i x rows s
  split at h
  ·rename_i hf
   have:=Nat.eq_of_beq_eq_true hf
   subst this
   split at h
   ·rename_i l hl
    split at h
    ·rename_i hc
     rw [Bool.and_eq_true,Nat.ble_eq,Nat.ble_eq] at hc
     injection h with h;subst h
     have h1:=rowsStr_eq hl
     rw [h1]
     rw [joinF_eq] at hc ⊢
     exact pJoin l s (fun h0=>by subst h0;cases h1) hc.1 hc.2
    ·cases h
   ·cases h
  ·cases h
 ·cases h
def orK (a b:FuncId→List D→Option D) (f:FuncId) (ds:List D):Option D :=
 match a f ds with
 | some d=>some d
 | none=>b f ds
theorem orK_ok {P:Program} {a b:FuncId→List D→Option D} (ha:∀f ds d,a f ds=some d→DPure P f ds d) (hb:∀f ds d,b f ds=some d→DPure P f ds d):∀f ds d,orK a b f ds=some d→DPure P f ds d:=fun f ds d h=>by
 unfold orK at h
 split at h
 ·rename_i d' h1
  injection h with h;subst h
  exact ha f ds d' h1
 ·exact hb f ds d h
def knP:=orK (orK knName knDig) knJoin
theorem knP_ok:∀f ds d,knP f ds=some d→DPure Tryd.prog f ds d:=orK_ok (orK_ok knName_ok knDig_ok) knJoin_ok
noncomputable def aw06L:List (Nat×XF):=[(5,⟨Tryd.f5,[0,1,3,4,5],false,false⟩),(8,⟨Tryd.f8,[0,1,2,3,6,8,9,12],false,false⟩),(10,⟨Tryd.f10,[0,1,2,5],false,false⟩),(14,⟨Tryd.f14,[0,2,3,4,5,6,8,11,18,27,53],false,false⟩),(15,⟨Tryd.f15,[0,1,4,5,6,7,8,9,20],false,false⟩),(16,⟨Tryd.f16,[0,1,2],false,false⟩),(17,⟨Tryd.f17,[0,1,2,3,4,6],false,false⟩),(18,⟨Tryd.f18,[0,1,2,29,31,32,42,47],false,false⟩),(21,⟨Tryd.f21,[0,1,2,4,5,6,14],false,false⟩),(24,⟨Tryd.f24,[0,2,3,7,11,31,42],false,false⟩),(25,⟨Tryd.f25,[0,2,3,6,22,29,40,50,59],false,false⟩),(26,⟨Tryd.f26,[0,2,3,4,5,23,27,34],false,false⟩),(27,⟨Tryd.f27,[0,1,4,5,6,7,8,9,10,11,12,13,19,33,54,64,78],false,false⟩),(28,⟨Tryd.f28,[0,1,3,4,6,11,26,29,30,31],false,true⟩),(29,⟨Tryd.f29,[0,1,2],false,false⟩),(30,⟨Tryd.f30,[0,1,4],false,false⟩),(31,⟨Tryd.f31,[0,1,2,3],false,false⟩),(32,⟨Tryd.f32,[0,2,3,4,10,13],false,false⟩),(33,⟨Tryd.f33,[0,2,4,17,19,20,21,22,32],false,false⟩),(34,⟨Tryd.f34,[0,1,2,3],false,false⟩),(37,⟨Tryd.f37,[0,1,2,3,4,5,6,8,9,14,18,20,22,24,32,41,72],false,false⟩),(40,⟨Tryd.f40,[0,2],false,false⟩),(41,⟨Tryd.f41,[0,2],false,false⟩),(42,⟨Tryd.f42,[0,2],false,false⟩),(43,⟨Tryd.f43,[0,2,3,4,9,17],false,false⟩),(44,⟨Tryd.f44,[0,2,3,4,17,27,35],false,false⟩),(45,⟨Tryd.f45,[0,1,2,3,4,5,6,7,8,9,10,13,28,39,46,53,60,67,72,82],false,false⟩),(46,⟨Tryd.f46,[0,1,4,5,6,8,11,12,13,24],false,false⟩),(47,⟨Tryd.f47,[0,2,19,35],false,false⟩),(48,⟨Tryd.f48,[0,1,4,5,7,11,12,13,14],false,false⟩),(49,⟨Tryd.f49,[0,1,2,6],false,false⟩),(50,⟨Tryd.f50,[0,1,3,8,18],false,false⟩),(51,⟨Tryd.f51,[0,1,4,5,7,8,9,16],false,false⟩),(52,⟨Tryd.f52,[0,2,3],false,false⟩),(53,⟨Tryd.f53,[0,2],false,false⟩),(54,⟨Tryd.f54,[0,2],false,false⟩),(55,⟨Tryd.f55,[0,2,3,4,8,19,30],false,false⟩),(56,⟨Tryd.f56,[0,1,4,5,7,8,9,16],false,false⟩),(57,⟨Tryd.f57,[0,1,2,3],false,false⟩),(58,⟨Tryd.f58,[0,1,4,5,7,8,10,12,13,15,22,29,39,40,41,42,49,63,64,65,66],false,false⟩),(59,⟨Tryd.f59,[0],false,false⟩),(60,⟨Tryd.f60,[0,1,2,4,6,7],false,false⟩),(61,⟨Tryd.f61,[0,1,4,5,6,7,12],false,false⟩),(62,⟨Tryd.f62,[0,1,2],false,false⟩),(63,⟨Tryd.f63,[0,1,4],false,false⟩),(64,⟨Tryd.f64,[0,1,4,9],false,false⟩),(65,⟨Tryd.f65,[0,1,4,5,6,7,8,9,10,13,23,28,31,39],false,true⟩),(66,⟨Tryd.f66,[0,2,3,4,6,13,15,16,17,18,23,34],false,false⟩),(67,⟨Tryd.f67,[0,1,4,5,6,7,16,24,29],false,false⟩),(68,⟨Tryd.f68,[0,1,4,5,7,8,9,16],false,false⟩),(69,⟨Tryd.f69,[0,1,2],false,false⟩),(70,⟨Tryd.f70,[0,2,3,9],false,false⟩),(71,⟨Tryd.f71,[0,1,7,21],false,false⟩),(72,⟨Tryd.f72,[0,1,4,5],false,false⟩),(73,⟨Tryd.f73,[0,2],false,false⟩),(74,⟨Tryd.f74,[0,1,3],false,false⟩),(75,⟨Tryd.f75,[0,6,19],false,false⟩),(76,⟨Tryd.f76,[0,1,4],false,false⟩),(77,⟨Tryd.f77,[],false,false⟩),(78,⟨Tryd.f78,[],false,false⟩)]
theorem aw06L_ok:∀p∈aw06L,Tryd.prog.funcs[p.1]? = some p.2.fn:=tbC Tryd.func5 (tbC Tryd.func8 (tbC Tryd.func10 (tbC Tryd.func14 (tbC Tryd.func15 (tbC Tryd.func16 (tbC Tryd.func17 (tbC Tryd.func18 (tbC Tryd.func21 (tbC Tryd.func24 (tbC Tryd.func25 (tbC Tryd.func26 (tbC Tryd.func27 (tbC Tryd.func28 (tbC Tryd.func29 (tbC Tryd.func30 (tbC Tryd.func31 (tbC Tryd.func32 (tbC Tryd.func33 (tbC Tryd.func34 (tbC Tryd.func37 (tbC Tryd.func40 (tbC Tryd.func41 (tbC Tryd.func42 (tbC Tryd.func43 (tbC Tryd.func44 (tbC Tryd.func45 (tbC Tryd.func46 (tbC Tryd.func47 (tbC Tryd.func48 (tbC Tryd.func49 (tbC Tryd.func50 (tbC Tryd.func51 (tbC Tryd.func52 (tbC Tryd.func53 (tbC Tryd.func54 (tbC Tryd.func55 (tbC Tryd.func56 (tbC Tryd.func57 (tbC Tryd.func58 (tbC Tryd.func59 (tbC Tryd.func60 (tbC Tryd.func61 (tbC Tryd.func62 (tbC Tryd.func63 (tbC Tryd.func64 (tbC Tryd.func65 (tbC Tryd.func66 (tbC Tryd.func67 (tbC Tryd.func68 (tbC Tryd.func69 (tbC Tryd.func70 (tbC Tryd.func71 (tbC Tryd.func72 (tbC Tryd.func73 (tbC Tryd.func74 (tbC Tryd.func75 (tbC Tryd.func76 (tbC Tryd.func77 (tbC Tryd.func78 (tbN))))))))))))))))))))))))))))))))))))))))))))))))))))))))))))
theorem aw06:DPure Tryd.prog 5 [] (.a (.v (.bool true))):=runsL (F:=100000) (k:=60) aw06L_ok knP_ok (by kernel_rfl)
end Go.Proofs.YtmnpabgdlajdiaaDoor
