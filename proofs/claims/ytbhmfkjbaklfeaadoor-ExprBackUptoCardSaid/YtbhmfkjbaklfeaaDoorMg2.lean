/- Contracts of the document's answer for layer 2 (demesneref02): what each function returns, at any string shorter than 10^9 bytes; nothing that was there is written. -/
import Derived.Test.YtbhmfkjbaklfeaaDoorMg1
import Derived.Test.YtbhmfkjbaklfeaaDoorProg
import Derived.Deep.RegionWith
set_option linter.unusedVariables false
set_option maxRecDepth 100000
set_option maxHeartbeats 8000000
set_option linter.unusedSimpArgs false
namespace Go.Proofs.YtbhmfkjbaklfeaaDoor
open Go.RowKit

def blankI (c:Int):Bool:=c==9||c==10||c==13||c==32
def letterI (c:Int):Bool:=(decide (97≤c)&&decide (c≤122))||(decide (65≤c)&&decide (c≤90))
def digitI (c:Int):Bool:=decide (48≤c)&&decide (c≤57)

theorem r02Letter_any (c:Int) (w:World) :
  Calls Tryd.prog 21 #[.int .u8 c] w fun e w'=>e=.returned (.bool (letterI c))∧w=w':=by
 go_enter Tryd.func21,Tryd.ntmps21
 go_wp2
 all_goals (go_ret;exact⟨ret_bool (by rw [Bool.eq_iff_iff];simp [letterI];try omega),rfl⟩)
theorem r02Digit_any (c:Int) (w:World) :
  Calls Tryd.prog 22 #[.int .u8 c] w fun e w'=>e=.returned (.bool (digitI c))∧w=w':=by
 go_enter Tryd.func22,Tryd.ntmps22
 go_wp2
 all_goals (go_ret;exact⟨ret_bool (by rw [Bool.eq_iff_iff];simp [digitI];try omega),rfl⟩)
def wordsL:List (List UInt8):=[[99,108,97,115,115],[101,120,116,101,110,100,115],[114,101,112],[112,101,101,114],[119,111,114,108,100],[97,110,121],[117,110,105,113,117,101],[112,117,114,101],[118,111,105,100],[105,110,116],[105,102],[101,108,115,101],[119,104,105,108,101],[114,101,116,117,114,110],[110,101,119],[109,111,118,101],[100,101,108,101,116,101],[116,104,105,115],[110,117,108,108],[105,110,112,117,116],[110,105,108],[115,97,109,101],[99,97,115,116]]
def idxIn (t:List UInt8):List (List UInt8)→Nat→Nat
 | [],_=>0
 | x::r,k=>if x=t then k+1 else idxIn t r (k+1)
def findW (t:List UInt8):Nat:=idxIn t wordsL 0

theorem r02Words_any (w:World) :
  Calls Tryd.prog 38 #[] w fun e w'=>e=.returned (.slice (some ⟨w.heap.size,0,none⟩) 23 23)∧w.alloc (.cells (wordsL.map fun x=>Value.string (bs x)).toArray 9)=w':=by
 go_enter Tryd.func38,Tryd.ntmps38
 go_wp2
 go_ret
 exact⟨rfl,rfl⟩

theorem idxIn_step (t:List UInt8) (l:List (List UInt8)) (k:Nat) (h:k<l.length) :
  idxIn t (l.drop k) k=if l[k]=t then k+1 else idxIn t (l.drop (k+1)) (k+1):=by
 rw [List.drop_eq_getElem_cons h];rfl
theorem idxIn_le (t:List UInt8):∀(l:List (List UInt8)) (k:Nat),idxIn t l k≤k+l.length
 | [],k=>by simp [idxIn]
 | x::r,k=>by
  have:=idxIn_le t r (k+1)
  simp only [idxIn,List.length_cons];split<;>omega
theorem wordsCell (w:World) (k:Nat) (h:k<23) :
  (w.alloc (.cells (wordsL.map fun x=>Value.string (bs x)).toArray 9)).cell? ⟨w.heap.size,k,none⟩=some (.string (bs (wordsL[k]'h))):=by
 rw [World.cell?_alloc_new]
 simp [List.getElem?_eq_getElem (show k<wordsL.length from h)]
 rfl
theorem r02Find_any (s:ByteArray) (w:World) :
  Calls Tryd.prog 23 #[.string s] w fun e w'=>e=.returned (.int .i64 (findW s.data.toList))∧Grw w w':=by
 go_enter Tryd.func23,Tryd.ntmps23
 go_wp2_with (go_at_call 38;refine (r02Words_any _).mono ?_;rintro e w' ⟨rfl,rfl⟩)
 have hb:Grw w (w.alloc (.cells (wordsL.map fun x=>Value.string (bs x)).toArray 9)):=(Grw.refl _).alloc _
 have hc:=wordsCell w
 generalize w.alloc (.cells (wordsL.map fun x=>Value.string (bs x)).toArray 9)=w1 at hb hc ⊢
 go_loop [4] (fun i=>∃k:Nat,k≤23∧i=.int .i64 k∧findW s.data.toList=idxIn s.data.toList (wordsL.drop k) k) (fun i=>23-(intOf i).toNat)
 case atStart=>exact⟨0,by omega,rfl,rfl⟩
 case round =>
  obtain⟨k,hk,rfl,hf⟩:=hrel
  by_cases hlt:k<23
  ·have h1:=hc k hlt
   have hs:=idxIn_step s.data.toList wordsL k hlt
   rw [hs] at hf
   have HF:=Lib.hid hf
   clear hc hf hs
   by_cases he:wordsL[k]'hlt=s.data.toList
   ·have e1:(wordsL[k]'hlt==s.toList)=true:=by rw [toList_eq_data];simp [he]
    have HE:=Lib.hid he
    clear he
    go_wp2
    go_ret
    exact⟨ret_int (by rw [HF.out,if_pos HE.out];simp),hb⟩
   ·have e1:(wordsL[k]'hlt==s.toList)=false:=by rw [toList_eq_data];simp [he]
    have HE:=Lib.hid he
    clear he
    go_wp2
    go_round
    case rel=>exact⟨k+1,by omega,by go_num,by rw [HF.out,if_neg HE.out]⟩
    case measure=>simp [intOf];omega
  ·obtain rfl:k=23:=by omega
   have HF:=Lib.hid hf
   clear hc hf
   go_wp2
   go_ret
   exact⟨ret_int (by rw [HF.out];rfl),hb⟩

theorem wDigit_any (c:UInt8) (w:World) :
  Calls Tryd.prog 50 #[.int .u8 c.toNat] w fun e w'=>e=.returned (.bool (digitI c.toNat))∧w=w':=by
 have hc:(c.toNat:Int)<256:=by have:=c.toNat_lt;omega
 go_enter Tryd.func50,Tryd.ntmps50
 go_wp2
 go_ret
 exact⟨ret_bool (by rw [Bool.eq_iff_iff];simp [digitI];omega),rfl⟩
theorem letter_bits_fin:∀n:Fin 256,letterI (n.val:Nat)=(decide (97≤bits BinOp.or IntKind.u8 ((n.val:Nat):Int) 32)&&decide (bits BinOp.or IntKind.u8 ((n.val:Nat):Int) 32≤122)):=by decide +kernel
theorem letter_bits (c:UInt8):letterI c.toNat=(decide (97≤bits BinOp.or IntKind.u8 (c.toNat:Int) 32)&&decide (bits BinOp.or IntKind.u8 (c.toNat:Int) 32≤122)):=letter_bits_fin ⟨c.toNat,c.toNat_lt⟩
theorem wLetter_any (c:UInt8) (w:World) :
  Calls Tryd.prog 49 #[.int .u8 c.toNat] w fun e w'=>e=.returned (.bool (letterI c.toNat))∧w=w':=by
 have HL:=Lib.hid (letter_bits c)
 go_enter Tryd.func49,Tryd.ntmps49
 go_wp2
 ·go_ret
  have h1:97≤bits BinOp.or IntKind.u8 (c.toNat:Int) 32:=by assumption
  exact⟨ret_bool (by rw [HL.out,decide_eq_true h1,Bool.true_and]),rfl⟩
 ·go_ret
  have h1:¬97≤bits BinOp.or IntKind.u8 (c.toNat:Int) 32:=by omega
  exact⟨ret_bool (by rw [HL.out,decide_eq_false h1,Bool.false_and]),rfl⟩
theorem wIs1_any (t s:List UInt8) (g:Nat) (w:World) (hc:w.cell? ⟨g,0,none⟩=some (.string (bs s))) :
  Calls Tryd.prog 62 #[.string (bs t),.pointer (some ⟨g,0,none⟩)] w fun e w'=>e=.returned (.bool (t==s))∧w=w':=by
 go_enter Tryd.func62,Tryd.ntmps62
 go_wp2
 go_ret
 exact⟨rfl,rfl⟩
theorem idxIn_get (t:List UInt8) (l:List (List UInt8)) (k:Nat) (x:List UInt8) (h:l[k]? = some x):idxIn t (l.drop k) k=if x=t then k+1 else idxIn t (l.drop (k+1)) (k+1):=by
 obtain⟨hk,rfl⟩:=List.getElem?_eq_some_iff.1 h
 exact idxIn_step t l k hk
theorem slIdxFS_any (l:List (List UInt8)) (b o c:Nat) (s:List UInt8) (g:Nat) (w:World) (hl:∀i x,l[i]? = some x→w.cell? ⟨b,o+i,none⟩=some (.string (bs x))) (hn:l.length≤1000000) (hc:w.cell? ⟨g,0,none⟩=some (.string (bs s))) :
  Calls Tryd.prog 56 #[.slice (some ⟨b,o,none⟩) l.length c,.func (.func 62) #[] #[.pointer (some ⟨g,0,none⟩)]] w fun e w'=>e=.returned (.int .i64 ((idxIn s l 0:Int)-1))∧w=w':=by
 have HL:=Lib.hid hl
 clear hl
 go_enter Tryd.func56,Tryd.ntmps56
 go_wp2
 go_loop [8] (fun i=>∃k:Nat,k≤l.length∧i=.int .i64 k∧idxIn s l 0=idxIn s (l.drop k) k) (fun i=>l.length-(intOf i).toNat)
 case atStart=>exact⟨0,by omega,rfl,rfl⟩
 case round =>
  obtain⟨k,hk,rfl,hf⟩:=hrel
  by_cases hlt:k<l.length
  ·obtain⟨x,hx⟩:∃x,l[k]? = some x:=⟨_,List.getElem?_eq_getElem hlt⟩
   have c0:=HL.out k x hx
   rw [idxIn_get _ _ _ _ hx] at hf
   have HF:=Lib.hid hf
   have f1:(k:Int)<(l.length:Int):=by omega
   clear hf hx
   by_cases he:x=s
   ·have e1:(x==s)=true:=by simp [he]
    have HE:=Lib.hid e1
    have HE2:=Lib.hid he
    clear he e1
    go_wp2_with (go_at_call 62;refine (wIs1_any _ _ _ _ hc).mono ?_;rintro e w' ⟨rfl,rfl⟩;rw [HE.out])
    go_ret
    exact⟨ret_int (by rw [HF.out,if_pos HE2.out];omega),rfl⟩
   ·have e1:(x==s)=false:=by simp [he]
    have HE:=Lib.hid e1
    have HE2:=Lib.hid he
    clear he e1
    go_wp2_with (go_at_call 62;refine (wIs1_any _ _ _ _ hc).mono ?_;rintro e w' ⟨rfl,rfl⟩;rw [HE.out])
    go_round
    case rel=>exact⟨k+1,by omega,by go_num,by rw [HF.out,if_neg HE2.out]⟩
    case measure=>simp [intOf];omega
  ·obtain rfl:k=l.length:=by omega
   have HF:=Lib.hid hf
   clear hf
   go_wp2
   go_ret
   exact⟨ret_int (by rw [HF.out,List.drop_length];rfl),rfl⟩
theorem wIs_any (s:List UInt8) (w:World) :
  Calls Tryd.prog 57 #[.string (bs s)] w fun e w'=>e=.returned (.func (.func 62) #[] #[.pointer (some ⟨w.heap.size,0,none⟩)])∧w.alloc (.cells #[.string (bs s)] 9)=w':=by
 have hmf:∀(fn:Fn) (first cap:Array Value) (w:World),(Instr.makeFunc fn first cap).run Tryd.prog w=.ok (.func fn first cap) w:=fun _ _ _ _=>rfl
 go_enter Tryd.func57,Tryd.ntmps57
 go_wp2
 go_ret
 exact⟨rfl,rfl⟩
structure Wd (w:World):Prop where
 lt:1<w.heap.size
 at_:∀i x,wordsL[i]? = some x→w.cell? ⟨1,0+i,none⟩=some (.string (bs x))
theorem Wd.ext {w:World} (h:Wd w) {xh:Array Obj} {xd:Nat}:Wd (wext w xh xd):=⟨by rw [wext_size];have:=h.lt;omega,fun i x hx=>(wext_cell w xh xd 1 _ h.lt).trans (h.at_ i x hx)⟩
theorem Wd.alloc {w:World} (h:Wd w) {o:Obj}:Wd (w.alloc o):=⟨by rw [World.size_alloc];exact Nat.lt_succ_of_lt h.lt,fun i x hx=>(World.cell?_of_block (a:=⟨1,_,none⟩) (Below.heap_alloc w o 1 h.lt)).trans (h.at_ i x hx)⟩
theorem Wd.drewN {w:World} (h:Wd w) {n:Nat}:Wd (w.drewN n):=⟨h.lt,h.at_⟩
theorem Wd.drew {w:World} (h:Wd w):Wd w.drew:=⟨h.lt,h.at_⟩
theorem Wd.grw {w w':World} (h:Wd w) (g:Grw w w'):Wd w':=by obtain⟨xh,xd,rfl⟩:=g;exact h.ext
theorem slIdxFS_words (s:List UInt8) (g:Nat) (w:World) (hw:Wd w) (hc:w.cell? ⟨g,0,none⟩=some (.string (bs s))) :
  Calls Tryd.prog 56 #[.slice (some ⟨1,0,none⟩) 23 23,.func (.func 62) #[] #[.pointer (some ⟨g,0,none⟩)]] w fun e w'=>e=.returned (.int .i64 ((findW s:Int)-1))∧w=w' :=
 slIdxFS_any wordsL 1 0 23 s g w hw.at_ (by decide) hc
@[go_sem] theorem slice_words (w:World):(Instr.sliceAt 92 (.pointer (some ⟨1,0,none⟩)) none none none).run Tryd.prog w=.ok (.slice (some ⟨1,0,none⟩) 23 23) w:=by kernel_rfl
theorem wFind_any (s:List UInt8) (w:World) (hw:Wd w) :
  Calls Tryd.prog 51 #[.string (bs s)] w fun e w'=>e=.returned (.int .i64 (findW s))∧Grw w w':=by
 have hle:findW s≤23:=by have:=idxIn_le s wordsL 0;rw [Nat.zero_add] at this;exact this
 go_enter Tryd.func51,Tryd.ntmps51
 go_wp2
 go_region_with (first
  | (go_at_call 57;refine (wIs_any _ _).mono ?_;rintro e w' ⟨rfl,rfl⟩)
  | (go_at_call 56;go_must (refine (slIdxFS_words s _ _ (by repeat (first|exact hw|apply Wd.ext|apply Wd.alloc|apply Wd.drewN|apply Wd.drew)) ?_).mono ?_;(show (w.alloc _).cell? _=_);(rw [World.cell?_alloc_new]);rfl);rintro e w' ⟨rfl,rfl⟩))
 all_goals
  go_wp2
  go_ret
  exact⟨ret_int (IntWalk.i64_in _ (by omega)),by first|exact Grw.refl _|(repeat (first|exact Grw.refl _|apply Grw.ext|apply Grw.alloc|apply Grw.drewN|apply Grw.drew));done⟩
end Go.Proofs.YtbhmfkjbaklfeaaDoor
