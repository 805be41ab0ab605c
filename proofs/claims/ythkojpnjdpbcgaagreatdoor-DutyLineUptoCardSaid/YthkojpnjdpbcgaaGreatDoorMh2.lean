/- Contracts of the document's answer for layer 2 (demesneref02): what each function returns, at any string shorter than 10^9 bytes; nothing that was there is written. -/
import Derived.Test.YthkojpnjdpbcgaaGreatDoorMh1
import Derived.Test.YthkojpnjdpbcgaaGreatDoorProg
import Derived.Deep.RegionWith
set_option linter.unusedVariables false
set_option maxRecDepth 100000
set_option maxHeartbeats 8000000
set_option linter.unusedSimpArgs false
namespace Go.Proofs.YthkojpnjdpbcgaaGreatDoor
open Go.RowKit

def qb2 (c:Int):Bool:=(decide (97≤c)&&decide (c≤122))||(decide (65≤c)&&decide (c≤90))
def qid (c:Int):Bool:=decide (48≤c)&&decide (c≤57)

theorem qbp (c:Int) (w:World) :
  Calls Tryz.prog 143 #[.int .u8 c] w fun e w'=>e=.returned (.bool (qb2 c))∧w=w':=by
 go_enter Tryz.func143,Tryz.ntmps143
 go_wp2
 all_goals (go_ret;exact⟨qbc (by rw [Bool.eq_iff_iff];simp [qb2];try omega),rfl⟩)
theorem qgu (c:Int) (w:World) :
  Calls Tryz.prog 144 #[.int .u8 c] w fun e w'=>e=.returned (.bool (qid c))∧w=w':=by
 go_enter Tryz.func144,Tryz.ntmps144
 go_wp2
 all_goals (go_ret;exact⟨qbc (by rw [Bool.eq_iff_iff];simp [qid];try omega),rfl⟩)
def qbt:List (List UInt8):=[[99,108,97,115,115],[101,120,116,101,110,100,115],[114,101,112],[112,101,101,114],[119,111,114,108,100],[97,110,121],[117,110,105,113,117,101],[112,117,114,101],[118,111,105,100],[105,110,116],[105,102],[101,108,115,101],[119,104,105,108,101],[114,101,116,117,114,110],[110,101,119],[109,111,118,101],[100,101,108,101,116,101],[116,104,105,115],[110,117,108,108],[105,110,112,117,116],[110,105,108],[115,97,109,101],[99,97,115,116]]
def qgg (t:List UInt8):List (List UInt8)→Nat→Nat
 | [],_=>0
 | x::r,k=>if x=t then k+1 else qgg t r (k+1)
def qf2 (t:List UInt8):Nat:=qgg t qbt 0

theorem qls (w:World) :
  Calls Tryz.prog 188 #[] w fun e w'=>e=.returned (.slice (some ⟨w.heap.size,0,none⟩) 23 23)∧w.alloc (.cells (qbt.map fun x=>Value.string (bs x)).toArray 9)=w':=by
 go_enter Tryz.func188,Tryz.ntmps188
 go_wp2
 go_ret
 exact⟨rfl,rfl⟩

theorem qjo (t:List UInt8) (l:List (List UInt8)) (k:Nat) (h:k<l.length) :
  qgg t (l.drop k) k=if l[k]=t then k+1 else qgg t (l.drop (k+1)) (k+1):=by
 rw [List.drop_eq_getElem_cons h];rfl
theorem qg7 (t:List UInt8):∀(l:List (List UInt8)) (k:Nat),qgg t l k≤k+l.length
 | [],k=>by simp [qgg]
 | x::r,k=>by
  have:=qg7 t r (k+1)
  simp only [qgg,List.length_cons];split<;>omega
theorem wordsCell (w:World) (k:Nat) (h:k<23) :
  (w.alloc (.cells (qbt.map fun x=>Value.string (bs x)).toArray 9)).cell? ⟨w.heap.size,k,none⟩=some (.string (bs (qbt[k]'h))):=by
 rw [World.cell?_alloc_new]
 simp [List.getElem?_eq_getElem (show k<qbt.length from h)]
 rfl
theorem qhr (s:ByteArray) (w:World) :
  Calls Tryz.prog 145 #[.string s] w fun e w'=>e=.returned (.int .i64 (qf2 s.data.toList))∧Grw w w':=by
 go_enter Tryz.func145,Tryz.ntmps145
 go_wp2_with (go_at_call 188;refine (qls _).mono ?_;rintro e w' ⟨rfl,rfl⟩)
 have hb:Grw w (w.alloc (.cells (qbt.map fun x=>Value.string (bs x)).toArray 9)):=(Grw.refl _).alloc _
 have hc:=wordsCell w
 generalize w.alloc (.cells (qbt.map fun x=>Value.string (bs x)).toArray 9)=w1 at hb hc ⊢
 go_loop [4] (fun i=>∃k:Nat,k≤23∧i=.int .i64 k∧qf2 s.data.toList=qgg s.data.toList (qbt.drop k) k) (fun i=>23-(intOf i).toNat)
 case atStart=>exact⟨0,by omega,rfl,rfl⟩
 case round =>
  obtain⟨k,hk,rfl,hf⟩:=hrel
  by_cases hlt:k<23
  ·have h1:=hc k hlt
   have hs:=qjo s.data.toList qbt k hlt
   rw [hs] at hf
   have HF:=Lib.hid hf
   clear hc hf hs
   by_cases he:qbt[k]'hlt=s.data.toList
   ·have e1:(qbt[k]'hlt==s.toList)=true:=by rw [qbu];simp [he]
    have HE:=Lib.hid he
    clear he
    go_wp2
    go_ret
    exact⟨qho (by rw [HF.out,if_pos HE.out];simp),hb⟩
   ·have e1:(qbt[k]'hlt==s.toList)=false:=by rw [qbu];simp [he]
    have HE:=Lib.hid he
    clear he
    go_wp2
    go_round
    case rel=>exact⟨k+1,by omega,by go_num,by rw [HF.out,if_neg HE.out]⟩
    case measure=>simp [intOf];omega
  ·obtain rfl:k=23:=by omega
   have HF:=Lib.hid hf
   clear hc hf
   go_wp2
   go_ret
   exact⟨qho (by rw [HF.out];rfl),hb⟩

theorem qi2 (c:UInt8) (w:World) :
  Calls Tryz.prog 229 #[.int .u8 c.toNat] w fun e w'=>e=.returned (.bool (qid c.toNat))∧w=w':=by
 have hc:(c.toNat:Int)<256:=by have:=c.toNat_lt;omega
 go_enter Tryz.func229,Tryz.ntmps229
 go_wp2
 go_ret
 exact⟨qbc (by rw [Bool.eq_iff_iff];simp [qid];omega),rfl⟩
theorem qh0:∀n:Fin 256,qb2 (n.val:Nat)=(decide (97≤bits BinOp.or IntKind.u8 ((n.val:Nat):Int) 32)&&decide (bits BinOp.or IntKind.u8 ((n.val:Nat):Int) 32≤122)):=by decide +kernel
theorem qm9 (c:UInt8):qb2 c.toNat=(decide (97≤bits BinOp.or IntKind.u8 (c.toNat:Int) 32)&&decide (bits BinOp.or IntKind.u8 (c.toNat:Int) 32≤122)):=qh0 ⟨c.toNat,c.toNat_lt⟩
theorem qcu (c:UInt8) (w:World) :
  Calls Tryz.prog 228 #[.int .u8 c.toNat] w fun e w'=>e=.returned (.bool (qb2 c.toNat))∧w=w':=by
 have HL:=Lib.hid (qm9 c)
 go_enter Tryz.func228,Tryz.ntmps228
 go_wp2
 ·go_ret
  have h1:97≤bits BinOp.or IntKind.u8 (c.toNat:Int) 32:=by assumption
  exact⟨qbc (by rw [HL.out,decide_eq_true h1,Bool.true_and]),rfl⟩
 ·go_ret
  have h1:¬97≤bits BinOp.or IntKind.u8 (c.toNat:Int) 32:=by omega
  exact⟨qbc (by rw [HL.out,decide_eq_false h1,Bool.false_and]),rfl⟩
theorem qnw (t s:List UInt8) (g:Nat) (w:World) (hc:w.cell? ⟨g,0,none⟩=some (.string (bs s))) :
  Calls Tryz.prog 254 #[.string (bs t),.pointer (some ⟨g,0,none⟩)] w fun e w'=>e=.returned (.bool (t==s))∧w=w':=by
 go_enter Tryz.func254,Tryz.ntmps254
 go_wp2
 go_ret
 exact⟨rfl,rfl⟩
theorem idxIn_get (t:List UInt8) (l:List (List UInt8)) (k:Nat) (x:List UInt8) (h:l[k]? = some x):qgg t (l.drop k) k=if x=t then k+1 else qgg t (l.drop (k+1)) (k+1):=by
 obtain⟨hk,rfl⟩:=List.getElem?_eq_some_iff.1 h
 exact qjo t l k hk
theorem qmw (l:List (List UInt8)) (b o c:Nat) (s:List UInt8) (g:Nat) (w:World) (hl:∀i x,l[i]? = some x→w.cell? ⟨b,o+i,none⟩=some (.string (bs x))) (hn:l.length≤1000000) (hc:w.cell? ⟨g,0,none⟩=some (.string (bs s))) :
  Calls Tryz.prog 246 #[.slice (some ⟨b,o,none⟩) l.length c,.func (.func 254) #[] #[.pointer (some ⟨g,0,none⟩)]] w fun e w'=>e=.returned (.int .i64 ((qgg s l 0:Int)-1))∧w=w':=by
 have HL:=Lib.hid hl
 clear hl
 go_enter Tryz.func246,Tryz.ntmps246
 go_wp2
 go_loop [8] (fun i=>∃k:Nat,k≤l.length∧i=.int .i64 k∧qgg s l 0=qgg s (l.drop k) k) (fun i=>l.length-(intOf i).toNat)
 case atStart=>exact⟨0,by omega,rfl,rfl⟩
 case round =>
  obtain⟨k,hk,rfl,hf⟩:=hrel
  by_cases hlt:k<l.length
  ·obtain⟨x,hx⟩:∃x,l[k]? = some x:=⟨_,List.getElem?_eq_getElem hlt⟩
   have c0:=HL.out k x hx
   rw [idxIn_get _ _ _ _ hx] at hf
   have HF:=Lib.hid hf
   have f1:(k:Int)<(l.length:Int):=by omega
   clear hf hx
   by_cases he:x=s
   ·have e1:(x==s)=true:=by simp [he]
    have HE:=Lib.hid e1
    have HE2:=Lib.hid he
    clear he e1
    go_wp2_with (go_at_call 254;refine (qnw _ _ _ _ hc).mono ?_;rintro e w' ⟨rfl,rfl⟩;rw [HE.out])
    go_ret
    exact⟨qho (by rw [HF.out,if_pos HE2.out];omega),rfl⟩
   ·have e1:(x==s)=false:=by simp [he]
    have HE:=Lib.hid e1
    have HE2:=Lib.hid he
    clear he e1
    go_wp2_with (go_at_call 254;refine (qnw _ _ _ _ hc).mono ?_;rintro e w' ⟨rfl,rfl⟩;rw [HE.out])
    go_round
    case rel=>exact⟨k+1,by omega,by go_num,by rw [HF.out,if_neg HE2.out]⟩
    case measure=>simp [intOf];omega
  ·obtain rfl:k=l.length:=by omega
   have HF:=Lib.hid hf
   clear hf
   go_wp2
   go_ret
   exact⟨qho (by rw [HF.out,List.drop_length];rfl),rfl⟩
theorem wIs_any (s:List UInt8) (w:World) :
  Calls Tryz.prog 247 #[.string (bs s)] w fun e w'=>e=.returned (.func (.func 254) #[] #[.pointer (some ⟨w.heap.size,0,none⟩)])∧w.alloc (.cells #[.string (bs s)] 9)=w':=by
 have hmf:∀(fn:Fn) (first cap:Array Value) (w:World),(Instr.makeFunc fn first cap).run Tryz.prog w=.ok (.func fn first cap) w:=fun _ _ _ _=>rfl
 go_enter Tryz.func247,Tryz.ntmps247
 go_wp2
 go_ret
 exact⟨rfl,rfl⟩
structure Wd (w:World):Prop where
 lt:0<w.heap.size
 at_:∀i x,qbt[i]? = some x→w.cell? ⟨0,0+i,none⟩=some (.string (bs x))
theorem Wd.ext {w:World} (h:Wd w) {xh:Array Obj} {xd:Nat}:Wd (wext w xh xd):=⟨by rw [qhd];have:=h.lt;omega,fun i x hx=>(wext_cell w xh xd 0 _ h.lt).trans (h.at_ i x hx)⟩
theorem Wd.alloc {w:World} (h:Wd w) {o:Obj}:Wd (w.alloc o):=⟨by rw [World.size_alloc];exact Nat.lt_succ_of_lt h.lt,fun i x hx=>(World.cell?_of_block (a:=⟨0,_,none⟩) (Below.heap_alloc w o 0 h.lt)).trans (h.at_ i x hx)⟩
theorem Wd.drewN {w:World} (h:Wd w) {n:Nat}:Wd (w.drewN n):=⟨h.lt,h.at_⟩
theorem Wd.drew {w:World} (h:Wd w):Wd w.drew:=⟨h.lt,h.at_⟩
theorem Wd.grw {w w':World} (h:Wd w) (g:Grw w w'):Wd w':=by obtain⟨xh,xd,rfl⟩:=g;exact h.ext
theorem qj6 (s:List UInt8) (g:Nat) (w:World) (hw:Wd w) (hc:w.cell? ⟨g,0,none⟩=some (.string (bs s))) :
  Calls Tryz.prog 246 #[.slice (some ⟨0,0,none⟩) 23 23,.func (.func 254) #[] #[.pointer (some ⟨g,0,none⟩)]] w fun e w'=>e=.returned (.int .i64 ((qf2 s:Int)-1))∧w=w' :=
 qmw qbt 0 0 23 s g w hw.at_ (by decide) hc
@[go_sem] theorem slice_words (w:World):(Instr.sliceAt 267 (.pointer (some ⟨0,0,none⟩)) none none none).run Tryz.prog w=.ok (.slice (some ⟨0,0,none⟩) 23 23) w:=by kernel_rfl
theorem wFind_any (s:List UInt8) (w:World) (hw:Wd w) :
  Calls Tryz.prog 230 #[.string (bs s)] w fun e w'=>e=.returned (.int .i64 (qf2 s))∧Grw w w':=by
 have hle:qf2 s≤23:=by have:=qg7 s qbt 0;rw [Nat.zero_add] at this;exact this
 go_enter Tryz.func230,Tryz.ntmps230
 go_wp2
 go_region_with (first
  | (go_at_call 247;refine (wIs_any _ _).mono ?_;rintro e w' ⟨rfl,rfl⟩)
  | (go_at_call 246;go_must (refine (qj6 s _ _ (by repeat (first|exact hw|apply Wd.ext|apply Wd.alloc|apply Wd.drewN|apply Wd.drew)) ?_).mono ?_;(show (w.alloc _).cell? _=_);(rw [World.cell?_alloc_new]);rfl);rintro e w' ⟨rfl,rfl⟩))
 all_goals
  go_wp2
  go_ret
  exact⟨qho (IntWalk.i64_in _ (by omega)),by first|exact Grw.refl _|(repeat (first|exact Grw.refl _|apply Grw.ext|apply Grw.alloc|apply Grw.drewN|apply Grw.drew));done⟩
end Go.Proofs.YthkojpnjdpbcgaaGreatDoor
