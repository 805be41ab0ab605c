/- Contracts of the document's answer for layer 2 (demesneref02): what each function returns, at any string shorter than 10^9 bytes; nothing that was there is written. -/
import Derived.Test.YthkojpnjdpbcgaaGreatDoorMl1
import Derived.Test.YthkojpnjdpbcgaaGreatDoorProg
import Derived.Deep.RegionWith
set_option linter.unusedVariables false
set_option maxRecDepth 100000
set_option maxHeartbeats 8000000
set_option linter.unusedSimpArgs false
namespace Go.Proofs.YthkojpnjdpbcgaaGreatDoor
open Go.RowKit

def qcm (c:Int):Bool:=(decide (97≤c)&&decide (c≤122))||(decide (65≤c)&&decide (c≤90))
def qnh (c:Int):Bool:=decide (48≤c)&&decide (c≤57)
def qez:List (List UInt8):=[[99,108,97,115,115],[101,120,116,101,110,100,115],[114,101,112],[112,101,101,114],[119,111,114,108,100],[97,110,121],[117,110,105,113,117,101],[112,117,114,101],[118,111,105,100],[105,110,116],[105,102],[101,108,115,101],[119,104,105,108,101],[114,101,116,117,114,110],[110,101,119],[109,111,118,101],[100,101,108,101,116,101],[116,104,105,115],[110,117,108,108],[105,110,112,117,116],[110,105,108],[115,97,109,101],[99,97,115,116]]
def qf9 (t:List UInt8):List (List UInt8)→Nat→Nat
 | [],_=>0
 | x::r,k=>if x=t then k+1 else qf9 t r (k+1)
def qk6 (t:List UInt8):Nat:=qf9 t qez 0

theorem qn4 (t:List UInt8) (l:List (List UInt8)) (k:Nat) (h:k<l.length) :
  qf9 t (l.drop k) k=if l[k]=t then k+1 else qf9 t (l.drop (k+1)) (k+1):=by
 rw [List.drop_eq_getElem_cons h];rfl
theorem qjs (t:List UInt8):∀(l:List (List UInt8)) (k:Nat),qf9 t l k≤k+l.length
 | [],k=>by simp [qf9]
 | x::r,k=>by
  have:=qjs t r (k+1)
  simp only [qf9,List.length_cons];split<;>omega
theorem qh8 (c:UInt8) (w:World) :
  Calls Tryz.prog 229 #[.int .u8 c.toNat] w fun e w'=>e=.returned (.bool (qnh c.toNat))∧w=w':=by
 have hc:(c.toNat:Int)<256:=by have:=c.toNat_lt;omega
 go_enter Tryz.func229,Tryz.ntmps229
 go_wp2
 go_ret
 exact⟨qcu (by rw [Bool.eq_iff_iff];simp [qnh];omega),rfl⟩
theorem qg9:∀n:Fin 256,qcm (n.val:Nat)=(decide (97≤bits BinOp.or IntKind.u8 ((n.val:Nat):Int) 32)&&decide (bits BinOp.or IntKind.u8 ((n.val:Nat):Int) 32≤122)):=by decide +kernel
theorem qlu (c:UInt8):qcm c.toNat=(decide (97≤bits BinOp.or IntKind.u8 (c.toNat:Int) 32)&&decide (bits BinOp.or IntKind.u8 (c.toNat:Int) 32≤122)):=qg9 ⟨c.toNat,c.toNat_lt⟩
theorem qci (c:UInt8) (w:World) :
  Calls Tryz.prog 228 #[.int .u8 c.toNat] w fun e w'=>e=.returned (.bool (qcm c.toNat))∧w=w':=by
 have HL:=Lib.hid (qlu c)
 go_enter Tryz.func228,Tryz.ntmps228
 go_wp2
 ·go_ret
  have h1:97≤bits BinOp.or IntKind.u8 (c.toNat:Int) 32:=by assumption
  exact⟨qcu (by rw [HL.out,decide_eq_true h1,Bool.true_and]),rfl⟩
 ·go_ret
  have h1:¬97≤bits BinOp.or IntKind.u8 (c.toNat:Int) 32:=by omega
  exact⟨qcu (by rw [HL.out,decide_eq_false h1,Bool.false_and]),rfl⟩
theorem qml (t s:List UInt8) (g:Nat) (w:World) (hc:w.cell? ⟨g,0,none⟩=some (.string (bs s))) :
  Calls Tryz.prog 254 #[.string (bs t),.pointer (some ⟨g,0,none⟩)] w fun e w'=>e=.returned (.bool (t==s))∧w=w':=by
 go_enter Tryz.func254,Tryz.ntmps254
 go_wp2
 go_ret
 exact⟨rfl,rfl⟩
theorem idxIn_get (t:List UInt8) (l:List (List UInt8)) (k:Nat) (x:List UInt8) (h:l[k]? = some x):qf9 t (l.drop k) k=if x=t then k+1 else qf9 t (l.drop (k+1)) (k+1):=by
 obtain⟨hk,rfl⟩:=List.getElem?_eq_some_iff.1 h
 exact qn4 t l k hk
theorem qln (l:List (List UInt8)) (b o c:Nat) (s:List UInt8) (g:Nat) (w:World) (hl:∀i x,l[i]? = some x→w.cell? ⟨b,o+i,none⟩=some (.string (bs x))) (hn:l.length≤1000000) (hc:w.cell? ⟨g,0,none⟩=some (.string (bs s))) :
  Calls Tryz.prog 246 #[.slice (some ⟨b,o,none⟩) l.length c,.func (.func 254) #[] #[.pointer (some ⟨g,0,none⟩)]] w fun e w'=>e=.returned (.int .i64 ((qf9 s l 0:Int)-1))∧w=w':=by
 have HL:=Lib.hid hl
 clear hl
 go_enter Tryz.func246,Tryz.ntmps246
 go_wp2
 go_loop [8] (fun i=>∃k:Nat,k≤l.length∧i=.int .i64 k∧qf9 s l 0=qf9 s (l.drop k) k) (fun i=>l.length-(intOf i).toNat)
 case atStart=>exact⟨0,by omega,rfl,rfl⟩
 case round =>
  obtain⟨k,hk,rfl,hf⟩:=hrel
  by_cases hlt:k<l.length
  ·obtain⟨x,hx⟩:∃x,l[k]? = some x:=⟨_,List.getElem?_eq_getElem hlt⟩
   have c0:=HL.out k x hx
   rw [idxIn_get _ _ _ _ hx] at hf
   have HF:=Lib.hid hf
   have f1:(k:Int)<(l.length:Int):=by omega
   clear hf hx
   by_cases he:x=s
   ·have e1:(x==s)=true:=by simp [he]
    have HE:=Lib.hid e1
    have HE2:=Lib.hid he
    clear he e1
    go_wp2_with (go_at_call 254;refine (qml _ _ _ _ hc).mono ?_;rintro e w' ⟨rfl,rfl⟩;rw [HE.out])
    go_ret
    exact⟨qlq (by rw [HF.out,if_pos HE2.out];omega),rfl⟩
   ·have e1:(x==s)=false:=by simp [he]
    have HE:=Lib.hid e1
    have HE2:=Lib.hid he
    clear he e1
    go_wp2_with (go_at_call 254;refine (qml _ _ _ _ hc).mono ?_;rintro e w' ⟨rfl,rfl⟩;rw [HE.out])
    go_round
    case rel=>exact⟨k+1,by omega,by go_num,by rw [HF.out,if_neg HE2.out]⟩
    case measure=>simp [intOf];omega
  ·obtain rfl:k=l.length:=by omega
   have HF:=Lib.hid hf
   clear hf
   go_wp2
   go_ret
   exact⟨qlq (by rw [HF.out,List.drop_length];rfl),rfl⟩
theorem wIs_any (s:List UInt8) (w:World) :
  Calls Tryz.prog 247 #[.string (bs s)] w fun e w'=>e=.returned (.func (.func 254) #[] #[.pointer (some ⟨w.heap.size,0,none⟩)])∧w.alloc (.cells #[.string (bs s)] 9)=w':=by
 have hmf:∀(fn:Fn) (first cap:Array Value) (w:World),(Instr.makeFunc fn first cap).run Tryz.prog w=.ok (.func fn first cap) w:=fun _ _ _ _=>rfl
 go_enter Tryz.func247,Tryz.ntmps247
 go_wp2
 go_ret
 exact⟨rfl,rfl⟩
structure Wd (w:World):Prop where
 lt:0<w.heap.size
 at_:∀i x,qez[i]? = some x→w.cell? ⟨0,0+i,none⟩=some (.string (bs x))
theorem Wd.ext {w:World} (h:Wd w) {xh:Array Obj} {xd:Nat}:Wd (wext w xh xd):=⟨by rw [qgo];have:=h.lt;omega,fun i x hx=>(wext_cell w xh xd 0 _ h.lt).trans (h.at_ i x hx)⟩
theorem Wd.alloc {w:World} (h:Wd w) {o:Obj}:Wd (w.alloc o):=⟨by rw [World.size_alloc];exact Nat.lt_succ_of_lt h.lt,fun i x hx=>(World.cell?_of_block (a:=⟨0,_,none⟩) (Below.heap_alloc w o 0 h.lt)).trans (h.at_ i x hx)⟩
theorem Wd.drewN {w:World} (h:Wd w) {n:Nat}:Wd (w.drewN n):=⟨h.lt,h.at_⟩
theorem Wd.drew {w:World} (h:Wd w):Wd w.drew:=⟨h.lt,h.at_⟩
theorem Wd.grw {w w':World} (h:Wd w) (g:Grw w w'):Wd w':=by obtain⟨xh,xd,rfl⟩:=g;exact h.ext
theorem qi6 (s:List UInt8) (g:Nat) (w:World) (hw:Wd w) (hc:w.cell? ⟨g,0,none⟩=some (.string (bs s))) :
  Calls Tryz.prog 246 #[.slice (some ⟨0,0,none⟩) 23 23,.func (.func 254) #[] #[.pointer (some ⟨g,0,none⟩)]] w fun e w'=>e=.returned (.int .i64 ((qk6 s:Int)-1))∧w=w' :=
 qln qez 0 0 23 s g w hw.at_ (by decide) hc
@[go_sem] theorem slice_words (w:World):(Instr.sliceAt 267 (.pointer (some ⟨0,0,none⟩)) none none none).run Tryz.prog w=.ok (.slice (some ⟨0,0,none⟩) 23 23) w:=by kernel_rfl
theorem wFind_any (s:List UInt8) (w:World) (hw:Wd w) :
  Calls Tryz.prog 230 #[.string (bs s)] w fun e w'=>e=.returned (.int .i64 (qk6 s))∧Grw w w':=by
 have hle:qk6 s≤23:=by have:=qjs s qez 0;rw [Nat.zero_add] at this;exact this
 go_enter Tryz.func230,Tryz.ntmps230
 go_wp2
 go_region_with (first
  | (go_at_call 247;refine (wIs_any _ _).mono ?_;rintro e w' ⟨rfl,rfl⟩)
  | (go_at_call 246;go_must (refine (qi6 s _ _ (by repeat (first|exact hw|apply Wd.ext|apply Wd.alloc|apply Wd.drewN|apply Wd.drew)) ?_).mono ?_;(show (w.alloc _).cell? _=_);(rw [World.cell?_alloc_new]);rfl);rintro e w' ⟨rfl,rfl⟩))
 all_goals
  go_wp2
  go_ret
  exact⟨qlq (IntWalk.i64_in _ (by omega)),by first|exact Grw.refl _|(repeat (first|exact Grw.refl _|apply Grw.ext|apply Grw.alloc|apply Grw.drewN|apply Grw.drew));done⟩
end Go.Proofs.YthkojpnjdpbcgaaGreatDoor
