/- Plain helpers, no program in sight: endings, strings as lists of bytes. Conditions: none. -/
import Derived.WalkKit
import Derived.Lib.Hide
import Derived.Deep.QuietTactic
import Derived.BigQuiet
import Derived.Lib.IndexBytes
import Derived.WalkSpells
import Derived.Maps.AppendAt
import Derived.Deep.AppendLies
import Derived.Outline
import Derived.StillTailTactics
set_option linter.unusedVariables false
set_option maxRecDepth 100000
set_option maxHeartbeats 8000000
set_option linter.unusedSimpArgs false
namespace Go.Proofs.YthkojpnjdpbcgaaGreatDoor
open Go.RowKit

theorem qcu {a b:Bool} (h:a=b):Ending.returned (.bool a)=.returned (.bool b):=by rw [h]
theorem qlq {k:IntKind} {a b:Int} (h:a=b):Ending.returned (.int k a)=.returned (.int k b):=by rw [h]
def bs (l:List UInt8):ByteArray:=⟨l.toArray⟩
@[simp] theorem bs_data (l:List UInt8):(bs l).data.toList=l:=rfl
@[simp] theorem bs_size (l:List UInt8):(bs l).size=l.length:=rfl
theorem bs_of (s:ByteArray):bs s.data.toList=s:=rfl
theorem qi7 (s:ByteArray):s.size=s.data.toList.length:=rfl
theorem qgi (s:ByteArray) (k:Nat) (h:k<s.size):s.data.toList[k]? = some s[k]:=by
 rw [List.getElem?_eq_getElem (by rw [←qi7];exact h)];rfl
theorem drop_get (s:ByteArray) (k:Nat) (h:k<s.size):s.data.toList.drop k=s[k]::s.data.toList.drop (k+1):=by
 rw [List.drop_eq_getElem_cons (by rw [←qi7];exact h)];rfl
theorem qc0 (s:ByteArray):s.toList=s.data.toList:=ByteArray.toList_eq s
@[go_sem] theorem qax (l:List UInt8):(bs l).toList=l:=by rw [qc0];rfl
def Qt (w w':World):Prop:=∃n,w'=w.drewN n
theorem Qt.below {w w':World} (h:Qt w w') (B:Nat):Below B w w':=by
 obtain⟨n,rfl⟩:=h
 exact⟨rfl,rfl,rfl,Nat.le_refl _,fun _ _=>rfl⟩
theorem qhz (s:ByteArray) (h:0<s.size):s.toList.isEmpty=false:=by
 have e:=drop_get s 0 h
 rw [List.drop_zero] at e
 rw [qc0,e];rfl

@[go_sem] theorem setCell_drewN' (w:World) (n:Nat) (a:Addr) (v:Value):(w.drewN n).setCell a v=(w.setCell a v).drewN n:=rfl
@[go_sem] theorem alloc_drewN' (w:World) (n:Nat) (o:Obj):(w.drewN n).alloc o=(w.alloc o).drewN n:=rfl
def wext (w:World) (h:Array Obj) (d:Nat):World:={ w with heap:=w.heap++h,drawn:=d }
section
variable (w:World) (h:Array Obj) (d:Nat)
theorem qct (n:Nat) (hn:n<w.heap.size):(wext w h d).heap[n]? = w.heap[n]?:=by
 simp [wext,Array.getElem?_append,hn]
@[go_sem] theorem qgo:(wext w h d).heap.size=h.size+w.heap.size:=by simp [wext,Nat.add_comm]
@[go_sem] theorem wext_getElem (n:Nat) (hn:n<w.heap.size):(wext w h d).heap[n]? = w.heap[n]?:=qct w h d n hn
@[go_sem] theorem wext_cell (n i:Nat) (hn:n<w.heap.size):(wext w h d).cell? ⟨n,i,none⟩=w.cell? ⟨n,i,none⟩ :=
 World.cell?_of_block (a:=⟨n,i,none⟩) (qct w h d n hn)
@[go_sem] theorem wext_frozen (n i:Nat) (hn:n<w.heap.size):(wext w h d).frozen? ⟨n,i,none⟩=w.frozen? ⟨n,i,none⟩ :=
 World.frozen?_of_block (a:=⟨n,i,none⟩) (qct w h d n hn)
@[go_sem] theorem wext_setCell (n i:Nat) (v:Value) (hn:n<w.heap.size):(wext w h d).setCell ⟨n,i,none⟩ v=wext (w.setCell ⟨n,i,none⟩ v) h d:=by
 simp only [wext,World.setCell]
 congr 1
 apply Array.ext_getElem?
 intro k
 simp only [Array.getElem?_modify,Array.getElem?_append,Array.size_modify]
 by_cases hk:k<w.heap.size
 ·simp [hk]
 ·have:n≠k:=by omega
  simp [hk,this]
theorem qj5 (h':Array Obj) (d':Nat):wext (wext w h d) h' d'=wext w (h++h') d':=by simp [wext]
@[go_sem] theorem wext_drew:(wext w h d).drew=wext w h (d+1):=rfl
@[go_sem] theorem wext_drewN (n:Nat):(wext w h d).drewN n=wext w h (d+n):=rfl
@[go_sem] theorem drew_wext:wext w.drew h d=wext w h d:=rfl
@[go_sem] theorem drewN_wext (n:Nat):wext (w.drewN n) h d=wext w h d:=rfl
@[go_sem ↓] theorem lt_wext (n:Nat):(n<(wext w h d).heap.size)=(n<w.heap.size∨(w.heap.size≤n∧n<h.size+w.heap.size)):=by
 rw [qgo];apply propext;omega
@[go_sem ↓] theorem lt_walloc (n:Nat) (o:Obj):(n<(w.alloc o).heap.size)=(n<w.heap.size∨n=w.heap.size):=by rw [World.size_alloc];apply propext;omega
@[go_sem ↓] theorem lt_wdrew (n:Nat):(n<w.drew.heap.size)=(n<w.heap.size):=rfl
@[go_sem ↓] theorem lt_wdrewN (n k:Nat):(n<(w.drewN k).heap.size)=(n<w.heap.size):=rfl
@[go_sem ↓] theorem lt_wset (n:Nat) (a:Addr) (v:Value):(n<(w.setCell a v).heap.size)=(n<w.heap.size):=by rw [World.size_setCell]
end
def Grw (w w':World):Prop:=∃h d,w'=wext w h d
theorem Grw.refl (w:World):Grw w w:=⟨#[],w.drawn,by simp [wext]⟩
theorem Grw.trans {a b c:World} (h1:Grw a b) (h2:Grw b c):Grw a c:=by
 obtain⟨h,d,rfl⟩:=h1
 obtain⟨h',d',rfl⟩:=h2
 exact⟨h++h',d',qj5 _ _ _ _ _⟩
theorem Grw.alloc {a w:World} (g:Grw a w) (o:Obj):Grw a (w.alloc o):=g.trans ⟨#[o],w.drawn,rfl⟩
theorem Grw.drew {a w:World} (g:Grw a w):Grw a w.drew:=g.trans ⟨#[],w.drawn+1,by unfold wext;rw [Array.append_empty];rfl⟩
theorem Grw.drewN {a w:World} (g:Grw a w) (n:Nat):Grw a (w.drewN n):=g.trans ⟨#[],w.drawn+n,by unfold wext;rw [Array.append_empty];rfl⟩
theorem Grw.of_below {w w':World} (hb:Below w.heap.size w w'):Grw w w':=by
 refine⟨w'.heap.extract w.heap.size w'.heap.size,w'.drawn,?_⟩
 obtain⟨ho,ht,hp,hs,hk⟩:=hb
 cases w;cases w'
 simp only [wext] at *
 subst ho;subst ht;subst hp
 congr 1
 apply Array.ext_getElem?
 intro k
 rename_i h1 _ _ _ _ h2 _
 rw [Array.getElem?_append]
 split
 ·rename_i hlt;exact hk k hlt
 ·rename_i hge
  rw [Array.getElem?_extract]
  split
  ·congr 1;omega
  ·rw [Array.getElem?_eq_none (by omega)]
theorem Grw.below {w w':World} (g:Grw w w'):Below w.heap.size w w':=by
 obtain⟨h,d,rfl⟩:=g
 exact⟨rfl,rfl,rfl,by rw [qgo];omega,fun k hk=>qct w h d k hk⟩
theorem Grw.setCell {a w:World} (g:Grw a w) {p:Addr} (hp:a.heap.size≤p.block) (v:Value):Grw a (w.setCell p v) :=
 .of_below (g.below.setCell hp v)
section
variable {w:World} {base:Nat} {e:TypeId} {size n:Nat} {v:Value} {xs:List Value}
end
theorem qbb (w:World) (o:Obj) (n:Nat) (hn:n=w.heap.size):(w.alloc o).heap[n]? = some o:=by
 subst hn;exact heap_alloc_new w o
def Sl {α:Type} (enc:α→List Value) (sz:Nat) (w:World) (A:Option Addr) (xs:List α):Prop :=
 xs=[]∨∃b o,A=some ⟨b,o,none⟩∧b<w.heap.size∧∀i x,xs[i]? = some x→∀j u,(enc x)[j]? = some u→w.cell? ⟨b,o+i*sz+j,none⟩=some u
section
variable {α:Type} {enc:α→List Value} {sz:Nat} {w w':World} {A:Option Addr} {xs:List α}
theorem Sl.keep (h:Sl enc sz w A xs) (hs:w.heap.size≤w'.heap.size) (hk:∀b,b<w.heap.size→w'.heap[b]? = w.heap[b]?):Sl enc sz w' A xs:=by
 rcases h with h|⟨b,o,hA,hb,hc⟩
 ·exact .inl h
 ·exact .inr ⟨b,o,hA,by omega,fun i x hx j u hu=>(World.cell?_of_block (a:=⟨b,_,none⟩) (hk b hb)).trans (hc i x hx j u hu)⟩
theorem Sl.at_ (h:Sl enc sz w A xs) {i:Nat} {x:α} (hx:xs[i]? = some x):∃b o,A=some ⟨b,o,none⟩∧b<w.heap.size∧∀j u,(enc x)[j]? = some u→w.cell? ⟨b,o+i*sz+j,none⟩=some u:=by
 rcases h with h|⟨b,o,hA,hb,hc⟩
 ·subst h;simp at hx
 ·exact⟨b,o,hA,hb,hc i x hx⟩
end
def sb (w:World) (g:Nat) (t:TypeId) (cs:Array Value):World:={ w with heap:=w.heap.setIfInBounds g (.cells cs t) }
section
variable (w:World) (g:Nat) (t:TypeId) (cs:Array Value)
@[go_sem] theorem sb_size:(sb w g t cs).heap.size=w.heap.size:=by simp [sb]
@[go_sem ↓] theorem lt_sb (n:Nat):(n<(sb w g t cs).heap.size)=(n<w.heap.size):=by rw [sb_size]
@[go_sem] theorem qgt (h:g<w.heap.size):(sb w g t cs).heap[g]? = some (.cells cs t):=by simp [sb,h]
@[go_sem] theorem qdu (n:Nat) (h:n≠g):(sb w g t cs).heap[n]? = w.heap[n]?:=by
 simp only [sb];rw [Array.getElem?_setIfInBounds,if_neg (fun e=>h e.symm)]
@[go_sem] theorem qkh (i:Nat) (h:g<w.heap.size):(sb w g t cs).cell? ⟨g,i,none⟩=cs[i]?:=by
 simp [World.cell?,qgt w g t cs h]
@[go_sem] theorem sb_cell_other (n i:Nat) (h:n≠g):(sb w g t cs).cell? ⟨n,i,none⟩=w.cell? ⟨n,i,none⟩ :=
 World.cell?_of_block (a:=⟨n,i,none⟩) (qdu w g t cs n h)
@[go_sem] theorem sb_frozen_same (i:Nat) (h:g<w.heap.size):(sb w g t cs).frozen? ⟨g,i,none⟩=false:=by
 simp [World.frozen?,qgt w g t cs h]
@[go_sem] theorem sb_frozen_other (n i:Nat) (h:n≠g):(sb w g t cs).frozen? ⟨n,i,none⟩=w.frozen? ⟨n,i,none⟩ :=
 World.frozen?_of_block (a:=⟨n,i,none⟩) (qdu w g t cs n h)
@[go_sem] theorem sb_setCell (i:Nat) (v:Value):(sb w g t cs).setCell ⟨g,i,none⟩ v=sb w g t (cs.setIfInBounds i v):=by
 simp only [sb,World.setCell]
 congr 1
 apply Array.ext_getElem?
 intro k
 simp only [Array.getElem?_modify,Array.getElem?_setIfInBounds]
 by_cases hk:g=k
 ·subst hk
  by_cases hl:g<w.heap.size
  ·simp [hl]
  ·simp [hl]
 ·simp [hk]
@[go_sem] theorem sb_sb (cs':Array Value):sb (sb w g t cs) g t cs'=sb w g t cs':=by simp [sb]
@[go_sem] theorem sb_wext (h:Array Obj) (d:Nat) (hg:g<w.heap.size):sb (wext w h d) g t cs=wext (sb w g t cs) h d:=by
 simp only [sb,wext]
 congr 1
 rw [Array.setIfInBounds_append_left hg]
@[go_sem] theorem sb_alloc (o:Obj) (hg:g<w.heap.size):sb (w.alloc o) g t cs=(sb w g t cs).alloc o:=by
 simp only [sb,World.alloc]
 congr 1
 apply Array.ext_getElem?
 intro k
 rw [Array.getElem?_setIfInBounds,Array.getElem?_push,Array.getElem?_push,Array.getElem?_setIfInBounds,Array.size_push,Array.size_setIfInBounds]
 by_cases hk:g=k
 ·subst hk
  rw [if_pos rfl,if_pos (by omega),if_neg (by omega),if_pos rfl,if_pos hg]
 ·rw [if_neg hk,if_neg hk]
@[go_sem] theorem sb_alloc_at (c:Array Value) (t':TypeId) (n:Nat) (hn:n=w.heap.size):sb (w.alloc (.cells c t')) n t cs=w.alloc (.cells cs t):=by
 subst hn
 simp only [sb,World.alloc]
 congr 1
 apply Array.ext_getElem?
 intro k
 rw [Array.getElem?_setIfInBounds,Array.getElem?_push,Array.getElem?_push,Array.size_push]
 by_cases hk:w.heap.size=k
 ·subst hk;simp
 ·rw [if_neg hk,if_neg (fun e=>hk e.symm),if_neg (fun e=>hk e.symm)]
@[go_sem] theorem sb_drew:sb w.drew g t cs=(sb w g t cs).drew:=rfl
@[go_sem] theorem sb_drewN (n:Nat):sb (w.drewN n) g t cs=(sb w g t cs).drewN n:=rfl
end
def SlB {α:Type} (enc:α→List Value) (sz:Nat) (w:World) (B:Nat) (A:Option Addr) (xs:List α):Prop :=
 xs=[]∨∃b o,A=some ⟨b,o,none⟩∧b<B∧b<w.heap.size∧∀i x,xs[i]? = some x→∀j u,(enc x)[j]? = some u→w.cell? ⟨b,o+i*sz+j,none⟩=some u
section
variable {α:Type} {enc:α→List Value} {sz B:Nat} {w w':World} {A:Option Addr} {xs:List α}
theorem SlB.keep (h:SlB enc sz w B A xs) (hk:∀b,b<B→b<w.heap.size→w'.heap[b]? = w.heap[b]?∧b<w'.heap.size):SlB enc sz w' B A xs:=by
 rcases h with h|⟨b,o,hA,hb,hl,hc⟩
 ·exact .inl h
 ·exact .inr ⟨b,o,hA,hb,(hk b hb hl).2,fun i x hx j u hu=>(World.cell?_of_block (a:=⟨b,_,none⟩) (hk b hb hl).1).trans (hc i x hx j u hu)⟩
theorem SlB.alloc (h:SlB enc sz w B A xs) (o:Obj):SlB enc sz (w.alloc o) B A xs :=
 h.keep fun b _ hl=>⟨Below.heap_alloc w o b hl,by simp;omega⟩
theorem SlB.drewN (h:SlB enc sz w B A xs) (n:Nat):SlB enc sz (w.drewN n) B A xs:=h
theorem SlB.drew (h:SlB enc sz w B A xs):SlB enc sz w.drew B A xs:=h
theorem SlB.setCell (h:SlB enc sz w B A xs) {p:Addr} (hp:B≤p.block) (v:Value):SlB enc sz (w.setCell p v) B A xs :=
 h.keep fun b hb hl=>⟨Below.heap_setCell w p v b (by omega),by rw [World.size_setCell];exact hl⟩
theorem SlB.at_ (h:SlB enc sz w B A xs) {i:Nat} {x:α} (hx:xs[i]? = some x):∃b o,A=some ⟨b,o,none⟩∧b<B∧b<w.heap.size∧∀j u,(enc x)[j]? = some u→w.cell? ⟨b,o+i*sz+j,none⟩=some u:=by
 rcases h with h|⟨b,o,hA,hb,hl,hc⟩
 ·subst h;simp at hx
 ·exact⟨b,o,hA,hb,hl,hc i x hx⟩
end

end Go.Proofs.YthkojpnjdpbcgaaGreatDoor
