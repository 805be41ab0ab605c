/- Loops over functions whose rounds may call back in their turn, and to which blocks are given. No program in sight. Conditions: none. -/
import Derived.Test.YthkojpnjdpbcgaaGreatDoorMl8
set_option linter.unusedVariables false
set_option maxRecDepth 100000
set_option maxHeartbeats 8000000
set_option linter.unusedSimpArgs false
namespace Go.Proofs.YthkojpnjdpbcgaaGreatDoor
open Go.RowKit
/-! ### Blocks given away -/
theorem RepA.give {w:World} {x x':Nat→Prop} {bl:List Nat} {st ex:List Bx} (hm:∀b,(⟨w,x',bl.take st.length,st⟩:Vw).mut b→(⟨w,x,bl,st++ex⟩:Vw).mut b) {y:A} {u:Value} (h:RepA ⟨w,x,bl,st++ex⟩ y u):nrA st.length y=true→RepA ⟨w,x',bl.take st.length,st⟩ y u:=by
  induction h with
  | c y u h=>exact fun _=>.c _ _ (h.mono (Nat.le_refl _) fun b _ hn=>⟨fun _=>rfl,fun h=>hn (hm b h)⟩)
  | ptr i off b hi hr =>
    intro hn
    have hi:i<st.length:=by simpa [nrA] using hn
    refine .ptr i off b hi fun row hs=>?_
    have:=hr row (by simp only at hs ⊢;rwa [List.getElem?_append_left hi])
    simp only at this ⊢
    rwa [List.getElem?_take_of_lt hi]
  | cs i off len b hi hr =>
    intro hn
    have hi:i<st.length:=by simpa [nrA] using hn
    refine .cs i off len b hi fun row hs=>?_
    have:=hr row (by simp only at hs ⊢;rwa [List.getElem?_append_left hi])
    simp only at this ⊢
    rwa [List.getElem?_take_of_lt hi]
  | own i ver a l c hi hr =>
    intro hn
    have hi:i<st.length:=by simpa [nrA] using hn
    refine .own i ver a l c hi fun ver' n rows hs=>?_
    have:=hr ver' n rows (by simp only at hs ⊢;rwa [List.getElem?_append_left hi])
    simp only at this ⊢
    rwa [List.getElem?_take_of_lt hi]
  | ep i ver z off b ad hi hr =>
    intro hn
    have hi:i<st.length:=by simpa [nrA] using hn
    refine .ep i ver z off b ad hi fun ver' n rows hs=>?_
    have:=hr ver' n rows (by simp only at hs ⊢;rwa [List.getElem?_append_left hi])
    simp only at this ⊢
    rwa [List.getElem?_take_of_lt hi]
  | fn f caps vs hl _ ih=>exact fun hn=>.fn f caps vs hl fun i z hz=>ih i z hz (qeq hn i z hz)
  | fm f caps vs hl _ ih=>exact fun hn=>.fm f caps vs hl fun i z hz=>ih i z hz (qeq hn i z hz)
  | mp i b hi hr =>
    intro hn
    have hi:i<st.length:=by simpa [nrA] using hn
    refine .mp i b hi fun k wd es hs=>?_
    have:=hr k wd es (by simp only at hs ⊢;rwa [List.getElem?_append_left hi])
    simp only at this ⊢
    rwa [List.getElem?_take_of_lt hi]
theorem MRep.give {w:World} {x x':Nat→Prop} {bl:List Nat} {st ex:List Bx} (hm:∀b,(⟨w,x',bl.take st.length,st⟩:Vw).mut b→(⟨w,x,bl,st++ex⟩:Vw).mut b) {wd:Bool} {row:List A} {u:Value} (h:MRep ⟨w,x,bl,st++ex⟩ wd row u) (hn:row.all (nrA st.length)=true):MRep ⟨w,x',bl.take st.length,st⟩ wd row u:=by
  cases wd with
  | false=>obtain⟨y,rfl,h2⟩:=h;exact⟨y,rfl,h2.give hm (by simpa using hn)⟩
  | true=>obtain⟨vs,h1,h2,h3⟩:=h;exact⟨vs,h1,h2,fun j y hj=>(h3 j y hj).give hm (List.all_eq_true.1 hn y (lm4 hj))⟩
theorem RepD.give {w:World} {x x':Nat→Prop} {bl:List Nat} {st ex:List Bx} (hm:∀b,(⟨w,x',bl.take st.length,st⟩:Vw).mut b→(⟨w,x,bl,st++ex⟩:Vw).mut b) {d:D} {u:Value} (h:RepD ⟨w,x,bl,st++ex⟩ d u) (hn:nrD st.length d=true):RepD ⟨w,x',bl.take st.length,st⟩ d u:=by
  have row:∀{row:List A} {vs:List Value},vs.length=row.length→(∀(j:Nat) (y:A),row[j]? = some y→RepA ⟨w,x,bl,st++ex⟩ y (vs.getD j Go.undef))→row.all (nrA st.length)=true→RepD ⟨w,x',bl.take st.length,st⟩ (.r row) (.agg vs.toArray) :=
    fun hl h hn=>.r _ _ hl fun j y hj=>(h j y hj).give hm (List.all_eq_true.1 hn y (lm4 hj))
  have clnr0:∀y:A,clA y=true→nrA st.length y=true:=fun y hy=>by
    cases y<;>first|rfl|(simp [clA] at hy;done)|skip
    rename_i caps
    cases caps<;>first|rfl|(simp [clA] at hy)
  have clnrL:∀l:List A,l.all clA=true→nrA.nrL st.length l=true:=fun l=>by
    induction l with
    | nil=>intro _;rfl
    | cons y l ih =>
      intro h
      rw [List.all_cons,Bool.and_eq_true] at h
      rw [nrA.nrL,Bool.and_eq_true]
      exact⟨clnr0 y h.1,ih h.2⟩
  have clnr:∀y:A,clA1 y=true→nrA st.length y=true:=fun y hy=>by
    cases y with
    | fn f caps=>exact clnrL caps hy
    | _=>exact clnr0 _ hy
  cases h with
  | junk _=>exact .junk _
  | undef=>exact .undef
  | a y u h=>exact .a y u (h.give hm hn)
  | r r vs hl h=>exact row hl h hn
  | t ds vs hl h =>
    refine .t ds vs hl fun j d hd=>?_
    have hc:=List.all_eq_true.1 hn d (lm4 hd)
    have:=h j d hd
    generalize vs.getD j Go.undef=u' at this ⊢
    cases this with
    | junk=>cases hc
    | undef=>cases hc
    | a y _ h=>exact .a y _ (h.give hm (clnr y hc))
    | r r vs hl h=>exact row hl h (List.all_eq_true.2 fun y hy=>clnr0 y (List.all_eq_true.1 hc y hy))
    | t=>cases hc
theorem Ok.give {w:World} {x x':Nat→Prop} {bl:List Nat} {st ex:List Bx} (hm:∀b,(⟨w,x',bl.take st.length,st⟩:Vw).mut b→(⟨w,x,bl,st++ex⟩:Vw).mut b) (hx:∀b,x' b→x b∨b∈bl) (h:Ok ⟨w,x,bl,st++ex⟩) (hx2:∀b,x b→x' b) (hs:nrS st.length st=true):Ok ⟨w,x',bl.take st.length,st⟩:=by
  have hlen:=h.len
  simp only [List.length_append] at hlen
  have at1:∀{i:Nat} {b:Nat},(bl.take st.length)[i]? = some b→i<st.length∧bl[i]? = some b:=fun {i b} hb=>by
    have:=(List.getElem?_eq_some_iff.1 hb).1
    simp only [List.length_take] at this
    have hi:i<st.length:=by omega
    exact⟨hi,by rwa [List.getElem?_take_of_lt hi] at hb⟩
  have at2:∀{i:Nat} {y:Bx},i<st.length→st[i]? = some y→(st++ex)[i]? = some y:=fun hi hy=>by rwa [List.getElem?_append_left hi]
  refine⟨by simp;omega,fun i b hb=>h.lt i b (at1 hb).2,fun b hb=>?_,fun w' hs hb=>h.gd w' hs fun b hlt hn hnx hc=>hb b hlt (fun hm=>hn (List.mem_of_mem_take hm)) (fun h'=>(hx b h').elim hnx hn) hc,fun i b hb=>h.isc i b (at1 hb).2,fun i j b y z h1 h2 h3 h4 h5 h6=>?_,fun i row b h1 h2=>?_,fun i ver n rows b h1 h2=>?_,fun i k wd es b h1 h2=>?_⟩
  · rcases hx b hb with h1|h1
    · exact h.xlt b h1
    · obtain⟨i,hi⟩:=List.getElem?_of_mem h1;exact h.lt i b hi
  · exact h.inj i j b y z (at1 h1).2 (at1 h2).2 (at2 (at1 h1).1 h3) (at2 (at1 h2).1 h4) h5 h6
  · obtain⟨hi,hb⟩:=at1 h2
    obtain⟨cs,T',k1,k2,k3⟩:=h.cell i row b (at2 hi h1) hb
    have hrow:=qee hs h1
    exact⟨cs,T',k1,k2,fun j y hj=>(k3 j y hj).give hm (List.all_eq_true.1 hrow y (lm4 hj))⟩
  · obtain⟨hi,hb⟩:=at1 h2
    obtain⟨cs,T',c,k1,k2,k3,k4,k5,k6⟩:=h.arr i ver n rows b (at2 hi h1) hb
    exact⟨cs,T',c,k1,k2,k3,k4,k5,fun k r j y hk hj=>(k6 k r j y hk hj).mono (Nat.le_refl _) fun b _ hn=>⟨fun _=>rfl,fun hh=>hn (hm b hh)⟩⟩
  · obtain⟨hi,hb⟩:=at1 h2
    obtain⟨ms,k1,k2,k3⟩:=h.map i k wd es b (at2 hi h1) hb
    have hes:=qfp hs h1
    exact⟨ms,k1,k2,fun j y row hj=>by obtain⟨q1,v,q2,q3⟩:=k3 j y row hj;exact⟨q1,v,q2,q3.give hm (List.all_eq_true.1 hes _ (lm4 hj))⟩⟩
theorem Vw.Le.give {V:Vw} {w:World} {x x':Nat→Prop} {bl:List Nat} {st ex:List Bx} (hm:∀b,(⟨w,x',bl.take st.length,st⟩:Vw).mut b→(⟨w,x,bl,st++ex⟩:Vw).mut b) (h:V.Le ⟨w,x,bl,st++ex⟩) (hV:V.st.length≤st.length):V.Le ⟨w,x',bl.take st.length,st⟩:=by
  have h2:=h.drop hV
  exact⟨h2.len,h2.size,fun b hb hn=>⟨(h.blk b hb hn).1,fun h'=>(h.blk b hb hn).2 (hm b h')⟩,h2.cell,h2.arr,h2.map⟩
/-! ### A round -/
def qb1 (Vs:Vw) (xo Dp:Nat→Prop) (W:World) (b:Nat):Prop:=Vs.x b∨xo b∨(b<W.heap.size∧¬Dp b)
structure RK (on:Prop) (N0 gv:Nat→Prop) (Vs:Vw) (W1:World) (l:Nat) (ms:List Nat) (st:List Bx) (lo:Loop) (xo Dp:Nat→Prop) (W:World) (bl:List Nat):Prop where
  le:Vs.Le ⟨W,qb1 Vs xo Dp W,bl,st⟩
  ok:Ok ⟨W,qb1 Vs xo Dp W,bl,st⟩
  fr:Fr (fun b=>b∈Vs.bl∨gv b∨(on∧Vs.x b∧¬N0 b)) Vs.w W
  new:∀b,b∈bl→b∈Vs.bl∨Vs.w.heap.size≤b
  sep:∀b,b∈bl→¬qb1 Vs xo Dp W b
  xon:∀b,xo b→Vs.x b∨Vs.w.heap.size≤b
  lo:W.heap[l]? = some (.loop lo)
  dd:∀d∈ms,W.heap[d]? = some (.deferred (some []))∧Dp d
  ddx:∀d,d∈ms∨d=l→¬xo d∧¬Vs.x d
  dl:Dp l
  lt:∀b,Dp b→b<W.heap.size
  old:∀b,b<W1.heap.size→¬gv b→Dp b
  nx:∀b,N0 b→b<W.heap.size∧(Vs.x b∨(nk W b∧¬b∈bl∧¬Vs.x b∧¬xo b∧Dp b))
section
variable {P:Program} {on:Prop} {N0 gv xo Dp:Nat→Prop} {Vs:Vw} {W1:World} {l:Nat} {ms:List Nat} {st:List Bx} {lo:Loop} {bl:List Nat}
theorem RK.off {A B:World} (h:RK on N0 gv Vs W1 l ms st lo xo Dp A bl) (hf:Fr (fun b=>¬Dp b) A B) (hok:Ok Vs) (hw:Vs.w.heap.size≤W1.heap.size):RK on N0 gv Vs W1 l ms st lo xo Dp B bl:=by
  have dp:∀b,b<A.heap.size→¬qb1 Vs xo Dp A b→Dp b:=fun b hb hn=>Classical.byContradiction fun hd=>hn (.inr (.inr ⟨hb,hd⟩))
  have same:∀b,b<A.heap.size→¬qb1 Vs xo Dp A b→B.heap[b]? = A.heap[b]?:=fun b hb hn=>hf.block b hb fun hd=>hd (dp b hb hn)
  have hx:∀b,b<A.heap.size→qb1 Vs xo Dp B b→qb1 Vs xo Dp A b:=fun b hb hn=>hn.imp id fun h=>h.imp id fun h=>⟨hb,h.2⟩
  have hxl:∀b,qb1 Vs xo Dp B b→b<B.heap.size:=fun b hb=>by
    rcases hb with hb|hb|hb
    · have:=hok.xlt b hb;have:=h.fr.size;have:=hf.size;omega
    · exact Nat.lt_of_lt_of_le (h.ok.xlt b (.inr (.inl hb))) hf.size
    · exact hb.1
  refine⟨h.le.trans (Vw.le_off hf.size same hx h.sep h.ok.lt),h.ok.off hf.size same hx h.sep hxl,⟨hf.os.trans h.fr.os,hf.tape.trans h.fr.tape,hf.output.trans h.fr.output,Nat.le_trans h.fr.size hf.size,fun b hb hn=>?_⟩,h.new,fun b hb hxb=>?_,h.xon,?_,fun d hd=>?_,h.ddx,h.dl,fun b hb=>Nat.lt_of_lt_of_le (h.lt b hb) hf.size,h.old,fun b hb=>?_⟩
  · exact (hf.block b (Nat.lt_of_lt_of_le hb h.fr.size) fun hd=>hd (h.old b (by omega) fun hg=>hn (.inr (.inl hg)))).trans (h.fr.block b hb hn)
  · obtain⟨i,hi⟩:=List.getElem?_of_mem hb
    exact h.sep b hb (hx b (h.ok.lt i b hi) hxb)
  · exact (hf.block l (h.lt l h.dl) fun hd=>hd h.dl).trans h.lo
  · obtain⟨h1,h2⟩:=h.dd d hd
    exact⟨(hf.block d (h.lt d h2) fun hd=>hd h2).trans h1,h2⟩
  · obtain⟨h1,h2⟩:=h.nx b hb
    exact⟨Nat.lt_of_lt_of_le h1 hf.size,h2.imp id fun ⟨q1,q2,q3,q4,q5⟩=>⟨q1.same (hf.block b h1 fun hd=>hd q5),q2,q3,q4,q5⟩⟩
def nxR (N0 gv Ly:Nat→Prop) (l:Nat) (b:Nat):Prop:=N0 b∨gv b∨Ly b∨b=l
def nxJ (N0 gv Dp:Nat→Prop) (l:Nat) (b:Nat):Prop:=N0 b∨gv b∨¬Dp b∨b=l
theorem qmu {Ly Mx:Nat→Prop} {W w1 w3 w4:World} {bl1 bl3:List Nat} {x1 x3:Nat→Prop} {st3:List Bx} {lo1:Loop}
    (hok:Ok Vs) (hl:Vs.w.heap.size≤l) (hw1:Vs.w.heap.size≤W1.heap.size) (hgx:∀b,gv b→Vs.x b) (hJ:RK on N0 gv Vs W1 l ms st lo xo Dp W bl) (hMx:∀b,Mx b↔((Vs.x b∨xo b)∧¬gv b)∨(⟨W,Vs.x,bl,st⟩:Vw).mine b∨b=l) (hLy:∀b,Ly b→b<W.heap.size∧¬Dp b)
    (f1:Fr (fun b=>b∈bl∨(on∧(Vs.x b∨xo b∨Ly b)∧¬nxR N0 gv Ly l b)) W w1) (n1:∀b,b∈bl1→b∈bl∨W.heap.size≤b) (sz1:l<w1.heap.size) (xg1:∀b,x1 b→(Vs.x b∨xo b∨Ly b)∨W.heap.size≤b)
    (f3:Fr (fun b=>b∈bl1∨(on∧x1 b∧¬nxR N0 gv Ly l b)) (w1.putObj l (.loop lo1)) w3) (le3:(⟨W,fun b=>Vs.x b∨xo b∨Ly b,bl,st⟩:Vw).Le ⟨w3,x3,bl3,st3⟩) (ok3:Ok ⟨w3,x3,bl3,st3⟩) (n3:∀b,b∈bl3→b∈bl1∨w1.heap.size≤b) (sep3:∀b,b∈bl3→¬x3 b) (hx3:∀b,Vs.x b∨xo b∨Ly b→x3 b) (xg3:∀b,x3 b→x1 b∨w1.heap.size≤b) (hl1:¬l∈bl1)
    (lo4:Loop) (h4:w4=w3.putObj l (.loop lo4)) :
    Fr Mx W w4∧RK on N0 gv Vs W1 l ms st3 lo4 (fun b=>x3 b∧¬Ly b) (fun b=>b<w4.heap.size∧¬Ly b) w4 bl3∧(∀b,(⟨w4,Vs.x,bl3,st3⟩:Vw).mine b→Mx b∨W.heap.size≤b) ∧
      (∀b,x3 b→qb1 Vs (fun b=>x3 b∧¬Ly b) (fun b=>b<w4.heap.size∧¬Ly b) w4 b)∧(∀b,x3 b→(Vs.x b∨xo b∨Ly b)∨W.heap.size≤b):=by
  have hlW:l<W.heap.size:=hJ.lt l hJ.dl
  have hl2:(w1.putObj l (.loop lo1)).heap[l]? = some (.loop lo1):=World.putObj_heap_same sz1
  have hl3:w3.heap[l]? = some (.loop lo1):=(f3.block l (by simpa using sz1) fun h=>h.elim hl1 fun h=>h.2.2 (.inr (.inr (.inr rfl)))).trans hl2
  have sz3:l<w3.heap.size:=(Array.getElem?_eq_some_iff.1 hl3).1
  have hlb:∀b,b∈bl3→b≠l:=fun b hb=>by
    rcases n3 b hb with h|h
    · exact fun h'=>hl1 (h'▸h)
    · omega
  have s13:w1.heap.size≤w3.heap.size:=by have:=f3.size;simpa using this
  have sW1:W.heap.size≤w1.heap.size:=f1.size
  have hs4:w4.heap.size=w3.heap.size:=by rw [h4];simp
  have xg:∀b,x3 b→(Vs.x b∨xo b∨Ly b)∨W.heap.size≤b:=fun b hb=>by
    rcases xg3 b hb with h|h
    · exact xg1 b h
    · right;omega
  -- what has not turned in all
  have whole:∀b,b<W.heap.size→¬b∈bl→b≠l→¬(on∧(Vs.x b∨xo b)∧¬nxR N0 gv Ly l b)→w4.heap[b]? = W.heap[b]?:=fun b hb h1 h2 h3=>by
    have h3':∀{q:Nat→Prop},(q b→(Vs.x b∨xo b∨Ly b)∨W.heap.size≤b)→¬(on∧q b∧¬nxR N0 gv Ly l b):=fun hq ⟨q1,q2,q3⟩=>by
      rcases hq q2 with (h|h|h)|h
      · exact h3 ⟨q1,.inl h,q3⟩
      · exact h3 ⟨q1,.inr h,q3⟩
      · exact q3 (.inr (.inr (.inl h)))
      · omega
    rw [h4,World.putObj_heap_other h2,f3.block b (by simp;omega) fun h=>h.elim (fun h=>(n1 b h).elim h1 fun h=>by omega) (h3' (q:=x1) (xg1 b)),World.putObj_heap_other h2]
    exact f1.block b hb fun h=>h.elim h1 (h3' (q:=fun b=>Vs.x b∨xo b∨Ly b) .inl)
  -- the views, one behind the other
  have hr4:(⟨w3,x3,bl3,st3⟩:Vw).Le ⟨w4,x3,bl3,st3⟩:=by
    rw [h4];exact Vw.le_note (V:=⟨w3,x3,bl3,st3⟩) _ hl3 rfl fun h=>hlb l h rfl
  have hrk:(⟨W,fun b=>Vs.x b∨xo b∨Ly b,bl,st⟩:Vw).Le ⟨w4,x3,bl3,st3⟩:=le3.trans hr4
  have hsr:∀b,b∈bl→¬(Vs.x b∨xo b∨Ly b):=fun b hb h=>by
    refine hJ.sep b hb ?_
    rcases h with h|h|h
    · exact .inl h
    · exact .inr (.inl h)
    · exact .inr (.inr (hLy b h))
  have hVr:Vs.Le ⟨W,fun b=>Vs.x b∨xo b∨Ly b,bl,st⟩:=hJ.le.lessx fun b hb=>hb.imp id fun h=>h.imp id fun h=>hLy b h
  have hxs:∀b,qb1 Vs (fun b=>x3 b∧¬Ly b) (fun b=>b<w4.heap.size∧¬Ly b) w4 b→x3 b:=fun b hb=>by
    rcases hb with hb|hb|⟨h1,h2⟩
    · exact hx3 b (.inl hb)
    · exact hb.1
    · exact hx3 b (.inr (.inr (Classical.byContradiction fun h=>h2 ⟨h1,h⟩)))
  have hxt:∀b,x3 b→qb1 Vs (fun b=>x3 b∧¬Ly b) (fun b=>b<w4.heap.size∧¬Ly b) w4 b:=fun b hb=>by
    by_cases hy:Ly b
    · exact .inr (.inr ⟨by have:=ok3.xlt b hb;simp only at this;omega,fun h=>h.2 hy⟩)
    · exact .inr (.inl ⟨hb,hy⟩)
  have ok4:Ok ⟨w4,x3,bl3,st3⟩:=by
    rw [h4];exact Ok.note (V:=⟨w3,x3,bl3,st3⟩) ok3 _ hl3 rfl fun h=>hlb l h rfl
  have hn:∀b,b∈bl3→b∈bl∨W.heap.size≤b:=fun b hb=>by
    rcases n3 b hb with h|h
    · exact n1 b h
    · right;omega
  have nox:∀d,d<W.heap.size→¬Vs.x d→¬xo d→Dp d→¬x3 d:=fun d h1 h2 h3 h4 h5=>by
    rcases xg d h5 with (h|h|h)|h
    · exact h2 h
    · exact h3 h
    · exact (hLy d h).2 h4
    · omega
  have hdm:∀d∈ms,w4.heap[d]? = some (.deferred (some [])):=fun d hd=>by
    obtain⟨h1,h2⟩:=hJ.dd d hd
    obtain⟨h3,h5⟩:=hJ.ddx d (.inl hd)
    refine (whole d (hJ.lt d h2) (fun h=>?_) (fun h=>?_) fun h=>h.2.1.elim h5 h3).trans h1
    · obtain⟨i,hi⟩:=List.getElem?_of_mem h
      obtain⟨q,q1,q2⟩:=hJ.ok.isc i d hi
      simp only at q1
      rw [h1] at q1;injection q1 with q1;subst q1;cases q2
    · rw [h,hJ.lo] at h1;cases h1
  have hsz:=hJ.fr.size
  refine⟨⟨?_,?_,?_,by omega,fun b hb hm=>?_⟩,⟨(hVr.trans hrk).lessx hxs,ok4.lessx hxs,⟨?_,?_,?_,?_,fun b hb hnb=>?_⟩,fun b hb=>?_,fun b hb h=>sep3 b hb (hxs b h),fun b hb=>?_,by rw [h4];exact World.putObj_heap_same sz3,fun d hd=>⟨hdm d hd,(Array.getElem?_eq_some_iff.1 (hdm d hd)).1,fun h=>(hLy d h).2 (hJ.dd d hd).2⟩,fun d hd=>?_,⟨by omega,fun h=>(hLy l h).2 hJ.dl⟩,fun b hb=>hb.1,fun b hb hg=>⟨?_,fun h=>(hLy b h).2 (hJ.old b hb hg)⟩,fun b hb=>?_⟩,fun b hb=>?_,hxt,xg⟩
  · rw [h4];exact f3.os.trans f1.os
  · rw [h4];exact f3.tape.trans f1.tape
  · rw [h4];exact f3.output.trans f1.output
  · have hbl:b≠l:=fun h=>hm ((hMx b).2 (.inr (.inr h)))
    by_cases hin:b∈bl
    · obtain⟨i,hi⟩:=List.getElem?_of_mem hin
      exact (hrk.blk b hb fun h=>h.elim (hsr b hin) fun h=>hm ((hMx b).2 (.inr (.inl h)))).1 (hJ.ok.isc i b hi)
    · refine whole b hb hin hbl fun h=>hm ((hMx b).2 (.inl ⟨h.2.1,fun hg=>h.2.2 (.inr (.inl hg))⟩))
  · rw [h4];exact (f3.os.trans f1.os).trans hJ.fr.os
  · rw [h4];exact (f3.tape.trans f1.tape).trans hJ.fr.tape
  · rw [h4];exact (f3.output.trans f1.output).trans hJ.fr.output
  · omega
  · refine (whole b (by omega) (fun h=>?_) (by omega) fun h=>?_).trans (hJ.fr.block b hb hnb)
    · rcases hJ.new b h with h|h
      · exact hnb (.inl h)
      · omega
    · have hx:Vs.x b:=h.2.1.elim id fun h=>(hJ.xon b h).elim id fun h=>by omega
      exact hnb (.inr (.inr ⟨h.1,hx,fun h'=>h.2.2 (.inl h')⟩))
  · rcases hn b hb with h|h
    · exact hJ.new b h
    · right;omega
  · rcases xg b hb.1 with (h|h|h)|h
    · exact .inl h
    · exact hJ.xon b h
    · exact (hb.2 h).elim
    · right;omega
  · have hlt:d<W.heap.size:=hd.elim (fun hd=>hJ.lt d (hJ.dd d hd).2) fun hd=>hd▸hlW
    have hdp:Dp d:=hd.elim (fun hd=>(hJ.dd d hd).2) fun hd=>hd▸hJ.dl
    obtain⟨h3,h5⟩:=hJ.ddx d hd
    exact⟨fun h=>nox d hlt h5 h3 hdp h.1,h5⟩
  · have:=hJ.lt b (hJ.old b hb hg);omega
  · obtain⟨h1,h2⟩:=hJ.nx b hb
    refine⟨by omega,h2.imp id fun ⟨q1,q2,q3,q4,q5⟩=>⟨?_,fun h=>?_,q3,fun h=>nox b h1 q3 q4 q5 h.1,by omega,fun h=>(hLy b h).2 q5⟩⟩
    · by_cases hbl:b=l
      · subst hbl;exact⟨_,by rw [h4];exact World.putObj_heap_same sz3,rfl⟩
      · exact q1.same (whole b h1 q2 hbl fun h=>h.2.2 (.inl hb))
    · rcases hn b h with h|h
      · exact q2 h
      · omega
  · rcases hrk.mine hsr hn b hb with h|h
    · exact .inl ((hMx b).2 (.inr (.inl h)))
    · exact .inr h
end
/-! ### What comes of a round -/
def rngQ2 (e:Nat→D) (g:D) (I:Prop) (st1:List Bx) (Q:Exit→(Nat→D)→List Bx→Prop):Exit→(Nat→D)→List Bx→Prop
  | .normal,e',st'=>I∧e' 1000000=g∧∃ex,st'=st1++ex
  | .ret,e',st'=>Q .ret (upd e 1000000 (e' 1000000)) st'
  | .exit id,e',st'=>Q (.exit id) (upd e 1000000 (e' 1000000)) st'
  | _,_,_=>False
def Cx.rnd2 {P:Program} (C:Cx P) (V:Vw) (l:Nat) (Nx:Nat→Prop):Cx P:=⟨V,fun b=>b∈V.bl∨(C.on∧V.x b∧¬Nx b),C.on,some l,C.E,Nx⟩
theorem M.rnd2 {P:Program} {C:Cx P} {V:Vw} {l n:Nat} {tm:Array Value} {e:Nat→D} {Nx:Nat→Prop} (hok:Ok V) (hsep:∀b,b∈V.bl→¬V.x b) (hs:tm.size=n) (h:∀t,t<n→RepD V (e t) (tm.getD t Go.undef)) (hnx:NxOk Nx V):M (C.rnd2 V l Nx) V tm n e :=
  ⟨hs,h,hok,.refl _,.refl _ _,fun _ hb=>.inl (.inl hb),hsep,fun _ h=>h,fun ho _ h hn=>.inl (.inr ⟨ho,h,hn⟩),fun _ h=>.inl h,hnx,fun b hb=>(hnx b hb).1⟩
theorem EnvE.mut {P:Program} {E:Env P} {on:Prop} {Nx Nx':Nat→Prop} {g:D} {V V':Vw} (h:EnvE E on Nx g V) (hw:V'.w=V.w) (hm:∀b,V'.mine b→V.mine b) (hn:∀b,Nx' b→Nx b∨V.w.heap.size≤b) (hx:∀b,V.x b→¬Nx b→V'.x b):EnvE E on Nx' g V':=by
  unfold EnvE at *
  split
  · obtain⟨ho,Dp,Mx,h1,h2,h3⟩:=h
    have h4:=E.lt _ _ _ _ h1
    refine⟨ho,Dp,Mx,hw▸h1,fun b hb=>?_,fun b hb=>hx b (h3 b hb) fun hn=>(h2 b (.inr hn)).2 hb⟩
    rcases hb with hb|hb
    · exact h2 b (.inl (hm b hb))
    · rcases hn b hb with hb|hb
      · exact h2 b (.inr hb)
      · exact⟨fun h=>by have:=h4.1 b h;omega,fun h=>by have:=h4.2 b h;omega⟩
  · obtain⟨ho,Dp,h1,h2⟩:=h
    have h4:=E.ltx _ _ h1
    refine⟨ho,Dp,hw▸h1,fun b hb=>?_⟩
    rcases hb with hb|hb
    · exact h2 b (.inl (hm b hb))
    · rcases hn b hb with hb|hb
      · exact h2 b (.inr hb)
      · exact fun h=>by have:=h4 b h;omega
  · trivial
section
variable {P:Program} {C:Cx P} {n:Nat} {N0 gv:Nat→Prop} {Vs:Vw} {W1:World} {l:Nat} {ms:List Nat} {tm:Array Value} {e eo:Nat→D} {ps:Array Tmp} {assign body:Code} {fn dB:Nat} {sto:Nat→List Bx} {Q:Exit→(Nat→D)→List Bx→Prop} {tl:List (List D)} {Inv:Nat→Prop} {gh:Nat→D}
def rngJ2 (C:Cx P) (N0 gv:Nat→Prop) (Vs:Vw) (W1:World) (l:Nat) (ms:List Nat) (lo:Loop) (sto:Nat→List Bx) (Inv:Nat→Prop) (gh:Nat→D) (k:Nat) (Dp Mx:Nat→Prop) (W:World):Prop :=
  Inv k∧∃xo bl,RK C.on N0 gv Vs W1 l ms (sto k) lo xo Dp W bl∧(∀b,Mx b↔((Vs.x b∨xo b)∧¬gv b)∨(⟨W,Vs.x,bl,sto k⟩:Vw).mine b∨b=l)∧EnvE C.E C.on (nxJ N0 gv Dp l) (gh k) ⟨W,qb1 Vs xo Dp W,bl,sto k⟩
def rngJx2 (C:Cx P) (N0 gv:Nat→Prop) (Vs:Vw) (W1:World) (l:Nat) (ms:List Nat) (lo:Code→Loop) (e:Nat→D) (Q:Exit→(Nat→D)→List Bx→Prop) (Dp:Nat→Prop) (W:World):Prop :=
  ∃c xo bl st' g,RK C.on N0 gv Vs W1 l ms st' (lo c) xo Dp W bl∧JQ (upd e 1000000 g) Q c st'∧EnvE C.E C.on (nxJ N0 gv Dp l) g ⟨W,qb1 Vs xo Dp W,bl,st'⟩
def rngR (C:Cx P) (N0 gv:Nat→Prop) (Vs:Vw) (W1:World) (l:Nat) (ms:List Nat) (lo:Loop) (lox:Code→Loop) (sto:Nat→List Bx) (Inv:Nat→Prop) (gh:Nat→D) (eo:Nat→D) (Q:Exit→(Nat→D)→List Bx→Prop) (k:Nat) (Mx Ly:Nat→Prop) (W:World) (en:Ending) (W':World):Prop :=
  Fr Mx W W'∧((en=.returned (.bool true)∧∃Dp' Mx',rngJ2 C N0 gv Vs W1 l ms lo sto Inv gh (k+1) Dp' Mx' W'∧(∀b,Ly b→¬Dp' b∧¬Mx' b)∧∀b,Mx' b→Mx b∨W.heap.size≤b) ∨
       (en=.returned (.bool false)∧∃Dp',rngJx2 C N0 gv Vs W1 l ms lox eo Q Dp' W'∧∀b,Ly b→¬Dp' b))
theorem qny (hok:Ok Vs) (hl:Vs.w.heap.size≤l) (hw1:Vs.w.heap.size≤W1.heap.size) (hgx:∀b,gv b→Vs.x b) (htm:tm.size=n) (hnle:n≤1000000) (hslot:∀t,t<n→RepD Vs (e t) (tm.getD t Go.undef)) (hpn:∀p∈ps.toList,p<1000000)
    (hgs0:(∀b,¬gv b)∨∀(k:Nat) (xs:List D),tl[k]? = some xs→xs.all scal=true) (hps:∀(k:Nat) (xs:List D),tl[k]? = some xs→xs.length=ps.size) (hlen:∀k,(sto k).length≤(sto (k+1)).length) (hnsk:∀k,nrS (sto k).length (sto k)=true)
    (round:∀(C1:Cx P) (k:Nat) (xs:List D),C1.E=C.E→C1.on=C.on→tl[k]? = some xs→Inv k→WP C1 n assign (qdi (fun e1 st1=>∀C2:Cx P,C2.E=C.E→C2.on=C.on→WP C2 n body (rngQ2 eo (gh (k+1)) (Inv (k+1)) (sto (k+1)) Q) e1 st1) NoQ) (upd (qh3 e ps.toList xs) 1000000 (gh k)) (sto k))
    (k:Nat) (Dp Mx Ly:Nat→Prop) (W:World) (xs:List D) (vs:List Value) (hJ:rngJ2 C N0 gv Vs W1 l ms (rngL fn tm ps assign body dB .ready none) sto Inv gh k Dp Mx W) (hLy:∀b,Ly b→b<W.heap.size∧¬Dp b) (hT:tl[k]? = some xs) (hvl:vs.length=xs.length) (hr:∀(i:Nat) (d:D),xs[i]? = some d→RepD (out W fun b=>Mx b∨Ly b) d (vs.getD i Go.undef)) :
    YieldAt Fence.wide 0 P l vs.toArray W (rngR C N0 gv Vs W1 l ms (rngL fn tm ps assign body dB .ready none) (fun c=>rngL fn tm ps assign body dB .done (some c)) sto Inv gh eo Q k Mx Ly W):=by
  obtain⟨hI,xo,bl,hJ,hMx,henv⟩:=hJ
  have hsr:∀b,b∈bl→¬(Vs.x b∨xo b∨Ly b):=fun b hb h=>hJ.sep b hb (h.imp id fun h=>h.imp id fun h=>hLy b h)
  have okr:Ok ⟨W,fun b=>Vs.x b∨xo b∨Ly b,bl,sto k⟩:=hJ.ok.lessx fun b hb=>hb.imp id fun h=>h.imp id fun h=>hLy b h
  have hVr:Vs.Le ⟨W,fun b=>Vs.x b∨xo b∨Ly b,bl,sto k⟩:=hJ.le.lessx fun b hb=>hb.imp id fun h=>h.imp id fun h=>hLy b h
  obtain⟨VR,hVR⟩:∃V:Vw,V=⟨W,fun b=>Vs.x b∨xo b∨Ly b,bl,sto k⟩:=⟨_,rfl⟩
  obtain⟨NR,hNR⟩:∃N:Nat→Prop,N=nxR N0 gv Ly l:=⟨_,rfl⟩
  have hgs:∀b,gv b→b<W.heap.size:=fun b hb=>Nat.lt_of_lt_of_le (hok.xlt b (hgx b hb)) hJ.fr.size
  have hrv:∀(i:Nat) (d:D),xs[i]? = some d→RepD VR d (vs.getD i Go.undef):=fun i d hd=>by
    rcases hgs0 with hg|hg
    · rw [hVR]
      refine RepD.ofOut (V:=⟨W,fun b=>Vs.x b∨xo b∨Ly b,bl,sto k⟩) (w:=W) ((hr i d hd).lessOut fun b hb=>?_)
      rcases hb with (hb|hb|hb)|hb
      · exact .inl ((hMx b).2 (.inl ⟨.inl hb,hg b⟩))
      · exact .inl ((hMx b).2 (.inl ⟨.inr hb,hg b⟩))
      · exact .inr hb
      · exact .inl ((hMx b).2 (.inr (.inl hb)))
    · exact (hr i d hd).scal (List.all_eq_true.1 (hg k xs hT) d (lm4 hd))
  have hnxR:NxOk NR VR:=fun b hb=>by
    rw [hNR] at hb;rw [hVR]
    rcases hb with hb|hb|hb|hb
    · obtain⟨h1,h2⟩:=hJ.nx b hb
      refine⟨h1,h2.imp .inl fun ⟨q1,q2,q3,q4,q5⟩=>⟨q1,q2,fun h=>?_⟩⟩
      rcases h with h|h|h
      · exact q3 h
      · exact q4 h
      · exact (hLy b h).2 q5
    · exact⟨hgs b hb,.inl (.inl (hgx b hb))⟩
    · exact⟨(hLy b hb).1,.inl (.inr (.inr hb))⟩
    · subst hb
      refine⟨hJ.lt b hJ.dl,.inr ⟨⟨_,hJ.lo,rfl⟩,fun h=>?_,fun h=>?_⟩⟩
      · obtain⟨i,hi⟩:=List.getElem?_of_mem h
        exact nk.noC ⟨_,hJ.lo,rfl⟩ (hJ.ok.isc i b hi)
      · obtain⟨q1,q2⟩:=hJ.ddx b (.inr rfl)
        rcases h with h|h|h
        · exact q2 h
        · exact q1 h
        · exact (hLy b h).2 hJ.dl
  have hlen1:(rngL fn tm ps assign body dB .ready none).params.size=vs.toArray.size:=by
    show ps.size=_
    simp [hvl,hps k xs hT]
  refine⟨fn,_,assign,body,run_yield hJ.lo hlen1.symm,roundIn_of_wpIn trivial ?_⟩
  have htmps:((rngL fn tm ps assign body dB .ready none).params.zip vs.toArray).foldl (fun tmps (x:Tmp×Value)=>tmps.setIfInBounds x.1 x.2) (rngL fn tm ps assign body dB .ready none).tmps=(ps.toList.zip vs).foldl (fun tm p=>tm.setIfInBounds p.1 p.2) tm:=by
    show (ps.zip vs.toArray).foldl (fun tmps (x:Tmp×Value)=>tmps.setIfInBounds x.1 x.2) tm=_
    rw [←Array.foldl_toList]
    congr 1
    simp
  have okV:Ok VR:=by rw [hVR];exact okr
  have sepV:∀b,b∈VR.bl→¬VR.x b:=by rw [hVR];exact hsr
  have leV:Vs.Le VR:=by rw [hVR];exact hVr
  obtain⟨b1,b2⟩:=qiu (V:=VR) (n:=n) ps.toList xs vs e tm hvl hrv htm fun t ht=>(hslot t ht).mono leV
  have hM1:M (C.rnd2 VR l NR) VR ((ps.toList.zip vs).foldl (fun tm p=>tm.setIfInBounds p.1 p.2) tm) n (upd (qh3 e ps.toList xs) 1000000 (gh k)):=.rnd2 okV sepV b1 (fun t ht=>by
    have:upd (qh3 e ps.toList xs) 1000000 (gh k) t=qh3 e ps.toList xs t:=if_neg (by omega)
    rw [this];exact b2 t ht) hnxR
  have env0:EnvE C.E C.on NR (gh k) VR:=by
    rw [hNR,hVR]
    refine henv.mut rfl (fun b hb=>hb) (fun b hb=>.inl ?_) fun b hb hn=>?_
    · rcases hb with hb|hb|hb|hb
      · exact .inl hb
      · exact .inr (.inl hb)
      · exact .inr (.inr (.inl (hLy b hb).2))
      · exact .inr (.inr (.inr hb))
    · rcases hb with hb|hb|hb
      · exact .inl hb
      · exact .inr (.inl hb)
      · exact (hn (.inr (.inr (.inl hb.2)))).elim
  have sat1:Sat (C.rnd2 VR l NR) ⟨W,fun b=>Vs.x b∨xo b∨Ly b,bl,sto k⟩ { tmps:=((rngL fn tm ps assign body dB .ready none).params.zip vs.toArray).foldl (fun tmps (x:Tmp×Value)=>tmps.setIfInBounds x.1 x.2) (rngL fn tm ps assign body dB .ready none).tmps,defers:=[] } n (upd (qh3 e ps.toList xs) 1000000 (gh k)):=by
    rw [←hVR]
    refine⟨[],⟨rfl,by simp,fun D hD=>by simp at hD⟩,by rw [htmps];exact hM1,?_⟩
    have:upd (qh3 e ps.toList xs) 1000000 (gh k) 1000000=gh k:=if_pos rfl
    rw [this]
    exact env0.less fun b (hb:NR b∨b∈([]:List Nat))=>hb.elim id fun h=>by simp at h
  have hVRw:VR.w=W:=by rw [hVR]
  have hVRb:VR.bl=bl:=by rw [hVR]
  have hVRx:∀b,VR.x b↔(Vs.x b∨xo b∨Ly b):=by rw [hVR];exact fun b=>Iff.rfl
  have hNRl:NR l:=by rw [hNR];exact .inr (.inr (.inr rfl))
  -- the loop's variables
  have key:∀(a1:Act) (w1:World) (x1:Nat→Prop) (bl1:List Nat) (e1:Nat→D) (st1:List Bx),Sat (C.rnd2 VR l NR) ⟨w1,x1,bl1,st1⟩ a1 n e1→(∀C2:Cx P,C2.E=C.E→C2.on=C.on→WP C2 n body (rngQ2 eo (gh (k+1)) (Inv (k+1)) (sto (k+1)) Q) e1 st1) →
      ∃w₂,(Instr.beginRound l).run P w1=.ok () w₂∧body.wpIn (Fence.wide.inRound l) 0 P (roundPost P l (rngR C N0 gv Vs W1 l ms (rngL fn tm ps assign body dB .ready none) (fun c=>rngL fn tm ps assign body dB .done (some c)) sto Inv gh eo Q k Mx Ly W)) a1 w₂:=by
    rintro a1 w1 x1 bl1 e1 st1 ⟨ms1,hmk1,hm1,henv1⟩ hbody
    have f1:Fr (fun b=>b∈bl∨(C.on∧(Vs.x b∨xo b∨Ly b)∧¬NR b)) W w1:=by
      have:=hm1.fr
      refine⟨by rw [←hVRw];exact this.os,by rw [←hVRw];exact this.tape,by rw [←hVRw];exact this.output,by rw [←hVRw];exact this.size,fun b hb hn=>?_⟩
      rw [←hVRw] at hb ⊢
      refine this.block b hb fun h=>hn ?_
      rcases h with h|⟨h1,h2,h3⟩
      · left;rw [←hVRb];exact h
      · exact .inr ⟨h1,(hVRx b).1 h2,h3⟩
    have hnl:¬l∈bl:=fun h=>by
      obtain⟨i,hi⟩:=List.getElem?_of_mem h
      exact nk.noC ⟨_,hJ.lo,rfl⟩ (okr.isc i l hi)
    have hl1:w1.heap[l]? = some (.loop (rngL fn tm ps assign body dB .ready none)):=(f1.block l (hJ.lt l hJ.dl) fun h=>h.elim hnl fun h=>h.2.2 hNRl).trans hJ.lo
    have hnl1:¬l∈bl1:=fun h=>by
      obtain⟨i,hi⟩:=List.getElem?_of_mem h
      exact nk.noC ⟨_,hl1,rfl⟩ (hm1.ok.isc i l hi)
    have x01:∀b,(Vs.x b∨xo b∨Ly b)→x1 b:=fun b hb=>hm1.x0 b ((hVRx b).2 hb)
    have xg1:∀b,x1 b→(Vs.x b∨xo b∨Ly b)∨W.heap.size≤b:=fun b hb=>by
      have:=hm1.xg b hb
      exact this.imp (hVRx b).1 fun h=>by rw [←hVRw];exact h
    have n1:∀b,b∈bl1→b∈bl∨W.heap.size≤b:=fun b hb=>by
      rcases hm1.low b hb with (h|h)|h
      · left;rw [←hVRb];exact h
      · exact (hm1.sep b hb (hm1.x0 b h.2.1)).elim
      · right;rw [←hVRw];exact h
    refine⟨_,run_beginRound hl1 rfl,?_⟩
    have hok2:Ok ⟨w1.putObj l (.loop (rngL fn tm ps assign body dB .busy none)),x1,bl1,st1⟩:=Ok.note (V:=⟨w1,x1,bl1,st1⟩) hm1.ok _ hl1 rfl hnl1
    have hle2:=Vw.le_note (V:=⟨w1,x1,bl1,st1⟩) (.loop (rngL fn tm ps assign body dB .busy none)) hl1 rfl hnl1
    have sz1:l<w1.heap.size:=(Array.getElem?_eq_some_iff.1 hl1).1
    have hnx2:NxOk NR ⟨w1.putObj l (.loop (rngL fn tm ps assign body dB .busy none)),x1,bl1,st1⟩:=fun b hb=>by
      obtain⟨h1,h2⟩:=hm1.nx b hb
      refine⟨by simpa using h1,h2.imp id fun ⟨q2,q3,q4⟩=>⟨?_,q3,q4⟩⟩
      by_cases hbl:b=l
      · subst hbl;exact⟨_,World.putObj_heap_same sz1,rfl⟩
      · exact q2.same (World.putObj_heap_other hbl)
    have hm2:M (C.rnd2 ⟨w1.putObj l (.loop (rngL fn tm ps assign body dB .busy none)),x1,bl1,st1⟩ l NR) ⟨w1.putObj l (.loop (rngL fn tm ps assign body dB .busy none)),x1,bl1,st1⟩ a1.tmps n (fun t=>e1 t) :=
      .rnd2 hok2 hm1.sep hm1.size (fun t ht=>(hm1.slot t ht).mono hle2) hnx2
    have sat2:Sat (C.rnd2 ⟨w1.putObj l (.loop (rngL fn tm ps assign body dB .busy none)),x1,bl1,st1⟩ l NR) ⟨w1.putObj l (.loop (rngL fn tm ps assign body dB .busy none)),x1,bl1,st1⟩ a1 n e1:=by
      obtain⟨q1,q2,q3⟩:=hmk1
      refine⟨ms1,⟨q1,q2,fun D hD=>?_⟩,hm2,?_⟩
      · obtain⟨p1,p2,p3,p4⟩:=q3 D hD
        have hne:D≠l:=fun h=>by rw [h] at p2;simp only at p2;rw [hl1] at p2;cases p2
        exact⟨fun h=>(by cases h),(World.putObj_heap_other hne).trans p2,p3,p4⟩
      · refine henv1.frm ⟨rfl,rfl,rfl,by simp,fun b hb hn=>World.putObj_heap_other fun h=>hn (.inr (.inl (h▸hNRl)))⟩ (fun b hb=>.inl hb) fun _ hb=>hb
    have hb:=hbody (C.rnd2 ⟨w1.putObj l (.loop (rngL fn tm ps assign body dB .busy none)),x1,bl1,st1⟩ l NR) rfl rfl a1 _ x1 bl1 sat2
    refine wpIn_mono (F:=Fence.wide.inRound l) hb ?_
    rintro ex a3 w3 ⟨x3,bl3,e3,st3,hs3,hq⟩
    obtain⟨ms3,_,hm3,henv3⟩:=hs3
    have f3:Fr (fun b=>b∈bl1∨(C.on∧x1 b∧¬NR b)) (w1.putObj l (.loop (rngL fn tm ps assign body dB .busy none))) w3:=hm3.fr
    have hl3:w3.heap[l]? = some (.loop (rngL fn tm ps assign body dB .busy none)):=(f3.block l (by simpa using sz1) fun h=>h.elim hnl1 fun h=>h.2.2 hNRl).trans (World.putObj_heap_same sz1)
    have n3:∀b,b∈bl3→b∈bl1∨w1.heap.size≤b:=fun b hb=>by
      rcases hm3.low b hb with (h|h)|h
      · exact .inl h
      · exact (hm3.sep b hb (hm3.x0 b h.2.1)).elim
      · right;have h:(w1.putObj l (.loop (rngL fn tm ps assign body dB .busy none))).heap.size≤b:=h;simpa using h
    have xg3:∀b,x3 b→x1 b∨w1.heap.size≤b:=fun b hb=>by
      rcases hm3.xg b hb with h|h
      · exact .inl h
      · right;have h:(w1.putObj l (.loop (rngL fn tm ps assign body dB .busy none))).heap.size≤b:=h;simpa using h
    have le13:(⟨W,fun b=>Vs.x b∨xo b∨Ly b,bl,sto k⟩:Vw).Le ⟨w3,x3,bl3,st3⟩:=by
      have:=hm1.le;rw [show (C.rnd2 VR l NR).V0=VR from rfl,hVR] at this
      exact (this.trans hle2).trans hm3.le
    have hsz3:w1.heap.size≤w3.heap.size:=by have:=f3.size;simpa using this
    rw [hNR] at f1 f3
    -- the outer one, behind the round
    have envO:∀(lo4:Loop) (blz:List Nat) (stz:List Bx),(∀b,(⟨w3.putObj l (.loop lo4),x3,blz,stz⟩:Vw).mine b→(⟨w3,x3,bl3,st3⟩:Vw).mine b)→(∀b,x3 b→qb1 Vs (fun b=>x3 b∧¬Ly b) (fun b=>b<(w3.putObj l (.loop lo4)).heap.size∧¬Ly b) (w3.putObj l (.loop lo4)) b) →
        EnvE C.E C.on (nxJ N0 gv (fun b=>b<(w3.putObj l (.loop lo4)).heap.size∧¬Ly b) l) (e3 1000000) ⟨w3.putObj l (.loop lo4),qb1 Vs (fun b=>x3 b∧¬Ly b) (fun b=>b<(w3.putObj l (.loop lo4)).heap.size∧¬Ly b) (w3.putObj l (.loop lo4)),blz,stz⟩:=fun lo4 blz stz hmn hx=>by
      have h1:EnvE C.E C.on (fun b=>(C.rnd2 ⟨w1.putObj l (.loop (rngL fn tm ps assign body dB .busy none)),x1,bl1,st1⟩ l NR).nxm ms3 b) (e3 1000000) ⟨w3.putObj l (.loop lo4),x3,bl3,st3⟩ :=
        henv3.frm ⟨rfl,rfl,rfl,by simp,fun b hb hn=>World.putObj_heap_other fun h=>hn (.inr (.inl (h▸hNRl)))⟩ (fun b hb=>.inl hb) fun _ hb=>hb
      refine h1.mut rfl hmn (fun b hb=>?_) fun b hb _=>hx b hb
      rcases hb with hb|hb|hb|hb
      · left;left;show NR b;rw [hNR];exact .inl hb
      · left;left;show NR b;rw [hNR];exact .inr (.inl hb)
      · by_cases hlt:b<(w3.putObj l (.loop lo4)).heap.size
        · left;left;show NR b;rw [hNR];exact .inr (.inr (.inl (Classical.byContradiction fun h=>hb ⟨hlt,h⟩)))
        · right;exact Nat.le_of_not_lt hlt
      · left;left;show NR b;rw [hNR];exact .inr (.inr (.inr hb))
    have stop:∀c:Code,JQ (upd eo 1000000 (e3 1000000)) Q c st3→∃v w',(Instr.endRound l (some c)).run P w3=.ok v w'∧rngR C N0 gv Vs W1 l ms (rngL fn tm ps assign body dB .ready none) (fun c=>rngL fn tm ps assign body dB .done (some c)) sto Inv gh eo Q k Mx Ly W (.returned v) w':=fun c hc=>by
      obtain⟨g1,g2,g3,g4,_⟩:=qmu hok hl hw1 hgx hJ hMx hLy f1 n1 sz1 xg1 f3 le13 hm3.ok n3 hm3.sep (fun b hb=>hm3.x0 b (x01 b hb)) xg3 hnl1 (rngL fn tm ps assign body dB .done (some c)) rfl
      exact⟨_,_,run_endRound (some c) hl3,g1,.inr ⟨rfl,_,⟨c,_,bl3,st3,e3 1000000,g2,hc,envO _ bl3 st3 (fun b hb=>hb) g4⟩,fun b hb h=>h.2 hb⟩⟩
    cases ex with
    | normal =>
      obtain⟨hI2,hgh,exx,rfl⟩:=hq
      have hns:nrS (sto (k+1)).length (sto (k+1))=true:=hnsk _
      have le5:=le13.drop (hlen k)
      obtain⟨g1,g2,g3,g4,g5⟩:=qmu hok hl hw1 hgx hJ hMx hLy f1 n1 sz1 xg1 f3 le5 (hm3.ok.drop hns) (fun b hb=>n3 b (List.mem_of_mem_take hb)) (fun b hb=>hm3.sep b (List.mem_of_mem_take hb)) (fun b hb=>hm3.x0 b (x01 b hb)) xg3 hnl1 (rngL fn tm ps assign body dB .ready none) rfl
      refine⟨_,_,run_endRound none hl3,g1,.inl ⟨rfl,_,fun b=>((Vs.x b∨(x3 b∧¬Ly b))∧¬gv b)∨(⟨W,Vs.x,bl3.take (sto (k+1)).length,sto (k+1)⟩:Vw).mine b∨b=l,⟨hI2,_,_,g2,fun b=>Iff.rfl,?_⟩,fun b hb=>⟨fun h=>h.2 hb,fun h=>?_⟩,fun b hb=>?_⟩⟩
      · rw [←hgh]
        refine envO _ _ _ (fun b hb=>?_) g4
        obtain⟨i,y,h1,h2,h3⟩:=hb
        have hi:i<(sto (k+1)).length:=(List.getElem?_eq_some_iff.1 h2).1
        exact⟨i,y,by simp only at h1;rwa [List.getElem?_take_of_lt hi] at h1,by simp only;rwa [List.getElem?_append_left hi],h3⟩
      · rcases h with ⟨h|h,hg⟩|h|h
        · exact (hLy b hb).2 (hJ.old b (by have:=hok.xlt b h;omega) hg)
        · exact h.2 hb
        · exact hm3.sep b (List.mem_of_mem_take (Vw.mine_mem h)) (hm3.x0 b (x01 b (.inr (.inr hb))))
        · exact (hLy b hb).2 (h▸hJ.dl)
      · rcases hb with ⟨hb|hb,hg⟩|hb|hb
        · exact .inl ((hMx b).2 (.inl ⟨.inl hb,hg⟩))
        · rcases g5 b hb.1 with (h|h|h)|h
          · exact .inl ((hMx b).2 (.inl ⟨.inl h,hg⟩))
          · exact .inl ((hMx b).2 (.inl ⟨.inr h,hg⟩))
          · exact (hb.2 h).elim
          · exact .inr h
        · exact g3 b hb
        · exact .inl ((hMx b).2 (.inr (.inr hb)))
    | ret=>exact stop .ret (.inl ⟨rfl,hq⟩)
    | exit id=>exact stop (.exit id) (.inr ⟨id,rfl,hq⟩)
    | _=>exact hq.elim
  have h0:=round (C.rnd2 VR l NR) k xs rfl rfl hT hI _ W _ bl sat1
  refine wpIn_mono (F:=Fence.wide.inRound l) h0 ?_
  rintro ex a1 w1 ⟨x1,bl1,e1,st1,hs1,hq⟩
  cases ex with
  | normal=>exact key a1 w1 x1 bl1 e1 st1 hs1 hq
  | _=>exact hq.elim
end
/-! ### The rule -/
def DItM (P:Program) (gf:FuncId) (caps:List A) (ex:List Bx) (tl:List (List D)):Prop :=
  ∀E:Env P,E.tl=tl→DG E gf (yv E.l::caps.map D.a) ex (.a (.v (.int .i64 0))) fun _ _ g=>g=.a (.v (.int .i64 (tl.length:Nat)))∨g=.a (.v (.bool true))
theorem EnvE.mut2 {P:Program} {E:Env P} {on:Prop} {Nx Nx':Nat→Prop} {g:D} {V V':Vw} (h:EnvE E on Nx g V) (hw:V'.w=V.w) (hm:∀b,V'.mine b→V.mine b) (hn:∀b,Nx' b→V.mine b∨Nx b∨V.w.heap.size≤b) (hx:∀b,V.x b→V'.x b):EnvE E on Nx' g V':=by
  unfold EnvE at *
  split
  · obtain⟨ho,Dp,Mx,h1,h2,h3⟩:=h
    have h4:=E.lt _ _ _ _ h1
    refine⟨ho,Dp,Mx,hw▸h1,fun b hb=>?_,fun b hb=>hx b (h3 b hb)⟩
    rcases hb with hb|hb
    · exact h2 b (.inl (hm b hb))
    · rcases hn b hb with hb|hb|hb
      · exact h2 b (.inl hb)
      · exact h2 b (.inr hb)
      · exact⟨fun h=>by have:=h4.1 b h;omega,fun h=>by have:=h4.2 b h;omega⟩
  · obtain⟨ho,Dp,h1,h2⟩:=h
    have h4:=E.ltx _ _ h1
    refine⟨ho,Dp,hw▸h1,fun b hb=>?_⟩
    rcases hb with hb|hb
    · exact h2 b (.inl (hm b hb))
    · rcases hn b hb with hb|hb|hb
      · exact h2 b (.inl hb)
      · exact h2 b (.inr hb)
      · exact fun h=>by have:=h4 b h;omega
  · trivial
theorem DIt.toM {P:Program} {gf:FuncId} {caps:List A} {tl:List (List D)} (h:DIt P gf caps tl):DItM P gf caps [] tl:=h
theorem fnA_inv {V:Vw} {f:FuncId} {caps:List A} {u:Value} (h:RepD V (.a (.fn f caps)) u):∃vs:List Value,u=.func (.func f) #[] vs.toArray∧vs.length=caps.length∧∀(i:Nat) (y:A),caps[i]? = some y→RepA V y (vs.getD i Go.undef):=by
  cases h with
  | a _ _ h=>cases h with
    | c _ _ h=>cases h with
      | fn _ _ vs hl h=>exact⟨vs,rfl,hl,fun i y hi=>.c _ _ (h i y hi)⟩
    | fn _ _ vs hl h=>exact⟨vs,rfl,hl,h⟩
theorem M.giveA {P:Program} {C:Cx P} {w:World} {x gv:Nat→Prop} {bl:List Nat} {st ex:List Bx} {tm:Array Value} {n:Nat} {e:Nat→D} (h:M C ⟨w,x,bl,st++ex⟩ tm n e) (hg:∀b,gv b→(⟨w,x,bl,st++ex⟩:Vw).mine b∧∀(i:Nat),i<st.length→bl[i]? = some b→∀y,st[i]? = some y→y.live=false) (hgl:∀b,b∈bl→b∈bl.take st.length∨gv b) (hgo:∀b,gv b→C.V0.w.heap.size≤b) (hgn:∀b,gv b→¬b∈bl.take st.length)
    (he:∀t,t<n→nrD st.length (e t)=true) (hs:nrS st.length st=true) (hV:C.V0.st.length≤st.length):M C ⟨w,fun b=>x b∨gv b,bl.take st.length,st⟩ tm n e:=by
  have hm:∀b,(⟨w,fun b=>x b∨gv b,bl.take st.length,st⟩:Vw).mut b→(⟨w,x,bl,st++ex⟩:Vw).mut b:=fun b hb=>by
    rcases hb with (hb|hb)|hb
    · exact .inl hb
    · exact .inr (hg b hb).1
    · exact qef (x:=x) (.inr hb)
  have hgm:∀b,gv b→b∈bl:=fun b hb=>Vw.mine_mem (hg b hb).1
  refine⟨h.size,fun t ht=>(h.slot t ht).give hm (he t ht),h.ok.give hm (fun b hb=>hb.imp id (hgm b)) (fun _ hb=>.inl hb) hs,h.le.give hm hV,h.fr,fun b hb=>h.low b (List.mem_of_mem_take hb),fun b hb hx=>?_,fun b hb=>.inl (h.x0 b hb),fun ho b hb hn=>?_,fun b hb=>?_,fun b hb=>?_,h.nx0⟩
  · rcases hx with hx|hx
    · exact h.sep b (List.mem_of_mem_take hb) hx
    · exact hgn b hx hb
  · rcases hb with hb|hb
    · exact h.xk ho b hb hn
    · exact .inr (hgo b hb)
  · rcases hb with hb|hb
    · exact h.xg b hb
    · exact .inr (hgo b hb)
  · obtain⟨h1,h2⟩:=h.nx b hb
    exact⟨h1,h2.imp .inl fun ⟨q2,q3,q4⟩=>⟨q2,fun hm=>q3 (List.mem_of_mem_take hm),fun hx=>hx.elim q4 fun hx=>q3 (hgm b hx)⟩⟩
theorem M.far {P:Program} {C:Cx P} {N0 gv xo Dp:Nat→Prop} {Vs:Vw} {W1 W:World} {l:Nat} {ms:List Nat} {st:List Bx} {lo:Loop} {bl:List Nat} {tm:Array Value} {n:Nat} {e:Nat→D} (hm:M C Vs tm n e) (hJ:RK C.on N0 gv Vs W1 l ms st lo xo Dp W bl) (hN:∀b,C.Nx b→N0 b) (hgo:∀b,gv b→C.V0.w.heap.size≤b) (hgx:∀b,gv b→Vs.x b) (hw1:Vs.w.heap.size≤W1.heap.size):M C ⟨W,qb1 Vs xo Dp W,bl,st⟩ tm n e:=by
  have h0:=hm.fr.size
  have xs:∀b,qb1 Vs xo Dp W b→Vs.x b∨C.V0.w.heap.size≤b:=fun b hb=>by
    rcases hb with hb|hb|⟨h1,h2⟩
    · exact .inl hb
    · rcases hJ.xon b hb with h|h
      · exact .inl h
      · right;omega
    · by_cases hlt:b<W1.heap.size
      · by_cases hg:gv b
        · exact .inl (hgx b hg)
        · exact (h2 (hJ.old b hlt hg)).elim
      · right;omega
  refine⟨hm.size,fun t ht=>(hm.slot t ht).mono hJ.le,hJ.ok,hm.le.trans hJ.le,⟨hJ.fr.os.trans hm.fr.os,hJ.fr.tape.trans hm.fr.tape,hJ.fr.output.trans hm.fr.output,Nat.le_trans h0 hJ.fr.size,fun b hb hk=>?_⟩,fun b hb=>?_,hJ.sep,fun b hb=>.inl (hm.x0 b hb),fun ho b hb hn=>?_,fun b hb=>?_,fun b hb=>?_,hm.nx0⟩
  · refine (hJ.fr.block b (by omega) fun h=>?_).trans (hm.fr.block b hb hk)
    rcases h with h|h|⟨h1,h2,h3⟩
    · rcases hm.low b h with h|h
      · exact hk h
      · omega
    · have:=hgo b h;omega
    · rcases hm.xk h1 b h2 (fun h=>h3 (hN b h)) with h|h
      · exact hk h
      · omega
  · rcases hJ.new b hb with h|h
    · exact hm.low b h
    · right;omega
  · rcases xs b hb with h|h
    · exact hm.xk ho b h hn
    · exact .inr h
  · rcases xs b hb with h|h
    · exact hm.xg b h
    · exact .inr h
  · obtain⟨h1,h2⟩:=hJ.nx b (hN b hb)
    exact⟨h1,h2.imp .inl fun ⟨q1,q2,q3,q4,q5⟩=>⟨q1,q2,fun h=>h.elim q3 fun h=>h.elim q4 fun h=>h.2 q5⟩⟩
theorem WP.range2 {P:Program} {C:Cx P} {n:Nat} {Q:Exit→(Nat→D)→List Bx→Prop} {e:Nat→D} {st:List Bx} {g:Operand} {ps:Array Tmp} {assign body:Code} {gf:FuncId} {caps:List A} (lst:List (Nat×D)) (sto:Nat→List Bx) (ex:List Bx) (tl:List (List D)) (gh:Nat→D) (Inv:Nat→Prop) (hI0:Inv 0)
    (hro:C.ro=none) (hgh:e 1000000=gh 0) (hnle:decide (n≤1000000)=true) (hag:qal e lst) (hst:st=sto 0++ex.map (rnB (List.range' (sto 0).length ex.length))) (hV0:ex=[]∨C.V0.st=[]) (hlv:ex=[]∨(sto 0).all Bx.live=true) (hlive:ex.all Bx.live=true) (hnex:nrS ex.length ex=true) (hVl:C.V0.st.length≤(sto 0).length)
    (hlen:∀k,(sto k).length≤(sto (k+1)).length) (hnsk:∀k,nrS (sto k).length (sto k)=true) (hnr:nrE (sto 0).length lst=true) (hg:evO e g=.a (.fn gf (caps.map (rnA (List.range' (sto 0).length ex.length))))) (hgl:opLt n g=true) (hncap:caps.all (nrA ex.length)=true) (hit:DItM P gf caps ex tl)
    (hsc:ex=[]∨(tl.all fun xs=>xs.all scal)=true) (hpn:(ps.toList.all fun p=>decide (p<1000000))=true) (hps:∀(k:Nat) (xs:List D),tl[k]? = some xs→xs.length=ps.size)
    (round:∀(C1:Cx P) (k:Nat) (xs:List D),C1.E=C.E→C1.on=C.on→tl[k]? = some xs→Inv k→WP C1 n assign (qdi (fun e1 st1=>∀C2:Cx P,C2.E=C.E→C2.on=C.on→WP C2 n body (rngQ2 (envL lst) (gh (k+1)) (Inv (k+1)) (sto (k+1)) Q) e1 st1) NoQ) (upd (qh3 (envL lst) ps.toList xs) 1000000 (gh k)) (sto k))
    (done:Inv tl.length→Q .normal (upd (envL lst) 1000000 (gh tl.length)) (sto tl.length)):WP C n (.rangeFunc g ps assign body) Q e st:=by
  intro a w x bl hsat
  subst hst
  obtain⟨ms,hmk,hm0,henv⟩:=hsat
  rw [hgh] at henv
  obtain⟨σ,hσ⟩:∃σ,σ=List.range' (sto 0).length ex.length:=⟨_,rfl⟩
  rw [←hσ] at hmk hm0 henv hg
  obtain⟨V0,hV0e⟩:∃V:Vw,V=⟨w,x,bl,sto 0++ex.map (rnB σ)⟩:=⟨_,rfl⟩
  have okV:Ok V0:=by rw [hV0e];exact hm0.ok
  have hlenb:bl.length=(sto 0).length+ex.length:=by have:=hm0.ok.len;simpa using this
  have hσl:σ.length=ex.length:=by rw [hσ,List.length_range']
  have hσat:∀j i,σ[j]? = some i→i=(sto 0).length+j∧j<ex.length:=fun j i hj=>by
    have hlt:=(List.getElem?_eq_some_iff.1 hj).1
    rw [hσl] at hlt
    rw [hσ,List.getElem?_range' hlt] at hj
    injection hj with hj
    exact⟨by omega,hlt⟩
  have hLk:LOk V0.st σ ex:=by
    refine⟨by rw [hσ];exact List.nodup_range',hσl,fun j i hj=>?_,fun j y hy=>List.all_eq_true.1 hlive y (lm4 hy),by rw [hσl];exact hnex⟩
    obtain⟨rfl,hlt⟩:=hσat j i hj
    rw [hV0e]
    show (sto 0++ex.map (rnB σ))[(sto 0).length+j]? = _
    rw [List.getElem?_append_right (by omega),show (sto 0).length+j-(sto 0).length=j by omega,List.getElem?_map]
  obtain⟨gv,hgv⟩:∃G:Nat→Prop,G=fun b=>b∈lb V0 σ:=⟨_,rfl⟩
  have gvat:∀b,gv b→∃j,j<ex.length∧bl[(sto 0).length+j]? = some b:=fun b hb=>by
    rw [hgv] at hb
    obtain⟨j,hj⟩:=List.getElem?_of_mem hb
    obtain⟨i,h1,h2⟩:=qb3 okV hLk hj
    obtain⟨rfl,hlt⟩:=hσat j i h1
    rw [hV0e] at h2
    exact⟨j,hlt,h2⟩
  have gvm:∀b,gv b→V0.mine b:=fun b hb=>by rw [hgv] at hb;exact qb0 okV hLk hb
  have gvnot:∀b,gv b→∀i,i<(sto 0).length→bl[i]? = some b→∀y,(sto 0)[i]? = some y→y.live=false:=fun b hb i hi hbi y hy=>by
    obtain⟨j,hj,hbj⟩:=gvat b hb
    obtain⟨z,hz⟩:∃z,ex[j]? = some z:=⟨_,List.getElem?_eq_getElem hj⟩
    cases hl:y.live with
    | false=>rfl
    | true =>
      have hz2:V0.st[(sto 0).length+j]? = some (rnB σ z):=by
        rw [hV0e];show (sto 0++ex.map (rnB σ))[(sto 0).length+j]? = _
        rw [List.getElem?_append_right (by omega),show (sto 0).length+j-(sto 0).length=j by omega,List.getElem?_map,hz];rfl
      have hy2:V0.st[i]? = some y:=by
        rw [hV0e];show (sto 0++ex.map (rnB σ))[i]? = _
        rw [List.getElem?_append_left hi];exact hy
      have:=okV.inj i ((sto 0).length+j) b y _ (by rw [hV0e];exact hbi) (by rw [hV0e];exact hbj) hy2 hz2 hl (by rw [qbw];exact List.all_eq_true.1 hlive z (lm4 hz))
      omega
  have hexne:∀b,gv b→ex≠[]:=fun b hb he=>by obtain⟨j,hj,_⟩:=gvat b hb;rw [he] at hj;simp at hj
  have hgbl:∀b,gv b→b∈bl:=fun b hb=>by obtain⟨j,_,hj⟩:=gvat b hb;exact lm4 hj
  have hgn:∀b,gv b→¬b∈bl.take (sto 0).length:=fun b hb h=>by
    obtain⟨i,hi⟩:=List.getElem?_of_mem h
    have hlt:=(List.getElem?_eq_some_iff.1 hi).1
    simp only [List.length_take] at hlt
    have hi0:i<(sto 0).length:=by omega
    rw [List.getElem?_take_of_lt hi0] at hi
    obtain⟨y,hy⟩:∃y,(sto 0)[i]? = some y:=⟨_,List.getElem?_eq_getElem hi0⟩
    have h1:=gvnot b hb i hi0 hi y hy
    rcases hlv with h|h
    · exact hexne b hb h
    · rw [List.all_eq_true.1 h y (lm4 hy)] at h1;cases h1
  have hgo:∀b,gv b→C.V0.w.heap.size≤b:=fun b hb=>Nat.le_of_not_lt fun hlt=>by
    have hst0:C.V0.st=[]:=hV0.resolve_left (hexne b hb)
    have hm1:V0.mut b:=.inr (gvm b hb)
    refine (hm0.le.blk b hlt fun h=>?_).2 (by rw [hV0e] at hm1;exact hm1)
    rcases h with h|⟨i,y,_,h2,_⟩
    · exact hm0.sep b (hgbl b hb) (hm0.x0 b h)
    · rw [hst0] at h2;simp at h2
  have hgl2:∀b,b∈bl→b∈bl.take (sto 0).length∨gv b:=fun b hb=>by
    obtain⟨i,hi⟩:=List.getElem?_of_mem hb
    by_cases hlt:i<(sto 0).length
    · left;exact lm4 (i:=i) (by rw [List.getElem?_take_of_lt hlt];exact hi)
    · right
      have hil:=(List.getElem?_eq_some_iff.1 hi).1
      rw [hgv]
      refine lm4 (i:=i-(sto 0).length) ?_
      have hsat:σ[i-(sto 0).length]? = some i:=by
        rw [hσ,List.getElem?_range' (by omega)]
        congr 1;omega
      rw [qjp okV hLk hsat,hV0e];exact hi
  have hmV:=(hm0.weaken hag).giveA (gv:=gv) (fun b hb=>⟨by have:=gvm b hb;rw [hV0e] at this;exact this,gvnot b hb⟩) hgl2 hgo hgn (fun t _=>qjh hnr t) (hnsk 0) hVl
  obtain⟨Vs,hVs⟩:∃V:Vw,V=⟨w,fun b=>x b∨gv b,bl.take (sto 0).length,sto 0⟩:=⟨_,rfl⟩
  have hVw:Vs.w=w:=by rw [hVs]
  have hVx:∀b,Vs.x b↔x b∨gv b:=by rw [hVs];exact fun b=>Iff.rfl
  rw [←hVs] at hmV
  have hok:=hmV.ok
  have hsep:=hmV.sep
  have hgx:∀b,gv b→Vs.x b:=fun b hb=>(hVx b).2 (.inr hb)
  have hnle2:n≤1000000:=of_decide_eq_true hnle
  have hpn2:∀p∈ps.toList,p<1000000:=fun p hp=>by have:=List.all_eq_true.1 hpn p hp;simpa using this
  have hgs:∀b,gv b→b<w.heap.size:=fun b hb=>by have:=hok.xlt b (hgx b hb);rwa [hVw] at this
  have hgvv:RepD V0 (evO e g) (a.eval g):=by
    rw [hV0e]
    cases g with
    | tmp t=>exact hm0.slot t (by simpa [opLt] using hgl)
    | const v=>exact qht _ v
    | func f =>
      have h:=RepA.fn (V:=⟨w,x,bl,sto 0++ex.map (rnB σ)⟩) f [] [] rfl (fun i x h=>by simp at h)
      exact .a _ _ h
    | global k=>exact absurd hg glD_fn
  rw [hg] at hgvv
  obtain⟨lbv,hgval,hlbl,hlbr⟩:=fnA_inv hgvv
  rw [List.length_map] at hlbl
  refine wpIn_rangeFunc ?_
  intro fn _
  obtain⟨rec,hrec⟩:∃rec:LoopState→Option Code→Loop,rec=rngL fn a.tmps ps assign body w.heap.size:=⟨_,rfl⟩
  obtain⟨W1,hW1⟩:∃W1,(w.alloc (.deferred (some []))).alloc (.loop (rec .ready none))=W1:=⟨_,rfl⟩
  have hs1:W1.heap.size=w.heap.size+2:=by rw [←hW1];simp
  have hg1:Grw w W1:=by rw [←hW1];exact ((Grw.refl w).alloc _).alloc _
  have hL1:W1.heap[w.heap.size+1]? = some (.loop (rec .ready none)):=by
    rw [←hW1];have:=World.alloc_heap_new (w.alloc (.deferred (some []))) (.loop (rec .ready none));rwa [World.size_alloc] at this
  have hK1:W1.heap[w.heap.size]? = some (.deferred (some [])):=by
    rw [←hW1];exact (Below.heap_alloc _ _ _ (by simp)).trans (World.alloc_heap_new w _)
  obtain⟨N0,hN0⟩:∃N:Nat→Prop,N=C.nxm (w.heap.size::ms):=⟨_,rfl⟩
  have hw1:Vs.w.heap.size≤W1.heap.size:=by rw [hVw];omega
  have hlw:Vs.w.heap.size≤w.heap.size+1:=by rw [hVw];omega
  have hscal:(∀b,¬gv b)∨∀(k:Nat) (xs:List D),tl[k]? = some xs→xs.all scal=true:=by
    rcases hsc with h|h
    · exact .inl fun b hb=>hexne b hb h
    · exact .inr fun k xs hk=>List.all_eq_true.1 h xs (lm4 hk)
  obtain⟨E,hE1,hE2,hE3,hE4⟩:∃E:Env P,E.l=w.heap.size+1∧E.tl=tl∧E.J=rngJ2 C N0 gv Vs W1 (w.heap.size+1) (w.heap.size::ms) (rec .ready none) sto Inv gh∧E.Jx=rngJx2 C N0 gv Vs W1 (w.heap.size+1) (w.heap.size::ms) (fun c=>rec .done (some c)) (envL lst) Q:=by
    have envS:∀{Dp xo:Nat→Prop} {A B:World} {bl':List Nat} {st':List Bx} {g':D},Fr (fun b=>¬Dp b) A B→EnvE C.E C.on (nxJ N0 gv Dp (w.heap.size+1)) g' ⟨A,qb1 Vs xo Dp A,bl',st'⟩→EnvE C.E C.on (nxJ N0 gv Dp (w.heap.size+1)) g' ⟨B,qb1 Vs xo Dp B,bl',st'⟩:=fun hf hE =>
      hE.frm ⟨hf.os,hf.tape,hf.output,hf.size,fun b hb hn=>hf.block b hb fun hd=>hn (.inr (.inr (.inr (.inl hd))))⟩ (fun b hb=>.inl hb) fun b hb=>hb.imp id fun h=>h.imp id fun h=>⟨Nat.lt_of_lt_of_le h.1 hf.size,h.2⟩
    refine⟨⟨w.heap.size+1,tl,rngJ2 C N0 gv Vs W1 (w.heap.size+1) (w.heap.size::ms) (rec .ready none) sto Inv gh,rngJx2 C N0 gv Vs W1 (w.heap.size+1) (w.heap.size::ms) (fun c=>rec .done (some c)) (envL lst) Q,?_,?_,?_,?_,?_⟩,rfl,rfl,rfl,rfl⟩
    · rintro k Dp Mx W ⟨_,xo,bl',hJ,hMx,_⟩
      refine⟨hJ.lt,fun b hb=>?_⟩
      rcases (hMx b).1 hb with ⟨hb|hb,_⟩|⟨i,y,hb,_⟩|rfl
      · exact Nat.lt_of_lt_of_le (hok.xlt b hb) hJ.fr.size
      · exact hJ.ok.xlt b (.inr (.inl hb))
      · exact hJ.ok.lt i b hb
      · exact hJ.lt _ hJ.dl
    · rintro Dp W ⟨c,xo,bl',st',g',hJ,_⟩ b hb
      exact hJ.lt b hb
    · rintro k Dp Mx A B ⟨hI,xo,bl',hJ,hMx,hE⟩ hf
      exact⟨hI,xo,bl',hJ.off hf hok hw1,hMx,envS hf hE⟩
    · rintro Dp A B ⟨c,xo,bl',st',g',hJ,hc,hE⟩ hf
      exact⟨c,xo,bl',st',g',hJ.off hf hok hw1,hc,envS hf hE⟩
    · intro k Dp Mx Ly W xs vs hJ hLy hT hvl hr
      rw [hrec] at hJ ⊢
      exact qny hok hlw hw1 hgx hmV.size hnle2 (fun t ht=>hmV.slot t ht) hpn2 hscal hps hlen hnsk round k Dp Mx Ly W xs vs hJ hLy hT hvl hr
  have hit:=hit E hE2
  rw [hE1] at hit
  refine⟨w.heap.size+1,[{ target:=.collected w.heap.size,args:=#[] }],W1,{ target:=.fn (.func gf) lbv.toArray,args:=#[.func (.yield (w.heap.size+1)) #[] #[]] },W1,gf,
    #[.func (.yield (w.heap.size+1)) #[] #[]]++lbv.toArray,W1,?_,?_,fun _ _=>trivial,?_,fun h=>(by cases h),?_⟩
  · show (Instr.enterLoop fn a.tmps ps assign body C.ro).run P w=_
    rw [hro,←hW1,hrec];exact run_enterLoop_outer _ _ _ _ _
  · simp only [resolve,hgval]
    simp [go_sem]
  · simp [invoke,go_sem,hit.1]
  · have hmkD:∀d∈ms,¬d∈bl∧¬x d:=fun d hd=>⟨((hmk.2.2) d hd).2.2.1,((hmk.2.2) d hd).2.2.2⟩
    have hmsl:∀d∈ms,w.heap[d]? = some (.deferred (some [])):=fun d hd=>((hmk.2.2) d hd).2.1
    have hV0w:V0.w=w:=by rw [hV0e]
    have hV0x:V0.x=x:=by rw [hV0e]
    have mineV0:∀b,V0.mine b→b<w.heap.size:=fun b ⟨i,y,hb,_⟩=>by have:=okV.lt i b hb;rwa [hV0w] at this
    -- what the function that is ranged over sees
    obtain⟨U0x,hU0x⟩:∃X:Nat→Prop,X=fun c=>V0.x c∨(V0.mine c∧¬c∈lb V0 σ):=⟨_,rfl⟩
    have okU0:Ok ⟨w,U0x,lb V0 σ,ex⟩:=by
      have:=lend_ok okV hLk
      unfold qes at this
      rw [hV0w,←hU0x] at this;exact this
    have ux:∀b,U0x b→b<w.heap.size:=okU0.xlt
    have sepU:∀b,b∈lb V0 σ→¬U0x b:=fun b hb h=>by
      rw [hU0x] at h
      rcases h with h|h
      · have hm1:=Vw.mine_mem (qb0 okV hLk hb)
        rw [hV0e] at hm1 h
        exact hm0.sep b hm1 h
      · exact h.2 hb
    have hux1:∀b,b<w.heap.size→(U0x b∨b=w.heap.size+1)→U0x b:=fun b hb h=>h.resolve_right fun h=>by omega
    have leU:(⟨w,U0x,lb V0 σ,ex⟩:Vw).Le ⟨W1,fun b=>U0x b∨b=w.heap.size+1,lb V0 σ,ex⟩:=Vw.le_off hg1.below.size (fun b hb _=>hg1.below.block b hb) hux1 sepU okU0.lt
    have okU:Ok ⟨W1,fun b=>U0x b∨b=w.heap.size+1,lb V0 σ,ex⟩:=Ok.off okU0 hg1.below.size (fun b hb _=>hg1.below.block b hb) hux1 sepU fun b hb=>by
      rcases hb with hb|rfl
      · have:=ux b hb;omega
      · omega
    obtain⟨Dp0,hDp0⟩:∃Dp:Nat→Prop,Dp=fun b=>b<W1.heap.size∧¬gv b:=⟨_,rfl⟩
    have hx0:∀b,qb1 Vs (fun _=>False) Dp0 W1 b→Vs.x b:=fun b hb=>by
      rcases hb with hb|hb|⟨h1,h2⟩
      · exact hb
      · exact hb.elim
      · rw [hDp0] at h2
        exact hgx b (Classical.byContradiction fun h=>h2 ⟨h1,h⟩)
    have hsepV:∀b,b∈Vs.bl→¬qb1 Vs (fun _=>False) Dp0 W1 b:=fun b hb h=>hsep b hb (hx0 b h)
    have hVbl:Vs.bl=bl.take (sto 0).length:=by rw [hVs]
    have hVst:Vs.st=sto 0:=by rw [hVs]
    have nogv:∀d,(d∈w.heap.size::ms∨d=w.heap.size+1)→¬gv d∧¬Vs.x d:=fun d hd=>by
      have h0:¬gv d:=fun h=>by
        rcases hd with hd|rfl
        · rcases List.mem_cons.1 hd with rfl|hd
          · have:=hgs _ h;omega
          · exact (hmkD d hd).1 (hgbl d h)
        · have:=hgs _ h;omega
      refine⟨h0,fun h=>?_⟩
      rcases (hVx d).1 h with h|h
      · rcases hd with hd|rfl
        · rcases List.mem_cons.1 hd with rfl|hd
          · have:=hm0.ok.xlt _ h;simp only at this;omega
          · exact (hmkD d hd).2 h
        · have:=hm0.ok.xlt _ h;simp only at this;omega
      · exact h0 h
    have hdd:∀d∈w.heap.size::ms,W1.heap[d]? = some (.deferred (some []))∧d<W1.heap.size:=fun d hd=>by
      rcases List.mem_cons.1 hd with rfl|hd
      · exact⟨hK1,by omega⟩
      · have h1:=hmsl d hd
        have hlt:=(Array.getElem?_eq_some_iff.1 h1).1
        exact⟨(hg1.below.block d hlt).trans h1,by omega⟩
    have hJ0:RK C.on N0 gv Vs W1 (w.heap.size+1) (w.heap.size::ms) (sto 0) (rec .ready none) (fun _=>False) Dp0 W1 (bl.take (sto 0).length):=by
      have hsame:∀b,b<w.heap.size→¬(fun b=>x b∨gv b) b→W1.heap[b]? = w.heap[b]?:=fun b hb _=>hg1.below.block b hb
      have hxx:∀b,b<w.heap.size→qb1 Vs (fun _=>False) Dp0 W1 b→x b∨gv b:=fun b _ h=>(hVx b).1 (hx0 b h)
      have hsp:∀b,b∈bl.take (sto 0).length→¬(x b∨gv b):=fun b hb h=>by rw [←hVbl] at hb;exact hsep b hb ((hVx b).2 h)
      have ok9:Ok ⟨w,fun b=>x b∨gv b,bl.take (sto 0).length,sto 0⟩:=by rw [←hVs];exact hok
      refine⟨?_,Ok.off ok9 hg1.below.size hsame hxx hsp fun b hb=>?_,by rw [hVw];exact Fr.of_grwK hg1,fun b hb=>.inl (by rw [hVbl];exact hb),fun b hb=>hsepV b (by rw [hVbl];exact hb),fun b hb=>hb.elim,hL1,fun d hd=>⟨(hdd d hd).1,by rw [hDp0];exact⟨(hdd d hd).2,(nogv d (.inl hd)).1⟩⟩,fun d hd=>⟨id,(nogv d hd).2⟩,by rw [hDp0];exact⟨by omega,(nogv _ (.inr rfl)).1⟩,fun b hb=>by rw [hDp0] at hb;exact hb.1,fun b hb hg=>by rw [hDp0];exact⟨hb,hg⟩,fun b hb=>?_⟩
      · have:=Vw.le_off (A:=w) (B:=W1) (st:=sto 0) hg1.below.size hsame hxx hsp ok9.lt
        rw [←hVs] at this;exact this
      · have:=hok.xlt b (hx0 b hb);omega
      · rw [hN0] at hb
        rcases hb with hb|hb
        · obtain⟨h1,h2⟩:=hm0.nx b hb
          have h1:b<w.heap.size:=h1
          refine⟨by omega,?_⟩
          by_cases hg:gv b
          · exact .inl (hgx b hg)
          · refine h2.imp (fun h=>(hVx b).2 (.inl h)) fun ⟨q2,q3,q4⟩=>⟨q2.same (hg1.below.block b h1),fun h=>q3 (List.mem_of_mem_take h),fun h=>((hVx b).1 h).elim q4 hg,id,by rw [hDp0];exact⟨by omega,hg⟩⟩
        · refine⟨(hdd b hb).2,.inr ⟨⟨_,(hdd b hb).1,rfl⟩,fun h=>?_,(nogv b (.inl hb)).2,id,by rw [hDp0];exact⟨(hdd b hb).2,(nogv b (.inl hb)).1⟩⟩⟩
          rcases List.mem_cons.1 hb with rfl|hb
          · obtain⟨i,hi⟩:=List.getElem?_of_mem h
            have:=ok9.lt i _ hi
            simp only at this;omega
          · exact (hmkD b hb).1 (List.mem_of_mem_take h)
    have hmnV:∀b,(⟨w,qb1 Vs (fun _=>False) Dp0 W1,bl.take (sto 0).length,sto 0⟩:Vw).mine b→(⟨w,x,bl,sto 0++ex.map (rnB σ)⟩:Vw).mine b:=fun b ⟨i,y,h1,h2,h3⟩=>by
      have hi:i<(sto 0).length:=(List.getElem?_eq_some_iff.1 h2).1
      exact⟨i,y,by simp only at h1;rwa [List.getElem?_take_of_lt hi] at h1,by simp only;rw [List.getElem?_append_left hi];exact h2,h3⟩
    have hEo:EnvE C.E C.on (nxJ N0 gv Dp0 (w.heap.size+1)) (gh 0) ⟨W1,qb1 Vs (fun _=>False) Dp0 W1,bl.take (sto 0).length,sto 0⟩:=by
      have h1:EnvE C.E C.on (nxJ N0 gv Dp0 (w.heap.size+1)) (gh 0) ⟨w,qb1 Vs (fun _=>False) Dp0 W1,bl.take (sto 0).length,sto 0⟩:=by
        refine henv.mut2 rfl hmnV (fun b hb=>?_) fun b hb=>.inl ((hVx b).2 (.inl hb))
        rcases hb with hb|hb|hb|hb
        · rw [hN0] at hb
          rcases hb with hb|hb
          · exact .inr (.inl (.inl hb))
          · rcases List.mem_cons.1 hb with rfl|hb
            · exact .inr (.inr (Nat.le_refl _))
            · exact .inr (.inl (.inr hb))
        · left;have:=gvm b hb;rw [hV0e] at this;exact this
        · by_cases hlt:b<W1.heap.size
          · have hg:gv b:=Classical.byContradiction fun h=>hb (by rw [hDp0];exact⟨hlt,h⟩)
            left;have:=gvm b hg;rw [hV0e] at this;exact this
          · right;right;show w.heap.size≤b;omega
        · right;right;show w.heap.size≤b;omega
      exact h1.frm ⟨hg1.below.os,hg1.below.tape,hg1.below.output,hg1.below.size,fun b hb _=>hg1.below.block b hb⟩ (fun b hb=>.inl hb) fun _ hb=>hb
    have h2:=hit.2 ⟨W1,fun b=>U0x b∨b=w.heap.size+1,lb V0 σ,ex⟩ Non (.func (.yield (w.heap.size+1)) #[] #[]::lbv) rfl okU (fun b hb h=>?_) (fun b h=>h.elim) ?_ (by simp [hlbl]) fun i d' hd=>?_
    · have harr:(Value.func (.yield (w.heap.size+1)) #[] #[]::lbv).toArray = #[.func (.yield (w.heap.size+1)) #[] #[]]++lbv.toArray:=by apply Array.ext';simp
      rw [harr] at h2
      refine (qfw (ro:=C.ro) h2).mono ?_
      rintro en w3 ⟨v,rfl,d,st',gg,x',bl',hO,hX,hEnv,_⟩
      -- back
      have back:∀(Dp xo:Nat→Prop) (blz:List Nat) (stz:List Bx) (g':D) (lo:Loop) (lo':Loop),RK C.on N0 gv Vs W1 (w.heap.size+1) (w.heap.size::ms) stz lo xo Dp w3 blz→EnvE C.E C.on (nxJ N0 gv Dp (w.heap.size+1)) g' ⟨w3,qb1 Vs xo Dp w3,blz,stz⟩→∀w4,w4=w3.putObj (w.heap.size+1) (.loop lo') →
          Sat C ⟨w4,qb1 Vs xo Dp w3,blz,stz⟩ { a with defers:=[{ target:=.collected w.heap.size,args:=#[] }]++a.defers } n (upd (envL lst) 1000000 g'):=by
        rintro Dp xo blz stz g' lo lo' hJ hE w4 rfl
        have hM:=hmV.far hJ (fun b hb=>by rw [hN0];exact .inl hb) hgo hgx hw1
        have hnb:∀d o,w3.heap[d]? = some o→isK o=false→¬d∈blz:=fun d o ho hc h=>by
          obtain⟨i,hi⟩:=List.getElem?_of_mem h
          exact nk.noC ⟨o,ho,hc⟩ (hJ.ok.isc i d hi)
        have hsz0:C.V0.w.heap.size≤w.heap.size:=by have:=hmV.fr.size;rwa [hVw] at this
        have hM2:=hM.note (D:=w.heap.size+1) (.loop lo') hJ.lo rfl (.inr (by omega)) (fun h=>by have:=hmV.nx0 _ h;omega) (hnb _ _ hJ.lo rfl)
        have hM3:M C ((⟨w3,qb1 Vs xo Dp w3,blz,stz⟩:Vw).to (w3.putObj (w.heap.size+1) (.loop lo'))) a.tmps n (upd (envL lst) 1000000 g') :=
          ⟨hM2.size,fun t ht=>by
            have:upd (envL lst) 1000000 g' t=envL lst t:=if_neg (by omega)
            rw [this];exact hM2.slot t ht,hM2.ok,hM2.le,hM2.fr,hM2.low,hM2.sep,hM2.x0,hM2.xk,hM2.xg,hM2.nx,hM2.nx0⟩
        refine⟨w.heap.size::ms,⟨?_,?_,fun d hd=>⟨fun _=>?_,?_,?_,?_⟩⟩,hM3,?_⟩
        · rw [List.map_cons,←hmk.1];rfl
        · refine List.nodup_cons.2 ⟨fun h=>?_,hmk.2.1⟩
          have:=(Array.getElem?_eq_some_iff.1 (hmsl _ h)).1;omega
        · rcases List.mem_cons.1 hd with rfl|hd
          · exact hsz0
          · exact (hmk.2.2 d hd).1 hro
        · refine (World.putObj_heap_other (show d≠w.heap.size+1 from fun h=>?_)).trans (hJ.dd d hd).1
          have h5:=(hJ.dd d hd).1
          rw [h,hJ.lo] at h5;cases h5
        · exact hnb d _ (hJ.dd d hd).1 rfl
        · obtain⟨q1,q2⟩:=hJ.ddx d (.inl hd)
          rintro (h|h|h)
          · exact q2 h
          · exact q1 h
          · exact h.2 (hJ.dd d hd).2
        · have:upd (envL lst) 1000000 g' 1000000=g':=if_pos rfl
          rw [this]
          refine EnvE.less (Nx:=nxJ N0 gv Dp (w.heap.size+1)) (hE.frm ⟨rfl,rfl,rfl,by show w3.heap.size≤(w3.putObj (w.heap.size+1) (.loop lo')).heap.size;simp,fun b hb hn=>World.putObj_heap_other fun h=>hn (.inr (.inr (.inr (.inr h))))⟩ (fun b hb=>.inl hb) fun _ hb=>hb) fun b hb=>?_
          left;rw [hN0];exact hb
      rcases hO with rfl|rfl
      · obtain⟨_,Dp,Mx,hj,_,_⟩:=hEnv
        rw [hE3,Int.toNat_natCast] at hj
        obtain⟨hI,xo,blz,hJ,_,hE⟩:=hj
        have hJ:RK C.on N0 gv Vs W1 (w.heap.size+1) (w.heap.size::ms) (sto tl.length) (rec .ready none) xo Dp w3 blz:=hJ
        have hend:=run_endLoop (P:=P) hJ.lo (by rw [hrec];simp [rngL])
        have hp:(rec .ready none).pending=none:=by rw [hrec];rfl
        rw [hp] at hend
        refine⟨none,_,hend,?_⟩
        exact⟨_,_,upd (envL lst) 1000000 (gh tl.length),sto tl.length,back Dp xo blz _ _ _ _ hJ hE _ rfl,done hI⟩
      · obtain⟨_,Dp,hj,_⟩:=hEnv
        rw [hE4] at hj
        obtain⟨c,xo,blz,stz,g',hJ,hc,hE⟩:=hj
        have hJ:RK C.on N0 gv Vs W1 (w.heap.size+1) (w.heap.size::ms) stz (rec .done (some c)) xo Dp w3 blz:=hJ
        have hend:=run_endLoop (P:=P) hJ.lo (by rw [hrec];simp [rngL])
        have hp:(rec .done (some c)).pending=some c:=by rw [hrec];rfl
        rw [hp] at hend
        refine⟨some c,_,hend,?_⟩
        rcases hc with ⟨rfl,hq⟩|⟨id,rfl,hq⟩
        · exact wpIn_ret ⟨_,_,upd (envL lst) 1000000 g',stz,back Dp xo blz _ _ _ _ hJ hE _ rfl,hq⟩
        · exact wpIn_exit ⟨_,_,upd (envL lst) 1000000 g',stz,back Dp xo blz _ _ _ _ hJ hE _ rfl,hq⟩
    · rcases h with h|h
      · exact sepU b hb h
      · have:=mineV0 b (qb0 okV hLk hb);omega
    · refine⟨trivial,Dp0,fun b=>((Vs.x b∨False)∧¬gv b)∨(⟨W1,Vs.x,bl.take (sto 0).length,sto 0⟩:Vw).mine b∨b=w.heap.size+1,?_,fun b hb=>?_,fun b hb=>?_⟩
      · rw [hE3];exact⟨hI0,fun _=>False,bl.take (sto 0).length,hJ0,fun b=>Iff.rfl,hEo⟩
      · have hg:gv b:=by
          rcases hb with ⟨i,y,h,_⟩|h
          · rw [hgv];exact lm4 h
          · exact h.elim
        refine⟨fun h=>by rw [hDp0] at h;exact h.2 hg,fun h=>?_⟩
        rcases h with h|h|h
        · exact h.2 hg
        · exact hgn b hg (Vw.mine_mem h)
        · have:=hgs b hg;omega
      · rcases hb with ⟨hb|hb,hg⟩|hb|hb
        · left;rw [hU0x,hV0x];exact .inl (((hVx b).1 hb).resolve_right hg)
        · exact hb.elim
        · left;rw [hU0x]
          refine .inr ⟨?_,fun h=>hgn b (by rw [hgv];exact h) (Vw.mine_mem hb)⟩
          have:=hmnV b hb
          rw [hV0e];exact this
        · exact .inr hb
    · cases i with
      | zero=>simp at hd;subst hd;exact .v rfl
      | succ i =>
        rw [List.getElem?_cons_succ,List.getElem?_map,Option.map_eq_some_iff] at hd
        obtain⟨y,hy,rfl⟩:=hd
        have h1:RepA V0 (rnA σ y) (lbv.getD i Go.undef):=hlbr i (rnA σ y) (by rw [List.getElem?_map,hy];rfl)
        have h3:=qjm okV hLk _ _ h1 y rfl (by rw [hσl];exact List.all_eq_true.1 hncap y (lm4 hy))
        have h4:RepA ⟨w,U0x,lb V0 σ,ex⟩ y (lbv.getD i Go.undef):=by
          unfold qes at h3
          rw [hV0w,←hU0x] at h3;exact h3
        exact .a _ _ (h4.mono leU)
end Go.Proofs.YthkojpnjdpbcgaaGreatDoor
