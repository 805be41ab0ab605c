/- What is known of the program's own variables in every world: what each holds. Conditions: none. -/
import Derived.Test.YthkojpnjdpbcgaaGreatDoorMl2
import Derived.Deep.MidRow
import Derived.Deep.DeepCutAuto
import Derived.RangeFuncOwn
set_option linter.unusedVariables false
set_option maxRecDepth 100000
set_option maxHeartbeats 8000000
set_option linter.unusedSimpArgs false
namespace Go.Proofs.YthkojpnjdpbcgaaGreatDoor
open Go.RowKit
def glV:Nat→List Value
 | 0=>qez.map fun x=>.string (bs x)
 | _=>[]
def Gd (w:World):Prop:=∀g j x,(glV g)[j]? = some x→w.cell? ⟨g,j,none⟩=some x
theorem Gd.wd {w:World} (h:Gd w):Wd w:=by
 have key:∀i x,qez[i]? = some x→w.cell? ⟨0,0+i,none⟩=some (.string (bs x)):=fun i x hx=>by
  rw [Nat.zero_add]
  refine h 0 i _ ?_
  show (qez.map fun x=>Value.string (bs x))[i]? = _
  rw [List.getElem?_map,hx];rfl
 exact⟨World.block_lt_of_cell? _ _ (key 0 [99,108,97,115,115] rfl),key⟩
end Go.Proofs.YthkojpnjdpbcgaaGreatDoor
namespace Go.Proofs.YthkojpnjdpbcgaaGreatDoor
open Go.RowKit
def qek:Value→Bool
 | .bool _|.int _ _|.string _|.nilFunc|.nilIface|.pointer _|.map none=>true
 | .func (.yield _) ⟨[]⟩ ⟨[]⟩=>true
 | _=>false
inductive A where
 | v (x:Value)
 | nl
 | sl (rows:List (List A))
 | sk (rows:List (List A))
 | ref (row:List A) (off:Nat)
 | ptr (box off:Nat)
 | own (box ver:Nat)
 | ep (box ver z off:Nat)
 | fn (f:FuncId) (caps:List A)
 | fm (f:FuncId) (caps:List A)
 | mp (box:Nat)
 | cs (box off len:Nat)
inductive KS where
 | str
 | int (q:IntKind)
def KS.ok:KS→Value→Bool
 | .str,.string _=>true
 | .int q,.int q' _=>decide (q=q')
 | _,_=>false
inductive Bx where
 | gone
 | cell (row:List A)
 | arr (ver n:Nat) (rows:List (List A))
 | map (k:KS) (wd:Bool) (es:List (Value×List A))
def Bx.live:Bx→Bool
 | .gone=>false
 | _=>true
inductive D where
 | junk
 | undef
 | a (x:A)
 | r (row:List A)
 | t (ds:List D)
structure Vw where
 w:World
 x:Nat→Prop
 bl:List Nat
 st:List Bx
def Vw.mine (V:Vw) (b:Nat):Prop:=∃(i:Nat) (y:Bx),V.bl[i]? = some b∧V.st[i]? = some y∧y.live=true
def Vw.mut (V:Vw) (b:Nat):Prop:=V.x b∨V.mine b
def isK:Obj→Bool
 | .cells ..=>true
 | .map ..=>true
 | _=>false
def isC (w:World) (b:Nat):Prop:=∃o:Obj,w.heap[b]? = some o∧isK o=true
theorem qla {w:World} {a:Addr} {u:Value} (h:w.cell? a=some u):isC w a.block:=by
 obtain⟨o,h1,h2⟩:=cells_of_cell h
 exact⟨o,h1,by cases o<;>first|rfl|cases h2⟩
theorem isC.lt {w:World} {b:Nat} (h:isC w b):b<w.heap.size:=by
 obtain⟨o,h,_⟩:=h;exact (Array.getElem?_eq_some_iff.1 h).1
inductive RepC (w:World) (mu:Nat→Prop):A→Value→Prop
 | v (x:Value):qek x=true→RepC w mu (.v x) x
 | nl:RepC w mu .nl (.slice none 0 0)
 | sl0 (a:Option Addr) (c:Nat):RepC w mu (.sl []) (.slice a 0 c)
 | sl (rows:List (List A)) (n b o c:Nat) (val:Nat→Nat→Value):isC w b→¬mu b→rows.length≤c→(∀(i:Nat) (row:List A),rows[i]? = some row→row.length=n) →
   (∀(i:Nat) (row:List A) (j:Nat) (x:A),rows[i]? = some row→row[j]? = some x→w.cell? ⟨b,o+i*n+j,none⟩=some (val i j))→(∀(i:Nat) (row:List A) (j:Nat) (x:A),rows[i]? = some row→row[j]? = some x→RepC w mu x (val i j)) →
   RepC w mu (.sl rows) (.slice (some ⟨b,o,none⟩) rows.length c)
 | ref (row:List A) (off b o:Nat) (val:Nat→Value):isC w b→¬mu b→(∀(j:Nat) (x:A),row[j]? = some x→w.cell? ⟨b,o+j,none⟩=some (val j))→(∀(j:Nat) (x:A),row[j]? = some x→RepC w mu x (val j)) →
   RepC w mu (.ref row off) (.pointer (some ⟨b,o+off,none⟩))
 | sk (rows:List (List A)) (a:Option Addr) (l:Nat):RepC w mu (.sl rows) (.slice a l l)→RepC w mu (.sk rows) (.slice a l l)
 | fn (f:FuncId) (caps:List A) (vs:List Value):vs.length=caps.length→(∀(i:Nat) (x:A),caps[i]? = some x→RepC w mu x (vs.getD i Go.undef))→RepC w mu (.fn f caps) (.func (.func f) #[] vs.toArray)
inductive RepA (V:Vw):A→Value→Prop
 | c (x:A) (u:Value):RepC V.w V.mut x u→RepA V x u
 | ptr (i off b:Nat):i<V.st.length→(∀(row:List A),V.st[i]? = some (.cell row)→V.bl[i]? = some b)→RepA V (.ptr i off) (.pointer (some ⟨b,off,none⟩))
 | own (i ver:Nat) (a:Option Addr) (l c:Nat):i<V.st.length→(∀(ver' n:Nat) (rows:List (List A)),V.st[i]? = some (.arr ver' n rows)→ver≤ver'∧(ver=ver'→l=rows.length∧∃(b:Nat) (cs:Array Value) (T:TypeId),a=some ⟨b,0,none⟩∧V.bl[i]? = some b ∧
   V.w.heap[b]? = some (.cells cs T (0,0))∧cs.size=c*n∧rows.length≤c))→RepA V (.own i ver) (.slice a l c)
 | ep (i ver z off b ad:Nat):i<V.st.length→(∀(ver' n:Nat) (rows:List (List A)),V.st[i]? = some (.arr ver' n rows)→ver≤ver'∧(ver=ver'→V.bl[i]? = some b∧ad=z*n+off))→RepA V (.ep i ver z off) (.pointer (some ⟨b,ad,none⟩))
 | fn (f:FuncId) (caps:List A) (vs:List Value):vs.length=caps.length→(∀(i:Nat) (x:A),caps[i]? = some x→RepA V x (vs.getD i Go.undef))→RepA V (.fn f caps) (.func (.func f) #[] vs.toArray)
 | fm (f:FuncId) (caps:List A) (vs:List Value):vs.length=caps.length→(∀(i:Nat) (x:A),caps[i]? = some x→RepA V x (vs.getD i Go.undef))→RepA V (.fm f caps) (.func (.func f) vs.toArray #[])
 | cs (i off len b:Nat):i<V.st.length→(∀(row:List A),V.st[i]? = some (.cell row)→V.bl[i]? = some b)→RepA V (.cs i off len) (.slice (some ⟨b,off,none⟩) len len)
 | mp (i b:Nat):i<V.st.length→(∀(k:KS) (wd:Bool) (es:List (Value×List A)),V.st[i]? = some (.map k wd es)→V.bl[i]? = some b)→RepA V (.mp i) (.map (some b))
def MRep (V:Vw):Bool→List A→Value→Prop
 | false,row,v=>∃x,row=[x]∧RepA V x v
 | true,row,v=>∃vs:List Value,v=.agg vs.toArray∧vs.length=row.length∧∀(j:Nat) (x:A),row[j]? = some x→RepA V x (vs.getD j Go.undef)
inductive RepD (V:Vw):D→Value→Prop
 | junk (v:Value):RepD V .junk v
 | undef:RepD V .undef Go.undef
 | a (x:A) (u:Value):RepA V x u→RepD V (.a x) u
 | r (row:List A) (vs:List Value):vs.length=row.length→(∀(j:Nat) (x:A),row[j]? = some x→RepA V x (vs.getD j Go.undef))→RepD V (.r row) (.agg vs.toArray)
 | t (ds:List D) (vs:List Value):vs.length=ds.length→(∀(j:Nat) (d:D),ds[j]? = some d→RepD V d (vs.getD j Go.undef))→RepD V (.t ds) (.tuple vs.toArray)
structure Vw.Le (V V':Vw):Prop where
 len:V.st.length≤V'.st.length
 size:V.w.heap.size≤V'.w.heap.size
 blk:∀b,b<V.w.heap.size→¬V.mut b→(isC V.w b→V'.w.heap[b]? = V.w.heap[b]?)∧¬V'.mut b
 cell:∀(i:Nat) (row:List A),i<V.st.length→V'.st[i]? = some (.cell row)→(∃row0:List A,V.st[i]? = some (.cell row0))∧V'.bl[i]? = V.bl[i]?
 arr:∀(i ver n:Nat) (rows:List (List A)),i<V.st.length→V'.st[i]? = some (.arr ver n rows)→∃(ver0 n0:Nat) (rows0:List (List A)),V.st[i]? = some (.arr ver0 n0 rows0) ∧
  (ver0<ver∨(ver0=ver∧n0=n∧rows0.length=rows.length∧V'.bl[i]? = V.bl[i]?∧∀(b:Nat) (cs:Array Value) (T:TypeId),V.bl[i]? = some b→V.w.heap[b]? = some (.cells cs T (0,0))→∃cs':Array Value,V'.w.heap[b]? = some (.cells cs' T (0,0))∧cs'.size=cs.size))
 map:∀(i:Nat) (k:KS) (wd:Bool) (es:List (Value×List A)),i<V.st.length→V'.st[i]? = some (.map k wd es)→(∃(k0:KS) (wd0:Bool) (es0:List (Value×List A)),V.st[i]? = some (.map k0 wd0 es0))∧V'.bl[i]? = V.bl[i]?
theorem Vw.Le.refl (V:Vw):V.Le V :=
 ⟨Nat.le_refl _,Nat.le_refl _,fun _ _ h=>⟨fun _=>rfl,h⟩,fun _ row _ h=>⟨⟨row,h⟩,rfl⟩,fun _ ver n rows _ h=>⟨ver,n,rows,h,.inr ⟨rfl,rfl,rfl,rfl,fun _ cs _ _ h=>⟨cs,h,rfl⟩⟩⟩,fun _ k wd es _ h=>⟨⟨k,wd,es,h⟩,rfl⟩⟩
theorem Vw.Le.trans {V V' V'':Vw} (h:V.Le V') (g:V'.Le V''):V.Le V'':=by
 refine⟨Nat.le_trans h.len g.len,Nat.le_trans h.size g.size,fun b hb hm=>?_,fun i row hi hr=>?_,fun i ver n rows hi hr=>?_,fun i k wd es hi hr=>?_⟩
 ·obtain⟨h1,h2⟩:=h.blk b hb hm
  obtain⟨g1,g2⟩:=g.blk b (by have:=h.size;omega) h2
  refine⟨fun ⟨o,ho,hc⟩=>?_,g2⟩
  have hs:=h1 ⟨o,ho,hc⟩
  exact (g1 ⟨o,hs.trans ho,hc⟩).trans hs
 ·obtain⟨⟨row1,h1⟩,h2⟩:=g.cell i row (by have:=h.len;omega) hr
  obtain⟨h3,h4⟩:=h.cell i row1 hi h1
  exact⟨h3,h2.trans h4⟩
 ·obtain⟨v1,n1,r1,h1,h2⟩:=g.arr i ver n rows (by have:=h.len;omega) hr
  obtain⟨v0,n0,r0,h3,h4⟩:=h.arr i v1 n1 r1 hi h1
  refine⟨v0,n0,r0,h3,?_⟩
  rcases h4 with h4|⟨e1,e2,e3,e4,e5⟩
  ·left;rcases h2 with h2|⟨e1,_⟩<;>omega
  ·rcases h2 with h2|⟨f1,f2,f3,f4,f5⟩
   ·left;omega
   ·refine .inr ⟨e1.trans f1,e2.trans f2,e3.trans f3,f4.trans e4,fun b cs T hb hc=>?_⟩
    obtain⟨c1,k1,k2⟩:=e5 b cs T hb hc
    obtain⟨c2,k3,k4⟩:=f5 b c1 T (e4.trans hb) k1
    exact⟨c2,k3,k4.trans k2⟩
 ·obtain⟨⟨k1,w1,e1,h1⟩,h2⟩:=g.map i k wd es (by have:=h.len;omega) hr
  obtain⟨h3,h4⟩:=h.map i k1 w1 e1 hi h1
  exact⟨h3,h2.trans h4⟩
theorem RepC.mono {w w':World} {m m':Nat→Prop} (hs:w.heap.size≤w'.heap.size) (hb:∀b,b<w.heap.size→¬m b→(isC w b→w'.heap[b]? = w.heap[b]?)∧¬m' b) {x:A} {u:Value} (h:RepC w m x u):RepC w' m' x u:=by
 induction h with
 | v x hx=>exact .v x hx
 | nl=>exact .nl
 | sl0 a c=>exact .sl0 a c
 | sl rows n b o c val hlt hm hc hl h1 _ ih =>
  obtain⟨g1,g2⟩:=hb b hlt.lt hm
  exact .sl rows n b o c val (by obtain⟨q,q1,q2⟩:=hlt;exact⟨q,(g1 ⟨q,q1,q2⟩).trans q1,q2⟩) g2 hc hl (fun i row j x hi hj=>(World.cell?_of_block (a:=⟨b,_,none⟩) (g1 (qla (h1 i row j x hi hj)))).trans (h1 i row j x hi hj)) ih
 | ref row off b o val hlt hm h1 _ ih =>
  obtain⟨g1,g2⟩:=hb b hlt.lt hm
  exact .ref row off b o val (by obtain⟨q,q1,q2⟩:=hlt;exact⟨q,(g1 ⟨q,q1,q2⟩).trans q1,q2⟩) g2 (fun j x hj=>(World.cell?_of_block (a:=⟨b,_,none⟩) (g1 (qla (h1 j x hj)))).trans (h1 j x hj)) ih
 | sk rows a l _ ih=>exact .sk rows a l ih
 | fn f caps vs hl _ ih=>exact .fn f caps vs hl ih
theorem RepA.mono {V V':Vw} (g:V.Le V') {x:A} {u:Value} (h:RepA V x u):RepA V' x u:=by
 induction h with
 | c x u h=>exact .c x u (h.mono g.size g.blk)
 | ptr i off b hi hr =>
  refine .ptr i off b (by have:=g.len;omega) fun row h'=>?_
  obtain⟨⟨row0,h1⟩,h2⟩:=g.cell i row hi h'
  exact h2.trans (hr row0 h1)
 | cs i off len b hi hr =>
  refine .cs i off len b (by have:=g.len;omega) fun row h'=>?_
  obtain⟨⟨row0,h1⟩,h2⟩:=g.cell i row hi h'
  exact h2.trans (hr row0 h1)
 | own i ver a l c hi hr =>
  refine .own i ver a l c (by have:=g.len;omega) fun ver' n rows h'=>?_
  obtain⟨v0,n0,r0,h1,h2⟩:=g.arr i ver' n rows hi h'
  obtain⟨h3,h4⟩:=hr v0 n0 r0 h1
  rcases h2 with h2|⟨rfl,rfl,e3,e4,e5⟩
  ·exact⟨by omega,fun e=>by omega⟩
  ·refine⟨h3,fun e=>?_⟩
   obtain⟨k1,b,cs,T,k2,k3,k4,k5,k6⟩:=h4 e
   obtain⟨cs',q1,q2⟩:=e5 b cs T k3 k4
   exact⟨k1.trans e3,b,cs',T,k2,e4.trans k3,q1,q2.trans k5,e3▸k6⟩
 | ep i ver z off b ad hi hr =>
  refine .ep i ver z off b ad (by have:=g.len;omega) fun ver' n rows h'=>?_
  obtain⟨v0,n0,r0,h1,h2⟩:=g.arr i ver' n rows hi h'
  obtain⟨h3,h4⟩:=hr v0 n0 r0 h1
  rcases h2 with h2|⟨rfl,rfl,e3,e4,e5⟩
  ·exact⟨by omega,fun e=>by omega⟩
  ·exact⟨h3,fun e=>⟨e4.trans (h4 e).1,(h4 e).2⟩⟩
 | fn f caps vs hl _ ih=>exact .fn f caps vs hl ih
 | fm f caps vs hl _ ih=>exact .fm f caps vs hl ih
 | mp i b hi hr =>
  refine .mp i b (by have:=g.len;omega) fun k wd es h'=>?_
  obtain⟨⟨k0,w0,e0,h1⟩,h2⟩:=g.map i k wd es hi h'
  exact h2.trans (hr k0 w0 e0 h1)
theorem MRep.mono {V V':Vw} (g:V.Le V') {wd:Bool} {row:List A} {v:Value} (h:MRep V wd row v):MRep V' wd row v:=by
 cases wd with
 | false=>obtain⟨x,h1,h2⟩:=h;exact⟨x,h1,h2.mono g⟩
 | true=>obtain⟨vs,h1,h2,h3⟩:=h;exact⟨vs,h1,h2,fun j x hj=>(h3 j x hj).mono g⟩
theorem RepD.mono {V V':Vw} (g:V.Le V') {d:D} {u:Value} (h:RepD V d u):RepD V' d u:=by
 induction h with
 | junk v=>exact .junk v
 | undef=>exact .undef
 | a x u h=>exact .a x u (h.mono g)
 | r row vs hl h=>exact .r row vs hl fun j x hj=>(h j x hj).mono g
 | t ds vs hl _ ih=>exact .t ds vs hl ih
theorem RepC.one {w:World} {m:Nat→Prop} {x:A} {u:Value} (h:RepC w m x u):u.oneCell'=true:=by
 cases h<;>first|rfl|(rename_i h;revert h;cases u<;>simp [qek,Value.oneCell'])
theorem RepA.one {V:Vw} {x:A} {u:Value} (h:RepA V x u):u.oneCell'=true:=by
 cases h<;>first|rfl|(rename_i h;exact h.one)
def clA:A→Bool
 | .ptr _ _|.own _ _|.ep _ _ _ _|.fn _ (_::_)|.mp _|.cs _ _ _|.fm _ _=>false
 | _=>true
theorem RepA.cl {V:Vw} {x:A} {u:Value} (h:RepA V x u) (hx:clA x=true):RepC V.w V.mut x u:=by
 cases h with
 | c _ _ h=>exact h
 | ptr=>cases hx
 | cs=>cases hx
 | own=>cases hx
 | ep=>cases hx
 | mp=>cases hx
 | fm=>cases hx
 | fn f caps vs hl h =>
  cases caps with
  | nil=>exact .fn f [] vs hl fun i x hx=>by simp at hx
  | cons y l=>cases hx
def clA1:A→Bool
 | .fn _ caps=>caps.all clA
 | x=>clA x
theorem clA1_of {x:A} (h:clA x=true):clA1 x=true:=by
 cases x with
 | fn f caps=>cases caps with
  | nil=>rfl
  | cons=>cases h
 | _=>exact h
theorem RepA.cl1 {V:Vw} {x:A} {u:Value} (h:RepA V x u) (hx:clA1 x=true):RepC V.w V.mut x u:=by
 cases x with
 | fn f caps =>
  cases h with
  | c _ _ h=>exact h
  | fn _ _ vs hl h=>exact .fn f caps vs hl fun i y hi=>(h i y hi).cl (List.all_eq_true.1 hx y (List.mem_of_getElem? hi))
 | _=>exact h.cl hx
structure Ok (V:Vw):Prop where
 len:V.bl.length=V.st.length
 lt:∀(i:Nat) (b:Nat),V.bl[i]? = some b→b<V.w.heap.size
 xlt:∀b,V.x b→b<V.w.heap.size
 gd:∀w':World,V.w.heap.size≤w'.heap.size→(∀b,b<V.w.heap.size→¬b∈V.bl→¬V.x b→isC V.w b→w'.heap[b]? = V.w.heap[b]?)→Gd w'
 isc:∀(i:Nat) (b:Nat),V.bl[i]? = some b→isC V.w b
 inj:∀(i j:Nat) (b:Nat) (y z:Bx),V.bl[i]? = some b→V.bl[j]? = some b→V.st[i]? = some y→V.st[j]? = some z→y.live=true→z.live=true→i=j
 cell:∀(i:Nat) (row:List A) (b:Nat),V.st[i]? = some (.cell row)→V.bl[i]? = some b→∃(cs:Array Value) (T:TypeId),V.w.heap[b]? = some (.cells cs T (0,0))∧cs.size=row.length∧∀(j:Nat) (x:A),row[j]? = some x→RepA V x (cs.getD j Go.undef)
 arr:∀(i ver n:Nat) (rows:List (List A)) (b:Nat),V.st[i]? = some (.arr ver n rows)→V.bl[i]? = some b→∃(cs:Array Value) (T:TypeId) (c:Nat),V.w.heap[b]? = some (.cells cs T (0,0))∧cs.size=c*n∧0<n∧rows.length≤c ∧
  (∀(k:Nat) (row:List A),rows[k]? = some row→row.length=n)∧∀(k:Nat) (row:List A) (j:Nat) (x:A),rows[k]? = some row→row[j]? = some x→RepC V.w V.mut x (cs.getD (k*n+j) Go.undef)
 map:∀(i:Nat) (k:KS) (wd:Bool) (es:List (Value×List A)) (b:Nat),V.st[i]? = some (.map k wd es)→V.bl[i]? = some b→∃ms:Array MapEntry,V.w.heap[b]? = some (.map ms es.length)∧ms.size=es.length ∧
  ∀(j:Nat) (y:Value) (row:List A),es[j]? = some (y,row)→KS.ok k y=true∧∃v,ms[j]? = some ⟨y,v,j⟩∧MRep V wd row v
structure Fr (K:Nat→Prop) (w w':World):Prop where
 os:w'.os=w.os
 tape:w'.tape=w.tape
 output:w'.output=w.output
 size:w.heap.size≤w'.heap.size
 block:∀b,b<w.heap.size→¬K b→w'.heap[b]? = w.heap[b]?
theorem Fr.refl (K:Nat→Prop) (w:World):Fr K w w:=⟨rfl,rfl,rfl,Nat.le_refl _,fun _ _ _=>rfl⟩
theorem Fr.trans {K:Nat→Prop} {a b c:World} (h:Fr K a b) (g:Fr K b c):Fr K a c :=
 ⟨g.os.trans h.os,g.tape.trans h.tape,g.output.trans h.output,Nat.le_trans h.size g.size,fun k hk hn=>(g.block k (by have:=h.size;omega) hn).trans (h.block k hk hn)⟩
def Non:Nat→Prop:=fun _=>False
theorem Fr.grw {w w':World} (h:Fr Non w w'):Grw w w':=.of_below ⟨h.os,h.tape,h.output,h.size,fun k hk=>h.block k hk id⟩
theorem Fr.of_grwK {K:Nat→Prop} {w w':World} (h:Grw w w'):Fr K w w':=⟨h.below.os,h.below.tape,h.below.output,h.below.size,fun k hk _=>h.below.block k hk⟩
def Vw.to (V:Vw) (w:World):Vw:={ V with w:=w }
theorem Vw.le_grw {V:Vw} (hk:Ok V) {w:World} (g:Grw V.w w):V.Le (V.to w) :=
 ⟨Nat.le_refl _,g.below.size,fun b hb hm=>⟨fun _=>g.below.block b hb,hm⟩,fun _ row _ h=>⟨⟨row,h⟩,rfl⟩,
  fun i ver n rows _ h=>⟨ver,n,rows,h,.inr ⟨rfl,rfl,rfl,rfl,fun b cs _ hb hc=>⟨cs,(g.below.block b (hk.lt i b hb)).trans hc,rfl⟩⟩⟩,fun _ k wd es _ h=>⟨⟨k,wd,es,h⟩,rfl⟩⟩
theorem Ok.grw {V:Vw} (h:Ok V) {w:World} (g:Grw V.w w):Ok (V.to w):=by
 have hle:=Vw.le_grw h g
 refine⟨h.len,fun i b hb=>by have:=h.lt i b hb;have:=g.below.size;show b<w.heap.size;omega,fun b hb=>by have:=h.xlt b hb;have:=g.below.size;show b<w.heap.size;omega,fun w' hs hb=>h.gd w' (Nat.le_trans g.below.size hs) (fun b hlt hn hx hc=>(hb b (by have:=g.below.size;show b<w.heap.size;omega) hn hx (by obtain⟨o,h1,h2⟩:=hc;exact⟨o,(g.below.block b hlt).trans h1,h2⟩)).trans (g.below.block b hlt)),fun i b hb=>by obtain⟨o,h1,h2⟩:=h.isc i b hb;exact⟨o,(g.below.block b (h.lt i b hb)).trans h1,h2⟩,h.inj,fun i row b hs hb=>?_,fun i ver n rows b hs hb=>?_,fun i k wd es b hs hb=>?_⟩
 ·obtain⟨cs,T,h1,h2,h3⟩:=h.cell i row b hs hb
  exact⟨cs,T,(g.below.block b (h.lt i b hb)).trans h1,h2,fun j x hj=>(h3 j x hj).mono hle⟩
 ·obtain⟨cs,T,c,h1,h2,h3,h4,h5,h6⟩:=h.arr i ver n rows b hs hb
  exact⟨cs,T,c,(g.below.block b (h.lt i b hb)).trans h1,h2,h3,h4,h5,fun k row j x hk hj=>(h6 k row j x hk hj).mono hle.size hle.blk⟩
 ·obtain⟨ms,h1,h2,h3⟩:=h.map i k wd es b hs hb
  exact⟨ms,(g.below.block b (h.lt i b hb)).trans h1,h2,fun j y row hj=>by obtain⟨q1,v,q2,q3⟩:=h3 j y row hj;exact⟨q1,v,q2,q3.mono hle⟩⟩
end Go.Proofs.YthkojpnjdpbcgaaGreatDoor
