/- A call that is handed one of the caller's own cells and may write it, on plain data. No program in sight. Conditions: none. -/
import Derived.Test.YthkojpnjdpbcgaaGreatDoorMl7
set_option linter.unusedVariables false
set_option maxRecDepth 100000
set_option maxHeartbeats 8000000
set_option linter.unusedSimpArgs false
namespace Go.Proofs.YthkojpnjdpbcgaaGreatDoor
open Go.RowKit
theorem RepC.same {w:World} {m m':Nat→Prop} (hm:∀b,m' b→m b) {x:A} {u:Value} (h:RepC w m x u):RepC w m' x u :=
 h.mono (Nat.le_refl _) fun b _ hb=>⟨fun _=>rfl,fun h=>hb (hm b h)⟩
section
variable {P:Program} {C:Cx P} {ops:Array Oper} {r:List Oper} {e:Nat→D} {st:List Bx} {dst:Option Nat} {ty:TypeId} {pos:String} {after:Array Edge} {K:(Nat→D)→List Bx→Prop}
def WS (C:Cx P) (g:D) (st:List Bx) (e:Nat→D) (o:Oper) (d:D) (st':List Bx):Prop:=o.guard=none∧e 1000000=g∧OpX C st e o fun d1 st1 g1=>d1=d∧st1=st'∧g1=g
end
theorem OpX.congr {P:Program} {C:Cx P} {st:List Bx} {e e':Nat→D} {o:Oper} {O:D→List Bx→D→Prop} (h:OpX C st e o O) (he:∀t,.tmp t∈o.op.operands→e t=e' t) (hg:e 1000000=e' 1000000):OpX C st e' o O:=by
 intro ρ V Nx hst hok hsep hnx henv hu
 refine h ρ V Nx hst hok hsep hnx (by rw [hg];exact henv) fun x hx=>?_
 have hmem:x∈o.op.operands:=by
  cases hop:o.op with
  | pick c p q =>
   rw [hop] at hx
   simp only [qad] at hx
   split at hx<;>simp only [List.mem_cons,List.not_mem_nil,or_false] at hx<;>simp only [Op.operands,List.mem_toArray,List.mem_cons,List.not_mem_nil,or_false]
   ·rcases hx with h|h<;>simp [h]
   ·rcases hx with h|h<;>simp [h]
   ·simp [hx]
  | _=>rw [hop] at hx;simp only [qad] at hx;simpa using hx
 have:=hu x hx
 cases x with
 | tmp t=>show RepD V (e t) _;rw [he t hmem];exact this
 | _=>exact this
def RW1 {P:Program} (C:Cx P) (g:D) (s0 s1 s2:List Bx) (w1 w2 k:Nat) (e:Nat→D) (o:Oper) (d:D):Prop :=
 (k≠w1∧k≠w2∧OpJ P s0 e o d∧OpJ P s1 e o d∧OpJ P s2 e o d)∨(k=w1∧WS C g s0 e o d s1)∨(k=w2∧WS C g s1 e o d s2)
def RW {P:Program} (C:Cx P) (g:D) (s0 s1 s2:List Bx) (w1 w2:Nat):List Oper→Nat→(Nat→D)→((Nat→D)→Prop)→Prop
 | [],_,e,K=>K e
 | o::r,k,e,K=>∃d,RW1 C g s0 s1 s2 w1 w2 k e o d∧RW C g s0 s1 s2 w1 w2 r (k+1) (putE e o.dst d) K
theorem RW.data {P:Program} {C:Cx P} {g:D} {s0 s1 s2:List Bx} {w1 w2:Nat} {K:(Nat→D)→Prop}:∀{l:List Oper} {k0:Nat} {e:Nat→D},RW C g s0 s1 s2 w1 w2 l k0 e K →
  ∃ds:List D,ds.length=l.length∧(∀(k:Nat) (o:Oper),l[k]? = some o→RW1 C g s0 s1 s2 w1 w2 (k0+k) (eat l ds e k) o (ds.getD k .junk))∧K (eat l ds e l.length)
 | [],k0,e,h=>⟨[],rfl,fun k o h=>by simp at h,h⟩
 | o::l,k0,e,h=>by
  obtain⟨d,h1,h2⟩:=h
  obtain⟨ds,h3,h4,h5⟩:=RW.data h2
  refine⟨d::ds,by simp [h3],fun k o' ho=>?_,h5⟩
  cases k with
  | zero =>
   simp only [List.getElem?_cons_zero,Option.some.injEq] at ho
   subst ho;exact h1
  | succ k =>
   have:=h4 k o' (by simpa using ho)
   rw [show k0+1+k=k0+(k+1) by omega] at this
   exact this
section
variable {P:Program} {ops:Array Oper} {n m:Nat} {Q:Exit→Act→World→Prop}
end
section
variable {P:Program} {C:Cx P} {g:D} {s0 s1 s2:List Bx} {w1 w2 k:Nat} {r:List Oper} {e:Nat→D} {o:Oper} {d:D} {K:(Nat→D)→Prop}
end
/-! ### Blocks by other numbers -/
def rnN (σ:List Nat) (i:Nat):Nat:=σ.getD i 0
def rnA (σ:List Nat):A→A
 | .ptr i o=>.ptr (rnN σ i) o
 | .own i v=>.own (rnN σ i) v
 | .ep i v z o=>.ep (rnN σ i) v z o
 | .mp i=>.mp (rnN σ i)
 | .cs i o n=>.cs (rnN σ i) o n
 | .fn f caps=>.fn f (rnL caps)
 | .fm f caps=>.fm f (rnL caps)
 | x=>x
 where rnL:List A→List A
 | []=>[]
 | x::r=>rnA σ x::rnL r
theorem qep (σ:List Nat):∀l:List A,rnA.rnL σ l=l.map (rnA σ)
 | []=>rfl
 | x::r=>by rw [rnA.rnL,qep σ r,List.map_cons]
def rnD (σ:List Nat):D→D
 | .a x=>.a (rnA σ x)
 | .r row=>.r (row.map (rnA σ))
 | .t ds=>.t (rnDs ds)
 | d=>d
 where rnDs:List D→List D
 | []=>[]
 | x::r=>rnD σ x::rnDs r
theorem qja (σ:List Nat):∀l:List D,rnD.rnDs σ l=l.map (rnD σ)
 | []=>rfl
 | x::r=>by rw [rnD.rnDs,qja σ r,List.map_cons]
def rnB (σ:List Nat):Bx→Bx
 | .cell row=>.cell (row.map (rnA σ))
 | .map k wd es=>.map k wd (es.map fun e=>(e.1,e.2.map (rnA σ)))
 | b=>b
theorem qbw (σ:List Nat) (y:Bx):(rnB σ y).live=y.live:=by cases y<;>rfl
theorem rnC {w:World} {m:Nat→Prop} {σ:List Nat} {x:A} {u:Value} (h:RepC w m x u):rnA σ x=x:=by
 induction h with
 | fn f caps vs hl _ ih =>
  rw [rnA,qep]
  congr 1
  conv=>rhs;rw [←List.map_id caps]
  refine List.map_congr_left fun y hy=>?_
  obtain⟨i,hi⟩:=List.getElem?_of_mem hy
  exact ih i y hi
 | _=>rfl
theorem rnC_inv {w:World} {m:Nat→Prop} {σ:List Nat} {x:A} {u:Value} (h:RepC w m x u):∀a,x=rnA σ a→x=a:=by
 induction h with
 | fn f caps vs hl _ ih =>
  intro a ha
  cases a with
  | fn f' caps' =>
   rw [rnA,qep] at ha
   injection ha with h1 h2
   subst h1
   congr 1
   refine List.ext_getElem? fun i=>?_
   have hi:caps[i]? = (caps'[i]?).map (rnA σ):=by rw [h2,List.getElem?_map]
   cases hc:caps'[i]? with
   | none=>rw [hi,hc];rfl
   | some y =>
    rw [hc] at hi
    rw [hi]
    exact congrArg some (ih i (rnA σ y) hi y rfl)
  | _=>cases ha
 | _ =>
  intro a ha
  cases a<;>first|exact ha|(cases ha;done)
theorem RepA.lendM {V U:Vw} {σ:List Nat} (hw:U.w=V.w) (hm:∀b,U.mut b→V.mut b) (hl:σ.length=U.st.length) (hs:∀(j:Nat) (i:Nat),σ[j]? = some i→V.st[i]? = (U.st[j]?).map (rnB σ)) (hb:∀(j:Nat) (i:Nat),σ[j]? = some i→U.bl[j]? = V.bl[i]?)
  {x:A} {u:Value} (h:RepA V x u):∀a,x=rnA σ a→nrA σ.length a=true→RepA U a u:=by
 have at_:∀i,i<σ.length→σ[i]? = some (rnN σ i):=fun i hi=>by
  unfold rnN;rw [List.getD_eq_getElem?_getD,List.getElem?_eq_getElem hi];rfl
 induction h with
 | c x u h =>
  intro a ha _
  have:=rnC_inv h a ha
  subst this
  exact .c _ _ (hw▸h.same hm)
 | ptr i off b hi hr =>
  intro a ha hn
  cases a with
  | ptr j o =>
   rw [rnA] at ha
   injection ha with h1 h2
   subst h1;subst h2
   have hj:j<σ.length:=by simpa [nrA] using hn
   refine .ptr j off b (hl▸hj) fun row h=>?_
   rw [hb j _ (at_ j hj)]
   exact hr (row.map (rnA σ)) (by rw [hs j _ (at_ j hj),h];rfl)
  | _=>cases ha
 | cs i off len b hi hr =>
  intro a ha hn
  cases a with
  | cs j o n =>
   rw [rnA] at ha
   injection ha with h1 h2 h3
   subst h1;subst h2;subst h3
   have hj:j<σ.length:=by simpa [nrA] using hn
   refine .cs j off len b (hl▸hj) fun row h=>?_
   rw [hb j _ (at_ j hj)]
   exact hr (row.map (rnA σ)) (by rw [hs j _ (at_ j hj),h];rfl)
  | _=>cases ha
 | own i ver a l c hi hr =>
  intro a' ha hn
  cases a' with
  | own j v =>
   rw [rnA] at ha
   injection ha with h1 h2
   subst h1;subst h2
   have hj:j<σ.length:=by simpa [nrA] using hn
   refine .own j ver a l c (hl▸hj) fun ver' n rows h=>?_
   rw [hb j _ (at_ j hj),hw]
   exact hr ver' n rows (by rw [hs j _ (at_ j hj),h];rfl)
  | _=>cases ha
 | ep i ver z off b ad hi hr =>
  intro a' ha hn
  cases a' with
  | ep j v z' o =>
   rw [rnA] at ha
   injection ha with h1 h2 h3 h4
   subst h1;subst h2;subst h3;subst h4
   have hj:j<σ.length:=by simpa [nrA] using hn
   refine .ep j ver z off b ad (hl▸hj) fun ver' n rows h=>?_
   rw [hb j _ (at_ j hj)]
   exact hr ver' n rows (by rw [hs j _ (at_ j hj),h];rfl)
  | _=>cases ha
 | mp i b hi hr =>
  intro a' ha hn
  cases a' with
  | mp j =>
   rw [rnA] at ha
   injection ha with h1
   subst h1
   have hj:j<σ.length:=by simpa [nrA] using hn
   refine .mp j b (hl▸hj) fun k wd es h=>?_
   rw [hb j _ (at_ j hj)]
   exact hr k wd _ (by rw [hs j _ (at_ j hj),h];rfl)
  | _=>cases ha
 | fn f caps vs hvl _ ih =>
  intro a ha hn
  cases a with
  | fn f' caps' =>
   rw [rnA,qep] at ha
   injection ha with h1 h2
   subst h1
   refine .fn f caps' vs (by rw [hvl,h2,List.length_map]) fun i y hy=>?_
   have hy2:caps[i]? = some (rnA σ y):=by rw [h2,List.getElem?_map,hy];rfl
   exact ih i _ hy2 y rfl (qeq (by rw [nrA] at hn;exact hn) i y hy)
  | _=>cases ha
 | fm f caps vs hvl _ ih =>
  intro a ha hn
  cases a with
  | fm f' caps' =>
   rw [rnA,qep] at ha
   injection ha with h1 h2
   subst h1
   refine .fm f caps' vs (by rw [hvl,h2,List.length_map]) fun i y hy=>?_
   have hy2:caps[i]? = some (rnA σ y):=by rw [h2,List.getElem?_map,hy];rfl
   exact ih i _ hy2 y rfl (qeq (by rw [nrA] at hn;exact hn) i y hy)
  | _=>cases ha
theorem RepA.giveback {U V:Vw} {σ:List Nat} (hw:V.w=U.w) (hm:∀b,V.mut b→U.mut b) (hl:σ.length=U.st.length) (hlt:∀i,i∈σ→i<V.st.length) (hs:∀(j:Nat) (i:Nat),σ[j]? = some i→V.st[i]? = (U.st[j]?).map (rnB σ)) (hb:∀(j:Nat) (i:Nat) (y:Bx),σ[j]? = some i→U.st[j]? = some y→y.live=true→V.bl[i]? = U.bl[j]?)
  {a:A} {u:Value} (h:RepA U a u):RepA V (rnA σ a) u:=by
 have at_:∀i,i<U.st.length→σ[i]? = some (rnN σ i):=fun i hi=>by
  unfold rnN;rw [List.getD_eq_getElem?_getD,List.getElem?_eq_getElem (by omega)];rfl
 have lt_:∀i,i<U.st.length→rnN σ i<V.st.length:=fun i hi=>hlt _ (lm4 (at_ i hi))
 have back:∀i,i<U.st.length→∀y,V.st[rnN σ i]? = some y→∃y0,U.st[i]? = some y0∧y=rnB σ y0:=fun i hi y hy=>by
  rw [hs i _ (at_ i hi),Option.map_eq_some_iff] at hy
  obtain⟨y0,h1,h2⟩:=hy
  exact⟨y0,h1,h2.symm⟩
 induction h with
 | c x u h=>rw [rnC h];exact .c _ _ (hw▸h.same hm)
 | ptr i off b hi hr =>
  rw [rnA]
  refine .ptr _ off b (lt_ i hi) fun row h=>?_
  obtain⟨y0,h1,h2⟩:=back i hi _ h
  cases y0<;>(first|(cases h2;done)|skip)
  rw [hb i _ _ (at_ i hi) h1 rfl]
  exact hr _ h1
 | cs i off len b hi hr =>
  rw [rnA]
  refine .cs _ off len b (lt_ i hi) fun row h=>?_
  obtain⟨y0,h1,h2⟩:=back i hi _ h
  cases y0<;>(first|(cases h2;done)|skip)
  rw [hb i _ _ (at_ i hi) h1 rfl]
  exact hr _ h1
 | own i ver a l c hi hr =>
  rw [rnA]
  refine .own _ ver a l c (lt_ i hi) fun ver' n rows h=>?_
  obtain⟨y0,h1,h2⟩:=back i hi _ h
  cases y0<;>(first|(cases h2;done)|skip)
  cases h2
  rw [hb i _ _ (at_ i hi) h1 rfl,hw]
  exact hr _ _ _ h1
 | ep i ver z off b ad hi hr =>
  rw [rnA]
  refine .ep _ ver z off b ad (lt_ i hi) fun ver' n rows h=>?_
  obtain⟨y0,h1,h2⟩:=back i hi _ h
  cases y0<;>(first|(cases h2;done)|skip)
  cases h2
  rw [hb i _ _ (at_ i hi) h1 rfl]
  exact hr _ _ _ h1
 | mp i b hi hr =>
  rw [rnA]
  refine .mp _ b (lt_ i hi) fun k wd es h=>?_
  obtain⟨y0,h1,h2⟩:=back i hi _ h
  cases y0<;>(first|(cases h2;done)|skip)
  rw [hb i _ _ (at_ i hi) h1 rfl]
  exact hr _ _ _ h1
 | fn f caps vs hvl _ ih =>
  rw [rnA,qep]
  refine .fn f _ vs (by rw [hvl,List.length_map]) fun i y hy=>?_
  rw [List.getElem?_map,Option.map_eq_some_iff] at hy
  obtain⟨z,h1,rfl⟩:=hy
  exact ih i z h1
 | fm f caps vs hvl _ ih =>
  rw [rnA,qep]
  refine .fm f _ vs (by rw [hvl,List.length_map]) fun i y hy=>?_
  rw [List.getElem?_map,Option.map_eq_some_iff] at hy
  obtain⟨z,h1,rfl⟩:=hy
  exact ih i z h1
theorem RepD.rn {U V:Vw} {σ:List Nat} (hA:∀a u,RepA U a u→RepA V (rnA σ a) u) {d:D} {u:Value} (h:RepD U d u):RepD V (rnD σ d) u:=by
 induction h with
 | junk v=>exact .junk v
 | undef=>exact .undef
 | a x u h=>exact .a _ _ (hA _ _ h)
 | r row vs hl h =>
  refine .r _ vs (by rw [hl,List.length_map]) fun j x hj=>?_
  rw [List.getElem?_map,Option.map_eq_some_iff] at hj
  obtain⟨z,h1,rfl⟩:=hj
  exact hA _ _ (h j z h1)
 | t ds vs hl _ ih =>
  rw [rnD,qja]
  refine .t _ vs (by rw [hl,List.length_map]) fun j d hj=>?_
  rw [List.getElem?_map,Option.map_eq_some_iff] at hj
  obtain⟨z,h1,rfl⟩:=hj
  exact ih j z h1
def nrM (m:Nat):D→Bool
 | .junk|.undef=>true
 | .a x=>nrA m x
 | .r row=>row.all (nrA m)
 | .t ds=>nrMs ds
 where nrMs:List D→Bool
 | []=>true
 | x::r=>nrM m x&&nrMs r
theorem qjg (m:Nat):∀l:List D,nrM.nrMs m l=l.all (nrM m)
 | []=>rfl
 | x::r=>by rw [nrM.nrMs,qjg m r,List.all_cons]
theorem RepD.lendM {V U:Vw} {σ:List Nat} (hA:∀x u,RepA V x u→∀a,x=rnA σ a→nrA σ.length a=true→RepA U a u) {d:D} {u:Value} (h:RepD V d u):∀d',d=rnD σ d'→nrM σ.length d'=true→RepD U d' u:=by
 induction h with
 | junk v=>intro d' h _;cases d'<;>first|exact .junk v|(cases h;done)
 | undef=>intro d' h _;cases d'<;>first|exact .undef|(cases h;done)
 | a x u h =>
  intro d' hd hn
  cases d' with
  | a y=>injection hd with hd;exact .a _ _ (hA _ _ h y hd (by simpa [nrM] using hn))
  | _=>cases hd
 | r row vs hl h =>
  intro d' hd hn
  cases d' with
  | r row' =>
   injection hd with hd
   subst hd
   refine .r _ vs (by rw [hl,List.length_map]) fun j x hj=>?_
   refine hA _ _ (h j (rnA σ x) (by rw [List.getElem?_map,hj];rfl)) x rfl ?_
   rw [nrM,List.all_eq_true] at hn
   exact hn x (lm4 hj)
  | _=>cases hd
 | t ds vs hl _ ih =>
  intro d' hd hn
  cases d' with
  | t ds' =>
   rw [rnD,qja] at hd
   injection hd with hd
   subst hd
   refine .t _ vs (by rw [hl,List.length_map]) fun j x hj=>?_
   rw [nrM,qjg,List.all_eq_true] at hn
   exact ih j (rnD σ x) (by rw [List.getElem?_map,hj];rfl) x rfl (hn x (lm4 hj))
  | _=>cases hd
theorem RepD.dropM {w:World} {x:Nat→Prop} {bl:List Nat} {st ex:List Bx} {d:D} {u:Value} (h:RepD ⟨w,x,bl,st++ex⟩ d u):nrM st.length d=true→RepD ⟨w,x,bl.take st.length,st⟩ d u:=by
 induction h with
 | junk v=>intro _;exact .junk v
 | undef=>intro _;exact .undef
 | a x u h=>intro hn;exact .a _ _ (h.drop (by simpa [nrM] using hn))
 | r row vs hl h =>
  intro hn
  refine .r _ vs hl fun j x hj=>(h j x hj).drop ?_
  rw [nrM,List.all_eq_true] at hn
  exact hn x (lm4 hj)
 | t ds vs hl _ ih =>
  intro hn
  refine .t _ vs hl fun j x hj=>ih j x hj ?_
  rw [nrM,qjg,List.all_eq_true] at hn
  exact hn x (lm4 hj)
/-! ### A row with some places turned, and more behind it -/
def mrg {α:Type}:List Nat→List α→List α→List α
 | [],l,m=>l++m
 | _::_,l,[]=>l
 | i::r,l,x::m=>mrg r (l.set i x) m
theorem qjk {α:Type}:∀(σ:List Nat) (l m:List α),σ.length≤m.length→(mrg σ l m).length=l.length+(m.length-σ.length)
 | [],l,m,_=>by rw [mrg];simp
 | i::r,l,[],h=>by simp at h
 | i::r,l,x::m,h=>by rw [mrg,qjk r _ m (by simpa using h)];simp
theorem qji {α:Type}:∀(σ:List Nat) (l m:List α) (q:Nat),¬q∈σ→q<l.length→σ.length≤m.length→(mrg σ l m)[q]? = l[q]?
 | [],l,m,q,_,hq,_=>by rw [mrg,List.getElem?_append_left hq]
 | i::r,l,[],q,_,_,h=>by simp at h
 | i::r,l,x::m,q,hn,hq,h=>by
  rw [List.mem_cons,not_or] at hn
  rw [mrg,qji r _ m q hn.2 (by simpa using hq) (by simpa using h),List.getElem?_set,if_neg (fun e=>hn.1 e.symm)]
theorem qm9 {α:Type}:∀(σ:List Nat) (l m:List α) (j q:Nat),σ.Nodup→(∀i,i∈σ→i<l.length)→σ.length≤m.length→σ[j]? = some q→(mrg σ l m)[q]? = m[j]?
 | [],l,m,j,q,_,_,_,h=>by simp at h
 | i::r,l,[],j,q,_,_,h,_=>by simp at h
 | i::r,l,x::m,j,q,hd,hlt,h,hj=>by
  rw [List.nodup_cons] at hd
  rw [mrg]
  cases j with
  | zero =>
   simp at hj;subst hj
   rw [qji r _ m i hd.1 (by simpa using hlt i (by simp)) (by simpa using h),List.getElem?_set,if_pos rfl]
   simp [hlt i (by simp)]
  | succ j =>
   rw [List.getElem?_cons_succ] at hj
   rw [qm9 r _ m j q hd.2 (fun k hk=>by simpa using hlt k (by simp [hk])) (by simpa using h) hj,List.getElem?_cons_succ]
theorem qjj {α:Type}:∀(σ:List Nat) (l m:List α) (j:Nat),σ.length≤m.length→σ.length≤j→(mrg σ l m)[l.length+(j-σ.length)]? = m[j]?
 | [],l,m,j,_,_=>by rw [mrg,List.getElem?_append_right (by omega)];congr 1;simp
 | i::r,l,[],j,h,_=>by simp at h
 | i::r,l,x::m,0,_,h=>by simp at h
 | i::r,l,x::m,j+1,h,hj=>by
  have:=qjj r (l.set i x) m j (by simpa using h) (by simpa using hj)
  rw [mrg,List.getElem?_cons_succ,←this]
  congr 1;simp
def rnX (σ:List Nat) (k n:Nat):List Nat:=σ++List.range' k n
/-! ### Views -/
def lb (V:Vw) (σ:List Nat):List Nat:=σ.map fun i=>V.bl.getD i 0
def qes (V:Vw) (σ:List Nat) (st0:List Bx):Vw:=⟨V.w,fun c=>V.x c∨(V.mine c∧¬c∈lb V σ),lb V σ,st0⟩
structure LOk (st:List Bx) (σ:List Nat) (st0:List Bx):Prop where
 nd:σ.Nodup
 len:σ.length=st0.length
 at_:∀(j i:Nat),σ[j]? = some i→st[i]? = (st0[j]?).map (rnB σ)
 live:∀(j:Nat) (y:Bx),st0[j]? = some y→y.live=true
 nr:nrS σ.length st0=true
section
variable {V:Vw} {σ:List Nat} {st0:List Bx}
theorem LOk.get (h:LOk V.st σ st0) {j i:Nat} (hj:σ[j]? = some i):∃y,st0[j]? = some y∧V.st[i]? = some (rnB σ y)∧y.live=true:=by
 have hlt:=(List.getElem?_eq_some_iff.1 hj).1
 obtain⟨y,hy⟩:∃y,st0[j]? = some y:=⟨_,List.getElem?_eq_getElem (by rw [←h.len];exact hlt)⟩
 exact⟨y,hy,by rw [h.at_ j i hj,hy];rfl,h.live j y hy⟩
theorem LOk.lt (h:LOk V.st σ st0) {i:Nat} (hi:i∈σ):i<V.st.length:=by
 obtain⟨j,hj⟩:=List.getElem?_of_mem hi
 obtain⟨y,_,h2,_⟩:=h.get hj
 exact (List.getElem?_eq_some_iff.1 h2).1
theorem qjp (hok:Ok V) (h:LOk V.st σ st0) {j i:Nat} (hj:σ[j]? = some i):(lb V σ)[j]? = V.bl[i]?:=by
 have hi:=h.lt (lm4 hj)
 rw [lb,List.getElem?_map,hj,Option.map_some,List.getD_eq_getElem?_getD,List.getElem?_eq_getElem (by rw [hok.len];exact hi)];rfl
theorem qb3 {j b:Nat} (hok:Ok V) (h:LOk V.st σ st0) (hb:(lb V σ)[j]? = some b):∃i,σ[j]? = some i∧V.bl[i]? = some b:=by
 have hlt:=(List.getElem?_eq_some_iff.1 hb).1
 rw [lb,List.length_map] at hlt
 obtain⟨i,hi⟩:∃i,σ[j]? = some i:=⟨_,List.getElem?_eq_getElem hlt⟩
 exact⟨i,hi,by rw [←qjp hok h hi];exact hb⟩
theorem qb0 (hok:Ok V) (h:LOk V.st σ st0) {b:Nat} (hb:b∈lb V σ):V.mine b:=by
 obtain⟨j,hj⟩:=List.getElem?_of_mem hb
 obtain⟨i,h1,h2⟩:=qb3 hok h hj
 obtain⟨y,_,h4,h5⟩:=h.get h1
 exact⟨i,_,h2,h4,by rw [qbw];exact h5⟩
theorem qkz (hok:Ok V) (h:LOk V.st σ st0) {b:Nat}:(qes V σ st0).mine b↔b∈lb V σ:=by
 constructor
 ·rintro⟨j,y,h1,_,_⟩;exact lm4 h1
 ·intro hb
  obtain⟨j,hj⟩:=List.getElem?_of_mem hb
  obtain⟨i,h1,h2⟩:=qb3 hok h hj
  obtain⟨y,h3,_,h5⟩:=h.get h1
  exact⟨j,y,hj,h3,h5⟩
theorem qjn (hok:Ok V) (h:LOk V.st σ st0) (b:Nat):(qes V σ st0).mut b↔V.mut b:=by
 constructor
 ·rintro (h1|h1)
  ·exact h1.imp id fun h=>h.1
  ·exact .inr (qb0 hok h ((qkz hok h).1 h1))
 ·rintro (h1|h1)
  ·exact .inl (.inl h1)
  ·by_cases hb:b∈lb V σ
   ·exact .inr ((qkz hok h).2 hb)
   ·exact .inl (.inr ⟨h1,hb⟩)
theorem MRep.lendM {U:Vw} (hA:∀x u,RepA V x u→∀a,x=rnA σ a→nrA σ.length a=true→RepA U a u) {wd:Bool} {row:List A} {v:Value} (h:MRep V wd (row.map (rnA σ)) v) (hn:row.all (nrA σ.length)=true):MRep U wd row v:=by
 rw [List.all_eq_true] at hn
 cases wd with
 | false =>
  obtain⟨x,h1,h2⟩:=h
  match row,h1 with
  | [y],h1 =>
   simp at h1
   exact⟨y,rfl,hA x v h2 y h1.symm (hn y (by simp))⟩
 | true =>
  obtain⟨vs,h1,h2,h3⟩:=h
  refine⟨vs,h1,by rw [h2,List.length_map],fun j x hj=>?_⟩
  exact hA _ _ (h3 j (rnA σ x) (by rw [List.getElem?_map,hj];rfl)) x rfl (hn x (lm4 hj))
theorem MRep.rn {U:Vw} (hA:∀a u,RepA U a u→RepA V (rnA σ a) u) {wd:Bool} {row:List A} {v:Value} (h:MRep U wd row v):MRep V wd (row.map (rnA σ)) v:=by
 cases wd with
 | false=>obtain⟨x,h1,h2⟩:=h;subst h1;exact⟨_,rfl,hA _ _ h2⟩
 | true =>
  obtain⟨vs,h1,h2,h3⟩:=h
  refine⟨vs,h1,by rw [h2,List.length_map],fun j x hj=>?_⟩
  rw [List.getElem?_map,Option.map_eq_some_iff] at hj
  obtain⟨z,k1,rfl⟩:=hj
  exact hA _ _ (h3 j z k1)
theorem qjm (hok:Ok V) (h:LOk V.st σ st0):∀x u,RepA V x u→∀a,x=rnA σ a→nrA σ.length a=true→RepA (qes V σ st0) a u :=
 fun _ _ hx=>RepA.lendM (V:=V) (U:=qes V σ st0) rfl (fun b=>(qjn hok h b).1) h.len (fun j i hj=>h.at_ j i hj) (fun _ _ hj=>qjp hok h hj) hx
theorem lend_ok (hok:Ok V) (h:LOk V.st σ st0):Ok (qes V σ st0):=by
 have hA:=qjm hok h
 have hC:∀x u,RepC V.w V.mut x u→RepC (qes V σ st0).w (qes V σ st0).mut x u:=fun x u hx=>hx.same fun b hb=>(qjn hok h b).1 hb
 refine⟨by show (lb V σ).length=st0.length;rw [lb,List.length_map,h.len],fun j b hb=>?_,fun b hb=>?_,fun w' hs hw=>hok.gd w' hs fun c hlt h1 h2 hic=>hw c hlt (fun hc=>h1 (Vw.mine_mem (qb0 hok h hc))) (fun hc=>hc.elim h2 fun hc=>h1 (Vw.mine_mem hc.1)) hic,fun j b hb=>?_,fun i j b y z h1 h2 h3 h4 h5 h6=>?_,fun i row b h1 h2=>?_,fun i ver n rows b h1 h2=>?_,fun i k wd es b h1 h2=>?_⟩
 ·obtain⟨i,_,h2⟩:=qb3 hok h hb;exact hok.lt i b h2
 ·rcases hb with hb|hb
  ·exact hok.xlt b hb
  ·obtain⟨j,y,h1,_⟩:=hb.1;exact hok.lt j b h1
 ·obtain⟨i,_,h2⟩:=qb3 hok h hb;exact hok.isc i b h2
 ·obtain⟨p,p1,p2⟩:=qb3 hok h h1
  obtain⟨q,q1,q2⟩:=qb3 hok h h2
  obtain⟨y',_,p4,p5⟩:=h.get p1
  obtain⟨z',_,q4,q5⟩:=h.get q1
  have hpq:=hok.inj p q b _ _ p2 q2 p4 q4 (by rw [qbw];exact p5) (by rw [qbw];exact q5)
  subst hpq
  exact (List.getElem?_inj (List.getElem?_eq_some_iff.1 p1).1 h.nd).1 (p1.trans q1.symm)
 ·obtain⟨p,p1,p2⟩:=qb3 hok h h2
  have hp:V.st[p]? = some (.cell (row.map (rnA σ))):=by rw [h.at_ i p p1];have h1:st0[i]? = some (.cell row):=h1;rw [h1];rfl
  obtain⟨cs,T,k1,k2,k3⟩:=hok.cell p _ b hp p2
  have hn:=qee h.nr h1
  rw [List.all_eq_true] at hn
  exact⟨cs,T,k1,by rw [k2,List.length_map],fun j x hj=>hA _ _ (k3 j (rnA σ x) (by rw [List.getElem?_map,hj];rfl)) x rfl (hn x (lm4 hj))⟩
 ·obtain⟨p,p1,p2⟩:=qb3 hok h h2
  have hp:V.st[p]? = some (.arr ver n rows):=by rw [h.at_ i p p1];have h1:st0[i]? = some (.arr ver n rows):=h1;rw [h1];rfl
  obtain⟨cs,T,c,k1,k2,k3,k4,k5,k6⟩:=hok.arr p ver n rows b hp p2
  exact⟨cs,T,c,k1,k2,k3,k4,k5,fun k row j x hk hj=>hC _ _ (k6 k row j x hk hj)⟩
 ·obtain⟨p,p1,p2⟩:=qb3 hok h h2
  have hp:V.st[p]? = some (.map k wd (es.map fun e=>(e.1,e.2.map (rnA σ)))):=by rw [h.at_ i p p1];have h1:st0[i]? = some (.map k wd es):=h1;rw [h1];rfl
  obtain⟨ms,k1,k2,k3⟩:=hok.map p k wd _ b hp p2
  rw [List.length_map] at k1 k2
  have hn:=qfp h.nr h1
  rw [List.all_eq_true] at hn
  refine⟨ms,k1,k2,fun j y row hj=>?_⟩
  obtain⟨q1,v,q2,q3⟩:=k3 j y (row.map (rnA σ)) (by rw [List.getElem?_map,hj];rfl)
  exact⟨q1,v,q2,q3.lendM hA (hn _ (lm4 hj))⟩
end
/-! ### Back -/
theorem zipLive {b0:Nat} {st:List Bx} {bl:List Nat} {q b:Nat} (h:(List.zipWith (fun (y:Bx) (b:Nat)=>if y.live=true then b else b0) st bl)[q]? = some b):∃y b1,st[q]? = some y∧bl[q]? = some b1∧((y.live=true∧b=b1)∨(y.live=false∧b=b0)):=by
 rw [List.getElem?_zipWith] at h
 cases hs:st[q]? with
 | none=>rw [hs] at h;simp at h
 | some y =>
  cases hb:bl[q]? with
  | none=>rw [hs,hb] at h;simp at h
  | some b1 =>
   rw [hs,hb] at h
   simp only [Option.some.injEq] at h
   refine⟨y,b1,rfl,rfl,?_⟩
   cases hl:y.live
   ·rw [hl,if_neg (by simp)] at h;exact .inr ⟨rfl,h.symm⟩
   ·rw [hl,if_pos rfl] at h;exact .inl ⟨rfl,h.symm⟩
theorem qns {b0:Nat} {st:List Bx} {bl:List Nat} {q:Nat} {y:Bx} (h1:st[q]? = some y) (hl:y.live=true) (hlen:bl.length=st.length):(List.zipWith (fun (y:Bx) (b:Nat)=>if y.live=true then b else b0) st bl)[q]? = bl[q]?:=by
 rw [List.getElem?_zipWith,h1]
 cases hb:bl[q]? with
 | none=>rfl
 | some b=>simp [hl]
theorem rnX_len {σ:List Nat} {k n:Nat}:(rnX σ k n).length=σ.length+n:=by simp [rnX]
theorem rnX_at {σ:List Nat} {k n j q:Nat} (h:(rnX σ k n)[j]? = some q):σ[j]? = some q∨(σ.length≤j∧j<σ.length+n∧q=k+(j-σ.length)):=by
 unfold rnX at h
 rw [List.getElem?_append] at h
 split at h
 ·exact .inl h
 ·rename_i hj
  right
  have:=(List.getElem?_eq_some_iff.1 h).1
  simp at this
  refine⟨by omega,by omega,?_⟩
  have hlt:j-σ.length<n:=by omega
  rw [List.getElem?_range' hlt] at h
  injection h with h;omega
theorem rnX_nd {σ:List Nat} {k n:Nat} (hd:σ.Nodup) (hlt:∀i,i∈σ→i<k):(rnX σ k n).Nodup:=by
 unfold rnX
 rw [List.nodup_append]
 refine⟨hd,List.nodup_range',fun a ha b hb=>?_⟩
 have:=hlt a ha
 rw [List.mem_range'] at hb
 obtain⟨i,_,hi⟩:=hb
 omega
theorem rnX_out {σ:List Nat} {k n q:Nat} (h:¬q∈rnX σ k n) (hq:q<k+n):¬q∈σ∧q<k:=by
 unfold rnX at h
 rw [List.mem_append,not_or,List.mem_range'] at h
 refine⟨h.1,Nat.lt_of_not_le fun hk=>h.2 ⟨q-k,by omega,by omega⟩⟩
def backV (V:Vw) (σ:List Nat) (w':World) (bl1:List Nat) (st1:List Bx):Vw :=
 let st':=mrg σ V.st (st1.map (rnB (rnX σ V.st.length (st1.length-σ.length))))
 ⟨w',V.x,List.zipWith (fun (y:Bx) (b:Nat)=>if y.live=true then b else bl1.getD 0 0) st' (mrg σ V.bl bl1),st'⟩
theorem lend_back {V:Vw} (hok:Ok V) {σ:List Nat} {st0:List Bx} (h:LOk V.st σ st0) {on:Prop} {Nx:Nat→Prop} {w':World} {x':Nat→Prop} {bl1:List Nat} {st1:List Bx} (hne:0<st1.length) (hX:qbj True (qes V σ st0).x (qes V σ st0) ⟨w',x',bl1,st1⟩) :
  qbj on Nx V (backV V σ w' bl1 st1)∧(∀a u,RepA ⟨w',x',bl1,st1⟩ a u→RepA (backV V σ w' bl1 st1) (rnA (rnX σ V.st.length (st1.length-σ.length)) a) u)∧Fr V.mine V.w w'∧(∀b,(backV V σ w' bl1 st1).mine b→V.mine b∨V.w.heap.size≤b):=by
 have hl1:st0.length≤st1.length:=hX.le.len
 have hb1:bl1.length=st1.length:=hX.ok.len
 have hσ1:σ.length≤st1.length:=by rw [h.len];exact hl1
 have hsz:V.w.heap.size≤w'.heap.size:=hX.fr.size
 generalize hs':rnX σ V.st.length (st1.length-σ.length)=τ
 have hτl:τ.length=st1.length:=by rw [←hs',rnX_len];omega
 have hτd:τ.Nodup:=by rw [←hs'];exact rnX_nd h.nd fun i hi=>h.lt hi
 generalize hS:mrg σ V.st (st1.map (rnB τ))=qS
 generalize hB:mrg σ V.bl bl1=B
 have hSl:qS.length=V.st.length+(st1.length-σ.length):=by rw [←hS,qjk _ _ _ (by rw [List.length_map];exact hσ1),List.length_map]
 have hBl:B.length=qS.length:=by rw [←hB,qjk _ _ _ (by omega),hSl,hok.len,hb1]
 have inS:∀j q,τ[j]? = some q→qS[q]? = (st1[j]?).map (rnB τ):=fun j q hj=>by
  rw [←hS]
  rw [←hs'] at hj
  rcases rnX_at hj with h1|⟨h1,h2,h3⟩
  ·rw [qm9 σ V.st _ j q h.nd (fun i hi=>h.lt hi) (by rw [List.length_map];exact hσ1) h1,List.getElem?_map]
  ·rw [h3,qjj σ V.st _ j (by rw [List.length_map];exact hσ1) h1,List.getElem?_map]
 have inB:∀j q,τ[j]? = some q→B[q]? = bl1[j]?:=fun j q hj=>by
  rw [←hB]
  rw [←hs'] at hj
  rcases rnX_at hj with h1|⟨h1,h2,h3⟩
  ·exact qm9 σ V.bl _ j q h.nd (fun i hi=>by rw [hok.len];exact h.lt hi) (by omega) h1
  ·rw [h3,←hok.len,qjj σ V.bl _ j (by omega) h1]
 have outS:∀q,¬q∈τ→q<qS.length→¬q∈σ∧q<V.st.length∧qS[q]? = V.st[q]?∧B[q]? = V.bl[q]?:=fun q hq hlt=>by
  rw [←hs'] at hq
  obtain⟨h1,h2⟩:=rnX_out hq (by omega)
  exact⟨h1,h2,by rw [←hS,qji _ _ _ _ h1 h2 (by rw [List.length_map];exact hσ1)],by rw [←hB,qji _ _ _ _ h1 (by rw [hok.len];exact h2) (by omega)]⟩
 have cls:∀q y,qS[q]? = some y→(∃j y0,τ[j]? = some q∧st1[j]? = some y0∧y=rnB τ y0)∨(¬q∈σ∧¬q∈τ∧q<V.st.length∧V.st[q]? = some y):=fun q y hy=>by
  by_cases hq:q∈τ
  ·obtain⟨j,hj⟩:=List.getElem?_of_mem hq
   have:=inS j q hj
   rw [hy] at this
   obtain⟨y0,k1,k2⟩:=Option.map_eq_some_iff.1 this.symm
   exact .inl ⟨j,y0,hj,k1,k2.symm⟩
  ·obtain⟨h1,h2,h3,_⟩:=outS q hq (List.getElem?_eq_some_iff.1 hy).1
   exact .inr ⟨h1,hq,h2,by rw [←h3];exact hy⟩
 have hbv:backV V σ w' bl1 st1=⟨w',V.x,List.zipWith (fun (y:Bx) (b:Nat)=>if y.live=true then b else bl1.getD 0 0) qS B,qS⟩:=by
  unfold backV;rw [hs'];dsimp only;rw [hS,hB]
 rw [hbv]
 generalize hZ:List.zipWith (fun (y:Bx) (b:Nat)=>if y.live=true then b else bl1.getD 0 0) qS B=qZ
 have hZl:qZ.length=qS.length:=by rw [←hZ,List.length_zipWith,hBl,Nat.min_self]
 have zin:∀(q:Nat) (y:Bx),qS[q]? = some y→y.live=true→qZ[q]? = B[q]?:=fun q y h1 h2=>by rw [←hZ];exact qns h1 h2 hBl
 have zout:∀(q b:Nat),qZ[q]? = some b→∃(y:Bx) (b1:Nat),qS[q]? = some y∧B[q]? = some b1∧((y.live=true∧b=b1)∨(y.live=false∧b=bl1.getD 0 0)):=fun q b hq=>by rw [←hZ] at hq;exact zipLive hq
 have hb00:bl1[0]? = some (bl1.getD 0 0):=by rw [List.getD_eq_getElem?_getD,List.getElem?_eq_getElem (by omega)];rfl
 have same:∀c,c<V.w.heap.size→¬c∈lb V σ→w'.heap[c]? = V.w.heap[c]?:=fun c hc hn=>hX.fr.block c hc fun h'=>by
  rcases h' with h'|⟨_,h1,h2⟩
  ·exact hn h'
  ·exact h2 h1
 have frm:Fr V.mine V.w w':=⟨hX.fr.os,hX.fr.tape,hX.fr.output,hsz,fun b hb hn=>same b hb fun hb'=>hn (qb0 hok h hb')⟩
 have new1:∀b,b∈bl1→b∈lb V σ∨V.w.heap.size≤b:=fun b hb=>hX.new b hb
 -- one of the caller's own that was not lent
 have other:∀(q b:Nat) (y:Bx),¬q∈σ→V.st[q]? = some y→y.live=true→V.bl[q]? = some b→¬b∈lb V σ:=fun q b y hq hy hl hb hb'=>by
  obtain⟨j,hj⟩:=List.getElem?_of_mem hb'
  obtain⟨i,k1,k2⟩:=qb3 hok h hj
  obtain⟨z,_,k4,k5⟩:=h.get k1
  have:=hok.inj q i b _ _ hb k2 hy k4 hl (by rw [qbw];exact k5)
  subst this
  exact hq (lm4 k1)
 have mineB:∀b,(⟨w',V.x,qZ,qS⟩:Vw).mine b→(⟨w',x',bl1,st1⟩:Vw).mine b∨(V.mine b∧¬b∈lb V σ):=by
  rintro b ⟨q,y,h1,h2,h3⟩
  have h2:qS[q]? = some y:=h2
  have h1:qZ[q]? = some b:=h1
  rw [zin q y h2 h3] at h1
  rcases cls q y h2 with ⟨j,y0,k1,k2,rfl⟩|⟨k1,k2,k3,k4⟩
  ·rw [inB j q k1] at h1
   exact .inl ⟨j,y0,h1,k2,by rw [qbw] at h3;exact h3⟩
  ·obtain⟨_,_,_,k5⟩:=outS q k2 (List.getElem?_eq_some_iff.1 h2).1
   rw [k5] at h1
   exact .inr ⟨⟨q,y,h1,k4,h3⟩,other q b y k1 k4 h3 h1⟩
 have mutB:∀b,(⟨w',V.x,qZ,qS⟩:Vw).mut b→(⟨w',x',bl1,st1⟩:Vw).mut b:=fun b hb=>by
  rcases hb with hb|hb
  ·exact .inl (hX.xs b (.inl hb))
  ·rcases mineB b hb with h1|h1
   ·exact .inr h1
   ·exact .inl (hX.xs b (.inr h1))
 have back:∀a u,RepA ⟨w',x',bl1,st1⟩ a u→RepA ⟨w',V.x,qZ,qS⟩ (rnA τ a) u:=fun a u ha =>
  RepA.giveback (U:=⟨w',x',bl1,st1⟩) (V:=⟨w',V.x,qZ,qS⟩) rfl mutB hτl (fun i hi=>by
   obtain⟨j,hj⟩:=List.getElem?_of_mem hi
   have:=inS j i hj
   show i<qS.length
   rw [List.getElem?_eq_getElem (show j<st1.length by rw [←hτl];exact (List.getElem?_eq_some_iff.1 hj).1)] at this
   exact (List.getElem?_eq_some_iff.1 this).1) (fun j i hj=>inS j i hj) (fun j i (y:Bx) hj hy (hl:y.live=true)=>by
    have hyS:qS[i]? = some (rnB τ y):=by rw [inS j i hj,hy];rfl
    show qZ[i]? = bl1[j]?
    rw [zin i _ hyS (by rw [qbw];exact hl),inB j i hj]) ha
 have backC:∀x u,RepC w' (⟨w',x',bl1,st1⟩:Vw).mut x u→RepC w' (⟨w',V.x,qZ,qS⟩:Vw).mut x u:=fun x u hx=>hx.same mutB
 have low:∀j q,τ[j]? = some q→q<V.st.length→σ[j]? = some q:=fun j q hj hq=>by
  rw [←hs'] at hj
  rcases rnX_at hj with h1|⟨h1,h2,h3⟩
  ·exact h1
  ·omega
 have hle:V.Le ⟨w',V.x,qZ,qS⟩:=by
  refine⟨by show V.st.length≤qS.length;omega,hsz,fun b hb hm=>?_,fun i row hi hr=>?_,fun i ver n rows hi hr=>?_,fun i k wd es hi hr=>?_⟩
  ·have hmu:¬(qes V σ st0).mut b:=fun hb'=>hm ((qjn hok h b).1 hb')
   obtain⟨h1,h2⟩:=hX.le.blk b hb hmu
   exact⟨h1,fun hb'=>h2 (mutB b hb')⟩
  ·have hr:qS[i]? = some (.cell row):=hr
   rcases cls i _ hr with ⟨j,y0,k1,k2,k3⟩|⟨k1,k2,k3,k4⟩
   ·cases y0<;>(first|(cases k3;done)|skip)
    rename_i r0
    have hj:=low j i k1 hi
    obtain⟨⟨row0,q1⟩,q2⟩:=hX.le.cell j r0 (by show j<st0.length;rw [←h.len];exact (List.getElem?_eq_some_iff.1 hj).1) k2
    have q1:st0[j]? = some (.cell row0):=q1
    refine⟨⟨row0.map (rnA σ),by rw [h.at_ j i hj,q1];rfl⟩,?_⟩
    show qZ[i]? = V.bl[i]?
    rw [zin i _ hr rfl,inB j i k1,←qjp hok h hj]
    exact q2
   ·refine⟨⟨row,k4⟩,?_⟩
    show qZ[i]? = V.bl[i]?
    rw [zin i _ hr rfl]
    exact (outS i k2 (List.getElem?_eq_some_iff.1 hr).1).2.2.2
  ·have hr:qS[i]? = some (.arr ver n rows):=hr
   rcases cls i _ hr with ⟨j,y0,k1,k2,k3⟩|⟨k1,k2,k3,k4⟩
   ·cases y0<;>(first|(cases k3;done)|skip)
    cases k3
    have hj:=low j i k1 hi
    obtain⟨v0,n0,r0,q1,q2⟩:=hX.le.arr j ver n rows (by show j<st0.length;rw [←h.len];exact (List.getElem?_eq_some_iff.1 hj).1) k2
    have q1:st0[j]? = some (.arr v0 n0 r0):=q1
    refine⟨v0,n0,r0,by rw [h.at_ j i hj,q1];rfl,q2.imp id fun ⟨e1,e2,e3,e4,e5⟩=>⟨e1,e2,e3,?_,fun b cs T hb hc=>?_⟩⟩
    ·show qZ[i]? = V.bl[i]?
     rw [zin i _ hr rfl,inB j i k1,←qjp hok h hj]
     exact e4
    ·exact e5 b cs T (show (lb V σ)[j]? = some b by rw [qjp hok h hj];exact hb) hc
   ·have hlen:=(List.getElem?_eq_some_iff.1 hr).1
    refine⟨ver,n,rows,k4,.inr ⟨rfl,rfl,rfl,?_,fun b cs T hb hc=>⟨cs,(same b (hok.lt i b hb) (other i b _ k1 k4 rfl hb)).trans hc,rfl⟩⟩⟩
    show qZ[i]? = V.bl[i]?
    rw [zin i _ hr rfl]
    exact (outS i k2 hlen).2.2.2
  ·have hr:qS[i]? = some (.map k wd es):=hr
   rcases cls i _ hr with ⟨j,y0,k1,k2,k3⟩|⟨k1,k2,k3,k4⟩
   ·cases y0<;>(first|(cases k3;done)|skip)
    rename_i k' wd' es'
    have hj:=low j i k1 hi
    obtain⟨⟨k0,w0,e0,q1⟩,q2⟩:=hX.le.map j k' wd' es' (by show j<st0.length;rw [←h.len];exact (List.getElem?_eq_some_iff.1 hj).1) k2
    have q1:st0[j]? = some (.map k0 w0 e0):=q1
    refine⟨⟨k0,w0,e0.map fun e=>(e.1,e.2.map (rnA σ)),by rw [h.at_ j i hj,q1];rfl⟩,?_⟩
    show qZ[i]? = V.bl[i]?
    rw [zin i _ hr rfl,inB j i k1,←qjp hok h hj]
    exact q2
   ·refine⟨⟨k,wd,es,k4⟩,?_⟩
    show qZ[i]? = V.bl[i]?
    rw [zin i _ hr rfl]
    exact (outS i k2 (List.getElem?_eq_some_iff.1 hr).1).2.2.2
 have zall:∀q b,qZ[q]? = some b→b∈bl1∨(V.bl[q]? = some b∧∃y:Bx,V.st[q]? = some y∧y.live=true∧¬b∈lb V σ):=fun q b hq=>by
  obtain⟨y,b1,h1,h2,h3⟩:=zout q b hq
  rcases h3 with ⟨h3,rfl⟩|⟨_,rfl⟩
  ·rcases cls q y h1 with ⟨j,y0,k1,k2,k3⟩|⟨k1,k2,k3,k4⟩
   ·rw [inB j q k1] at h2;exact .inl (lm4 h2)
   ·rw [(outS q k2 (List.getElem?_eq_some_iff.1 h1).1).2.2.2] at h2
    exact .inr ⟨h2,y,k4,h3,other q b y k1 k4 h3 h2⟩
  ·exact .inl (lm4 hb00)
 have hOk:Ok ⟨w',V.x,qZ,qS⟩:=by
  refine⟨hZl,fun i b hb=>?_,fun b hb=>Nat.lt_of_lt_of_le (hok.xlt b hb) hsz,fun w'' hs hw=>hok.gd w'' (Nat.le_trans hsz hs) fun c hlt h1 h2 hic=>?_,fun i b hb=>?_,fun i j b y z h1 h2 h3 h4 h5 h6=>?_,fun i row b h1 h2=>?_,fun i ver n rows b h1 h2=>?_,fun i k wd es b h1 h2=>?_⟩
  ·rcases zall i b hb with h1|⟨h1,_⟩
   ·obtain⟨j,hj⟩:=List.getElem?_of_mem h1;exact hX.ok.lt j b hj
   ·exact Nat.lt_of_lt_of_le (hok.lt i b h1) hsz
  ·have hc:¬c∈lb V σ:=fun hc=>h1 (Vw.mine_mem (qb0 hok h hc))
   have hs2:=same c hlt hc
   obtain⟨q,q1,q2⟩:=hic
   refine (hw c (Nat.lt_of_lt_of_le hlt hsz) (fun hz=>?_) h2 ⟨q,hs2.trans q1,q2⟩).trans hs2
   obtain⟨i,hi⟩:=List.getElem?_of_mem hz
   rcases zall i c hi with k1|⟨k1,_⟩
   ·rcases new1 c k1 with k2|k2
    ·exact hc k2
    ·omega
   ·exact h1 (lm4 k1)
  ·rcases zall i b hb with h1|⟨h1,y,_,_,h4⟩
   ·obtain⟨j,hj⟩:=List.getElem?_of_mem h1;exact hX.ok.isc j b hj
   ·obtain⟨q,q1,q2⟩:=hok.isc i b h1
    exact⟨q,(same b (hok.lt i b h1) h4).trans q1,q2⟩
  ·have h3:qS[i]? = some y:=h3
   have h4:qS[j]? = some z:=h4
   have h1:qZ[i]? = some b:=h1
   have h2:qZ[j]? = some b:=h2
   rw [zin i y h3 h5] at h1
   rw [zin j z h4 h6] at h2
   have mix:∀(i j:Nat) (y z:Bx),qS[i]? = some y→qS[j]? = some z→B[i]? = some b→B[j]? = some b→y.live=true→z.live=true→(∃p:Nat,τ[p]? = some i)→¬j∈τ→False:=fun i j y z h3 h4 h1 h2 h5 h6 ⟨p,hp⟩ hj=>by
    obtain⟨k1,k2,k3,k4⟩:=outS j hj (List.getElem?_eq_some_iff.1 h4).1
    rw [k3] at h4;rw [k4] at h2
    rw [inB p i hp] at h1
    have hno:=other j b z k1 h4 h6 h2
    rcases new1 b (lm4 h1) with k5|k5
    ·exact hno k5
    ·have:=hok.lt j b h2;omega
   by_cases hi:i∈τ
   ·obtain⟨p,hp⟩:=List.getElem?_of_mem hi
    by_cases hj:j∈τ
    ·obtain⟨q,hq⟩:=List.getElem?_of_mem hj
     have e1:=inS p i hp
     have e2:=inS q j hq
     rw [h3] at e1;rw [h4] at e2
     obtain⟨y0,f1,f2⟩:=Option.map_eq_some_iff.1 e1.symm
     obtain⟨z0,g1,g2⟩:=Option.map_eq_some_iff.1 e2.symm
     rw [inB p i hp] at h1;rw [inB q j hq] at h2
     have hpq:=hX.ok.inj p q b y0 z0 h1 h2 f1 g1 (by rw [←qbw τ,f2];exact h5) (by rw [←qbw τ,g2];exact h6)
     subst hpq
     rw [hp] at hq;injection hq
    ·exact (mix i j y z h3 h4 h1 h2 h5 h6 ⟨p,hp⟩ hj).elim
   ·by_cases hj:j∈τ
    ·exact (mix j i z y h4 h3 h2 h1 h6 h5 (List.getElem?_of_mem hj) hi).elim
    ·obtain⟨k1,k2,k3,k4⟩:=outS i hi (List.getElem?_eq_some_iff.1 h3).1
     obtain⟨l1,l2,l3,l4⟩:=outS j hj (List.getElem?_eq_some_iff.1 h4).1
     rw [k3] at h3;rw [k4] at h1;rw [l3] at h4;rw [l4] at h2
     exact hok.inj i j b y z h1 h2 h3 h4 h5 h6
  ·have h1:qS[i]? = some (.cell row):=h1
   have h2:qZ[i]? = some b:=h2
   rw [zin i _ h1 rfl] at h2
   rcases cls i _ h1 with ⟨j,y0,k1,k2,k3⟩|⟨k1,k2,k3,k4⟩
   ·cases y0<;>(first|(cases k3;done)|skip)
    rename_i r0
    injection k3 with k3
    rw [inB j i k1] at h2
    obtain⟨cs,T,q1,q2,q3⟩:=hX.ok.cell j r0 b k2 h2
    refine⟨cs,T,q1,by rw [q2,k3,List.length_map],fun p x hp=>?_⟩
    rw [k3,List.getElem?_map,Option.map_eq_some_iff] at hp
    obtain⟨x0,p1,rfl⟩:=hp
    exact back _ _ (q3 p x0 p1)
   ·rw [(outS i k2 (List.getElem?_eq_some_iff.1 h1).1).2.2.2] at h2
    obtain⟨cs,T,q1,q2,q3⟩:=hok.cell i row b k4 h2
    exact⟨cs,T,(same b (hok.lt i b h2) (other i b _ k1 k4 rfl h2)).trans q1,q2,fun p x hp=>(q3 p x hp).mono hle⟩
  ·have h1:qS[i]? = some (.arr ver n rows):=h1
   have h2:qZ[i]? = some b:=h2
   rw [zin i _ h1 rfl] at h2
   rcases cls i _ h1 with ⟨j,y0,k1,k2,k3⟩|⟨k1,k2,k3,k4⟩
   ·cases y0<;>(first|(cases k3;done)|skip)
    cases k3
    rw [inB j i k1] at h2
    obtain⟨cs,T,c,q1,q2,q3,q4,q5,q6⟩:=hX.ok.arr j ver n rows b k2 h2
    exact⟨cs,T,c,q1,q2,q3,q4,q5,fun k r p x hk hp=>backC _ _ (q6 k r p x hk hp)⟩
   ·rw [(outS i k2 (List.getElem?_eq_some_iff.1 h1).1).2.2.2] at h2
    obtain⟨cs,T,c,q1,q2,q3,q4,q5,q6⟩:=hok.arr i ver n rows b k4 h2
    exact⟨cs,T,c,(same b (hok.lt i b h2) (other i b _ k1 k4 rfl h2)).trans q1,q2,q3,q4,q5,fun k r p x hk hp=>(q6 k r p x hk hp).mono hle.size hle.blk⟩
  ·have h1:qS[i]? = some (.map k wd es):=h1
   have h2:qZ[i]? = some b:=h2
   rw [zin i _ h1 rfl] at h2
   rcases cls i _ h1 with ⟨j,y0,k1,k2,k3⟩|⟨k1,k2,k3,k4⟩
   ·cases y0<;>(first|(cases k3;done)|skip)
    rename_i k' wd' es'
    injection k3 with k3 k5 k6
    subst k3;subst k5;subst k6
    rw [inB j i k1] at h2
    obtain⟨ms,q1,q2,q3⟩:=hX.ok.map j k wd es' b k2 h2
    refine⟨ms,by rw [q1,List.length_map],by rw [q2,List.length_map],fun p y row hp=>?_⟩
    rw [List.getElem?_map,Option.map_eq_some_iff] at hp
    obtain⟨e0,p1,p2⟩:=hp
    injection p2 with p2 p3
    subst p2;subst p3
    obtain⟨s1,v,s2,s3⟩:=q3 p e0.1 e0.2 p1
    exact⟨s1,v,s2,s3.rn back⟩
   ·rw [(outS i k2 (List.getElem?_eq_some_iff.1 h1).1).2.2.2] at h2
    obtain⟨ms,q1,q2,q3⟩:=hok.map i k wd es b k4 h2
    exact⟨ms,(same b (hok.lt i b h2) (other i b _ k1 k4 rfl h2)).trans q1,q2,fun p y row hp=>by obtain⟨s1,v,s2,s3⟩:=q3 p y row hp;exact⟨s1,v,s2,s3.mono hle⟩⟩
 refine⟨⟨hle,hOk,⟨frm.os,frm.tape,frm.output,hsz,fun c hc hn=>same c hc fun hc'=>hn (.inl (Vw.mine_mem (qb0 hok h hc')))⟩,fun b hb=>?_,fun hsep b hb hx=>?_,fun _ hb=>hb,fun _ hb=>.inl hb⟩,back,frm,fun b hb=>?_⟩
 ·obtain⟨i,hi⟩:=List.getElem?_of_mem hb
  rcases zall i b hi with h1|⟨h1,_⟩
  ·rcases new1 b h1 with h2|h2
   ·exact .inl (Vw.mine_mem (qb0 hok h h2))
   ·exact .inr h2
  ·exact .inl (lm4 h1)
 ·obtain⟨i,hi⟩:=List.getElem?_of_mem hb
  rcases zall i b hi with h1|⟨h1,_⟩
  ·rcases new1 b h1 with h2|h2
   ·exact hsep b (Vw.mine_mem (qb0 hok h h2)) hx
   ·have:=hok.xlt b hx;omega
  ·exact hsep b (lm4 h1) hx
 ·rcases mineB b hb with ⟨j,y,h1,_,_⟩|h1
  ·rcases new1 b (lm4 h1) with h2|h2
   ·exact .inl (qb0 hok h h2)
   ·exact .inr h2
  ·exact .inl h1.1
theorem qbj.drop {on:Prop} {Nx:Nat→Prop} {V:Vw} {w:World} {x:Nat→Prop} {bl:List Nat} {st ex:List Bx} (h:qbj on Nx V ⟨w,x,bl,st++ex⟩) (hs:nrS st.length st=true) (hV:V.st.length≤st.length):qbj on Nx V ⟨w,x,bl.take st.length,st⟩ :=
 ⟨h.le.drop hV,h.ok.drop hs,h.fr,fun b hb=>h.new b (List.mem_of_mem_take hb),fun hsep b hb=>h.sep hsep b (List.mem_of_mem_take hb),h.xs,h.xn⟩
/-! ### Numbers of the caller's, and of the callee's -/
def unN (σ:List Nat) (i:Nat):Nat:=σ.idxOf i
def unA (σ:List Nat):A→A
 | .ptr i o=>.ptr (unN σ i) o
 | .own i v=>.own (unN σ i) v
 | .ep i v z o=>.ep (unN σ i) v z o
 | .mp i=>.mp (unN σ i)
 | .cs i o n=>.cs (unN σ i) o n
 | .fn f caps=>.fn f (unL caps)
 | .fm f caps=>.fm f (unL caps)
 | x=>x
 where unL:List A→List A
 | []=>[]
 | x::r=>unA σ x::unL r
def inA (σ:List Nat):A→Bool
 | .ptr i _=>σ.contains i
 | .own i _=>σ.contains i
 | .ep i _ _ _=>σ.contains i
 | .mp i=>σ.contains i
 | .cs i _ _=>σ.contains i
 | .fn _ caps=>inL caps
 | .fm _ caps=>inL caps
 | _=>true
 where inL:List A→Bool
 | []=>true
 | x::r=>inA σ x&&inL r
theorem qh9 {σ:List Nat} {i:Nat} (h:σ.contains i=true):rnN σ (unN σ i)=i∧unN σ i<σ.length:=by
 have hm:i∈σ:=by simpa using h
 have hlt:unN σ i<σ.length:=List.idxOf_lt_length_of_mem hm
 refine⟨?_,hlt⟩
 unfold rnN
 rw [List.getD_eq_getElem?_getD,List.getElem?_eq_getElem hlt]
 simp [unN]
mutual
theorem qmr {σ:List Nat}:∀a:A,inA σ a=true→rnA σ (unA σ a)=a∧nrA σ.length (unA σ a)=true
 | .v _,_=>⟨rfl,rfl⟩
 | .nl,_=>⟨rfl,rfl⟩
 | .sl _,_=>⟨rfl,rfl⟩
 | .sk _,_=>⟨rfl,rfl⟩
 | .ref _ _,_=>⟨rfl,rfl⟩
 | .ptr i o,h=>by rw [inA] at h;obtain⟨h1,h2⟩:=qh9 h;exact⟨by rw [unA,rnA,h1],by rw [unA,nrA];exact decide_eq_true h2⟩
 | .own i o,h=>by rw [inA] at h;obtain⟨h1,h2⟩:=qh9 h;exact⟨by rw [unA,rnA,h1],by rw [unA,nrA];exact decide_eq_true h2⟩
 | .ep i _ _ o,h=>by rw [inA] at h;obtain⟨h1,h2⟩:=qh9 h;exact⟨by rw [unA,rnA,h1],by rw [unA,nrA];exact decide_eq_true h2⟩
 | .cs i o n,h=>by rw [inA] at h;obtain⟨h1,h2⟩:=qh9 h;exact⟨by rw [unA,rnA,h1],by rw [unA,nrA];exact decide_eq_true h2⟩
 | .mp i,h=>by rw [inA] at h;obtain⟨h1,h2⟩:=qh9 h;exact⟨by rw [unA,rnA,h1],by rw [unA,nrA];exact decide_eq_true h2⟩
 | .fn f caps,h=>by rw [inA] at h;obtain⟨h1,h2⟩:=unL_ok caps h;exact⟨by rw [unA,rnA,h1],by rw [unA,nrA];exact h2⟩
 | .fm f caps,h=>by rw [inA] at h;obtain⟨h1,h2⟩:=unL_ok caps h;exact⟨by rw [unA,rnA,h1],by rw [unA,nrA];exact h2⟩
theorem unL_ok {σ:List Nat}:∀l:List A,inA.inL σ l=true→rnA.rnL σ (unA.unL σ l)=l∧nrA.nrL σ.length (unA.unL σ l)=true
 | [],_=>⟨rfl,rfl⟩
 | x::r,h=>by
  rw [inA.inL,Bool.and_eq_true] at h
  obtain⟨h1,h2⟩:=qmr x h.1
  obtain⟨h3,h4⟩:=unL_ok r h.2
  exact⟨by rw [unA.unL,rnA.rnL,h1,h3],by rw [unA.unL,nrA.nrL,h2,h4];rfl⟩
end
theorem qmp {σ:List Nat} {row:List A} (h:row.all (inA σ)=true):(row.map (unA σ)).map (rnA σ)=row∧(row.map (unA σ)).all (nrA σ.length)=true:=by
 rw [List.all_eq_true] at h
 refine⟨?_,?_⟩
 ·rw [List.map_map]
  conv=>rhs;rw [←List.map_id row]
  exact List.map_congr_left fun y hy=>(qmr y (h y hy)).1
 ·rw [List.all_map,List.all_eq_true]
  exact fun y hy=>(qmr y (h y hy)).2
def unD (σ:List Nat):D→D
 | .a x=>.a (unA σ x)
 | .r row=>.r (row.map (unA σ))
 | d=>d
def inD (σ:List Nat):D→Bool
 | .a x=>inA σ x
 | .r row=>row.all (inA σ)
 | _=>false
theorem unD_ok {σ:List Nat} {d:D} (h:inD σ d=true):rnD σ (unD σ d)=d∧nrM σ.length (unD σ d)=true:=by
 cases d with
 | a x=>obtain⟨h1,h2⟩:=qmr x h;exact⟨by rw [unD,rnD,h1],by rw [unD,nrM,h2]⟩
 | r row=>obtain⟨h1,h2⟩:=qmp h;exact⟨by rw [unD,rnD,h1],by rw [unD,nrM,h2]⟩
 | _=>cases h
def unB (σ:List Nat):Bx→Bx
 | .cell row=>.cell (row.map (unA σ))
 | .map k wd es=>.map k wd (es.map fun e=>(e.1,e.2.map (unA σ)))
 | b=>b
def inB (σ:List Nat):Bx→Bool
 | .cell row=>row.all (inA σ)
 | .arr _ _ _=>true
 | .map _ _ es=>es.all fun e=>e.2.all (inA σ)
 | .gone=>false
theorem unB_ok {σ:List Nat} {b:Bx} (h:inB σ b=true):rnB σ (unB σ b)=b∧nrS σ.length [unB σ b]=true∧(unB σ b).live=true∧b≠.gone:=by
 cases b with
 | gone=>cases h
 | arr ver n rows=>exact⟨rfl,rfl,rfl,by simp⟩
 | cell row=>obtain⟨h1,h2⟩:=qmp h;exact⟨by rw [unB,rnB,h1],by rw [unB,nrS,h2];rfl,rfl,by simp⟩
 | map k wd es =>
  have h:(es.all fun e=>e.2.all (inA σ))=true:=h
  rw [List.all_eq_true] at h
  refine⟨?_,?_,rfl,by simp⟩
  ·rw [unB,rnB,List.map_map]
   congr 1
   conv=>rhs;rw [←List.map_id es]
   refine List.map_congr_left fun e he=>?_
   show (e.1,(e.2.map (unA σ)).map (rnA σ))=e
   rw [(qmp (h e he)).1]
  ·rw [unB,nrS,List.all_map]
   have:(es.all ((fun e:Value×List A=>e.2.all (nrA σ.length)) ∘ fun e=>(e.1,e.2.map (unA σ))))=true:=by
    rw [List.all_eq_true];exact fun e he=>(qmp (h e he)).2
   rw [this];rfl
theorem nrS_of {m:Nat}:∀{l:List Bx},(∀y,y∈l→nrS m [y]=true)→nrS m l=true
 | [],_=>rfl
 | y::r,h=>by
  have h1:=h y (by simp)
  have h2:=nrS_of fun z hz=>h z (List.mem_cons_of_mem _ hz)
  cases y with
  | gone=>rw [nrS];exact h2
  | arr=>rw [nrS];exact h2
  | cell row=>rw [nrS] at h1 ⊢;rw [h2];exact h1
  | map k wd es=>rw [nrS] at h1 ⊢;rw [h2];exact h1
def qbz (σ:List Nat) (bs:List Bx) (vs:List D):Bool:=decide σ.Nodup&&bs.all (inB σ)&&vs.all (inD σ)
theorem lok_of {st:List Bx} {σ:List Nat} {bs st0:List Bx} {vs:List D} (hs:σ.map (fun i=>st.getD i .gone)=bs) (hin:qbz σ bs vs=true) (hv:bs.map (unB σ)=st0):LOk st σ st0∧vs.all (inD σ)=true:=by
 subst hv
 simp only [qbz,Bool.and_eq_true,decide_eq_true_iff] at hin
 obtain⟨⟨h1,h3⟩,h4⟩:=hin
 rw [List.all_eq_true] at h3
 refine⟨⟨h1,by rw [List.length_map,←hs,List.length_map],fun j i hj=>?_,fun j y hy=>?_,nrS_of fun y hy=>?_⟩,h4⟩
 ·have hb:bs[j]? = some (st.getD i .gone):=by rw [←hs,List.getElem?_map,hj];rfl
  obtain⟨k1,_,_,k4⟩:=unB_ok (h3 _ (lm4 hb))
  rw [List.getElem?_map,hb,Option.map_some,Option.map_some,k1]
  rw [List.getD_eq_getElem?_getD] at k4 ⊢
  cases hg:st[i]? with
  | none=>rw [hg] at k4;exact absurd rfl k4
  | some y=>rfl
 ·rw [List.getElem?_map,Option.map_eq_some_iff] at hy
  obtain⟨b,k1,rfl⟩:=hy
  exact (unB_ok (h3 _ (lm4 k1))).2.2.1
 ·rw [List.mem_map] at hy
  obtain⟨b,k1,rfl⟩:=hy
  exact (unB_ok (h3 b k1)).2.1
/-! ### Calls -/
structure DM (P:Program) (f:FuncId) (ds:List D) (st0:List Bx) (d:D) (st1:List Bx):Prop where
 nr:nrS st1.length st1=true
 nd:nrM st1.length d=true
 le:st0.length≤st1.length
 go:DG (.none P) f ds st0 .junk fun d1 s1 _=>d1=d∧∃ex,s1=st1++ex
section
variable {P:Program} {C:Cx P} {ops:Array Oper} {r:List Oper} {e:Nat→D} {st:List Bx} {dst:Option Nat} {ty:TypeId} {pos:String} {after:Array Edge} {K:(Nat→D)→List Bx→Prop} {f:FuncId} {y:Operand} {xs:List Operand} {caps:List A} {tys:Array TypeId} {vs ds:List D} {σ:List Nat} {bs st0 st1 st':List Bx} {d d' g:D}
theorem callM {V:Vw} {us:List Value} {Nx:Nat→Prop} (hs:σ.map (fun i=>V.st.getD i .gone)=bs) (hin:qbz σ bs vs=true) (hu:vs.map (unD σ)=ds) (hv:bs.map (unB σ)=st0) (hp:DM P f ds st0 d st1) (hne:0<st1.length) (hd:rnD (rnX σ V.st.length (st1.length-σ.length)) d=d')
  (hst:mrg σ V.st (st1.map (rnB (rnX σ V.st.length (st1.length-σ.length))))=st') (hok:Ok V) (hsep:∀b,b∈V.bl→¬V.x b) (henv:EnvE C.E C.on Nx g V) (hul:us.length=vs.length) (hur:∀(i:Nat) (d:D),vs[i]? = some d→RepD V d (us.getD i Go.undef)) :
  Calls P f us.toArray V.w fun en w''=>∃v,en=.returned v∧XR C.E C.on Nx V (fun d1 st1 g1=>d1=d'∧st1=st'∧g1=g) v w'':=by
 obtain⟨hL,hvin⟩:=lok_of hs hin hv
 have okc:=lend_ok hok hL
 have hcall:=hp.go.2 (qes V σ st0) (qes V σ st0).x us rfl okc (fun c hc hx=>?_) (fun c hc=>⟨okc.xlt c hc,.inl hc⟩) trivial (by rw [hul,←hu,List.length_map]) fun k d2 hk=>?_
 ·refine hcall.mono ?_
  rintro en w'' ⟨v,rfl,d1,s1,g1,x1,bl1,⟨rfl,ex,rfl⟩,hX,_,hrep⟩
  have hle:(qes V σ st0).st.length≤st1.length:=hp.le
  have hX2:=hX.drop hp.nr hle
  have hrep2:=hrep.dropM hp.nd
  obtain⟨hB,hA,hF,hM⟩:=lend_back (on:=C.on) (Nx:=Nx) hok hL hne hX2
  subst hst;subst hd
  refine⟨v,rfl,_,_,g,V.x,_,⟨rfl,rfl,rfl⟩,hB,?_,RepD.rn hA hrep2⟩
  exact henv.frm ⟨hF.os,hF.tape,hF.output,hF.size,fun c hlt hn=>hF.block c hlt fun h=>hn (.inl h)⟩ (fun c hc=>hM c hc) fun _ h=>h
 ·have hm:=qb0 hok hL hc
  rcases hx with hx|hx
  ·exact hsep c (Vw.mine_mem hm) hx
  ·exact hx.2 hc
 ·rw [←hu,List.getElem?_map,Option.map_eq_some_iff] at hk
  obtain⟨d0,k1,rfl⟩:=hk
  obtain⟨k2,k3⟩:=unD_ok (List.all_eq_true.1 hvin d0 (lm4 k1))
  exact RepD.lendM (qjm hok hL) (hur k d0 k1) _ k2.symm k3
theorem WS.callM (hx:xs.map (evO e)=vs) (hs:σ.map (fun i=>st.getD i .gone)=bs) (hin:qbz σ bs vs=true) (hu:vs.map (unD σ)=ds) (hv:bs.map (unB σ)=st0) (hg:e 1000000=g) (hp:DM P f ds st0 d st1) (hne:0<st1.length) (hd:rnD (rnX σ st.length (st1.length-σ.length)) d=d')
  (hst:mrg σ st (st1.map (rnB (rnX σ st.length (st1.length-σ.length))))=st'):WS C g st e ⟨dst,.call ⟨.value (.func f),⟨xs⟩,tys⟩,ty,pos,after,none⟩ d' st':=by
 refine⟨rfl,hg,?_⟩
 intro ρ V Nx hVs hok hsep hnx henv hur
 subst hVs
 rw [hg] at henv
 have hf:ρ (.func f)=.func (.func f) #[] #[]:=fn_inv (hur (.func f) (by simp [qad,Op.operands,Call.operands]))
 have hrun:(execOp ρ ⟨dst,.call ⟨.value (.func f),⟨xs⟩,tys⟩,ty,pos,after,none⟩).run P V.w=.ok (.enter f ((⟨xs⟩:Array Operand).map ρ)) V.w:=by
  simp only [execOp,resolve,hf,Deferred.ofValue,Sem.run_bind,Sem.run_pure,Result.andThen_ok,invoke,Array.empty_append,Array.append_empty,hp.go.1]
 rw [hrun]
 refine⟨rfl,?_⟩
 have harr:(xs.map ρ).toArray=(⟨xs⟩:Array Operand).map ρ:=by apply Array.ext';simp
 rw [←harr]
 refine Go.Proofs.YthkojpnjdpbcgaaGreatDoor.callM hs hin hu hv hp hne hd hst hok hsep henv (by rw [←hx];simp) fun k d2 hk=>?_
 rw [←hx,List.getElem?_map,Option.map_eq_some_iff] at hk
 obtain⟨z,hz,rfl⟩:=hk
 have hzr:=hur z (by have:=lm4 hz;simp [qad,Op.operands,Call.operands];right;simpa using this)
 have hget:(xs.map ρ).getD k Go.undef=ρ z:=by
  rw [List.getD_eq_getElem?_getD,List.getElem?_map,hz];rfl
 rw [hget];exact hzr
theorem RS.callM (σ:List Nat) (hx:xs.map (evO e)=vs) (hs:σ.map (fun i=>st.getD i .gone)=bs) (hin:qbz σ bs vs=true) (hu:vs.map (unD σ)=ds) (hv:bs.map (unB σ)=st0) (hg:e 1000000=g) (hp:DM P f ds st0 d st1) (hne:0<st1.length) (hd:rnD (rnX σ st.length (st1.length-σ.length)) d=d')
  (hst:mrg σ st (st1.map (rnB (rnX σ st.length (st1.length-σ.length))))=st') (h:RS C ops r (upd (putE e dst d') 1000000 g) st' K):RS C ops (⟨dst,.call ⟨.value (.func f),⟨xs⟩,tys⟩,ty,pos,after,none⟩::r) e st K :=
 .inr ⟨trivial,_,(WS.callM hx hs hin hu hv hg hp hne hd hst).2.2,fun d1 st1 g1 ⟨h1,h2,h3⟩=>by subst h1;subst h2;subst h3;exact h⟩
end
/-! ### How such a one is walked -/
def qhx (P:Program) (n:Nat) (e:Nat→D) (st:List Bx):ResultVar→Option D
 | .tmp t=>if t<n then some (e t) else none
 | .cell t T=>if t<n then (match e t with
  | .a (.ptr i off)=>(match st[i]?,ldk P T with
   | some (.cell row),some k=>qae k row off
   | _,_=>none)
  | _=>none) else none
def resM (P:Program) (n:Nat) (e:Nat→D) (st:List Bx) (l:List ResultVar) (d:D):Prop :=
 match l with
 | [r]=>qhx P n e st r=some d
 | l=>∃ds,d=.t ds∧l.map (qhx P n e st)=ds.map some
theorem qkm {P:Program} {C:Cx P} {V:Vw} {tm:Array Value} {n:Nat} {e:Nat→D} (hm:M C V tm n e) {r:ResultVar} {d:D} (h:qhx P n e V.st r=some d) :
  ∃v,(match r with|.tmp t=>(pure (tm.getD t Go.undef):Sem Value)|.cell a t=>do loadVar t (←asAddr (tm.getD a Go.undef))).run P V.w=.ok v V.w∧RepD V d v:=by
 cases r with
 | tmp t =>
  simp only [qhx] at h
  split at h
  ·rename_i ht
   injection h with h;subst h
   exact⟨_,rfl,hm.slot t ht⟩
  ·cases h
 | cell t T =>
  simp only [qhx] at h
  split at h
  ·rename_i ht
   have hs:=hm.slot t ht
   split at h
   ·rename_i i off he
    rw [he] at hs
    split at h
    ·rename_i row k hst hk
     change ∃v,((asAddr (tm.getD t Go.undef)).bind fun a=>loadVar T a).run P V.w=.ok v V.w∧RepD V d v
     generalize tm.getD t Go.undef=u at *
     cases hs with
     | a _ _ h=>cases h with
      | c _ _ h=>cases h
      | ptr _ _ b hi hb =>
       obtain⟨cs,T',h1,h2,h3⟩:=hm.ok.cell i row b hst (hb row hst)
       have hcell:∀j x,row[j]? = some x→V.w.cell? ⟨b,0+j,none⟩=some (cs.getD j Go.undef):=fun j x hj=>by
        have hlt:=(List.getElem?_eq_some_iff.1 hj).1
        rw [Nat.zero_add,cell_of_row V.w b j cs T' (0,0) h1,Array.getD_eq_getD_getElem?,Array.getElem?_eq_getElem (by omega)];rfl
       obtain⟨v,hr,hv⟩:=qki (off:=off) hk h _ hcell h3
       rw [Nat.zero_add] at hr
       have hr':(loadVar T ⟨b,off,none⟩).run P V.w=.ok v V.w:=by simpa [Instr.loadAt,Instr.sureAddr] using hr
       exact⟨v,hr',hv⟩
    ·cases h
   ·cases h
  ·cases h
theorem qdv {P:Program} {C:Cx P} {V:Vw} {fn:Func} {tm:Array Value} {n:Nat} {e:Nat→D} (hm:M C V tm n e) {d:D} (h:resM P n e V.st fn.results.toList d):∃v,(results fn tm).run P V.w=.ok v V.w∧RepD V d v:=by
 have many:∀(l:List ResultVar) (ds:List D),l.map (qhx P n e V.st)=ds.map some →
   ∃vs:List Value,(l.mapM (m:=Sem) fun r=>match r with|.tmp t=>(pure (tm.getD t Go.undef):Sem Value)|.cell a t=>do loadVar t (←asAddr (tm.getD a Go.undef))).run P V.w=.ok vs V.w∧vs.length=ds.length∧∀j d,ds[j]? = some d→RepD V d (vs.getD j Go.undef):=by
  intro l
  induction l with
  | nil =>
   intro ds h
   cases ds with
   | nil=>exact⟨[],rfl,rfl,fun j d hd=>by simp at hd⟩
   | cons=>simp at h
  | cons r l ih =>
   intro ds h
   cases ds with
   | nil=>simp at h
   | cons d ds =>
    simp only [List.map_cons,List.cons.injEq] at h
    obtain⟨v,h1,h2⟩:=qkm hm h.1
    obtain⟨vs,h3,h4,h5⟩:=ih ds h.2
    refine⟨v::vs,?_,by simp [h4],fun j d' hd=>?_⟩
    ·rw [List.mapM_cons,Sem.run_bind,h1,Result.andThen_ok,Sem.run_bind,h3];rfl
    ·cases j with
     | zero=>simp at hd;subst hd;exact h2
     | succ j=>exact h5 j d' (by simpa using hd)
 have toList:(results fn tm).run P V.w=((fn.results.toList.mapM (m:=Sem) fun r=>match r with|.tmp t=>(pure (tm.getD t Go.undef):Sem Value)|.cell a t=>do loadVar t (←asAddr (tm.getD a Go.undef))).run P V.w).andThen fun vs w=>.ok (if h:vs.toArray.size=1 then vs.toArray[0] else .tuple vs.toArray) w:=by
  unfold results
  rw [Array.mapM_eq_mapM_toList,Sem.run_bind,map_eq_pure_bind,Sem.run_bind]
  generalize (List.mapM (m:=Sem) _ fn.results.toList).run P V.w=r
  cases r<;>rfl
 unfold resM at h
 split at h
 ·rename_i r hr
  obtain⟨v,h1,h2⟩:=qkm hm h
  refine⟨v,?_,h2⟩
  rw [toList,hr,List.mapM_cons,Sem.run_bind,h1]
  rfl
 ·rename_i l hl
  obtain⟨ds,rfl,h1⟩:=h
  obtain⟨vs,h3,h4,h5⟩:=many _ ds h1
  refine⟨.tuple vs.toArray,?_,.t ds vs h4 h5⟩
  rw [toList,h3,Result.andThen_ok]
  have hne:¬vs.toArray.size=1:=by
   intro h
   have hlen:fn.results.toList.length=ds.length:=by have:=congrArg List.length h1;simpa using this
   simp at h
   have:fn.results.toList.length=1:=by omega
   obtain⟨r,hr⟩:=List.length_eq_one_iff.1 this
   exact hl r hr
  rw [dif_neg hne]
def retM (P:Program) (n:Nat) (rs:List ResultVar) (O:D→List Bx→D→Prop):Exit→(Nat→D)→List Bx→Prop
 | .normal,e,st|.ret,e,st=>∃d,resM P n e st rs d∧O d st (e 1000000)
 | _,_,_=>False
theorem DG.introM {P:Program} {E:Env P} {f:FuncId} {fn:Func} {c:Code} {n:Nat} {rs:List ResultVar} {ds:List D} {st0:List Bx} {g:D} {O:D→List Bx→D→Prop} (hf:P.funcs[f]? = some fn) (hb:fn.body=some c) (hn:fn.ntmps=n) (hr:fn.results=⟨rs⟩) (hnm:(fn.name == "runtime.NumGoroutine")=false) (hl:(decide (ds.length≤n)&&decide (n≤1000000))=true)
  (h:∀(V0:Vw) (Kb Nx:Nat→Prop),WP (⟨V0,Kb,True,none,E,Nx⟩:Cx P) n c (retM P n rs O) (upd (qaj 0 ds) 1000000 g) st0):DG E f ds st0 g O:=by
 rw [Bool.and_eq_true,decide_eq_true_iff,decide_eq_true_iff] at hl
 refine⟨qbt hf hb hnm,fun V Nx vs hst hok hsep hnx henv hvl hrr=>?_⟩
 subst hst
 have hsat:Sat (⟨V,fun b=>b∈V.bl∨(V.x b∧¬Nx b),True,none,E,Nx⟩:Cx P) V { tmps:=vs.toArray++Array.replicate (fn.ntmps-vs.toArray.size) Go.undef,defers:=[] } n (upd (qaj 0 ds) 1000000 g):=by
  refine⟨[],⟨rfl,by simp,fun D hD=>by simp at hD⟩,⟨by simp;omega,fun t ht=>?_,hok,.refl _,.refl _ _,fun b hb=>.inl (.inl hb),hsep,fun _ h=>h,fun _ b h h'=>.inl (.inr ⟨h,h'⟩),fun _ h=>.inl h,hnx,fun b hb=>(hnx b hb).1⟩,?_⟩
  ·have:upd (qaj 0 ds) 1000000 g t=qaj 0 ds t:=if_neg (by omega)
   rw [this]
   exact qcg (by omega) hvl hrr t
  ·have:upd (qaj 0 ds) 1000000 g 1000000=g:=if_pos rfl
   rw [this]
   exact henv.less fun b (hb:Nx b∨b∈([]:List Nat))=>hb.elim id fun h=>by simp at h
 refine qeg (C:=(⟨V,fun b=>b∈V.bl∨(V.x b∧¬Nx b),True,none,E,Nx⟩:Cx P)) (RQ:=fun e st=>∃d,resM P n e st rs d∧O d st (e 1000000)) hf hb rfl hsat ((h V _ Nx).mono fun ex e st hq=>?_) ?_
 ·cases ex with
  | normal=>exact hq
  | ret=>exact hq
  | _=>exact hq
 ·rintro tm V' e' hm henv' ⟨d,hres,hO⟩
  have hres':resM P n e' V'.st fn.results.toList d:=by rw [hr];exact hres
  obtain⟨v,h1,h2⟩:=qdv hm hres'
  refine⟨v,h1,v,rfl,d,V'.st,e' 1000000,V'.x,V'.bl,hO,⟨hm.le,hm.ok,⟨hm.fr.os,hm.fr.tape,hm.fr.output,hm.fr.size,fun b hb hn=>hm.fr.block b hb fun h=>hn (h.imp id fun h=>⟨trivial,h.1,h.2⟩)⟩,fun b hb=>?_,fun _=>hm.sep,hm.x0,hm.xg⟩,henv',h2⟩
  rcases hm.low b hb with (h|h)|h
  ·exact .inl h
  ·exact absurd (hm.x0 b h.1) (hm.sep b hb)
  ·exact .inr h
theorem DM.intro {P:Program} {f:FuncId} {fn:Func} {c:Code} {n:Nat} {rs:List ResultVar} {ds:List D} {st0:List Bx} {d:D} {st1:List Bx} (hf:P.funcs[f]? = some fn) (hb:fn.body=some c) (hn:fn.ntmps=n) (hr:fn.results=⟨rs⟩) (hnm:(fn.name == "runtime.NumGoroutine")=false) (hl:(decide (ds.length≤n)&&decide (n≤1000000))=true)
  (hnr:(nrS st1.length st1&&nrM st1.length d&&decide (st0.length≤st1.length))=true)
  (h:∀(V0:Vw) (Kb Nx:Nat→Prop),WP (⟨V0,Kb,True,none,.none P,Nx⟩:Cx P) n c (retM P n rs fun d1 s1 _=>d1=d∧∃ex,s1=st1++ex) (upd (qaj 0 ds) 1000000 .junk) st0):DM P f ds st0 d st1:=by
 simp only [Bool.and_eq_true,decide_eq_true_iff] at hnr
 exact⟨hnr.1.1,hnr.1.2,hnr.2,DG.introM hf hb hn hr hnm hl h⟩
end Go.Proofs.YthkojpnjdpbcgaaGreatDoor
