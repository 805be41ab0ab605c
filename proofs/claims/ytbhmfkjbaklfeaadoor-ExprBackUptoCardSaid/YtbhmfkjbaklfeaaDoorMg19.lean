/- Conversions: of numbers, of strings, of strings to bytes and back. No program in sight. Conditions: none. -/
import Derived.Test.YtbhmfkjbaklfeaaDoorMg18
import Derived.Laws.BytesArg
set_option linter.unusedVariables false
set_option maxRecDepth 100000
set_option maxHeartbeats 8000000
set_option linter.unusedSimpArgs false
namespace Go.Proofs.YtbhmfkjbaklfeaaDoor
open Go.RowKit
def bytR (s:ByteArray):List (List A):=s.data.toList.map fun b=>[.v (.int .u8 (b.toNat:Int))]
def rowB:List (List A)→Option (List UInt8)
 | []=>some []
 | [.v (.int .u8 (.ofNat n))]::r=>if Nat.blt n 256=true then (rowB r).map fun l=>UInt8.ofNat n::l else none
 | _=>none
theorem rowB_get:∀{rows:List (List A)} {l:List UInt8},rowB rows=some l→rows.length=l.length∧∀j (hj:j<l.length),rows[j]? = some [.v (.int .u8 (l[j].toNat:Int))]
 | [],l,h=>by
  injection h with h;subst h
  exact⟨rfl,fun j hj=>absurd hj (Nat.not_lt_zero j)⟩
 | x::r,l,h=>by
  unfold rowB at h
  split at h
  ·rename_i h0;cases h0
  ·rename_i n r' h0
   injection h0 with h1 h2
   subst h1;subst h2
   split at h
   ·rename_i hn
    have hn:n<256:=by simpa [Nat.blt_eq] using hn
    rw [Option.map_eq_some_iff] at h
    obtain⟨l',h1,rfl⟩:=h
    obtain⟨g1,g2⟩:=rowB_get h1
    refine⟨by simp [g1],fun j hj=>?_⟩
    cases j with
    | zero =>
     have:(UInt8.ofNat n).toNat=n:=by simp [Nat.mod_eq_of_lt hn]
     simp only [List.getElem?_cons_zero,List.getElem_cons_zero,this]
     rfl
    | succ j =>
     simp only [List.getElem?_cons_succ,List.getElem_cons_succ]
     exact g2 j (by simpa using hj)
   ·cases h
  ·cases h
section
variable {P:Program} {st:List Bx} {e:Nat→D} {o:Oper} {src dst el:TypeId} {x:Operand}
theorem OpJ.convI {k q:IntKind} {z:Int} (ho:o.op=.convert src dst x) (hx:evO e x=.a (.v (.int k z))) (hs:(P.underlying src).isSome=true) (hd:P.underlying dst=some (.int q)):OpJ P st e o (.a (.v (.int q (q.wrap z)))):=by
 intro ρ V _ _ hu
 rw [ho] at hu
 have h1:=hu x (by simp [usedO,Op.operands])
 rw [hx] at h1
 obtain⟨h1,_⟩:=h1.v_inv
 obtain⟨d,hd'⟩:=Option.isSome_iff_exists.mp hs
 have hrun:(convert src dst (.int k z)).run P V.w=.ok (.int q (q.wrap z)) V.w:=by
  simp [convert,run_underlying hd',run_underlying hd,Conv.intToInt]
 simp only [execOp,ho,h1,Sem.run_bind,hrun,Result.andThen_ok,Sem.run_pure]
 exact .val (V:=V) (v:=.int q _) (.v rfl)
theorem OpJ.convS {s:ByteArray} (ho:o.op=.convert src dst x) (hx:evO e x=.a (.v (.string s))) (hs:P.underlying src=some .string) (hd:P.underlying dst=some .string):OpJ P st e o (.a (.v (.string s))):=by
 intro ρ V _ _ hu
 rw [ho] at hu
 have h1:=hu x (by simp [usedO,Op.operands])
 rw [hx] at h1
 obtain⟨h1,_⟩:=h1.v_inv
 have hrun:(convert src dst (.string s)).run P V.w=.ok (.string s) V.w:=by
  simp [convert,run_underlying hs,run_underlying hd]
 simp only [execOp,ho,h1,Sem.run_bind,hrun,Result.andThen_ok,Sem.run_pure]
 exact .val (V:=V) (v:=.string _) (.v rfl)
theorem OpJ.convB {s:ByteArray} (ho:o.op=.convert src dst x) (hx:evO e x=.a (.v (.string s))) (hs:P.underlying src=some .string) (hd:P.underlying dst=some (.slice el)) (he:P.underlying el=some (.int .u8)):OpJ P st e o (.a (.sl (bytR s))):=by
 intro ρ V hst hok hu
 rw [ho] at hu
 have h1:=hu x (by simp [usedO,Op.operands])
 rw [hx] at h1
 obtain⟨h1,_⟩:=h1.v_inv
 have hrun:=run_bytes_of_string (P:=P) V.w src dst el s hs hd he
 simp only [execOp,ho,h1,Sem.run_bind,hrun,Result.andThen_ok,Sem.run_pure]
 have hcs:s.size≤grownCap V.w s.size 0 el:=grownCap_ge V.w s.size 0 el
 generalize grownCap V.w s.size 0 el=cap at *
 have hl:(bytR s).length=s.size:=by simp [bytR]
 have hC:∀j,j<s.size→(bytesRow s cap).getD j Go.undef=.int .u8 ((s.data.toList.getD j 0).toNat:Int):=fun j hj=>by
  have hj':j<s.data.size:=hj
  rw [Array.getD_eq_getD_getElem?]
  simp [bytesRow,Array.getElem?_append,hj,hj',List.getD]
 have hsz:(bytesRow s cap).size=cap:=by
  have:s.data.size=s.size:=rfl
  simp [bytesRow];omega
 generalize bytesRow s cap=cs at *
 have hg:Grw V.w (V.w.drew.alloc (.cells cs el (cs.size,cs.size+1))):=((Grw.refl V.w).drew).alloc _
 have hnewc:(V.w.drew.alloc (.cells cs el (cs.size,cs.size+1))).heap[V.w.heap.size]? = some (.cells cs el (cs.size,cs.size+1)):=by
  show (V.w.heap.push _)[V.w.heap.size]? = _
  simp
 have hrow:∀(k:Nat) (row:List A),(bytR s)[k]? = some row→k<s.size∧row=[.v (.int .u8 ((s.data.toList.getD k 0).toNat:Int))]:=fun k row hk=>by
  have hk1:=(List.getElem?_eq_some_iff.1 hk).1
  rw [hl] at hk1
  have hk2:k<s.data.toList.length:=by simpa using hk1
  refine⟨hk1,?_⟩
  unfold bytR at hk
  rw [List.getElem?_map,List.getElem?_eq_getElem hk2] at hk
  simp only [Option.map_some,Option.some.injEq] at hk
  rw [←hk,List.getD_eq_getElem?_getD,List.getElem?_eq_getElem hk2]
  rfl
 refine⟨hg,.a _ _ (.c _ _ ?_)⟩
 have:=RepC.sl (w:=V.w.drew.alloc (.cells cs el (cs.size,cs.size+1))) (mu:=(V.to (V.w.drew.alloc (.cells cs el (cs.size,cs.size+1)))).mut) (bytR s) 1 V.w.heap.size 0 cap (fun k _=>.int .u8 ((s.data.toList.getD k 0).toNat:Int)) ⟨_,hnewc,rfl⟩ (fun hm=>?_) (by omega) (fun k row hk=>by rw [(hrow k row hk).2];rfl) (fun k row j y hk hj=>?_) fun k row j y hk hj=>?_
 ·rw [hl] at this;exact this
 ·rcases hm with hm|hm
  ·have:=hok.xlt _ hm;omega
  ·obtain⟨i,hi⟩:=List.getElem?_of_mem (Vw.mine_mem hm)
   have:=hok.lt i _ hi;omega
 ·obtain⟨hk1,rfl⟩:=hrow k row hk
  have hj0:j=0:=by
   have:=(List.getElem?_eq_some_iff.1 hj).1
   simp at this;omega
  subst hj0
  rw [Nat.zero_add,cell_of_row _ _ _ cs el _ hnewc]
  have:=hC k hk1
  rw [getD_of_lt (by omega)]
  rw [←this]
  simp
 ·obtain⟨hk1,rfl⟩:=hrow k row hk
  have hj0:j=0:=by
   have:=(List.getElem?_eq_some_iff.1 hj).1
   simp at this;omega
  subst hj0
  injection hj with hj
  subst hj
  exact .v _ rfl
theorem run_conv_nil {w:World} (hs:P.underlying src=some (.slice el)) (he:P.underlying el=some (.int .u8)) (hd:P.underlying dst=some .string) (l c:Nat):(convert src dst (.slice none l c)).run P w=.ok (.string ⟨([]:List UInt8).toArray⟩) w :=
 run_convert_bytes_nil w src el hs he l c dst hd
theorem OpJ.convN (ho:o.op=.convert src dst x) (hx:evO e x=.a .nl) (hs:P.underlying src=some (.slice el)) (he:P.underlying el=some (.int .u8)) (hd:P.underlying dst=some .string):OpJ P st e o (.a (.v (.string ⟨([]:List UInt8).toArray⟩))):=by
 intro ρ V _ _ hu
 rw [ho] at hu
 have h1:=hu x (by simp [usedO,Op.operands])
 rw [hx] at h1
 simp only [execOp,ho]
 generalize ρ x=u at *
 cases h1.c_inv rfl with
  | nl =>
   simp only [Sem.run_bind,run_conv_nil hs he hd,Result.andThen_ok,Sem.run_pure]
   exact .val (V:=V) (v:=.string _) (.v rfl)
theorem OpJ.convF {rows:List (List A)} {l:List UInt8} (ho:o.op=.convert src dst x) (hx:evO e x=.a (.sl rows)) (hs:P.underlying src=some (.slice el)) (he:P.underlying el=some (.int .u8)) (hd:P.underlying dst=some .string) (hr:rowB rows=some l):OpJ P st e o (.a (.v (.string ⟨l.toArray⟩))):=by
 intro ρ V _ _ hu
 rw [ho] at hu
 have h1:=hu x (by simp [usedO,Op.operands])
 rw [hx] at h1
 obtain⟨g1,g2⟩:=rowB_get hr
 simp only [execOp,ho]
 generalize ρ x=u at *
 cases h1.c_inv rfl with
  | sl0 a c =>
   have hl:l=[]:=by cases l with|nil=>rfl|cons=>simp at g1
   subst hl
   cases a with
   | none =>
    simp only [Sem.run_bind,run_conv_nil hs he hd,Result.andThen_ok,Sem.run_pure]
    exact .val (V:=V) (v:=.string _) (.v rfl)
   | some a =>
    have hrun:=run_convert_bytes_back (P:=P) V.w src dst el a c [] hs he hd fun j hj=>absurd hj (Nat.not_lt_zero j)
    simp only [List.length_nil] at hrun
    simp only [Sem.run_bind,hrun,Result.andThen_ok,Sem.run_pure]
    exact .val (V:=V) (v:=.string _) (.v rfl)
  | sl _ n' b o' c val hb hm hc hlen h3 h4 =>
   have hrun:=run_convert_bytes_back (P:=P) V.w src dst el ⟨b,o',none⟩ c l hs he hd fun j hj=>by
    have hj2:=g2 j hj
    have hn:n'=1:=(hlen j _ hj2).symm
    subst hn
    have k1:=h3 j _ 0 _ hj2 rfl
    have k2:=h4 j _ 0 _ hj2 rfl
    rw [Addr.add_mid]
    simp only [Nat.mul_one,Nat.add_zero] at k1
    rw [k1]
    generalize val j 0=u at k2 ⊢
    cases k2
    rfl
   rw [←g1] at hrun
   simp only [Sem.run_bind,hrun,Result.andThen_ok,Sem.run_pure]
   exact .val (V:=V) (v:=.string _) (.v rfl)
theorem OpJ.convO {i ver n:Nat} {rows:List (List A)} {l:List UInt8} (ho:o.op=.convert src dst x) (hx:evO e x=.a (.own i ver)) (hi:st[i]? = some (.arr ver n rows)) (hs:P.underlying src=some (.slice el)) (he:P.underlying el=some (.int .u8)) (hd:P.underlying dst=some .string) (hr:rowB rows=some l):OpJ P st e o (.a (.v (.string ⟨l.toArray⟩))):=by
 intro ρ V hst hok hu
 subst hst
 rw [ho] at hu
 have h1:=hu x (by simp [usedO,Op.operands])
 rw [hx] at h1
 obtain⟨g1,g2⟩:=rowB_get hr
 simp only [execOp,ho]
 generalize ρ x=u at *
 cases h1 with
 | a _ _ h=>cases h with
  | c _ _ h=>cases h
  | own _ _ a l' c hlt hP =>
   obtain⟨_,hP⟩:=hP ver n rows hi
   obtain⟨rfl,b,cs,T,rfl,hb,hc,_,_⟩:=hP rfl
   obtain⟨cs',T',c',k1,k2,k3,k4,k5,k6⟩:=hok.arr i ver n rows b hi hb
   have hrun:=run_convert_bytes_back (P:=P) V.w src dst el ⟨b,0,none⟩ c l hs he hd fun j hj=>by
    have hj2:=g2 j hj
    have hn:n=1:=(k5 j _ hj2).symm
    subst hn
    have k7:=k6 j _ 0 _ hj2 rfl
    rw [Addr.add_mid,Nat.zero_add,cell_of_row _ _ _ cs' T' _ k1]
    simp only [Nat.mul_one,Nat.add_zero] at k7
    rw [getD_of_lt (by omega)]
    generalize cs'.getD j Go.undef=u at k7
    cases k7
    rfl
   rw [←g1] at hrun
   simp only [Sem.run_bind,hrun,Result.andThen_ok,Sem.run_pure]
   exact .val (V:=V) (v:=.string _) (.v rfl)
theorem OpJ.sliceCl {T:TypeId} {lo:Option Operand} {i off len sz l:Nat} (ho:o.op=.slice T x lo none none) (hx:evO e x=.a (.ptr i off)) (ha:ar P T=some (len,sz)) (h2:lowD e lo len=some l) (hl:l<len):OpJ P st e o (.a (.cs i (off+l*sz) (len-l))):=by
 intro ρ V _ _ hu
 rw [ho] at hu
 have hx1:=hu x (by simp [usedO,Op.operands])
 rw [hx] at hx1
 have hlo:∀z,lo=some z→RepD V (evO e z) (ρ z):=fun z hz=>hu z (by subst hz;simp [usedO,Op.operands])
 have hno:∀z,(none:Option Operand)=some z→RepD V (evO e z) (ρ z):=fun z hz=>by cases hz
 simp only [execOp,ho]
 generalize ρ x=u at *
 unfold ar at ha
 split at ha
 ·rename_i len' el hel
  cases hinfo:P.info? el with
  | none=>simp [hinfo] at ha
  | some inf =>
   simp only [hinfo,Option.map_some,Option.some.injEq,Prod.mk.injEq] at ha
   obtain⟨rfl,rfl⟩:=ha
   obtain⟨g1,g2,g3,g4⟩:=run_bounds3 (P:=P) (e:=e) (w:=V.w) hlo hno hno (fun h=>by cases h) (show bndD e none len'=some len' from rfl) (show bndD e none len'=some len' from rfl) h2
   cases hx1 with
   | a _ _ h=>cases h with
    | c _ _ h=>cases h
    | ptr _ _ b hi hb =>
     have main:(Instr.sliceAt T (.pointer (some ⟨b,off,none⟩)) (lo.map ρ) none none).run P V.w=.ok (.slice (some ⟨b,off+l*inf.size,none⟩) (len'-l) (len'-l)) V.w:=by
      rw [Option.map_none] at g1
      simp only [Instr.sliceAt,Sem.run_bind,run_underlying hel,Result.andThen_ok,Instr.sureAddr,Sem.run_pure,g1,sizeOf,typeInfo,run_program,hinfo]
      rw [if_neg (by omega),Addr.add_mid]
     simp only [Option.map_none,Sem.run_bind,main,Result.andThen_ok,Sem.run_pure]
     exact .val (.a _ _ (.cs i _ _ b hi hb))
 ·cases ha
end
def ar2 (P:Program) (T:TypeId):Option (Nat×Nat×Option Nat) :=
 match P.underlying T with
 | some (.array len e)=>(match P.info? e,ldk P e with
  | some i,some l=>some (len,i.size,l)
  | _,_=>none)
 | _=>none
theorem OpJ.index_row {P:Program} {st:List Bx} {e:Nat→D} {o:Oper} {T:TypeId} {x i:Operand} {row:List A} {z:Int} {k:IntKind} {len sz:Nat} {l:Option Nat} {d:D} (ho:o.op=.index T x i) (hx:evO e x=.r row) (hi:evO e i=.a (.v (.int k z))) (hT:ar2 P T=some (len,sz,l)) (h0:0≤z) (hlt:z<len) (hd:ldRow l row (z.toNat*sz)=some d):OpJ P st e o d:=by
 intro ρ V _ _ hu
 rw [ho] at hu
 have h1:=hu x (by simp [usedO,Op.operands])
 have h2:=hu i (by simp [usedO,Op.operands])
 rw [hx] at h1
 rw [hi] at h2
 obtain⟨h2,_⟩:=h2.v_inv
 obtain⟨vs,hv,hl,hr⟩:=h1.r_inv
 simp only [execOp,ho,hv,h2]
 unfold ar2 at hT
 split at hT
 ·rename_i len' el hu'
  split at hT
  ·rename_i ie l' hie hl'
   injection hT with hT
   injection hT with e1 hT
   injection hT with e2 e3
   subst e1;subst e2;subst e3
   unfold ldk at hl'
   split at hl'
   ·rename_i dd ie' hud hi'
    obtain rfl:ie=ie':=Option.some.inj (hie.symm.trans hi')
    generalize hoff:z.toNat*ie.size=off at hd
    split at hl'
    ·injection hl' with hl';subst hl'
     simp only [ldRow] at hd
     split at hd
     ·injection hd with hd;subst hd
      have hagg:(isAgg el).run P V.w=.ok true V.w:=by
       unfold isAgg
       rw [Sem.run_bind,run_underlying hud V.w]
       cases dd<;>simp_all
      have hrun:(Instr.index T (.agg vs.toArray) (.int k z)).run P V.w=.ok (.agg ((vs.drop off).take ie.size).toArray) V.w:=by
       simp [Instr.index,asIntOf,Sem.run_bind,run_underlying hu',h0,hlt,part,hagg,sizeOf,typeInfo,hie,hoff,List.extract_eq_take_drop]
      simp only [Sem.run_bind,hrun,Result.andThen_ok,Sem.run_pure]
      refine .val (.r _ _ (by simp;omega) fun j y hj=>?_)
      have hjl:j<ie.size:=by have:=(List.getElem?_eq_some_iff.1 hj).1;simp at this;omega
      rw [List.getElem?_take_of_lt hjl,List.getElem?_drop] at hj
      have:=hr _ y hj
      rw [List.getD_eq_getElem?_getD] at this ⊢
      rw [List.getElem?_take_of_lt hjl,List.getElem?_drop];exact this
     ·cases hd
    ·injection hl' with hl';subst hl'
     simp only [ldRow] at hd
     cases hx:row[off]? with
     | none=>simp [hx] at hd
     | some y =>
      simp only [hx,Option.map_some,Option.some.injEq] at hd
      subst hd
      have hagg:(isAgg el).run P V.w=.ok false V.w:=by
       unfold isAgg
       rw [Sem.run_bind,run_underlying hud V.w]
       cases dd<;>simp_all
      have hlt2:off<vs.length:=by have:=(List.getElem?_eq_some_iff.1 hx).1;omega
      have hrun:(Instr.index T (.agg vs.toArray) (.int k z)).run P V.w=.ok (vs.getD off Go.undef) V.w:=by
       simp [Instr.index,asIntOf,Sem.run_bind,run_underlying hu',h0,hlt,part,hagg,sizeOf,typeInfo,hie,hoff,hlt2]
      simp only [Sem.run_bind,hrun,Result.andThen_ok,Sem.run_pure]
      exact .val (.a _ _ (hr _ y hx))
   ·cases hl'
  ·cases hT
 ·cases hT
def ixR (P:Program) (T:TypeId) (x i:D):Option D :=
 match x,i with
 | .r row,.a (.v (.int _ (.ofNat z)))=>(match ar2 P T with
  | some (len,sz,l)=>if Nat.blt z len=true then ldRow l row (z*sz) else none
  | none=>none)
 | x,i=>chD (isStr P T) x i
theorem ixR_sound {P:Program} {st:List Bx} {e:Nat→D} {o:Oper} {T:TypeId} {x i:Operand} {d:D} (ho:o.op=.index T x i) (h:ixR P T (evO e x) (evO e i)=some d) (hch:chD (isStr P T) (evO e x) (evO e i)=some d→OpJ P st e o d):OpJ P st e o d:=by
 unfold ixR at h
 split at h
 ·rename_i row k z hx hi
  split at h
  ·rename_i len sz l hT
   split at h
   ·rename_i hl
    have h1:z<len:=by simpa [Nat.blt_eq] using hl
    exact .index_row ho hx hi hT (Int.natCast_nonneg z) (Int.ofNat_lt.2 h1) h
   ·cases h
  ·cases h
 ·exact hch h
def nl1:A→A
 | .sl []=>.nl
 | x=>x
def zrowN (P:Program) (T:TypeId):Option (List A):=(zrow P T).map fun r=>r.map nl1
theorem zA_nl {V:Vw} {v:Value} {y:A} (h:zA v=some y):RepA V (nl1 y) v:=by
 unfold zA at h
 split at h
 ·injection h with h;subst h;exact .c _ _ .nl
 ·split at h
  ·rename_i hp;injection h with h;subst h;exact .c _ _ (.v _ hp)
  ·cases h
theorem mapM_zA:∀{vs:List Value} {row:List A},vs.mapM zA=some row→∀(j:Nat) (y:A),row[j]? = some y→zA (vs.getD j Go.undef)=some y
 | [],row,h,j,y,hj=>by simp at h;subst h;simp at hj
 | v::vs,row,h,j,y,hj=>by
  rw [List.mapM_cons] at h
  cases hv:zA v with
  | none=>simp [hv] at h
  | some x =>
   cases hvs:vs.mapM zA with
   | none=>simp [hv,hvs] at h
   | some ys =>
    simp [hv,hvs] at h
    subst h
    cases j with
    | zero=>simp at hj;subst hj;exact hv
    | succ j=>exact mapM_zA hvs j y (by simpa using hj)
theorem zrowN_rep {P:Program} {V:Vw} {T:TypeId} {row:List A} (h:zrowN P T=some row):∃i z,P.info? T=some i∧i.zero=some z∧z.cells.size=row.length∧∀(j:Nat) (y:A),row[j]? = some y→RepA V y (z.cells.getD j Go.undef):=by
 unfold zrowN at h
 rw [Option.map_eq_some_iff] at h
 obtain⟨r0,h0,rfl⟩:=h
 obtain⟨i,z,h1,h2,h3,_⟩:=zrow_rep (V:=V) h0
 refine⟨i,z,h1,h2,by rw [List.length_map];exact h3,fun j y hj=>?_⟩
 rw [List.getElem?_map,Option.map_eq_some_iff] at hj
 obtain⟨y0,hj,rfl⟩:=hj
 unfold zrow at h0
 simp only [h1,h2,Option.bind_some] at h0
 have:=mapM_zA h0 j y0 hj
 rw [List.getD_eq_getElem?_getD] at this
 rw [Array.getD_eq_getD_getElem?,←Array.getElem?_toList]
 exact zA_nl this
def buN (P:Program) (T:TypeId) (parts:List (Nat×D)):Option D:=if bOk P T=true then (zrowN P T).bind fun row=>(fillD P T row parts).map D.r else none
theorem buN_sound {P:Program} {st:List Bx} {e:Nat→D} {o:Oper} {T:TypeId} {parts:List (Nat×Operand)} {d:D} (ho:o.op=.build T ⟨parts⟩) (h:buN P T (parts.map fun p=>(p.1,evO e p.2))=some d):OpJ P st e o d:=by
 unfold buN at h
 split at h
 ·rename_i hb
  rw [Option.bind_eq_some_iff] at h
  obtain⟨row,h1,h2⟩:=h
  rw [Option.map_eq_some_iff] at h2
  obtain⟨row',h2,rfl⟩:=h2
  exact .buildZ ho hb (fun V=>zrowN_rep (V:=V) h1) h2
 ·cases h
end Go.Proofs.YtbhmfkjbaklfeaaDoor
