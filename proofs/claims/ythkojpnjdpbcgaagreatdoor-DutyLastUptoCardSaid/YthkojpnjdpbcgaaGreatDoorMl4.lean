/- What an operation that only reads makes of plain data, and that the model's own step makes the same of it. No program in sight. Conditions: none. -/
import Derived.Test.YthkojpnjdpbcgaaGreatDoorMl3
import Derived.OrdersIn
import Derived.OwnWalkIn
import Derived.RangeFuncSeq
import Derived.RangeFuncRecord
import Derived.RangeFuncLeaves
import Derived.Laws.StructEq
set_option linter.unusedVariables false
set_option maxRecDepth 100000
set_option maxHeartbeats 8000000
set_option linter.unusedSimpArgs false
namespace Go.Proofs.YthkojpnjdpbcgaaGreatDoor
theorem lm4 {α} {l : List α} {i : Nat} {a : α} (h : l[i]? = some a) : a ∈ l := List.mem_of_getElem? h
open Go.RowKit
def zA (v:Value):Option A :=
  match v with
  | .slice none 0 0=>some (.sl [])
  | v=>if qek v then some (.v v) else none
def aggD:Option (List A)→D
  | some row=>.r row
  | none=>.junk
def atomC:Value→D
  | .slice none 0 0=>.a .nl
  | .agg vs=>aggD (vs.toList.mapM zA)
  | v=>if qek v then .a (.v v) else .junk
def glD (g:Nat):D :=
  match glV g with
  | []=>.a (.v (.pointer (some ⟨g,0,none⟩)))
  | x::l=>.a (.ref ((x::l).map .v) 0)
def evO (e:Nat→D):Operand→D
  | .tmp t=>e t
  | .const v=>atomC v
  | .func f=>.a (.fn f [])
  | .global g=>glD g
theorem glD_fn {g:Nat} {f:FuncId} {caps:List A}:¬glD g=.a (.fn f caps):=fun h=>by
  unfold glD at h
  split at h<;>cases h
theorem glD_bool {g:Nat} {b:Bool}:¬glD g=.a (.v (.bool b)):=fun h=>by
  unfold glD at h
  split at h<;>cases h
theorem glV_plain {g:Nat} {x:Value} (h:x∈glV g):qek x=true:=by
  unfold glV at h
  split at h
  · obtain⟨t,_,rfl⟩:=List.mem_map.1 h;rfl
  · cases h
theorem glob_fix {V:Vw} (hok:Ok V) {g:Nat} {c:Value} (hg:(glV g)[0]? = some c):isC V.w g∧¬V.mut g:=by
  have hG:Gd V.w:=hok.gd V.w (Nat.le_refl _) fun _ _ _ _ _=>rfl
  have hC:isC V.w g:=qla (hG g 0 c hg)
  refine⟨hC,fun hm=>?_⟩
  have hlt:=hC.lt
  have hG2:Gd (sb V.w g 0 #[]):=hok.gd _ (by simp [sb]) fun b hb hn hx _=>by
    by_cases hbg:b=g
    · subst hbg
      rcases hm with h|⟨i,y,hi,_⟩
      · exact absurd h hx
      · exact absurd (lm4 hi) hn
    · exact qdu _ _ _ _ _ hbg
  have:=hG2 g 0 c hg
  rw [qkh _ _ _ _ _ hlt] at this
  simp at this
theorem glD_rep {V:Vw} (hok:Ok V) (g:Nat):RepD V (glD g) (.pointer (some ⟨g,0,none⟩)):=by
  unfold glD
  split
  · exact .a _ _ (.c _ _ (.v _ rfl))
  · rename_i x l he
    obtain⟨h1,h2⟩:=glob_fix hok (show (glV g)[0]? = some x by rw [he];rfl)
    have hG:Gd V.w:=hok.gd V.w (Nat.le_refl _) fun _ _ _ _ _=>rfl
    have hv:∀(j:Nat) (y:A),((x::l).map A.v)[j]? = some y→∃u,(glV g)[j]? = some u∧y=.v u:=fun j y hj=>by
      rw [List.getElem?_map,Option.map_eq_some_iff] at hj
      obtain⟨u,h3,h4⟩:=hj
      exact⟨u,by rw [he];exact h3,h4.symm⟩
    have hgd:∀(j:Nat) (u:Value),(glV g)[j]? = some u→(glV g).getD j Go.undef=u:=fun j u h=>by rw [List.getD_eq_getElem?_getD,h];rfl
    refine .a _ _ (.c _ _ (.ref ((x::l).map .v) 0 g 0 (fun j=>(glV g).getD j Go.undef) h1 h2 (fun j y hj=>?_) fun j y hj=>?_))
    · obtain⟨u,h3,rfl⟩:=hv j y hj
      rw [hgd j u h3,Nat.zero_add]
      exact hG g j u h3
    · obtain⟨u,h3,rfl⟩:=hv j y hj
      rw [hgd j u h3]
      exact .v _ (glV_plain (lm4 h3))
theorem zA_rep {V:Vw} {v:Value} {y:A} (h:zA v=some y):RepA V y v:=by
  unfold zA at h
  split at h
  · injection h with h;subst h;exact .c _ _ (.sl0 none 0)
  · split at h
    · rename_i hp;injection h with h;subst h;exact .c _ _ (.v _ hp)
    · cases h
theorem qgg {V:Vw}:∀{vs:List Value} {row:List A},vs.mapM zA=some row→vs.length=row.length∧∀(j:Nat) (y:A),row[j]? = some y→RepA V y (vs.getD j Go.undef)
  | [],row,h=>by simp at h;subst h;exact⟨rfl,fun j y hj=>by simp at hj⟩
  | v::vs,row,h=>by
    rw [List.mapM_cons] at h
    cases hv:zA v with
    | none=>simp [hv] at h
    | some y =>
      cases hvs:vs.mapM zA with
      | none=>simp [hv,hvs] at h
      | some ys =>
        simp [hv,hvs] at h
        subst h
        obtain⟨h1,h2⟩:=qgg (V:=V) hvs
        refine⟨by simp [h1],fun j y' hj=>?_⟩
        cases j with
        | zero=>simp at hj;subst hj;exact zA_rep hv
        | succ j=>exact h2 j y' (by simpa using hj)
theorem qht (V:Vw) (v:Value):RepD V (atomC v) v:=by
  unfold atomC
  split
  · exact .a _ _ (.c _ _ .nl)
  · rename_i vs
    cases h:vs.toList.mapM zA with
    | none=>exact .junk _
    | some row =>
      obtain⟨h1,h2⟩:=qgg (V:=V) h
      have:=RepD.r (V:=V) row vs.toList h1 h2
      rw [Array.toArray_toList] at this
      exact this
  · split
    · rename_i h;exact .a _ _ (.c _ _ (.v _ h))
    · exact .junk _
section
variable (P:Program)
def ldk (T:TypeId):Option (Option Nat) :=
  match P.underlying T,P.info? T with
  | some d,some i=>if d.isRow then some (some i.size) else some none
  | _,_=>none
def szT (T:TypeId):Nat:=((P.info? T).map (·.size)).getD 0
def fo (T k:Nat):Option Nat :=
  match P.underlying T with
  | some (.struct fs)=>(match fs[k]? with|some f=>if szT P f.type=0 then none else some f.offset|none=>none)
  | _=>none
def fo2 (T k:Nat):Option (Nat×Option Nat) :=
  match P.underlying T with
  | some (.struct fs)=>(match fs[k]? with|some f=>(ldk P f.type).map fun l=>(f.offset,l)|none=>none)
  | _=>none
def es (T:TypeId):Option Nat :=
  match P.underlying T with
  | some (.slice e)=>(P.info? e).map (·.size)
  | _=>none
def qhd (T:TypeId):Bool:=match P.underlying T with|some .string=>true|_=>false
def isSl (T:TypeId):Bool:=match P.underlying T with|some (.slice _)=>true|_=>false
def qbq (T:TypeId):Bool:=match P.underlying T with|some .bool=>true|_=>false
end
def qae (k:Option Nat) (row:List A) (off:Nat):Option D :=
  match k with
  | none=>row[off]?.map D.a
  | some n=>if off+n≤row.length then some (.r ((row.drop off).take n)) else none
def qc5 (b:Bool) (op:BinOp):Value→Value→Option Value
  | .int k x,.int k' y =>
    if k=k' then (match op with
      | .add=>some (.int k (k.wrap (x+y)))|.sub=>some (.int k (k.wrap (x-y)))|.mul=>some (.int k (k.wrap (x*y)))
      | .eql=>some (.bool (x==y))|.neq=>some (.bool (x != y))|.lss=>some (.bool (decide (x<y)))|.leq=>some (.bool (decide (x≤y)))|.gtr=>some (.bool (decide (x>y)))|.geq=>some (.bool (decide (x≥y)))
      | .quo=>if y=0 then none else some (.int k (k.wrap (x.tdiv y)))|.rem=>if y=0 then none else some (.int k (x.tmod y))
      | .and=>some (.int k (k.wrap (BitVec.ofInt k.bits x &&& BitVec.ofInt k.bits y).toNat))|.or=>some (.int k (k.wrap (BitVec.ofInt k.bits x ||| BitVec.ofInt k.bits y).toNat))
      | _=>none) else none
  | .string x,.string y =>
    (match op with
      | .eql=>some (.bool (x.toList==y.toList))|.neq=>some (.bool (!(x.toList==y.toList)))
      | .lss=>some (.bool (Op.bytesLess x.toList y.toList))
      | .add=>if x.size+y.size≤9223372036854775807 then some (.string (x++y)) else none
      | _=>none)
  | .bool x,.bool y=>if b then (match op with|.eql=>some (.bool (x==y))|.neq=>some (.bool (!(x==y)))|_=>none) else none
  | _,_=>none
def evUn (op:UnOp):Value→Option Value
  | .bool x=>(match op with|.not=>some (.bool (!x))|_=>none)
  | .int k x=>(match op with|.neg=>some (.int k (k.wrap (0-x)))|_=>none)
  | _=>none
def lenD (st:List Bx):D→Option Nat
  | .a .nl=>some 0
  | .a (.sl rows)=>some rows.length
  | .a (.own i ver)=>(match st[i]? with|some (.arr ver' _ rows)=>if ver=ver' then some rows.length else none|_=>none)
  | _=>none
def qad (ρ:Operand→Value):Op→List Operand
  | .pick c a b=>(match ρ c with|.bool true=>[c,a]|.bool false=>[c,b]|_=>[c])
  | op=>op.operands.toList
def QUp (P:Program) (V:Vw) (d:D):Result Next→Prop
  | .ok (.value v) w'=>Grw V.w w'∧RepD (V.to w') d v
  | .ok .skip w'=>w'=V.w∧d=.undef
  | .ok (.enter f args) w'=>w'=V.w∧Calls P f args V.w (fun en w''=>∃v,en=.returned v∧Grw V.w w''∧RepD (V.to w'') d v)
  | _=>False
def OpJ (P:Program) (st:List Bx) (e:Nat→D) (o:Oper) (d:D):Prop :=
  ∀(ρ:Operand→Value) (V:Vw),V.st=st→Ok V→(∀x∈qad ρ o.op,RepD V (evO e x) (ρ x))→QUp P V d ((execOp ρ o).run P V.w)
theorem QUp.val {P:Program} {V:Vw} {d:D} {v:Value} (h:RepD V d v):QUp P V d (.ok (.value v) V.w):=⟨Grw.refl _,h⟩
theorem RepD.v_inv {V:Vw} {u x:Value} (h:RepD V (.a (.v u)) x):x=u∧qek u=true:=by
  cases h with
  | a _ _ h=>cases h with
    | c _ _ h=>cases h with
      | v _ h=>exact⟨rfl,h⟩
theorem RepD.v {V:Vw} {u:Value} (h:qek u=true):RepD V (.a (.v u)) u:=.a _ _ (.c _ _ (.v _ h))
theorem RepD.c_inv {V:Vw} {x:A} {u:Value} (h:RepD V (.a x) u) (hx:clA x=true):RepC V.w V.mut x u:=by
  cases h with
  | a _ _ h=>exact h.cl hx
theorem RepD.r_inv {V:Vw} {row:List A} {x:Value} (h:RepD V (.r row) x):∃vs:List Value,x=.agg vs.toArray∧vs.length=row.length∧∀j y,row[j]? = some y→RepA V y (vs.getD j Go.undef):=by
  cases h with
  | r _ vs h1 h2=>exact⟨vs,rfl,h1,h2⟩
section
variable {P:Program} {st:List Bx} {e:Nat→D} {o:Oper}
theorem OpJ.move {x:Operand} (ho:o.op=.move x):OpJ P st e o (evO e x):=by
  intro ρ V _ _ hu
  rw [ho] at hu
  have:=hu x (by simp [qad,Op.operands])
  simp only [execOp,ho]
  exact .val this
theorem OpJ.assign {x:Operand} (ho:o.op=.assign x):OpJ P st e o (evO e x):=by
  intro ρ V _ _ hu
  rw [ho] at hu
  have:=hu x (by simp [qad,Op.operands])
  simp only [execOp,ho]
  exact .val this
theorem OpJ.pick {c x y:Operand} {a b d:Bool} (ho:o.op=.pick c x y) (hc:evO e c=.a (.v (.bool a))) (hx:evO e x=.a (.v (.bool b))) (hy:evO e y=.a (.v (.bool d))) :
    OpJ P st e o (.a (.v (.bool (bif a then b else d)))):=by
  intro ρ V _ _ hu
  rw [ho] at hu
  have h1:=hu c (by simp only [qad];split<;>simp)
  rw [hc] at h1
  obtain⟨h1,_⟩:=h1.v_inv
  simp only [execOp,ho,h1,asBool]
  cases a
  · have h2:=hu y (by simp [qad,h1])
    rw [hy] at h2
    obtain⟨h2,h3⟩:=h2.v_inv
    show QUp P V _ (.ok (.value (ρ y)) V.w)
    rw [h2]
    exact .val (.a _ _ (.c _ _ (.v _ rfl)))
  · have h2:=hu x (by simp [qad,h1])
    rw [hx] at h2
    obtain⟨h2,h3⟩:=h2.v_inv
    show QUp P V _ (.ok (.value (ρ x)) V.w)
    rw [h2]
    exact .val (.a _ _ (.c _ _ (.v _ rfl)))
end
theorem qki {P:Program} {V:Vw} {T:TypeId} {k:Option Nat} {row:List A} {off b o:Nat} {d:D} (hk:ldk P T=some k) (hd:qae k row off=some d)
    (val:Nat→Value) (h1:∀j x,row[j]? = some x→V.w.cell? ⟨b,o+j,none⟩=some (val j)) (h2:∀j x,row[j]? = some x→RepA V x (val j)) :
    ∃v,(Instr.loadAt T (.pointer (some ⟨b,o+off,none⟩))).run P V.w=.ok v V.w∧RepD V d v:=by
  unfold ldk at hk
  split at hk
  · rename_i dd i hu hi
    split at hk
    · rename_i hrow
      injection hk with hk;subst hk
      simp only [qae] at hd
      split at hd
      · rename_i hle
        injection hd with hd;subst hd
        have hc:V.w.rangeAt b (o+off) ((List.range i.size).map fun j=>val (off+j)):=by
          intro j v hv
          rw [List.getElem?_map,Option.map_eq_some_iff] at hv
          obtain⟨j',hj',rfl⟩:=hv
          obtain⟨hlt,rfl⟩:=List.getElem?_eq_some_iff.1 hj'
          have hjl:j<i.size:=by simpa using hlt
          simp only [List.getElem_range]
          rw [Nat.add_assoc]
          exact h1 (off+j) _ (List.getElem?_eq_getElem (show off+j<row.length by omega))
        have hrun:=run_loadAt_mid (P:=P) V.w b (o+off) T _ dd hc hu hrow (by rw [hi];simp)
        refine⟨_,hrun,.r _ _ (by simp;omega) fun j x hx=>?_⟩
        have hj:j<i.size:=by
          have:=(List.getElem?_eq_some_iff.1 hx).1
          simp at this;omega
        rw [List.getElem?_take_of_lt hj,List.getElem?_drop] at hx
        have:=h2 (off+j) x hx
        rw [List.getD_eq_getElem?_getD,List.getElem?_map,List.getElem?_range hj]
        exact this
      · cases hd
    · rename_i hrow
      injection hk with hk;subst hk
      simp only [qae] at hd
      cases hx:row[off]? with
      | none=>simp [hx] at hd
      | some x =>
        simp only [hx,Option.map_some,Option.some.injEq] at hd
        subst hd
        refine⟨val off,?_,.a _ _ (h2 off x hx)⟩
        have hagg:(isAgg T).run P V.w=.ok false V.w:=by
          unfold isAgg
          rw [Sem.run_bind,run_underlying hu V.w]
          cases dd<;>simp_all
        simp [Instr.loadAt,Instr.sureAddr,loadVar,Sem.run_bind,hagg,run_load,h1 off x hx]
  · cases hk
section
variable {P:Program} {st:List Bx} {e:Nat→D} {o:Oper}
theorem OpJ.load_ref {T:TypeId} {x:Operand} {k:Option Nat} {row:List A} {off:Nat} {d:D} (ho:o.op=.load T x) (hx:evO e x=.a (.ref row off)) (hk:ldk P T=some k) (hd:qae k row off=some d):OpJ P st e o d:=by
  intro ρ V _ _ hu
  rw [ho] at hu
  have h:=hu x (by simp [qad,Op.operands])
  rw [hx] at h
  simp only [execOp,ho]
  generalize ρ x=u at *
  cases h.c_inv rfl with
    | ref _ _ b o' val hb hm h1 h2 =>
      obtain⟨v,hr,hv⟩:=qki hk hd val h1 fun j x hj=>.c _ _ (h2 j x hj)
      simp only [Sem.run_bind,hr,Result.andThen_ok,Sem.run_pure]
      exact .val hv
theorem OpJ.load_ptr {T:TypeId} {x:Operand} {k:Option Nat} {row:List A} {i off:Nat} {d:D} (ho:o.op=.load T x) (hx:evO e x=.a (.ptr i off)) (hs:st[i]? = some (.cell row)) (hk:ldk P T=some k) (hd:qae k row off=some d):OpJ P st e o d:=by
  intro ρ V hst hok hu
  rw [ho] at hu
  have h:=hu x (by simp [qad,Op.operands])
  rw [hx] at h
  simp only [execOp,ho]
  generalize ρ x=u at *
  subst hst
  cases h with
  | a _ _ h=>cases h with
    | c _ _ h=>cases h
    | ptr _ _ b hi hb =>
      obtain⟨cs,T',h1,h2,h3⟩:=hok.cell i row b hs (hb row hs)
      have hc:∀j x,row[j]? = some x→V.w.cell? ⟨b,0+j,none⟩=some (cs.getD j Go.undef):=fun j x hj=>by
        have hlt:=(List.getElem?_eq_some_iff.1 hj).1
        rw [Nat.zero_add,cell_of_row V.w b j cs T' (0,0) h1,Array.getD_eq_getD_getElem?,Array.getElem?_eq_getElem (by omega)];rfl
      obtain⟨v,hr,hv⟩:=qki (off:=off) hk hd _ hc h3
      rw [Nat.zero_add] at hr
      simp only [Sem.run_bind,hr,Result.andThen_ok,Sem.run_pure]
      exact .val hv
theorem qi8 {T k off:Nat} {w:World} {b o:Nat} (h:fo P T k=some off):(Instr.fieldAt T (.pointer (some ⟨b,o,none⟩)) k).run P w=.ok (.pointer (some ⟨b,o+off,none⟩)) w:=by
  unfold fo at h
  split at h
  · rename_i fs hu
    split at h
    · rename_i f hf
      split at h
      · cases h
      · rename_i hz
        injection h with h;subst h
        have hsz:(sizeOf f.type).run P w=.ok (szT P f.type) w:=by
          unfold szT at hz ⊢
          cases hi:P.info? f.type with
          | none=>simp [hi] at hz
          | some i=>simp [sizeOf,typeInfo,hi]
        simp [Instr.fieldAt,Sem.run_bind,run_underlying hu,hf,Instr.sureAddr,fieldPlace,hsz,hz,Addr.add_mid]
    · cases h
  · cases h
theorem OpJ.fa_ref {T k off off':Nat} {x:Operand} {row:List A} (ho:o.op=.fieldAddr T x k) (hx:evO e x=.a (.ref row off)) (hf:fo P T k=some off'):OpJ P st e o (.a (.ref row (off+off'))):=by
  intro ρ V _ _ hu
  rw [ho] at hu
  have h:=hu x (by simp [qad,Op.operands])
  rw [hx] at h
  simp only [execOp,ho]
  generalize ρ x=u at *
  cases h.c_inv rfl with
    | ref _ _ b o' val hb hm h1 h2 =>
      simp only [Sem.run_bind,qi8 hf,Result.andThen_ok,Sem.run_pure]
      refine .val (.a _ _ ?_)
      rw [Nat.add_assoc]
      exact .c _ _ (.ref row (off+off') b o' val hb hm h1 h2)
theorem OpJ.fa_ptr {T k off off' i:Nat} {x:Operand} (ho:o.op=.fieldAddr T x k) (hx:evO e x=.a (.ptr i off)) (hf:fo P T k=some off'):OpJ P st e o (.a (.ptr i (off+off'))):=by
  intro ρ V _ _ hu
  rw [ho] at hu
  have h:=hu x (by simp [qad,Op.operands])
  rw [hx] at h
  simp only [execOp,ho]
  generalize ρ x=u at *
  cases h with
  | a _ _ h=>cases h with
    | c _ _ h=>cases h
    | ptr _ _ b hi hb =>
      simp only [Sem.run_bind,qi8 hf,Result.andThen_ok,Sem.run_pure]
      exact .val (.a _ _ (.ptr i (off+off') b hi hb))
theorem OpJ.nil_ref {x:Operand} {row:List A} {off:Nat} (ho:o.op=.nilCheck x) (hx:evO e x=.a (.ref row off)):OpJ P st e o (.a (.ref row off)):=by
  intro ρ V _ _ hu
  rw [ho] at hu
  have h:=hu x (by simp [qad,Op.operands])
  rw [hx] at h
  simp only [execOp,ho]
  generalize ρ x=u at *
  cases h.c_inv rfl with
    | ref _ _ b o' val hb hm h1 h2=>exact .val (.a _ _ (.c _ _ (.ref row off b o' val hb hm h1 h2)))
theorem OpJ.nil_ptr {x:Operand} {i off:Nat} (ho:o.op=.nilCheck x) (hx:evO e x=.a (.ptr i off)):OpJ P st e o (.a (.ptr i off)):=by
  intro ρ V _ _ hu
  rw [ho] at hu
  have h:=hu x (by simp [qad,Op.operands])
  rw [hx] at h
  simp only [execOp,ho]
  generalize ρ x=u at *
  cases h with
  | a _ _ h=>cases h with
    | c _ _ h=>cases h
    | ptr _ _ b hi hb=>exact .val (.a _ _ (.ptr i off b hi hb))
theorem ql2 (op:BinOp) (T:TypeId) (x y:Operand) (a b:Value) (w:World) (h1:∀c,a≠.agg c) (h2:a≠.nilIface):(eqGuard op T x y a b).run P w=.ok () w:=by
  unfold eqGuard
  cases op<;>simp<;>(cases a<;>first|rfl|(exfalso;exact h1 _ rfl)|(exfalso;exact h2 rfl))
theorem run_eqB {T:TypeId} (hu:P.underlying T=some .bool) (x y:Bool) (w:World):(Op.equal T (.bool x) (.bool y)).run P w=.ok (x==y) w:=by
  show (Op.equalIn (9999+1) T (.bool x) (.bool y)).run P w=_
  rw [Op.equalIn]
  simp only [Sem.run_bind,run_underlying hu,Result.andThen_ok,Sem.run_pure]
theorem run_bin {T:TypeId} {op:BinOp} {x y z:Value} {w:World} (h:qc5 (qbq P T) op x y=some z):(binOp op T x y).run P w=.ok z w∧qek z=true:=by
  unfold qc5 at h
  split at h
  · rename_i k a k' b
    split at h
    · rename_i hk;subst hk
      cases op<;>simp only [Option.some.injEq,reduceCtorEq] at h<;>first
        | (subst h;exact⟨by simp [binOp,Op.intArith,Op.intCmp,Op.intBits],rfl⟩)
        | (split at h
           · cases h
           · rename_i hz;injection h with h;subst h;exact⟨by simp [binOp,Op.intDiv,hz],rfl⟩)
    · cases h
  · rename_i a b
    cases op<;>simp only [Option.some.injEq,reduceCtorEq] at h<;>first
      | (subst h;exact⟨by simp [binOp,Op.stringOp],rfl⟩)
      | (split at h
         · rename_i hz;injection h with h;subst h;refine⟨?_,rfl⟩
           have:¬(((a.size+b.size:Nat):Int)>IntKind.i64.max):=by rw [show IntKind.i64.max=9223372036854775807 by decide];omega
           simp only [binOp,Op.stringOp,this,if_false];rfl
         · cases h)
  · rename_i a b
    split at h
    · rename_i hb
      unfold qbq at hb
      split at hb
      · rename_i hu
        cases op<;>simp only [Option.some.injEq,reduceCtorEq] at h<;>(subst h;exact⟨by simp only [binOp,Sem.run_bind,run_eqB hu,Result.andThen_ok,Sem.run_pure],rfl⟩)
      · cases hb
    · cases h
  · cases h
theorem qn6 {b:Bool} {op:BinOp} {x y z:Value} (h:qc5 b op x y=some z):(∀c,x≠.agg c)∧x≠.nilIface:=by
  constructor
  · rintro c rfl
    revert h
    cases y<;>simp [qc5]
  · rintro rfl
    revert h
    cases y<;>simp [qc5]
theorem OpJ.bin {op:BinOp} {T T':TypeId} {x y:Operand} {u v z:Value} (ho:o.op=.binOp op T x y T') (hx:evO e x=.a (.v u)) (hy:evO e y=.a (.v v)) (hz:qc5 (qbq P T) op u v=some z):OpJ P st e o (.a (.v z)):=by
  intro ρ V _ _ hu
  rw [ho] at hu
  have h1:=hu x (by simp [qad,Op.operands])
  have h2:=hu y (by simp [qad,Op.operands])
  rw [hx] at h1
  rw [hy] at h2
  obtain⟨h1,_⟩:=h1.v_inv
  obtain⟨h2,_⟩:=h2.v_inv
  obtain⟨k1,k2⟩:=run_bin (w:=V.w) hz
  obtain⟨l1,l2⟩:=qn6 hz
  simp only [execOp,ho,h1,h2,Sem.run_bind,ql2 op T x y u v V.w l1 l2,Result.andThen_ok,k1,Sem.run_pure]
  exact .val (.v k2)
theorem OpJ.un {op:UnOp} {T:TypeId} {x:Operand} {u z:Value} (ho:o.op=.unOp op T x) (hx:evO e x=.a (.v u)) (hz:evUn op u=some z):OpJ P st e o (.a (.v z)):=by
  intro ρ V _ _ hu
  rw [ho] at hu
  have h1:=hu x (by simp [qad,Op.operands])
  rw [hx] at h1
  obtain⟨h1,_⟩:=h1.v_inv
  have k:(Op.unary op u).run P V.w=.ok z V.w∧qek z=true:=by
    unfold evUn at hz
    split at hz<;>cases op<;>simp only [Option.some.injEq,reduceCtorEq] at hz<;>(subst hz;exact⟨by simp [Op.unary,Op.intArith],rfl⟩)
  simp only [execOp,ho,h1,Sem.run_bind,Result.andThen_ok,k.1,Sem.run_pure]
  exact .val (.v k.2)
theorem OpJ.index_sl {T:TypeId} {x i:Operand} {rows:List (List A)} {z:Int} {k:IntKind} {n:Nat} (ho:o.op=.indexAddr T x i) (hx:evO e x=.a (.sl rows)) (hi:evO e i=.a (.v (.int k z))) (hn:es P T=some n) (h0:0≤z) (hl:z<rows.length)
    (hr:(rows.getD z.toNat []).length=n):OpJ P st e o (.a (.ref (rows.getD z.toNat []) 0)):=by
  intro ρ V _ _ hu
  rw [ho] at hu
  have h1:=hu x (by simp [qad,Op.operands])
  have h2:=hu i (by simp [qad,Op.operands])
  rw [hx] at h1
  rw [hi] at h2
  obtain⟨h2,_⟩:=h2.v_inv
  simp only [execOp,ho,h2]
  generalize ρ x=u at *
  unfold es at hn
  split at hn
  · rename_i el hel
    cases hinfo:P.info? el with
    | none=>simp [hinfo] at hn
    | some inf =>
      simp only [hinfo,Option.map_some,Option.some.injEq] at hn
      cases h1.c_inv rfl with
        | sl0=>simp at hl;omega
        | sl _ n' b o' c val hb hm hc hlen h3 h4 =>
          have hlt:z.toNat<rows.length:=by omega
          have hget:rows[z.toNat]? = some (rows.getD z.toNat []):=by rw [List.getD_eq_getElem?_getD,List.getElem?_eq_getElem hlt];rfl
          have hn':n'=inf.size:=by rw [←hn] at hr;rw [←hr];exact (hlen _ _ hget).symm
          subst hn'
          have hz:¬(z<0∨(rows.length:Int)≤z):=by omega
          have hrun:(Instr.indexAt T (.slice (some ⟨b,o',none⟩) rows.length c) (.int k z)).run P V.w=.ok (.pointer (some ⟨b,o'+z.toNat*inf.size,none⟩)) V.w:=by
            simp [Instr.indexAt,asIntOf,Sem.run_bind,run_underlying hel,sizeOf,typeInfo,hinfo,h0,hl,Addr.add_mid]
          simp only [Sem.run_bind,hrun,Result.andThen_ok,Sem.run_pure]
          refine .val (.a _ _ ?_)
          have:=RepC.ref (w:=V.w) (mu:=V.mut) (rows.getD z.toNat []) 0 b (o'+z.toNat*inf.size) (fun j=>val z.toNat j) hb hm (fun j y hj=>h3 _ _ j y hget hj) (fun j y hj=>h4 _ _ j y hget hj)
          exact .c _ _ this
  · cases hn
theorem OpJ.extract {x:Operand} {k:Nat} {ds:List D} {d:D} (ho:o.op=.extract x k) (hx:evO e x=.a (.nl)→False) (hx':evO e x=.t ds) (hd:ds[k]? = some d):OpJ P st e o d:=by
  intro ρ V _ _ hu
  rw [ho] at hu
  have h1:=hu x (by simp [qad,Op.operands])
  rw [hx'] at h1
  simp only [execOp,ho]
  generalize ρ x=u at *
  cases h1 with
  | t _ vs h1 h2 =>
    have hk:k<vs.length:=by have:=(List.getElem?_eq_some_iff.1 hd).1;omega
    have:=h2 k d hd
    rw [List.getD_eq_getElem?_getD,List.getElem?_eq_getElem hk] at this
    have hrun:(Instr.extract (.tuple vs.toArray) k).run P V.w=.ok vs[k] V.w:=by simp [Instr.extract,hk]
    simp only [Sem.run_bind,hrun,Result.andThen_ok,Sem.run_pure]
    exact .val this
theorem OpJ.len_str {x:Operand} {T:TypeId} {s:ByteArray} (ho:o.op=.call ⟨.builtin .len,#[x],#[T]⟩) (hx:evO e x=.a (.v (.string s))) (hT:qhd P T=true):OpJ P st e o (.a (.v (.int .i64 s.size))):=by
  intro ρ V _ _ hu
  rw [ho] at hu
  have h1:=hu x (by simp [qad,Op.operands,Call.operands])
  rw [hx] at h1
  obtain⟨h1,_⟩:=h1.v_inv
  unfold qhd at hT
  split at hT
  · rename_i hU
    simp [execOp,ho,resolve,invoke,builtin,Builtin.len_,Sem.run_bind,run_underlying hU,h1,goInt]
    exact .val (V:=V) (v:=.int .i64 _) (.v rfl)
  · cases hT
theorem OpJ.len_sl {x:Operand} {T:TypeId} {n:Nat} (ho:o.op=.call ⟨.builtin .len,#[x],#[T]⟩) (hx:lenD st (evO e x)=some n) (hT:isSl P T=true):OpJ P st e o (.a (.v (.int .i64 n))):=by
  intro ρ V hst _ hu
  rw [ho] at hu
  have h1:=hu x (by simp [qad,Op.operands,Call.operands])
  have key:∃a c,ρ x=.slice a n c:=by
    generalize hd:evO e x=d at *
    generalize ρ x=u at *
    unfold lenD at hx
    split at hx
    · injection hx with hx;subst hx
      cases h1.c_inv rfl with
        | nl=>exact⟨_,_,rfl⟩
    · injection hx with hx;subst hx
      cases h1.c_inv rfl with
        | sl0 a c=>exact⟨a,c,rfl⟩
        | sl _ n' b o' c=>exact⟨_,_,rfl⟩
    · split at hx
      · rename_i hs
        split at hx
        · rename_i hv
          injection hx with hx;subst hx
          cases h1 with
          | a _ _ h=>cases h with
            | c _ _ h=>cases h
            | own _ _ a l c hi hr =>
              obtain⟨_,hr⟩:=hr _ _ _ (by rw [hst];exact hs)
              obtain⟨hr,_⟩:=hr hv
              subst hr
              exact⟨a,c,rfl⟩
        · cases hx
      · cases hx
    · cases hx
  obtain⟨a,c,h1⟩:=key
  unfold isSl at hT
  split at hT
  · rename_i _ hU
    simp [execOp,ho,resolve,invoke,builtin,Builtin.len_,Sem.run_bind,run_underlying hU,h1,goInt]
    exact .val (V:=V) (v:=.int .i64 _) (.v rfl)
  · cases hT
end
structure Step (V V':Vw):Prop where
  le:V.Le V'
  ok:Ok V'
  fr:Fr (fun b=>b∈V.bl) V.w V'.w
  new:∀b,b∈V'.bl→b∈V.bl∨V.w.heap.size≤b
theorem Step.refl {V:Vw} (h:Ok V):Step V V:=⟨.refl V,h,.refl _ _,fun _ h=>.inl h⟩
theorem Step.grw {V:Vw} (h:Ok V) {w:World} (g:Grw V.w w):Step V (V.to w):=⟨Vw.le_grw h g,h.grw g,.of_grwK g,fun _ h=>.inl h⟩
def GUp (P:Program) (V:Vw) (st':List Bx) (d:D):Result Next→Prop
  | .ok (.value v) w'=>∃bl',Step V ⟨w',V.x,bl',st'⟩∧RepD ⟨w',V.x,bl',st'⟩ d v
  | .ok .skip w'=>d=.undef∧∃bl',Step V ⟨w',V.x,bl',st'⟩
  | .ok (.enter f args) w'=>w'=V.w∧Calls P f args V.w (fun en w''=>∃v,en=.returned v∧∃bl',Step V ⟨w'',V.x,bl',st'⟩∧RepD ⟨w'',V.x,bl',st'⟩ d v)
  | _=>False
def OpG (P:Program) (st:List Bx) (e:Nat→D) (o:Oper) (d:D) (st':List Bx):Prop :=
  ∀(ρ:Operand→Value) (V:Vw),V.st=st→Ok V→(∀x∈qad ρ o.op,RepD V (evO e x) (ρ x))→GUp P V st' d ((execOp ρ o).run P V.w)
theorem OpJ.toG {P:Program} {st:List Bx} {e:Nat→D} {o:Oper} {d:D} (h:OpJ P st e o d):OpG P st e o d st:=by
  intro ρ V hst hok hu
  have h2:=h ρ V hst hok hu
  clear h
  subst hst
  revert h2
  generalize (execOp ρ o).run P V.w=r
  intro h
  unfold QUp at h
  unfold GUp
  split at h
  · exact⟨V.bl,.grw hok h.1,h.2⟩
  · obtain⟨rfl,rfl⟩:=h;exact⟨rfl,V.bl,.refl hok⟩
  · refine⟨h.1,h.2.mono ?_⟩
    rintro en w'' ⟨v,h1,h2,h3⟩
    exact⟨v,h1,V.bl,.grw hok h2,h3⟩
  · exact h.elim
def upd (e:Nat→D) (t:Nat) (d:D):Nat→D:=fun t'=>if t'=t then d else e t'
def putE (e:Nat→D) (dst:Option Nat) (d:D):Nat→D:=match dst with|none=>e|some t=>upd e t d
def wrt (ops:Array Oper) (t:Nat):Option Nat:=ops.toList.findIdx? fun o=>o.dst==some t
def gd (ops:Array Oper) (i:Nat):Option (Nat×Bool):=(ops[i]?).bind (·.guard)
def OneW (ops:Array Oper):Prop:=∀(i j:Nat) (oi oj:Oper) (t:Nat),ops[i]? = some oi→ops[j]? = some oj→oi.dst=some t→oj.dst=some t→i=j
theorem qa5 {ops:Array Oper} {t i:Nat} (h:wrt ops t=some i):∃o,ops[i]? = some o∧o.dst=some t:=by
  unfold wrt at h
  rw [List.findIdx?_eq_some_iff_getElem] at h
  obtain⟨hi,h1,_⟩:=h
  exact⟨ops.toList[i],by rw [←Array.getElem?_toList];exact List.getElem?_eq_getElem hi,by simpa using h1⟩
theorem qdn {ops:Array Oper} (h1:OneW ops) {t i:Nat} {o:Oper} (ho:ops[i]? = some o) (hd:o.dst=some t):wrt ops t=some i:=by
  cases h:wrt ops t with
  | none =>
    unfold wrt at h
    rw [List.findIdx?_eq_none_iff] at h
    have:=h o (by have:=Array.mem_of_getElem? ho;simpa using this)
    simp [hd] at this
  | some j =>
    obtain⟨o',h2,h3⟩:=qa5 h
    rw [h1 j i o' o t h2 ho h3 hd]
def qiy (V:Vw) (ops:Array Oper) (tm:Array Value) (g:Option (Nat×Bool)) (d:D) (v:Value):Prop :=
  match g with
  | none=>RepD V d v
  | some (j,b)=>(yielded ops tm j=some b→RepD V d v)∧(yielded ops tm j≠some b→v=Go.undef)
def gdD (ops:Array Oper) (done:Nat→Bool) (t:Nat):Option (Nat×Bool) :=
  match wrt ops t with
  | some i=>if done i then gd ops i else none
  | none=>none
structure RM (ops:Array Oper) (done:Nat→Bool) (V:Vw) (tm:Array Value) (n:Nat) (e:Nat→D):Prop where
  size:tm.size=n
  slot:∀t,t<n→qiy V ops tm (gdD ops done t) (e t) (tm.getD t Go.undef)
def imp (ops:Array Oper):Nat→Option (Nat×Bool)→Nat×Bool→Bool
  | 0,_,_=>false
  | _+1,none,_=>false
  | f+1,some g,w=>(g.1==w.1&&g.2==w.2)||imp ops f (gd ops g.1) w
theorem qdm {ops:Array Oper} {tm:Array Value} {j:Nat} {b:Bool} (h:yielded ops tm j=some b):∃o t,ops[j]? = some o∧o.dst=some t∧tm[t]? = some (.bool b):=by
  unfold yielded at h
  cases ho:ops[j]? with
  | none=>simp [ho] at h
  | some o =>
    cases hd:o.dst with
    | none=>simp [ho,hd] at h
    | some t =>
      simp only [ho,Option.bind_some,hd] at h
      split at h
      · rename_i b' hb
        injection h with h;subst h
        exact⟨o,t,rfl,hd,hb⟩
      · cases h
theorem qk2 {ops:Array Oper} {done:Nat→Bool} {V:Vw} {tm:Array Value} {n:Nat} {e:Nat→D} (h1:OneW ops) (hm:RM ops done V tm n e) (hcl:∀i j b,done i=true→gd ops i=some (j,b)→done j=true) :
    ∀(f:Nat) (g:Option (Nat×Bool)) (w:Nat×Bool),imp ops f g w=true→(∀j b,g=some (j,b)→done j=true∧yielded ops tm j=some b)→yielded ops tm w.1=some w.2
  | 0,_,_,h,_=>by simp [imp] at h
  | f+1,none,_,h,_=>by simp [imp] at h
  | f+1,some (j,b),w,h,hg=>by
    obtain⟨hdj,hy⟩:=hg j b rfl
    simp only [imp,Bool.or_eq_true,Bool.and_eq_true,beq_iff_eq] at h
    rcases h with ⟨e1,e2⟩|h
    · rw [←e1,←e2];exact hy
    · refine qk2 h1 hm hcl f (gd ops j) w h fun j2 b2 hg2=>⟨hcl j j2 b2 hdj hg2,?_⟩
      obtain⟨o,t,ho,hd,ht⟩:=qdm hy
      have hlt:t<n:=by rw [←hm.size];exact (Array.getElem?_eq_some_iff.1 ht).1
      have hs:=hm.slot t hlt
      have hgd:gdD ops done t=some (j2,b2):=by simp only [gdD,qdn h1 ho hd,hdj,if_true];exact hg2
      rw [hgd] at hs
      by_cases hyy:yielded ops tm j2=some b2
      · exact hyy
      · have:=hs.2 hyy
        rw [Array.getD_eq_getD_getElem?,ht] at this
        cases this
def okX (ops:Array Oper) (k:Nat) (g:Option (Nat×Bool)):Operand→Bool
  | .tmp t=>(match wrt ops t with
    | some i=>if i<k then (match gd ops i with|none=>true|some w=>imp ops 64 g w) else true
    | none=>true)
  | _=>true
def okP (ops:Array Oper) (k:Nat) (g:Option (Nat×Bool)) (c x:Operand) (b:Bool):Bool :=
  okX ops k g x||(match c with|.tmp t=>(match wrt ops t with|some j=>decide (j<k)&&okX ops k (some (j,b)) x|none=>false)|_=>false)
def qll (ops:Array Oper) (k:Nat) (o:Oper):Bool :=
  (match o.guard with|none=>true|some (j,_)=>decide (j<k)) &&
  (match o.op with
  | .pick c x y=>okX ops k o.guard c&&okP ops k o.guard c x true&&okP ops k o.guard c y false
  | op=>op.operands.toList.all (okX ops k o.guard))
theorem okX_sound {ops:Array Oper} {done:Nat→Bool} {V:Vw} {a:Act} {n:Nat} {e:Nat→D} {k:Nat} {g:Option (Nat×Bool)} {x:Operand} (h1:OneW ops) (hm:RM ops done V a.tmps n e) (hok:Ok V) (hcl:∀i j b,done i=true→gd ops i=some (j,b)→done j=true)
    (hx:okX ops k g x=true) (hr:∀t i,x=.tmp t→wrt ops t=some i→(done i=true↔i<k)) (hn:∀t,x=.tmp t→t<n) (hg:∀j b,g=some (j,b)→done j=true∧yielded ops a.tmps j=some b):RepD V (evO e x) (a.eval x):=by
  cases x with
  | const v=>exact qht V v
  | func f =>
    have h:=RepA.fn (V:=V) f [] [] rfl (fun i x h=>by simp at h)
    exact .a _ _ h
  | global g=>exact glD_rep hok g
  | tmp t =>
    have hs:=hm.slot t (hn t rfl)
    show RepD V (e t) (a.tmps.getD t Go.undef)
    unfold gdD at hs
    simp only [okX] at hx
    cases hw:wrt ops t with
    | none=>rw [hw] at hs;exact hs
    | some i =>
      rw [hw] at hs hx
      have hri:=hr t i rfl hw
      simp only at hs hx
      by_cases hik:i<k
      · rw [if_pos (hri.2 hik)] at hs
        rw [if_pos hik] at hx
        cases hgi:gd ops i with
        | none=>rw [hgi] at hs;exact hs
        | some w =>
          rw [hgi] at hs hx
          exact hs.1 (qk2 h1 hm hcl 64 g w hx hg)
      · rw [if_neg (fun h=>hik (hri.1 h))] at hs
        exact hs
theorem qj9 {ops:Array Oper} {done:Nat→Bool} {V:Vw} {a:Act} {n:Nat} {e:Nat→D} {k:Nat} {o:Oper} (h1:OneW ops) (hm:RM ops done V a.tmps n e) (hok:Ok V) (hcl:∀i j b,done i=true→gd ops i=some (j,b)→done j=true)
    (hu:qll ops k o=true) (hr:∀t i,.tmp t∈o.op.operands→wrt ops t=some i→(done i=true↔i<k)) (hn:∀t,.tmp t∈o.op.operands→t<n) (hg:∀j b,o.guard=some (j,b)→done j=true∧yielded ops a.tmps j=some b) :
    ∀x∈qad a.eval o.op,RepD V (evO e x) (a.eval x):=by
  have key:∀g x,x∈o.op.operands→okX ops k g x=true→(∀j b,g=some (j,b)→done j=true∧yielded ops a.tmps j=some b)→RepD V (evO e x) (a.eval x):=fun g x hx hxk hg =>
    okX_sound h1 hm hok hcl hxk (fun t i he=>hr t i (he▸hx)) (fun t he=>hn t (he▸hx)) hg
  simp only [qll,Bool.and_eq_true] at hu
  obtain⟨_,hu⟩:=hu
  intro x hx
  cases hop:o.op with
  | pick c p q =>
    rw [hop] at hu hx
    simp only [Bool.and_eq_true] at hu
    obtain⟨⟨hc,hp⟩,hq⟩:=hu
    have mem:∀y,y=c∨y=p∨y=q→y∈o.op.operands:=by rw [hop];rintro y (rfl|rfl|rfl)<;>simp [Op.operands]
    have hcR:=key _ c (mem c (.inl rfl)) hc hg
    have pk:∀y b,y∈o.op.operands→okP ops k o.guard c y b=true→a.eval c=.bool b→RepD V (evO e y) (a.eval y):=by
      intro y b hy hok hb
      simp only [okP,Bool.or_eq_true] at hok
      rcases hok with hok|hok
      · exact key _ y hy hok hg
      · split at hok
        · rename_i t
          split at hok
          · rename_i j hw
            simp only [Bool.and_eq_true,decide_eq_true_iff] at hok
            refine key _ y hy hok.2 fun j' b' he=>?_
            injection he with he;injection he with he1 he2;subst he1;subst he2
            refine⟨(hr t j (mem _ (.inl rfl)) hw).2 hok.1,?_⟩
            obtain⟨oj,ho,hd⟩:=qa5 hw
            have hev:a.tmps[t]? = some (.bool b):=by
              have h:a.tmps.getD t Go.undef=.bool b:=hb
              rw [Array.getD_eq_getD_getElem?] at h
              cases ht:a.tmps[t]? with
              | none=>rw [ht] at h;cases h
              | some v=>rw [ht] at h;exact congrArg some h
            simp [yielded,ho,hd,hev]
          · cases hok
        · cases hok
    simp only [qad] at hx
    split at hx
    · rename_i hb
      simp only [List.mem_cons,List.not_mem_nil,or_false] at hx
      rcases hx with rfl|rfl
      · exact hcR
      · exact pk _ true (mem _ (.inr (.inl rfl))) hp hb
    · rename_i hb
      simp only [List.mem_cons,List.not_mem_nil,or_false] at hx
      rcases hx with rfl|rfl
      · exact hcR
      · exact pk _ false (mem _ (.inr (.inr rfl))) hq hb
    · simp only [List.mem_cons,List.not_mem_nil,or_false] at hx
      subst hx;exact hcR
  | _ =>
    rw [hop] at hu hx
    simp only [qad] at hx
    have hx':x∈o.op.operands:=by rw [hop];simpa using hx
    exact key _ x hx' (by simp only [List.all_eq_true] at hu;exact hu x hx) hg
def qbr (ops:Array Oper) (j:Nat):Option Nat:=(ops[j]?).bind (·.dst)
def qa8 (ops:Array Oper) (e:Nat→D) (o:Oper) (p:Prop):Prop :=
  match o.guard with
  | none=>p
  | some (j,b)=>(match (qbr ops j).map e with
    | some (.a (.v (.bool x)))=>(x=b→p)
    | some .undef=>True
    | _=>p)
def DStep (P:Program) (ops:Array Oper) (st:List Bx) (e:Nat→D) (o:Oper) (d:D) (st':List Bx):Prop :=
  (o.guard=none∧OpG P st e o d st')∨(st'=st∧qa8 ops e o (OpJ P st e o d))
def upB (done:Nat→Bool) (k:Nat):Nat→Bool:=fun i=>done i||i==k
theorem qlf {ops:Array Oper} {a:Act} {dst:Option Nat} {v:Value} {j:Nat} (h:∀t,dst=some t→qbr ops j≠some t):yielded ops (a.put dst v).tmps j=yielded ops a.tmps j:=by
  cases dst with
  | none=>rfl
  | some d =>
    unfold yielded
    cases ht:(ops[j]?).bind (·.dst) with
    | none=>rfl
    | some t =>
      have hne:d≠t:=fun e=>h d rfl (by rw [e];exact ht)
      simp [Act.put,Array.getElem?_setIfInBounds_ne hne]
def FR (ro:Option Nat):Fence:={ Fence.wide with round:=ro }
theorem qfw {ro:Option Nat} {m:Nat} {P:Program} {f:FuncId} {args:Array Value} {w:World} {R:Ending→World→Prop} (h:Calls P f args w R):CallsIn (FR ro) m P f args w R :=
  callsIn_wide.2 h
section
variable {P:Program} {ops:Array Oper} {done:Nat→Bool} {V V':Vw} {a:Act} {n:Nat} {e:Nat→D} {k:Nat} {o:Oper} {d:D} {v:Value}
theorem RM.put (h1:OneW ops) (ho:ops[k]? = some o) (hm:RM ops done V a.tmps n e) (hk:done k=false) (hcl:∀i j b,done i=true→gd ops i=some (j,b)→done j=true)
    (hgk:∀j b,o.guard=some (j,b)→done j=true) (hV:V.Le V') (hd:match o.guard with|none=>RepD V' d v|some (j,b)=>(yielded ops a.tmps j=some b→RepD V' d v)∧(yielded ops a.tmps j≠some b→v=Go.undef)) :
    RM ops (upB done k) V' (a.put o.dst v).tmps n (putE e o.dst d):=by
  have hy:∀j,done j=true→yielded ops (a.put o.dst v).tmps j=yielded ops a.tmps j:=fun j hj=>qlf fun t ht hs=>by
    unfold qbr at hs
    cases hoj:ops[j]? with
    | none=>simp [hoj] at hs
    | some oj =>
      simp only [hoj,Option.bind_some] at hs
      have:=h1 k j o oj t ho hoj ht hs
      subst this;rw [hk] at hj;cases hj
  refine⟨?_,fun t ht=>?_⟩
  · have:=hm.size
    cases o.dst<;>simpa [Act.put] using this
  · by_cases hdst:o.dst=some t
    · have hw:=qdn h1 ho hdst
      have hgd:gdD ops (upB done k) t=o.guard:=by simp [gdD,hw,upB,gd,ho]
      have hv:(a.put o.dst v).tmps.getD t Go.undef=v:=by
        have hlt:t<a.tmps.size:=by rw [hm.size];exact ht
        simp [hdst,Act.put,hlt]
      have he:putE e o.dst d t=d:=by simp [hdst,putE,upd]
      rw [hgd,hv,he]
      unfold qiy
      cases hg:o.guard with
      | none=>rw [hg] at hd;exact hd
      | some jb =>
        obtain⟨j,b⟩:=jb
        rw [hg] at hd
        simp only
        rw [hy j (hgk j b hg)]
        exact hd
    · have hv:(a.put o.dst v).tmps.getD t Go.undef=a.tmps.getD t Go.undef:=by
        cases hdd:o.dst with
        | none=>rfl
        | some t' =>
          have hne:t'≠t:=fun e=>hdst (by rw [hdd,e])
          simp [Act.put,Array.getElem?_setIfInBounds_ne hne]
      have he:putE e o.dst d t=e t:=by
        cases hdd:o.dst with
        | none=>rfl
        | some t' =>
          have hne:t≠t':=fun e=>hdst (by rw [hdd,e])
          simp [putE,upd,hne]
      have hgd:gdD ops (upB done k) t=gdD ops done t:=by
        unfold gdD
        cases hw:wrt ops t with
        | none=>rfl
        | some i =>
          have hik:i≠k:=fun e=>by
            obtain⟨o',h2,h3⟩:=qa5 hw
            rw [e,ho] at h2;injection h2 with h2;exact hdst (h2▸h3)
          simp [upB,hik]
      have hs:=hm.slot t ht
      rw [hgd,hv,he]
      unfold qiy at *
      cases hg:gdD ops done t with
      | none=>rw [hg] at hs;exact hs.mono hV
      | some jb =>
        obtain⟨j,b⟩:=jb
        rw [hg] at hs
        simp only at hs ⊢
        have hdj:done j=true:=by
          unfold gdD at hg
          cases hw:wrt ops t with
          | none=>simp [hw] at hg
          | some i =>
            simp only [hw] at hg
            by_cases hdi:done i=true
            · rw [if_pos hdi] at hg;exact hcl i j b hdi hg
            · rw [if_neg hdi] at hg;cases hg
        rw [hy j hdj]
        exact⟨fun h=>(hs.1 h).mono hV,hs.2⟩
theorem qen {ro:Option Nat} {st':List Bx} {K:Act→World→Prop} {Q:Exit→Act→World→Prop} (h1:OneW ops) (ho:ops[k]? = some o) (hm:RM ops done V a.tmps n e) (hok:Ok V) (hk:done k=false) (hcl:∀i j b,done i=true→gd ops i=some (j,b)→done j=true)
    (hgk:∀j b,o.guard=some (j,b)→done j=true) (hu:qll ops k o=true) (hr:∀t i,.tmp t∈o.op.operands→wrt ops t=some i→(done i=true↔i<k)) (hn:∀t,.tmp t∈o.op.operands→t<n) (hgn:∀j b t,o.guard=some (j,b)→qbr ops j=some t→t<n)
    (hnd:∀c,o.op≠.defer c) (hs:DStep P ops V.st e o d st')
    (hK:∀a' w' bl',Step V ⟨w',V.x,bl',st'⟩→RM ops (upB done k) ⟨w',V.x,bl',st'⟩ a'.tmps n (putE e o.dst d)→a'.defers=a.defers→K a' w'):wpOpIn (FR ro) 0 P ops Q k K a V.w:=by
  unfold wpOpIn
  simp only [ho]
  split
  · rename_i hw
    refine⟨fun _ _=>trivial,?_⟩
    rw [Oper.semAt_eq _ _ _ hnd]
    have hgy:∀j b,o.guard=some (j,b)→yielded ops a.tmps j=some b:=fun j b hg=>by
      unfold Region.wanted at hw
      rw [hg] at hw
      simpa using hw
    have huse:=qj9 h1 hm hok hcl hu hr hn fun j b hg=>⟨hgk j b hg,hgy j b hg⟩
    have hG:GUp P V st' d ((execOp a.eval o).run P V.w):=by
      rcases hs with ⟨_,hs⟩|⟨rfl,hs⟩
      · exact hs a.eval V rfl hok huse
      · have hJ:OpJ P V.st e o d:=by
          unfold qa8 at hs
          cases hg:o.guard with
          | none=>rw [hg] at hs;exact hs
          | some jb =>
            obtain⟨j,b⟩:=jb
            rw [hg] at hs
            simp only at hs
            split at hs
            · rename_i x hx
              refine hs ?_
              obtain⟨oj,t,h2,h3,h4⟩:=qdm (hgy j b hg)
              have hgs:qbr ops j=some t:=by simp [qbr,h2,h3]
              rw [hgs] at hx
              simp only [Option.map_some,Option.some.injEq] at hx
              have hlt:=hgn j b t hg hgs
              have hst:=hm.slot t hlt
              have hdj:=hgk j b hg
              have hval:a.tmps.getD t Go.undef=.bool b:=by rw [Array.getD_eq_getD_getElem?,h4];rfl
              rw [hval,hx] at hst
              have hrep:RepD V (.a (.v (.bool x))) (.bool b):=by
                unfold qiy at hst
                split at hst
                · exact hst
                · rename_i j2 b2 hg2
                  by_cases hyy:yielded ops a.tmps j2=some b2
                  · exact hst.1 hyy
                  · cases hst.2 hyy
              obtain⟨h5,_⟩:=hrep.v_inv
              injection h5 with h5;exact h5.symm
            · rename_i hx
              exfalso
              obtain⟨oj,t,h2,h3,h4⟩:=qdm (hgy j b hg)
              have hgs:qbr ops j=some t:=by simp [qbr,h2,h3]
              rw [hgs] at hx
              simp only [Option.map_some,Option.some.injEq] at hx
              have hlt:=hgn j b t hg hgs
              have hst:=hm.slot t hlt
              have hval:a.tmps.getD t Go.undef=.bool b:=by rw [Array.getD_eq_getD_getElem?,h4];rfl
              rw [hval,hx] at hst
              unfold qiy at hst
              split at hst
              · cases hst
              · rename_i j2 b2 hg2
                by_cases hyy:yielded ops a.tmps j2=some b2
                · cases hst.1 hyy
                · cases hst.2 hyy
            · exact hs
        exact hJ.toG a.eval V rfl hok huse
    have hput:∀(w':World) (bl':List Nat) (v:Value),Step V ⟨w',V.x,bl',st'⟩→RepD ⟨w',V.x,bl',st'⟩ d v→K (a.put o.dst v) w':=fun w' bl' v hstep hrep =>
      hK _ w' bl' hstep (hm.put h1 ho hk hcl hgk hstep.le (by cases hg:o.guard with
        | none=>exact hrep
        | some jb=>exact⟨fun _=>hrep,fun hne=>absurd (hgy jb.1 jb.2 hg) hne⟩)) (by cases o.dst<;>rfl)
    unfold Oper.uponIn
    generalize (execOp a.eval o).run P V.w=r at *
    unfold GUp at hG
    split at hG
    · obtain⟨bl',h2,h3⟩:=hG;exact hput _ bl' _ h2 h3
    · obtain⟨rfl,bl',h2⟩:=hG;exact hput _ bl' _ h2 .undef
    · obtain⟨rfl,h2⟩:=hG
      refine⟨fun h=>(by cases h),(qfw h2).mono ?_⟩
      rintro en w'' ⟨v,rfl,bl',h3,h4⟩
      exact hput _ bl' _ h3 h4
    · exact hG.elim
  · rename_i hw
    cases hg:o.guard with
    | none=>exact absurd (by simp [Region.wanted,hg]) hw
    | some jb =>
      obtain⟨j,b⟩:=jb
      have hst:st'=V.st:=by
        rcases hs with ⟨h2,_⟩|⟨h2,_⟩
        · rw [hg] at h2;cases h2
        · exact h2
      subst hst
      have hny:yielded ops a.tmps j≠some b:=fun h=>hw (by simp [Region.wanted,hg,h])
      exact⟨fun _ _=>trivial,hK _ V.w V.bl (.refl hok) (hm.put h1 ho hk hcl hgk (.refl V) (by rw [hg];exact⟨fun h=>absurd h hny,fun _=>rfl⟩)) (by cases o.dst<;>rfl)⟩
end
/-! ### Who is called back -/
def out (w:World) (x:Nat→Prop):Vw:=⟨w,x,[],[]⟩
structure Env (P:Program) where
  l:Nat
  tl:List (List D)
  J:Nat→(Nat→Prop)→(Nat→Prop)→World→Prop
  Jx:(Nat→Prop)→World→Prop
  lt:∀k Dp Mx w,J k Dp Mx w→(∀b,Dp b→b<w.heap.size)∧∀b,Mx b→b<w.heap.size
  ltx:∀Dp w,Jx Dp w→∀b,Dp b→b<w.heap.size
  stab:∀k Dp Mx A B,J k Dp Mx A→Fr (fun b=>¬Dp b) A B→J k Dp Mx B
  stabx:∀Dp A B,Jx Dp A→Fr (fun b=>¬Dp b) A B→Jx Dp B
  yield:∀k Dp Mx (Ly:Nat→Prop) W (xs:List D) (vs:List Value),J k Dp Mx W→(∀b,Ly b→b<W.heap.size∧¬Dp b)→tl[k]? = some xs→vs.length=xs.length→(∀(i:Nat) (d:D),xs[i]? = some d→RepD (out W fun b=>Mx b∨Ly b) d (vs.getD i Go.undef)) →
    YieldAt Fence.wide 0 P l vs.toArray W fun e W'=>Fr Mx W W' ∧
      ((e=.returned (.bool true)∧∃Dp' Mx',J (k+1) Dp' Mx' W'∧(∀b,Ly b→¬Dp' b∧¬Mx' b)∧∀b,Mx' b→Mx b∨W.heap.size≤b) ∨
       (e=.returned (.bool false)∧∃Dp',Jx Dp' W'∧∀b,Ly b→¬Dp' b))
def EnvE {P:Program} (E:Env P) (on:Prop) (Nx:Nat→Prop) (g:D) (V:Vw):Prop :=
  match g with
  | .a (.v (.int .i64 k))=>on∧∃Dp Mx,E.J k.toNat Dp Mx V.w∧(∀b,V.mine b∨Nx b→¬Dp b∧¬Mx b)∧∀b,Mx b→V.x b
  | .a (.v (.bool _))=>on∧∃Dp,E.Jx Dp V.w∧∀b,V.mine b∨Nx b→¬Dp b
  | _=>True
theorem EnvE.frm {P:Program} {E:Env P} {on:Prop} {Nx:Nat→Prop} {g:D} {V V':Vw} (h:EnvE E on Nx g V) (hf:Fr (fun b=>V.mine b∨Nx b) V.w V'.w) (hn:∀b,V'.mine b→V.mine b∨V.w.heap.size≤b) (hx:∀b,V.x b→V'.x b):EnvE E on Nx g V':=by
  unfold EnvE at *
  have fr:∀{Dp:Nat→Prop},(∀b,V.mine b∨Nx b→¬Dp b)→Fr (fun b=>¬Dp b) V.w V'.w:=fun hd=>⟨hf.os,hf.tape,hf.output,hf.size,fun b hb hn=>hf.block b hb fun hm=>hn (hd b hm)⟩
  have nb:∀{Dp:Nat→Prop},(∀b,V.mine b∨Nx b→¬Dp b)→(∀b,Dp b→b<V.w.heap.size)→∀b,V'.mine b∨Nx b→¬Dp b:=fun hd hl b hb hdp=>by
    rcases hb with hb|hb
    · rcases hn b hb with h1|h1
      · exact hd b (.inl h1) hdp
      · have:=hl b hdp;omega
    · exact hd b (.inr hb) hdp
  split
  · obtain⟨ho,Dp,Mx,h1,h2,h3⟩:=h
    have h4:=E.lt _ _ _ _ h1
    exact⟨ho,Dp,Mx,E.stab _ _ _ _ _ h1 (fr fun b hb=>(h2 b hb).1),fun b hb=>⟨nb (fun b hb=>(h2 b hb).1) h4.1 b hb,nb (Dp:=Mx) (fun b hb=>(h2 b hb).2) h4.2 b hb⟩,fun b hb=>hx b (h3 b hb)⟩
  · obtain⟨ho,Dp,h1,h2⟩:=h
    exact⟨ho,Dp,E.stabx _ _ _ h1 (fr h2),nb h2 (E.ltx _ _ h1)⟩
  · trivial
theorem Vw.mine_mem {V:Vw} {b:Nat} (h:V.mine b):b∈V.bl:=by
  obtain⟨i,y,h1,_⟩:=h;exact lm4 h1
theorem Step.mine {V V':Vw} (h:Step V V') (hok:Ok V) (hsep:∀b,b∈V.bl→¬V.x b):Fr V.mine V.w V'.w :=
  ⟨h.fr.os,h.fr.tape,h.fr.output,h.fr.size,fun b hb hn=>by
    by_cases hm:b∈V.bl
    · obtain⟨i,hi⟩:=List.getElem?_of_mem hm
      exact (h.le.blk b hb fun hmm=>hmm.elim (hsep b hm) hn).1 (hok.isc i b hi)
    · exact h.fr.block b hb hm⟩
theorem Vw.Le.mine {V V':Vw} (h:V.Le V') (hsep:∀b,b∈V.bl→¬V.x b) (hn:∀b,b∈V'.bl→b∈V.bl∨V.w.heap.size≤b) (b:Nat) (hb:V'.mine b):V.mine b∨V.w.heap.size≤b:=by
  rcases hn b (Vw.mine_mem hb) with h1|h1
  · by_cases hlt:b<V.w.heap.size
    · left
      refine Classical.byContradiction fun hn2=>?_
      exact (h.blk b hlt fun hm=>hm.elim (hsep b h1) hn2).2 (.inr hb)
    · right;omega
  · exact .inr h1
theorem EnvE.step {P:Program} {E:Env P} {on:Prop} {Nx:Nat→Prop} {g:D} {V V':Vw} (h:EnvE E on Nx g V) (hs:Step V V') (hok:Ok V) (hsep:∀b,b∈V.bl→¬V.x b) (hx:∀b,V.x b→V'.x b):EnvE E on Nx g V' :=
  h.frm (have hm:=hs.mine hok hsep;⟨hm.os,hm.tape,hm.output,hm.size,fun b hb hn=>hm.block b hb fun h=>hn (.inl h)⟩) (hs.le.mine hsep hs.new) hx
structure qbj (on:Prop) (Nx:Nat→Prop) (V V':Vw):Prop where
  le:V.Le V'
  ok:Ok V'
  fr:Fr (fun b=>b∈V.bl∨(on∧V.x b∧¬Nx b)) V.w V'.w
  new:∀b,b∈V'.bl→b∈V.bl∨V.w.heap.size≤b
  sep:(∀b,b∈V.bl→¬V.x b)→∀b,b∈V'.bl→¬V'.x b
  xs:∀b,V.x b→V'.x b
  xn:∀b,V'.x b→V.x b∨V.w.heap.size≤b
theorem qbj.refl {on:Prop} {Nx:Nat→Prop} {V:Vw} (h:Ok V):qbj on Nx V V:=⟨.refl V,h,.refl _ _,fun _ h=>.inl h,fun h=>h,fun _ h=>h,fun _ h=>.inl h⟩
theorem Step.toX {on:Prop} {Nx:Nat→Prop} {V:Vw} {w':World} {bl':List Nat} {st':List Bx} (h:Step V ⟨w',V.x,bl',st'⟩) (hok:Ok V):qbj on Nx V ⟨w',V.x,bl',st'⟩ :=
  ⟨h.le,h.ok,⟨h.fr.os,h.fr.tape,h.fr.output,h.fr.size,fun b hb hn=>h.fr.block b hb fun hm=>hn (.inl hm)⟩,h.new,fun hs b hb hx=>by
    rcases h.new b hb with h1|h1
    · exact hs b h1 hx
    · have:=hok.xlt b hx;omega,fun _ h=>h,fun _ h=>.inl h⟩
theorem qbj.trans {on:Prop} {Nx:Nat→Prop} {V V' V'':Vw} (h:qbj on Nx V V') (g:qbj on Nx V' V''):qbj on Nx V V'' :=
  ⟨h.le.trans g.le,g.ok,⟨g.fr.os.trans h.fr.os,g.fr.tape.trans h.fr.tape,g.fr.output.trans h.fr.output,Nat.le_trans h.fr.size g.fr.size,fun b hb hn=>(g.fr.block b (by have:=h.fr.size;omega) fun h'=>by
      rcases h' with h'|⟨ho,h',hnx⟩
      · rcases h.new b h' with h1|h1
        · exact hn (.inl h1)
        · omega
      · rcases h.xn b h' with h1|h1
        · exact hn (.inr ⟨ho,h1,hnx⟩)
        · omega).trans (h.fr.block b hb hn)⟩,
    fun b hb=>by
      rcases g.new b hb with h1|h1
      · exact h.new b h1
      · right;have:=h.fr.size;omega,
    fun hs=>g.sep (h.sep hs),fun b hb=>g.xs b (h.xs b hb),fun b hb=>by
      rcases g.xn b hb with h1|h1
      · exact h.xn b h1
      · right;have:=h.fr.size;omega⟩
def nk (w:World) (b:Nat):Prop:=∃o:Obj,w.heap[b]? = some o∧isK o=false
theorem nk.same {w w':World} {b:Nat} (h:nk w b) (hs:w'.heap[b]? = w.heap[b]?):nk w' b:=by obtain⟨o,h1,h2⟩:=h;exact⟨o,hs.trans h1,h2⟩
theorem nk.noC {w:World} {b:Nat} (h:nk w b) (hc:isC w b):False:=by
  obtain⟨o,h1,h2⟩:=h;obtain⟨q,q1,q2⟩:=hc
  rw [h1] at q1;injection q1 with q1;subst q1;rw [h2] at q2;cases q2
def NxOk (Nx:Nat→Prop) (V:Vw):Prop:=∀b,Nx b→b<V.w.heap.size∧(V.x b∨(nk V.w b∧¬b∈V.bl∧¬V.x b))
theorem NxOk.step {on:Prop} {Nx Nx':Nat→Prop} {V V':Vw} (h:NxOk Nx V) (hs:qbj on Nx' V V'):NxOk Nx V':=by
  intro b hb
  obtain⟨h1,h2⟩:=h b hb
  refine⟨Nat.lt_of_lt_of_le h1 hs.fr.size,?_⟩
  rcases h2 with h2|⟨q2,q3,q4⟩
  · exact .inl (hs.xs b h2)
  · refine .inr ⟨q2.same (hs.fr.block b h1 fun h=>?_),fun h=>?_,fun h=>?_⟩
    · rcases h with h|h
      · exact q3 h
      · exact q4 h.2.1
    · rcases hs.new b h with h|h
      · exact q3 h
      · omega
    · rcases hs.xn b h with h|h
      · exact q4 h
      · omega
structure Cx (P:Program) where
  V0:Vw
  Kb:Nat→Prop
  on:Prop
  ro:Option Nat
  E:Env P
  Nx:Nat→Prop
def XR {P:Program} (E:Env P) (on:Prop) (Nx:Nat→Prop) (V:Vw) (O:D→List Bx→D→Prop) (v:Value) (w':World):Prop :=
  ∃d st' g x' bl',O d st' g∧qbj on Nx V ⟨w',x',bl',st'⟩∧EnvE E on Nx g ⟨w',x',bl',st'⟩∧RepD ⟨w',x',bl',st'⟩ d v
def XUp {P:Program} (C:Cx P) (Nx:Nat→Prop) (V:Vw) (O:D→List Bx→D→Prop):Result Next→Prop
  | .ok (.value v) w'=>XR C.E C.on Nx V O v w'
  | .ok (.enter f args) w'=>w'=V.w∧Calls P f args V.w (fun en w''=>∃v,en=.returned v∧XR C.E C.on Nx V O v w'')
  | .ok (.round l f tmps assign body) w'=>w'=V.w∧RoundIn Fence.wide 0 P l f tmps assign body V.w (fun en w''=>∃v,en=.returned v∧XR C.E C.on Nx V O v w'')
  | _=>False
def OpX {P:Program} (C:Cx P) (st:List Bx) (e:Nat→D) (o:Oper) (O:D→List Bx→D→Prop):Prop :=
  ∀(ρ:Operand→Value) (V:Vw) (Nx:Nat→Prop),V.st=st→Ok V→(∀b,b∈V.bl→¬V.x b)→NxOk Nx V→EnvE C.E C.on Nx (e 1000000) V→(∀x∈qad ρ o.op,RepD V (evO e x) (ρ x))→XUp C Nx V O ((execOp ρ o).run P V.w)
theorem RM.ghost {ops:Array Oper} {done:Nat→Bool} {V:Vw} {tm:Array Value} {n:Nat} {e:Nat→D} (h:RM ops done V tm n e) (hn:n≤1000000) (g:D):RM ops done V tm n (upd e 1000000 g) :=
  ⟨h.size,fun t ht=>by
    have:upd e 1000000 g t=e t:=if_neg (by omega)
    rw [this];exact h.slot t ht⟩
section
variable {P:Program} {C:Cx P} {ops:Array Oper} {done:Nat→Bool} {V:Vw} {a:Act} {n:Nat} {e:Nat→D} {k:Nat} {o:Oper}
def gOk (ops:Array Oper) (e:Nat→D):Nat→Option (Nat×Bool)→Prop
  | _,none=>True
  | 0,some _=>False
  | f+1,some (j,b)=>(qbr ops j).map e=some (.a (.v (.bool b)))∧gOk ops e f (gd ops j)
theorem qk4 {ops:Array Oper} {done:Nat→Bool} {V:Vw} {tm:Array Value} {n:Nat} {e:Nat→D} (h1:OneW ops) (hm:RM ops done V tm n e) (hcl:∀i j b,done i=true→gd ops i=some (j,b)→done j=true)
    (hgn:∀(i:Nat) (oi:Oper) (j:Nat) (b:Bool) (t:Nat),ops[i]? = some oi→oi.guard=some (j,b)→qbr ops j=some t→t<n):∀(f k:Nat) (o:Oper),ops[k]? = some o→gOk ops e f o.guard→(∀j b,o.guard=some (j,b)→done j=true)→∀j b,o.guard=some (j,b)→yielded ops tm j=some b
  | 0,k,o,ho,h,hd,j,b,hg=>by rw [hg] at h;exact h.elim
  | f+1,k,o,ho,h,hd,j,b,hg=>by
    rw [hg] at h
    obtain⟨h2,h3⟩:=h
    rw [Option.map_eq_some_iff] at h2
    obtain⟨t,h4,h5⟩:=h2
    have h6:∃oj,ops[j]? = some oj∧oj.dst=some t:=by
      unfold qbr at h4
      rw [Option.bind_eq_some_iff] at h4
      exact h4
    obtain⟨oj,h6,h7⟩:=h6
    have hdj:=hd j b hg
    have hgj:gd ops j=oj.guard:=by unfold gd;rw [h6];rfl
    have hlt:=hgn k o j b t ho hg h4
    have hs:=hm.slot t hlt
    have hgd:gdD ops done t=gd ops j:=by unfold gdD;rw [qdn h1 h6 h7];simp only;rw [if_pos hdj]
    rw [hgd,h5] at hs
    have hrep:RepD V (.a (.v (.bool b))) (tm.getD t Go.undef):=by
      unfold qiy at hs
      cases hgg:gd ops j with
      | none=>rw [hgg] at hs;exact hs
      | some q =>
        obtain⟨j2,b2⟩:=q
        rw [hgg] at hs
        rw [hgj] at h3
        exact hs.1 (qk4 h1 hm hcl hgn f j oj h6 h3 (fun j3 b3 hg3=>hcl j j3 b3 hdj (by rw [hgj];exact hg3)) j2 b2 (by rw [←hgj];exact hgg))
    obtain⟨h8,_⟩:=hrep.v_inv
    have hts:t<tm.size:=by rw [hm.size];exact hlt
    have h9:tm[t]? = some (.bool b):=by
      rw [Array.getD_eq_getD_getElem?,Array.getElem?_eq_getElem hts] at h8
      rw [Array.getElem?_eq_getElem hts];exact congrArg some h8
    unfold yielded
    simp only [h6,Option.bind_some,h7,h9]
theorem qe6 {ro:Option Nat} {Nx:Nat→Prop} {O:D→List Bx→D→Prop} {K:Act→World→Prop} {Q:Exit→Act→World→Prop} (h1:OneW ops) (ho:ops[k]? = some o) (hm:RM ops done V a.tmps n e) (hok:Ok V) (hsep:∀b,b∈V.bl→¬V.x b) (hnx:NxOk Nx V) (hE:EnvE C.E C.on Nx (e 1000000) V) (hk:done k=false) (hcl:∀i j b,done i=true→gd ops i=some (j,b)→done j=true)
    (hgu:gOk ops e 8 o.guard) (hgk:∀j b,o.guard=some (j,b)→done j=true) (hgn:∀(i:Nat) (oi:Oper) (j:Nat) (b:Bool) (t:Nat),ops[i]? = some oi→oi.guard=some (j,b)→qbr ops j=some t→t<n) (hu:qll ops k o=true) (hr:∀t i,.tmp t∈o.op.operands→wrt ops t=some i→(done i=true↔i<k)) (hn:∀t,.tmp t∈o.op.operands→t<n) (hnd:∀c,o.op≠.defer c) (hs:OpX C V.st e o O)
    (hK:∀a' w' d st' g x' bl',O d st' g→qbj C.on Nx V ⟨w',x',bl',st'⟩→RM ops (upB done k) ⟨w',x',bl',st'⟩ a'.tmps n (putE e o.dst d)→EnvE C.E C.on Nx g ⟨w',x',bl',st'⟩→a'.defers=a.defers→K a' w'):wpOpIn (FR ro) 0 P ops Q k K a V.w:=by
  have hgy:∀j b,o.guard=some (j,b)→yielded ops a.tmps j=some b:=qk4 h1 hm hcl hgn 8 k o ho hgu hgk
  unfold wpOpIn
  simp only [ho]
  split
  · refine⟨fun _ _=>trivial,?_⟩
    rw [Oper.semAt_eq _ _ _ hnd]
    have huse:=qj9 h1 hm hok hcl hu hr hn fun j b hg=>⟨hgk j b hg,hgy j b hg⟩
    have hG:XUp C Nx V O ((execOp a.eval o).run P V.w):=hs a.eval V Nx rfl hok hsep hnx hE huse
    have hput:∀(w':World) (v:Value),XR C.E C.on Nx V O v w'→K (a.put o.dst v) w':=fun w' v ⟨d,st',g,x',bl',q1,q2,q3,q4⟩ =>
      hK _ w' d st' g x' bl' q1 q2 (hm.put h1 ho hk hcl hgk q2.le (by cases hg:o.guard with
        | none=>exact q4
        | some jb=>exact⟨fun _=>q4,fun hne=>absurd (hgy jb.1 jb.2 hg) hne⟩)) q3 (by cases o.dst<;>rfl)
    unfold Oper.uponIn
    generalize (execOp a.eval o).run P V.w=r at *
    unfold XUp at hG
    split at hG
    · exact hput _ _ hG
    · obtain⟨rfl,h2⟩:=hG
      refine⟨fun h=>(by cases h),(qfw h2).mono ?_⟩
      rintro en w'' ⟨v,rfl,h3⟩
      exact hput _ _ h3
    · obtain⟨rfl,h2⟩:=hG
      refine⟨fun h=>(by cases h),RoundIn.mono (F:=FR ro) h2 ?_⟩
      rintro en w'' ⟨v,rfl,h3⟩
      exact hput _ _ h3
    · exact hG.elim
  · rename_i hw
    refine absurd ?_ hw
    cases hg:o.guard with
    | none=>simp [Region.wanted,hg]
    | some jb=>simp [Region.wanted,hg,hgy jb.1 jb.2 hg]
end
def RS {P:Program} (C:Cx P) (ops:Array Oper):List Oper→(Nat→D)→List Bx→((Nat→D)→List Bx→Prop)→Prop
  | [],e,st,K=>K e st
  | o::r,e,st,K=>(∃d st',DStep P ops st e o d st'∧RS C ops r (putE e o.dst d) st' K) ∨
    (gOk ops e 8 o.guard∧∃O,OpX C st e o O∧∀d st' g,O d st' g→RS C ops r (upd (putE e o.dst d) 1000000 g) st' K)
def qfl (ops:Array Oper) (n:Nat):Bool :=
  decide (n≤1000000)&&(List.range ops.size).all fun k=>match ops[k]? with
    | none=>true
    | some o=>((match o.dst with|some t=>wrt ops t==some k&&t != 1000000|none=>true)&&(match o.op with|.defer _=>false|_=>true))&&qll ops k o&&(o.op.operands.toList.all fun x=>match x with|.tmp t=>decide (t<n)|_=>true) &&
      (match o.guard with|some (j,_)=>(match qbr ops j with|some t=>decide (t<n)|none=>true)|none=>true)
structure SeqOk (ops:Array Oper) (n:Nat):Prop where
  nle:n≤1000000
  nd:∀(k:Nat) (o:Oper),ops[k]? = some o→∀c,o.op≠.defer c
  ng:∀(k:Nat) (o:Oper),ops[k]? = some o→o.dst≠some 1000000
  one:OneW ops
  use:∀(k:Nat) (o:Oper),ops[k]? = some o→qll ops k o=true
  tmp:∀(k:Nat) (o:Oper) (t:Nat),ops[k]? = some o→.tmp t∈o.op.operands→t<n
  gs:∀(k:Nat) (o:Oper) (j:Nat) (b:Bool) (t:Nat),ops[k]? = some o→o.guard=some (j,b)→qbr ops j=some t→t<n
  glt:∀(k:Nat) (o:Oper) (j:Nat) (b:Bool),ops[k]? = some o→o.guard=some (j,b)→j<k
theorem qc8 {ops:Array Oper} {n:Nat} (h:qfl ops n=true):SeqOk ops n:=by
  unfold qfl at h
  rw [Bool.and_eq_true] at h
  have key:∀k o,ops[k]? = some o→_:=fun k o ho=>by
    have hlt:=(Array.getElem?_eq_some_iff.1 ho).1
    have:=(List.all_eq_true.1 h.2) k (by simpa using hlt)
    simp only [ho,Bool.and_eq_true] at this
    exact this
  refine⟨by simpa using h.1,fun k o ho c hc=>?_,fun k o ho hd=>?_,fun i j oi oj t hi hj hdi hdj=>?_,fun k o ho=>(key k o ho).1.1.2,fun k o t ho hx=>?_,fun k o j b t ho hg hs=>?_,fun k o j b ho hg=>?_⟩
  · have h1:=(key k o ho).1.1.1.2
    rw [hc] at h1;cases h1
  · have h1:=(key k o ho).1.1.1.1
    rw [hd] at h1;simp at h1
  · have h1:=(key i oi hi).1.1.1.1
    have h2:=(key j oj hj).1.1.1.1
    simp only [hdi,hdj,Bool.and_eq_true,beq_iff_eq] at h1 h2
    rw [h1.1] at h2;injection h2.1
  · have:=(List.all_eq_true.1 (key k o ho).1.2) (.tmp t) (by simpa using hx)
    simpa using this
  · have:=(key k o ho).2
    simp only [hg,hs] at this
    simpa using this
  · have:=(key k o ho).1.1.2
    unfold qll at this
    simp only [hg,Bool.and_eq_true] at this
    simpa using this.1
theorem ql3 {ops:Array Oper} {i j:Nat} {b:Bool} (h:gd ops i=some (j,b)):∃o,ops[i]? = some o∧o.guard=some (j,b):=by
  unfold gd at h
  cases ho:ops[i]? with
  | none=>simp [ho] at h
  | some o=>exact⟨o,rfl,by simpa [ho] using h⟩
theorem Step.trans {V V' V'':Vw} (h:Step V V') (g:Step V' V''):Step V V'' :=
  ⟨h.le.trans g.le,g.ok,⟨g.fr.os.trans h.fr.os,g.fr.tape.trans h.fr.tape,g.fr.output.trans h.fr.output,Nat.le_trans h.fr.size g.fr.size,fun b hb hn=>(g.fr.block b (by have:=h.fr.size;omega) fun h'=>by
      rcases h.new b h' with h1|h1
      · exact hn h1
      · omega).trans (h.fr.block b hb hn)⟩,
    fun b hb=>by
      rcases g.new b hb with h1|h1
      · exact h.new b h1
      · right;have:=h.fr.size;omega⟩
theorem qmo (k:Nat):upB (fun i=>decide (i<k)) k=fun i=>decide (i<k+1):=by
  funext i
  unfold upB
  rw [Bool.eq_iff_iff,Bool.or_eq_true,decide_eq_true_iff,decide_eq_true_iff,beq_iff_eq]
  omega
theorem qfo {e:Nat→D} {dst:Option Nat} {d:D} (h:dst≠some 1000000):putE e dst d 1000000=e 1000000:=by
  cases dst with
  | none=>rfl
  | some t =>
    have:(1000000:Nat)≠t:=fun e=>h (by rw [e])
    simp only [putE,upd]
    rw [if_neg this]
theorem RS.run {P:Program} {C:Cx P} {Nx:Nat→Prop} {ops:Array Oper} {n:Nat} (hS:SeqOk ops n) {Q:Exit→Act→World→Prop} {K:(Nat→D)→List Bx→Prop}:∀(l:List Oper) (k:Nat) (V:Vw) (a:Act) (e:Nat→D),(∀j,l[j]? = ops[k+j]?)→RM ops (fun i=>decide (i<k)) V a.tmps n e→Ok V→(∀b,b∈V.bl→¬V.x b)→NxOk Nx V→EnvE C.E C.on Nx (e 1000000) V→RS C ops l e V.st K →
    (∀a' w' x' bl' st' e',qbj C.on Nx V ⟨w',x',bl',st'⟩→RM ops (fun i=>decide (i<k+l.length)) ⟨w',x',bl',st'⟩ a'.tmps n e'→EnvE C.E C.on Nx (e' 1000000) ⟨w',x',bl',st'⟩→a'.defers=a.defers→K e' st'→Q .normal a' w')→wpOpsIn (FR C.ro) 0 P ops Q (List.range' k l.length) a V.w
  | [],k,V,a,e,_,hm,hok,_,_,hE,h,hK=>hK a V.w V.x V.bl V.st e (.refl hok) (by simpa using hm) hE rfl h
  | o::l,k,V,a,e,hl,hm,hok,hsep,hnx,hE,h,hK=>by
    have ho:ops[k]? = some o:=by simpa using (hl 0).symm
    rw [List.length_cons,List.range'_succ,wpOpsIn_cons]
    have hcl:∀(i j:Nat) (b:Bool),decide (i<k)=true→gd ops i=some (j,b)→decide (j<k)=true:=fun i j b hi hg=>by
      obtain⟨oi,h1,h2⟩:=ql3 hg
      have:=hS.glt i oi j b h1 h2
      simp only [decide_eq_true_iff] at hi ⊢
      omega
    rcases h with ⟨d,st',hs,hr⟩|⟨hgu,O,hs,hr⟩
    · refine qen hS.one ho hm hok (by simp) hcl (fun j b hg=>by have:=hS.glt k o j b ho hg;simpa using this) (hS.use k o ho) (fun t i _ _=>by simp) (fun t ht=>hS.tmp k o t ho ht) (fun j b t hg ht=>hS.gs k o j b t ho hg ht) (hS.nd k o ho) hs ?_
      intro a' w' bl' hstep hm' hdef
      rw [qmo] at hm'
      have hX:=hstep.toX (on:=C.on) (Nx:=Nx) hok
      refine RS.run hS l (k+1) ⟨w',V.x,bl',st'⟩ a' _ (fun j=>by have:=hl (j+1);simpa [Nat.add_assoc,Nat.add_comm 1 j] using this) hm' hstep.ok (hX.sep hsep) (hnx.step hX) (by rw [qfo (hS.ng k o ho)];exact hE.step hstep hok hsep fun _ h=>h) hr ?_
      intro a'' w'' x'' bl'' st'' e'' hs2 hm2 hE2 hd2 hk2
      refine hK a'' w'' x'' bl'' st'' e'' (hX.trans hs2) ?_ hE2 (hd2.trans hdef) hk2
      rw [List.length_cons]
      rwa [show k+(l.length+1)=k+1+l.length by omega]
    · refine qe6 hS.one ho hm hok hsep hnx hE (by simp) hcl hgu (fun j b hg=>by have:=hS.glt k o j b ho hg;simpa using this) (fun i oi j b t hi hg ht=>hS.gs i oi j b t hi hg ht) (hS.use k o ho) (fun t i _ _=>by simp) (fun t ht=>hS.tmp k o t ho ht) (hS.nd k o ho) hs ?_
      intro a' w' d st' g x' bl' hO hX hm' hEg hdef
      rw [qmo] at hm'
      refine RS.run hS l (k+1) ⟨w',x',bl',st'⟩ a' _ (fun j=>by have:=hl (j+1);simpa [Nat.add_assoc,Nat.add_comm 1 j] using this) (hm'.ghost hS.nle g) hX.ok (hX.sep hsep) (hnx.step hX) (by simpa [upd] using hEg) (hr d st' g hO) ?_
      intro a'' w'' x'' bl'' st'' e'' hs2 hm2 hE2 hd2 hk2
      refine hK a'' w'' x'' bl'' st'' e'' (hX.trans hs2) ?_ hE2 (hd2.trans hdef) hk2
      rw [List.length_cons]
      rwa [show k+(l.length+1)=k+1+l.length by omega]
def qoc {P:Program} (C:Cx P) (ms:List Nat) (ds:List Deferred) (V:Vw):Prop :=
  ds=ms.map (fun D=>{ target:=.collected D,args:=#[] })∧ms.Nodup∧∀D∈ms,(C.ro=none→C.V0.w.heap.size≤D)∧V.w.heap[D]? = some (.deferred (some []))∧¬D∈V.bl∧¬V.x D
theorem qoc.step {P:Program} {C:Cx P} {on:Prop} {Nx:Nat→Prop} {ms:List Nat} {ds:List Deferred} {V V':Vw} (h:qoc C ms ds V) (hs:qbj on Nx V V'):qoc C ms ds V':=by
  obtain⟨h1,h2,h3⟩:=h
  refine⟨h1,h2,fun D hD=>?_⟩
  obtain⟨q1,q2,q3,q4⟩:=h3 D hD
  have hlt:=(Array.getElem?_eq_some_iff.1 q2).1
  refine⟨q1,(hs.fr.block D hlt fun h=>?_).trans q2,fun h=>?_,fun h=>?_⟩
  · rcases h with h|h
    · exact q3 h
    · exact q4 h.2.1
  · rcases hs.new D h with h|h
    · exact q3 h
    · omega
  · rcases hs.xn D h with h|h
    · exact q4 h
    · omega
structure M {P:Program} (C:Cx P) (V:Vw) (tm:Array Value) (n:Nat) (e:Nat→D):Prop where
  size:tm.size=n
  slot:∀t,t<n→RepD V (e t) (tm.getD t Go.undef)
  ok:Ok V
  le:C.V0.Le V
  fr:Fr C.Kb C.V0.w V.w
  low:∀b,b∈V.bl→C.Kb b∨C.V0.w.heap.size≤b
  sep:∀b,b∈V.bl→¬V.x b
  x0:∀b,C.V0.x b→V.x b
  xk:C.on→∀b,V.x b→¬C.Nx b→C.Kb b∨C.V0.w.heap.size≤b
  xg:∀b,V.x b→C.V0.x b∨C.V0.w.heap.size≤b
  nx:NxOk C.Nx V
  nx0:∀b,C.Nx b→b<C.V0.w.heap.size
theorem M.step {P:Program} {C:Cx P} {V V':Vw} {tm tm':Array Value} {n:Nat} {e e':Nat→D} {Nx:Nat→Prop} (hNx:∀b,C.Nx b→Nx b) (h:M C V tm n e) (hs:qbj C.on Nx V V') (hsz:tm'.size=n) (hsl:∀t,t<n→RepD V' (e' t) (tm'.getD t Go.undef)):M C V' tm' n e':=by
  refine⟨hsz,hsl,hs.ok,h.le.trans hs.le,?_,fun b hb=>?_,hs.sep h.sep,fun b hb=>hs.xs b (h.x0 b hb),fun ho b hb hnb=>?_,fun b hb=>?_,h.nx.step hs,h.nx0⟩
  · refine⟨hs.fr.os.trans h.fr.os,hs.fr.tape.trans h.fr.tape,hs.fr.output.trans h.fr.output,Nat.le_trans h.fr.size hs.fr.size,fun b hb hn=>?_⟩
    refine (hs.fr.block b (by have:=h.fr.size;omega) fun hm=>?_).trans (h.fr.block b hb hn)
    rcases hm with hm|⟨ho,hm,hnb⟩
    · rcases h.low b hm with h1|h1
      · exact hn h1
      · omega
    · rcases h.xk ho b hm (fun h=>hnb (hNx b h)) with h1|h1
      · exact hn h1
      · omega
  · rcases hs.new b hb with h1|h1
    · exact h.low b h1
    · right;have:=h.fr.size;omega
  · rcases hs.xn b hb with h1|h1
    · exact h.xk ho b h1 hnb
    · right;have:=h.fr.size;omega
  · rcases hs.xn b hb with h1|h1
    · exact h.xg b h1
    · right;have:=h.fr.size;omega
def qa7 (e:Nat→D):List Nat→Nat→D
  | []=>fun _=>.junk
  | t::r=>upd (qa7 e r) t (e t)
theorem qjq (e:Nat→D) (t:Nat):∀ks:List Nat,qa7 e ks t=.junk∨(t∈ks∧qa7 e ks t=e t)
  | []=>.inl rfl
  | k::r=>by
    by_cases h:t=k
    · subst h;exact .inr ⟨by simp,by simp [qa7,upd]⟩
    · rcases qjq e t r with h1|⟨h1,h2⟩
      · left;simp [qa7,upd,h,h1]
      · right;exact⟨by simp [h1],by simp [qa7,upd,h,h2]⟩
def Cx.nxm {P:Program} (C:Cx P) (ms:List Nat) (b:Nat):Prop:=C.Nx b∨b∈ms
def Sat {P:Program} (C:Cx P) (V:Vw) (a:Act) (n:Nat) (e:Nat→D):Prop :=
  ∃ms:List Nat,qoc C ms a.defers V∧M C V a.tmps n e∧EnvE C.E C.on (C.nxm ms) (e 1000000) V
theorem Sat.m {P:Program} {C:Cx P} {V:Vw} {a:Act} {n:Nat} {e:Nat→D} (h:Sat C V a n e):M C V a.tmps n e:=by
  obtain⟨_,_,h,_⟩:=h;exact h
theorem qoc.nx {P:Program} {C:Cx P} {V:Vw} {ms:List Nat} {ds:List Deferred} (h:qoc C ms ds V) (hn:NxOk C.Nx V):NxOk (C.nxm ms) V:=by
  intro b hb
  rcases hb with hb|hb
  · exact hn b hb
  · obtain⟨q1,q2,q3,q4⟩:=h.2.2 b hb
    exact⟨(Array.getElem?_eq_some_iff.1 q2).1,.inr ⟨⟨_,q2,rfl⟩,q3,q4⟩⟩
def Post {P:Program} (C:Cx P) (n:Nat) (Q:Exit→(Nat→D)→List Bx→Prop) (ex:Exit) (a':Act) (w':World):Prop :=
  ∃x' bl' e' st',Sat C ⟨w',x',bl',st'⟩ a' n e'∧Q ex e' st'
def WP {P:Program} (C:Cx P) (n:Nat) (c:Code) (Q:Exit→(Nat→D)→List Bx→Prop) (e:Nat→D) (st:List Bx):Prop :=
  ∀(a:Act) (w:World) (x:Nat→Prop) (bl:List Nat),Sat C ⟨w,x,bl,st⟩ a n e→c.wpIn (FR C.ro) 0 P (Post C n Q) a w
def ksOk (ops:Array Oper) (ks:List Nat):Bool:=ks.all fun t=>match wrt ops t with|some i=>(gd ops i).isNone|none=>true
theorem RM.keep {ops:Array Oper} {V:Vw} {tm:Array Value} {n m:Nat} {e:Nat→D} {ks:List Nat} (hm:RM ops (fun i=>decide (i<m)) V tm n e) (hk:ksOk ops ks=true) (t:Nat) (ht:t<n):RepD V (qa7 e ks t) (tm.getD t Go.undef):=by
  rcases qjq e t ks with h|⟨h1,h2⟩
  · rw [h];exact .junk _
  · rw [h2]
    have:=hm.slot t ht
    have hg:gdD ops (fun i=>decide (i<m)) t=none:=by
      have:=(List.all_eq_true.1 hk) t h1
      unfold gdD
      cases hw:wrt ops t with
      | none=>rfl
      | some i =>
        rw [hw] at this
        simp only [Option.isNone_iff_eq_none] at this
        simp only [this]
        split<;>rfl
    rw [hg] at this
    exact this
theorem EnvE.keep {P:Program} {E:Env P} {on:Prop} {Nx:Nat→Prop} {e:Nat→D} {V:Vw} (h:EnvE E on Nx (e 1000000) V) (ks:List Nat):EnvE E on Nx (qa7 e ks 1000000) V:=by
  rcases qjq e 1000000 ks with h1|⟨_,h1⟩
  · rw [h1];trivial
  · rw [h1];exact h
def qdi (N:(Nat→D)→List Bx→Prop) (Q:Exit→(Nat→D)→List Bx→Prop):Exit→(Nat→D)→List Bx→Prop
  | .normal=>N
  | e=>Q e
def qhs (id:Nat) (Q:Exit→(Nat→D)→List Bx→Prop):Exit→(Nat→D)→List Bx→Prop
  | .exit id'=>if id'=id then Q .normal else Q (.exit id')
  | e=>Q e
section
variable {P:Program} {C:Cx P} {n:Nat} {Q:Exit→(Nat→D)→List Bx→Prop} {e:Nat→D} {st:List Bx}
theorem WP.region {id:Nat} {ops:Array Oper} (ks:List Nat) (hs:qfl ops n=true) (hk:ksOk ops ks=true) (h:RS C ops ops.toList e st fun e' st'=>Q .normal (qa7 e' ks) st'):WP C n (.region id ops false) Q e st:=by
  rintro a w x bl ⟨ms,hmk,hmm,henv⟩
  refine wpIn_region ?_
  rw [List.range_eq_range']
  have hS:=qc8 hs
  have hrm:RM ops (fun i=>decide (i<0)) ⟨w,x,bl,st⟩ a.tmps n e:=⟨hmm.size,fun t ht=>by
    have:gdD ops (fun i=>decide (i<0)) t=none:=by unfold gdD;split<;>simp
    rw [this];exact hmm.slot t ht⟩
  have:=RS.run hS (Q:=Post C n Q) ops.toList 0 ⟨w,x,bl,st⟩ a e (by simp) hrm hmm.ok hmm.sep (hmk.nx hmm.nx) henv h ?_
  · simpa using this
  · intro a' w' x' bl' st' e' hstep hm' hE hdef hK
    exact⟨x',bl',_,st',⟨ms,hdef▸hmk.step hstep,hmm.step (fun b hb=>.inl hb) hstep hm'.size fun t ht=>hm'.keep hk t ht,hE.keep ks⟩,hK⟩
theorem WP.mono {c:Code} {Q':Exit→(Nat→D)→List Bx→Prop} (h:WP C n c Q e st) (hq:∀ex e st,Q ex e st→Q' ex e st):WP C n c Q' e st :=
  fun a w x bl hm=>wpIn_mono (h a w x bl hm) fun ex a' w' ⟨x',bl',e',st',h2,h3⟩=>⟨x',bl',e',st',h2,hq _ _ _ h3⟩
theorem WP.seq {a b:Code} (h:WP C n a (qdi (WP C n b Q) Q) e st):WP C n (.seq a b) Q e st:=by
  intro ac w x bl hm
  refine wpIn_seq (wpIn_mono (h ac w x bl hm) ?_)
  rintro ex a' w' ⟨x',bl',e',st',h2,h3⟩
  cases ex with
  | normal=>exact h3 a' w' x' bl' h2
  | _=>exact⟨x',bl',e',st',h2,h3⟩
def opLt (n:Nat):Operand→Bool
  | .tmp t=>decide (t<n)
  | _=>true
theorem M.bool {V:Vw} {a:Act} {c:Operand} {b:Bool} (hm:M C V a.tmps n e) (hl:opLt n c=true) (hc:evO e c=.a (.v (.bool b))):a.eval c=.bool b:=by
  have:RepD V (evO e c) (a.eval c):=by
    cases c with
    | tmp t=>exact hm.slot t (by simpa [opLt] using hl)
    | const v=>exact qht V v
    | func f=>cases hc
    | global g=>exact absurd hc glD_bool
  rw [hc] at this
  exact this.v_inv.1
theorem WP.cond {c:Operand} {p q:Code} {b:Bool} (hl:opLt n c=true) (hc:evO e c=.a (.v (.bool b))) (ht:b=true→WP C n p Q e st) (hf:b=false→WP C n q Q e st):WP C n (.cond c p q) Q e st:=by
  intro a w x bl hm
  have hv:=hm.m.bool hl hc
  exact wpIn_cond_split hv (fun h=>ht h a w x bl hm) (fun h=>hf h a w x bl hm)
theorem WP.block {id:Nat} {c:Code} (h:WP C n c (qhs id Q) e st):WP C n (.block id c) Q e st:=by
  intro a w x bl hm
  refine wpIn_block (wpIn_mono (h a w x bl hm) ?_)
  rintro ex a' w' ⟨x',bl',e',st',h2,h3⟩
  cases ex with
  | exit id' =>
    simp only [Exit.inBlock]
    simp only [qhs] at h3
    split
    · rename_i he;rw [if_pos he] at h3;exact⟨x',bl',e',st',h2,h3⟩
    · rename_i he;rw [if_neg he] at h3;exact⟨x',bl',e',st',h2,h3⟩
  | _=>exact⟨x',bl',e',st',h2,h3⟩
theorem WP.skip (h:Q .normal e st):WP C n .skip Q e st:=fun _ _ x bl hm=>wpIn_skip ⟨x,bl,e,st,hm,h⟩
theorem WP.exit {id:Nat} (h:Q (.exit id) e st):WP C n (.exit id) Q e st:=fun _ _ x bl hm=>wpIn_exit ⟨x,bl,e,st,hm,h⟩
theorem WP.ret (h:Q .ret e st):WP C n .ret Q e st:=fun _ _ x bl hm=>wpIn_ret ⟨x,bl,e,st,hm,h⟩
def qal (e:Nat→D):List (Nat×D)→Prop
  | []=>True
  | (t,d)::r=>e t=d∧qal e r
def envL:List (Nat×D)→Nat→D
  | []=>fun _=>.junk
  | (t,d)::r=>upd (envL r) t d
theorem ql6 {e:Nat→D} (t:Nat):∀{l:List (Nat×D)},qal e l→envL l t=.junk∨envL l t=e t
  | [],_=>.inl rfl
  | (t',d)::r,h=>by
    by_cases ht:t=t'
    · subst ht;right;simp [envL,upd,h.1]
    · rcases ql6 t h.2 with h1|h1
      · left;simp [envL,upd,ht,h1]
      · right;simp [envL,upd,ht,h1]
theorem M.weaken {V:Vw} {tm:Array Value} {l:List (Nat×D)} (hm:M C V tm n e) (h:qal e l):M C V tm n (envL l) :=
  ⟨hm.size,fun t ht=>by
    rcases ql6 t h with h1|h1
    · rw [h1];exact .junk _
    · rw [h1];exact hm.slot t ht,hm.ok,hm.le,hm.fr,hm.low,hm.sep,hm.x0,hm.xk,hm.xg,hm.nx,hm.nx0⟩
theorem Sat.weaken {V:Vw} {a:Act} {l:List (Nat×D)} (hm:Sat C V a n e) (h:qal e l):Sat C V a n (envL l) :=
  let ⟨ms,h1,h2,h3⟩:=hm
  ⟨ms,h1,h2.weaken h,by
    rcases ql6 1000000 h with h1|h1
    · rw [h1];trivial
    · rw [h1];exact h3⟩
def WPIn {P:Program} (C:Cx P) (n:Nat) (c:Code) (Q:Exit→(Nat→D)→List Bx→Prop) (e:Nat→D) (st:List Bx):Prop :=
  ∀(a:Act) (w:World) (x:Nat→Prop) (bl:List Nat),Sat C ⟨w,x,bl,st⟩ a n e→∀(b:Frame) (k:List Item) (cs:List Frame),b.roundOf=C.ro →
    ∃ex a' w',Post C n Q ex a' w'∧ArrivesIn (Machine.fenced P (FR C.ro)) P (lone (b.atR a (.code c::.inLoop c::k)) cs w) b k cs ex a' w'
theorem FR_room {ro:Option Nat} (k:Nat):(FR ro).room k:=fun d hd=>by cases hd
theorem qle {ro:Option Nat} (m:Machine):m.fenced P (FR ro):=fenced_wide P m
theorem WP.loop_in {c:Code} (h:WPIn C n c Q e st):WP C n (.loop c) Q e st:=by
  intro a w x bl hm b k cs hro hb hr
  obtain⟨ex,a',w',hq,harr⟩:=h a w x bl hm b k cs hro
  exact⟨ex,a',w',hq,.of_steps (.one (qle _) stepR_loop) harr⟩
theorem WPIn.unroll {c:Code} (h:WP C n c (qdi (WPIn C n c Q) Q) e st):WPIn C n c Q e st:=by
  intro a w x bl hm b k cs hro
  obtain⟨ex,a₁,w₁,⟨x1,bl1,e1,st1,hm1,hq⟩,harr⟩:=h a w x bl hm b (.inLoop c::k) cs hro trivial (FR_room _)
  cases ex with
  | normal =>
    obtain⟨ex2,a2,w2,hq2,harr2⟩:=hq a₁ w₁ x1 bl1 hm1 b k cs hro
    exact⟨ex2,a2,w2,hq2,.of_steps (StepsIn.trans harr (.one (qle _) stepR_inLoop)) harr2⟩
  | exit id=>exact⟨_,a₁,w₁,⟨x1,bl1,e1,st1,hm1,hq⟩,.pass (x:=.inLoop c) rfl (fun _ _=>.inl (by simp)) harr⟩
  | goto l=>exact⟨_,a₁,w₁,⟨x1,bl1,e1,st1,hm1,hq⟩,.pass (x:=.inLoop c) rfl (fun _ _=>.inl (by simp)) harr⟩
  | ret=>exact⟨_,a₁,w₁,⟨x1,bl1,e1,st1,hm1,hq⟩,.pass (x:=.inLoop c) rfl (fun _ _=>.inl (by simp)) harr⟩
  | panic ch=>exact⟨_,a₁,w₁,⟨x1,bl1,e1,st1,hm1,hq⟩,.pass (x:=.inLoop c) rfl (fun _ _=>.inl (by simp)) harr⟩
  | outgrown=>exact⟨_,a₁,w₁,⟨x1,bl1,e1,st1,hm1,hq⟩,.pass (x:=.inLoop c) rfl (fun _ _=>.inl (by simp)) harr⟩
theorem WP.loopS {α:Type} (S:α→(Nat→D)→List Bx→Prop) (μ:α→Nat) (y:α) {c:Code} (h0:S y e st)
    (round:∀y e st,S y e st→WP C n c (qdi (fun e' st'=>∀a w x bl,Sat C ⟨w,x,bl,st'⟩ a n e'→∃z x1 bl1 e1 st1,μ z<μ y∧S z e1 st1∧Sat C ⟨w,x1,bl1,st1⟩ a n e1) Q) e st):WP C n (.loop c) Q e st:=by
  have main:∀(m:Nat) (y:α),μ y=m→∀e st,S y e st→WPIn C n c Q e st:=by
    intro m
    induction m using Nat.strongRecOn with
    | _ m ih =>
      intro y hy e st hS
      refine WPIn.unroll ((round y e st hS).mono ?_)
      intro ex e' st' hq
      cases ex with
      | normal =>
        intro a w x bl hm
        obtain⟨z,x1,bl1,e1,st1,hlt,hS1,hm1⟩:=hq a w x bl hm
        exact ih (μ z) (hy▸hlt) z rfl e1 st1 hS1 a w x1 bl1 hm1
      | _=>exact hq
  exact .loop_in (main _ y rfl e st h0)
theorem WP.loop {α:Type} (env:α→List (Nat×D)) (sto:α→List Bx) (μ:α→Nat) (y:α) {c:Code} (h0:qal e (env y)) (hs:st=sto y)
    (round:∀y,WP C n c (qdi (fun e' st'=>∃z,μ z<μ y∧qal e' (env z)∧st'=sto z) Q) (envL (env y)) (sto y)):WP C n (.loop c) Q e st:=by
  have main:WP C n (.loop c) Q (envL (env y)) (sto y):=by
    refine WP.loopS (fun y e st=>e=envL (env y)∧st=sto y) μ y ⟨rfl,rfl⟩ ?_
    rintro y _ _ ⟨rfl,rfl⟩
    refine (round y).mono ?_
    intro ex e' st' hq
    cases ex with
    | normal =>
      obtain⟨z,hlt,hag,rfl⟩:=hq
      intro a w x bl hm
      exact⟨z,x,bl,_,_,hlt,⟨rfl,rfl⟩,hm.weaken hag⟩
    | _=>exact hq
  subst hs
  intro a w x bl hm
  exact main a w x bl (hm.weaken h0)
end
def clD1:D→Bool
  | .a x=>clA1 x
  | .r row=>row.all clA
  | _=>false
def clD:D→Bool
  | .t ds=>ds.all clD1
  | d=>clD1 d
def seeA (st:List Bx):A→A
  | .nl=>.sl []
  | .sk rows=>.sl rows
  | .own i ver=>(match st[i]? with
    | some (.arr ver' _ rows)=>if ver=ver' then .sl rows else .own i ver
    | _=>.own i ver)
  | x=>x
def qc9 (st:List Bx):D→D
  | .a x=>.a (seeA st x)
  | .r row=>.r (row.map (seeA st))
  | d=>d
theorem out_mut {w:World} {x:Nat→Prop} {b:Nat} (h:(out w x).mut b):x b:=by
  rcases h with h|⟨i,y,h,_⟩
  · exact h
  · simp [out] at h
theorem RepC.toOut {w:World} {m:Nat→Prop} {x:A} {u:Value} (h:RepC w m x u):RepA (out w m) x u :=
  .c _ _ (h.mono (Nat.le_refl _) fun b _ hm=>⟨fun _=>rfl,fun h=>hm (out_mut h)⟩)
theorem RepA.ofOut {w:World} {V:Vw} {x:A} {u:Value} (h:RepA (out w V.mut) x u):RepA (V.to w) x u:=by
  induction h with
  | c x u h=>exact .c _ _ (h.mono (Nat.le_refl _) fun b _ hm=>⟨fun _=>rfl,fun h=>hm (.inl h)⟩)
  | ptr i off b hi=>simp [out] at hi
  | own i ver a l c hi=>simp [out] at hi
  | ep i ver z off b ad hi=>simp [out] at hi
  | fn f caps vs hl _ ih=>exact .fn f caps vs hl ih
  | fm f caps vs hl _ ih=>exact .fm f caps vs hl ih
  | mp i b hi=>simp [out] at hi
  | cs i off len b hi=>simp [out] at hi
theorem RepA.lessOut {w:World} {x x':Nat→Prop} (hx:∀b,x' b→x b) {y:A} {u:Value} (h:RepA (out w x) y u):RepA (out w x') y u:=by
  induction h with
  | c y u h=>exact .c _ _ (h.mono (Nat.le_refl _) fun b _ hm=>⟨fun _=>rfl,fun h=>hm (.inl (hx b (out_mut h)))⟩)
  | ptr i off b hi=>simp [out] at hi
  | own i ver a l c hi=>simp [out] at hi
  | ep i ver z off b ad hi=>simp [out] at hi
  | fn f caps vs hl _ ih=>exact .fn f caps vs hl ih
  | fm f caps vs hl _ ih=>exact .fm f caps vs hl ih
  | mp i b hi=>simp [out] at hi
  | cs i off len b hi=>simp [out] at hi
theorem RepD.lessOut {w:World} {x x':Nat→Prop} (hx:∀b,x' b→x b) {d:D} {u:Value} (h:RepD (out w x) d u):RepD (out w x') d u:=by
  induction h with
  | junk v=>exact .junk v
  | undef=>exact .undef
  | a y u h=>exact .a y u (h.lessOut hx)
  | r row vs hl h=>exact .r row vs hl fun j y hj=>(h j y hj).lessOut hx
  | t ds vs hl _ ih=>exact .t ds vs hl ih
theorem RepD.ofOut {w:World} {V:Vw} {d:D} {u:Value} (h:RepD (out w V.mut) d u):RepD (V.to w) d u:=by
  induction h with
  | junk v=>exact .junk v
  | undef=>exact .undef
  | a x u h=>exact .a x u h.ofOut
  | r row vs hl h=>exact .r row vs hl fun j x hj=>(h j x hj).ofOut
  | t ds vs hl _ ih=>exact .t ds vs hl ih
theorem RepD.toOut {V:Vw} {d:D} {u:Value} (h:RepD V d u) (hc:clD d=true):RepD (out V.w V.mut) d u:=by
  have one:∀{d:D} {u:Value},RepD V d u→clD1 d=true→RepD (out V.w V.mut) d u:=by
    intro d u h hc
    cases h with
    | junk=>cases hc
    | undef=>cases hc
    | a x u h=>exact .a x u (h.cl1 hc).toOut
    | r row vs hl h=>exact .r row vs hl fun j x hj=>((h j x hj).cl (List.all_eq_true.1 hc x (lm4 hj))).toOut
    | t=>cases hc
  cases h with
  | t ds vs hl h=>exact .t ds vs hl fun j d hd=>one (h j d hd) (List.all_eq_true.1 hc d (lm4 hd))
  | junk=>cases hc
  | undef=>cases hc
  | a x u h=>exact one (.a x u h) hc
  | r row vs hl h=>exact one (.r row vs hl h) hc
theorem RepA.see {V:Vw} (hok:Ok V) (hx:∀b,b∈V.bl→¬V.x b) {y:A} {u:Value} (h:RepA V y u) (hc:clA1 (seeA V.st y)=true):RepA (out V.w V.x) (seeA V.st y) u:=by
  cases h with
  | c _ _ h =>
    have key:RepC V.w V.mut (seeA V.st y) u:=by
      cases h with
      | nl=>exact .sl0 none 0
      | sk rows a l h=>exact h
      | v _ h=>exact .v _ h
      | sl0 a c=>exact .sl0 a c
      | sl rows n b o c val h1 h2 h3 h4 h5 h6=>exact .sl rows n b o c val h1 h2 h3 h4 h5 h6
      | ref row off b o val h1 h2 h3 h4=>exact .ref row off b o val h1 h2 h3 h4
      | fn f caps vs h1 h2=>exact .fn f caps vs h1 h2
    exact (key.mono (Nat.le_refl _) fun b _ hm=>⟨fun _=>rfl,fun h=>hm (.inl h)⟩).toOut
  | ptr=>cases hc
  | own i ver a l c hi hr =>
    unfold seeA at hc ⊢
    rcases hs:V.st[i]? with _|(_|row|⟨ver',n,rows⟩|_)<;>simp only [hs] at hc ⊢
    · cases hc
    · cases hc
    · cases hc
    · split at hc
      · rename_i hv
        rw [if_pos hv]
        obtain⟨_,hr⟩:=hr _ _ _ hs
        obtain⟨rfl,b,cs,T,rfl,hb,hh,hsz,hlc⟩:=hr hv
        obtain⟨cs',T',c',h1,h2,h3,h4,h5,h6⟩:=hok.arr i ver' n rows b hs hb
        rw [hh] at h1;injection h1 with h1;injection h1 with e1 e2;subst e1
        have hbm:b∈V.bl:=lm4 hb
        refine RepC.toOut (.sl rows n b 0 c (fun k j=>cs.getD (k*n+j) Go.undef) (hok.isc i b hb) (hx b hbm) hlc h5 (fun k row j y hk hj=>?_) fun k row j y hk hj=>(h6 k row j y hk hj).mono (Nat.le_refl _) fun b _ hm=>⟨fun _=>rfl,fun h=>hm (.inl h)⟩)
        have hklt:=(List.getElem?_eq_some_iff.1 hk).1
        have hjlt:j<n:=by have:=(List.getElem?_eq_some_iff.1 hj).1;rw [h5 k row hk] at this;exact this
        have hlt:k*n+j<cs.size:=by
          rw [hsz]
          have:(k+1)*n≤c*n:=Nat.mul_le_mul_right n (by omega)
          rw [Nat.add_mul,Nat.one_mul] at this;omega
        rw [Nat.zero_add,cell_of_row V.w b _ cs T (0,0) hh,Array.getD_eq_getD_getElem?,Array.getElem?_eq_getElem hlt];rfl
      · cases hc
    · cases hc
  | ep=>cases hc
  | mp=>cases hc
  | cs=>cases hc
  | fm=>cases hc
  | fn f caps vs hl h =>
    have hh:RepC V.w V.mut (.fn f caps) (.func (.func f) #[] vs.toArray):=RepA.cl1 (.fn f caps vs hl h) hc
    exact (hh.mono (Nat.le_refl _) fun b _ hm=>⟨fun _=>rfl,fun h=>hm (.inl h)⟩).toOut
theorem RepD.see {V:Vw} (hok:Ok V) (hx:∀b,b∈V.bl→¬V.x b) {d:D} {u:Value} (h:RepD V d u) (hc:clD1 (qc9 V.st d)=true):RepD (out V.w V.x) (qc9 V.st d) u:=by
  cases h with
  | junk=>cases hc
  | undef=>cases hc
  | t=>cases hc
  | a x u h=>exact .a _ u (h.see hok hx hc)
  | r row vs hl h =>
    refine .r _ vs (by simp [hl]) fun j y hj=>?_
    rw [List.getElem?_map,Option.map_eq_some_iff] at hj
    obtain⟨y',hj,rfl⟩:=hj
    exact (h j y' hj).see hok hx (clA1_of <| List.all_eq_true.1 hc _ (List.mem_map.2 ⟨y',lm4 hj,rfl⟩))
def qaa (P:Program) (f:FuncId) (ds:List D) (d:D):Prop :=
  (∀(args:Array Value) (W:World),(callFunc f args).run P W=.ok (.enter f args) W) ∧
  ∀(w:World) (x:Nat→Prop) (vs:List Value),(∀b,x b→b<w.heap.size)→(∀w':World,w.heap.size≤w'.heap.size→(∀b,b<w.heap.size→¬x b→isC w b→w'.heap[b]? = w.heap[b]?)→Gd w')→vs.length=ds.length→(∀(i:Nat) (d':D),ds[i]? = some d'→RepD (out w x) d' (vs.getD i Go.undef)) →
    Calls P f vs.toArray w fun en w'=>∃v,en=.returned v∧Grw w w'∧RepD (out w' x) d v
theorem qaa.up {P:Program} {f:FuncId} {ds:List D} {d:D} (h:qaa P f ds d) {V:Vw} (hok:Ok V) {vs:List Value} (hl:vs.length=ds.length) (hr:∀(i:Nat) (d':D),ds[i]? = some d'→RepD V d' (vs.getD i Go.undef)) (hc:ds.all clD=true) :
    Calls P f vs.toArray V.w fun en w'=>∃v,en=.returned v∧Grw V.w w'∧RepD (V.to w') d v:=by
  refine (h.2 V.w V.mut vs (fun b hb=>?_) (fun w' hs hb=>hok.gd w' hs fun b hlt hn hx=>hb b hlt fun hm=>hm.elim hx fun ⟨i,y,hm,_⟩=>hn (lm4 hm)) hl fun i d' hd=>(hr i d' hd).toOut (List.all_eq_true.1 hc d' (lm4 hd))).mono ?_
  · rcases hb with hb|⟨i,y,hb,_⟩
    · exact hok.xlt b hb
    · exact hok.lt i b hb
  · rintro en w' ⟨v,h1,h2,h3⟩
    exact⟨v,h1,h2,h3.ofOut⟩
section
variable {P:Program} {st:List Bx} {e:Nat→D} {o:Oper}
theorem fn_inv {V:Vw} {f:FuncId} {u:Value} (h:RepD V (.a (.fn f [])) u):u=.func (.func f) #[] #[]:=by
  cases h.c_inv rfl with
  | fn _ _ vs hl _ =>
    cases vs with
    | nil=>rfl
    | cons=>simp at hl
theorem OpJ.call {f:FuncId} {xs:Array Operand} {tys:Array TypeId} {ds:List D} {d:D} (ho:o.op=.call ⟨.value (.func f),xs,tys⟩) (hx:xs.toList.map (evO e)=ds) (hc:ds.all clD=true) (hp:qaa P f ds d):OpJ P st e o d:=by
  intro ρ V _ hok hu
  rw [ho] at hu
  have hf:ρ (.func f)=.func (.func f) #[] #[]:=fn_inv (hu (.func f) (by simp [qad,Op.operands,Call.operands]))
  have hrun:(execOp ρ o).run P V.w=.ok (.enter f (xs.map ρ)) V.w:=by
    simp only [execOp,ho,resolve,hf,Deferred.ofValue,Sem.run_bind,Sem.run_pure,Result.andThen_ok,invoke,Array.empty_append,Array.append_empty,hp.1]
  rw [hrun]
  refine⟨rfl,?_⟩
  have:=hp.up hok (vs:=(xs.map ρ).toList) (by rw [←hx];simp) (fun i d' hd=>?_) hc
  · rw [Array.toArray_toList] at this;exact this
  · rw [←hx,List.getElem?_map,Option.map_eq_some_iff] at hd
    obtain⟨y,hy,rfl⟩:=hd
    have:=hu y (by have:=lm4 hy;simp [qad,Op.operands,Call.operands];right;simpa using this)
    have hget:(xs.map ρ).toList.getD i Go.undef=ρ y:=by
      rw [List.getD_eq_getElem?_getD,Array.toList_map,List.getElem?_map,hy];rfl
    rw [hget];exact this
theorem OpJ.callv {f:FuncId} {y:Operand} {caps:List A} {xs:Array Operand} {tys:Array TypeId} {ds:List D} {d:D} (ho:o.op=.call ⟨.value y,xs,tys⟩) (hy:evO e y=.a (.fn f caps)) (hx:xs.toList.map (evO e)++caps.map D.a=ds) (hc:ds.all clD=true) (hp:qaa P f ds d):OpJ P st e o d:=by
  intro ρ V _ hok hu
  rw [ho] at hu
  have h1:=hu y (by simp [qad,Op.operands,Call.operands])
  rw [hy] at h1
  have key:∃vs:List Value,ρ y=.func (.func f) #[] vs.toArray∧vs.length=caps.length∧∀(i:Nat) (z:A),caps[i]? = some z→RepA V z (vs.getD i Go.undef):=by
    generalize ρ y=u at *
    cases h1 with
    | a _ _ h=>cases h with
      | c _ _ h=>cases h with
        | fn _ _ vs hl h=>exact⟨vs,rfl,hl,fun i z hz=>.c _ _ (h i z hz)⟩
      | fn _ _ vs hl h=>exact⟨vs,rfl,hl,h⟩
  obtain⟨vs,hf,hvl,hvr⟩:=key
  have hrun:(execOp ρ o).run P V.w=.ok (.enter f (xs.map ρ++vs.toArray)) V.w:=by
    simp only [execOp,ho,resolve,hf,Deferred.ofValue,Sem.run_bind,Sem.run_pure,Result.andThen_ok,invoke,Array.empty_append,hp.1]
  rw [hrun]
  refine⟨rfl,?_⟩
  have:=hp.up hok (vs:=(xs.map ρ).toList++vs) (by rw [←hx];simp [hvl]) (fun i d' hd=>?_) hc
  · rw [show ((xs.map ρ).toList++vs).toArray=xs.map ρ++vs.toArray by apply Array.ext';rw [List.toList_toArray,Array.toList_append]] at this;exact this
  · rw [←hx] at hd
    rw [List.getElem?_append] at hd
    rw [List.getD_eq_getElem?_getD,List.getElem?_append]
    simp only [List.length_map,Array.length_toList,Array.size_map] at hd ⊢
    split at hd
    · rename_i hlt
      rw [if_pos hlt]
      rw [List.getElem?_map,Option.map_eq_some_iff] at hd
      obtain⟨y',hy',rfl⟩:=hd
      have:=hu y' (by have:=lm4 hy';simp [qad,Op.operands,Call.operands];right;simpa using this)
      rw [Array.toList_map,List.getElem?_map,hy'];exact this
    · rename_i hlt
      rw [if_neg hlt]
      rw [List.getElem?_map,Option.map_eq_some_iff] at hd
      obtain⟨z,hz,rfl⟩:=hd
      have:=hvr _ z hz
      rw [List.getD_eq_getElem?_getD] at this
      exact .a _ _ this
end
def qaj:Nat→List D→Nat→D
  | _,[]=>fun _=>.undef
  | i,d::r=>upd (qaj (i+1) r) i d
theorem qcq:∀(ds:List D) (i t:Nat),qaj i ds t=if i≤t then ds.getD (t-i) .undef else .undef
  | [],i,t=>by simp [qaj]
  | d::r,i,t=>by
    unfold qaj upd
    by_cases h:t=i
    · subst h;simp
    · rw [if_neg h,qcq r (i+1) t]
      by_cases h2:i≤t
      · rw [if_pos h2,if_pos (by omega),show t-i=(t-(i+1))+1 by omega];rfl
      · rw [if_neg h2,if_neg (by omega)]
def res1 (P:Program) (n:Nat) (e:Nat→D) (st:List Bx):ResultVar→Option D
  | .tmp t=>if t<n then some (qc9 st (e t)) else none
  | .cell t T=>if t<n then (match e t with
    | .a (.ptr i off)=>(match st[i]?,ldk P T with
      | some (.cell row),some k=>(qae k row off).map (qc9 st)
      | _,_=>none)
    | _=>none) else none
def resL (P:Program) (n:Nat) (e:Nat→D) (st:List Bx) (l:List ResultVar) (d:D):Prop :=
  match l with
  | [r]=>res1 P n e st r=some d∧clD1 d=true
  | l=>∃ds,d=.t ds∧l.map (res1 P n e st)=ds.map some∧ds.all clD1=true
theorem qmw {P:Program} {C:Cx P} {V:Vw} {tm:Array Value} {n:Nat} {e:Nat→D} (hm:M C V tm n e) {r:ResultVar} {d:D} (h:res1 P n e V.st r=some d) (hc:clD1 d=true) :
    ∃v,(match r with|.tmp t=>(pure (tm.getD t Go.undef):Sem Value)|.cell a t=>do loadVar t (←asAddr (tm.getD a Go.undef))).run P V.w=.ok v V.w∧RepD (out V.w V.x) d v:=by
  cases r with
  | tmp t =>
    simp only [res1] at h
    split at h
    · rename_i ht
      injection h with h;subst h
      exact⟨_,rfl,(hm.slot t ht).see hm.ok hm.sep hc⟩
    · cases h
  | cell t T =>
    simp only [res1] at h
    split at h
    · rename_i ht
      have hs:=hm.slot t ht
      split at h
      · rename_i i off he
        rw [he] at hs
        split at h
        · rename_i row k hst hk
          rw [Option.map_eq_some_iff] at h
          obtain⟨d',hd,rfl⟩:=h
          change ∃v,((asAddr (tm.getD t Go.undef)).bind fun a=>loadVar T a).run P V.w=.ok v V.w∧RepD (out V.w V.x) (qc9 V.st d') v
          generalize tm.getD t Go.undef=u at *
          cases hs with
          | a _ _ h=>cases h with
            | c _ _ h=>cases h
            | ptr _ _ b hi hb =>
              obtain⟨cs,T',h1,h2,h3⟩:=hm.ok.cell i row b hst (hb row hst)
              have hcell:∀j x,row[j]? = some x→V.w.cell? ⟨b,0+j,none⟩=some (cs.getD j Go.undef):=fun j x hj=>by
                have hlt:=(List.getElem?_eq_some_iff.1 hj).1
                rw [Nat.zero_add,cell_of_row V.w b j cs T' (0,0) h1,Array.getD_eq_getD_getElem?,Array.getElem?_eq_getElem (by omega)];rfl
              obtain⟨v,hr,hv⟩:=qki (off:=off) hk hd _ hcell h3
              rw [Nat.zero_add] at hr
              have hr':(loadVar T ⟨b,off,none⟩).run P V.w=.ok v V.w:=by simpa [Instr.loadAt,Instr.sureAddr] using hr
              exact⟨v,hr',hv.see hm.ok hm.sep hc⟩
        · cases h
      · cases h
    · cases h
theorem qeo {P:Program} {C:Cx P} {V:Vw} {fn:Func} {tm:Array Value} {n:Nat} {e:Nat→D} (hm:M C V tm n e) {d:D} (h:resL P n e V.st fn.results.toList d):∃v,(results fn tm).run P V.w=.ok v V.w∧RepD (out V.w V.x) d v:=by
  have many:∀(l:List ResultVar) (ds:List D),l.map (res1 P n e V.st)=ds.map some→ds.all clD1=true →
      ∃vs:List Value,(l.mapM (m:=Sem) fun r=>match r with|.tmp t=>(pure (tm.getD t Go.undef):Sem Value)|.cell a t=>do loadVar t (←asAddr (tm.getD a Go.undef))).run P V.w=.ok vs V.w∧vs.length=ds.length∧∀j d,ds[j]? = some d→RepD (out V.w V.x) d (vs.getD j Go.undef):=by
    intro l
    induction l with
    | nil =>
      intro ds h _
      cases ds with
      | nil=>exact⟨[],rfl,rfl,fun j d hd=>by simp at hd⟩
      | cons=>simp at h
    | cons r l ih =>
      intro ds h hc
      cases ds with
      | nil=>simp at h
      | cons d ds =>
        simp only [List.map_cons,List.cons.injEq] at h
        simp only [List.all_cons,Bool.and_eq_true] at hc
        obtain⟨v,h1,h2⟩:=qmw hm h.1 hc.1
        obtain⟨vs,h3,h4,h5⟩:=ih ds h.2 hc.2
        refine⟨v::vs,?_,by simp [h4],fun j d' hd=>?_⟩
        · rw [List.mapM_cons,Sem.run_bind,h1,Result.andThen_ok,Sem.run_bind,h3];rfl
        · cases j with
          | zero=>simp at hd;subst hd;exact h2
          | succ j=>exact h5 j d' (by simpa using hd)
  have toList:(results fn tm).run P V.w=((fn.results.toList.mapM (m:=Sem) fun r=>match r with|.tmp t=>(pure (tm.getD t Go.undef):Sem Value)|.cell a t=>do loadVar t (←asAddr (tm.getD a Go.undef))).run P V.w).andThen fun vs w=>.ok (if h:vs.toArray.size=1 then vs.toArray[0] else .tuple vs.toArray) w:=by
    unfold results
    rw [Array.mapM_eq_mapM_toList,Sem.run_bind,map_eq_pure_bind,Sem.run_bind]
    generalize (List.mapM (m:=Sem) _ fn.results.toList).run P V.w=r
    cases r<;>rfl
  unfold resL at h
  split at h
  · rename_i r hr
    obtain⟨v,h1,h2⟩:=qmw hm h.1 h.2
    refine⟨v,?_,h2⟩
    rw [toList,hr,List.mapM_cons,Sem.run_bind,h1]
    rfl
  · rename_i l hl
    obtain⟨ds,rfl,h1,h2⟩:=h
    obtain⟨vs,h3,h4,h5⟩:=many _ ds h1 h2
    refine⟨.tuple vs.toArray,?_,.t ds vs h4 h5⟩
    rw [toList,h3,Result.andThen_ok]
    have hne:¬vs.toArray.size=1:=by
      intro h
      have hlen:fn.results.toList.length=ds.length:=by have:=congrArg List.length h1;simpa using this
      simp at h
      have:fn.results.toList.length=1:=by omega
      obtain⟨r,hr⟩:=List.length_eq_one_iff.1 this
      exact hl r hr
    rw [dif_neg hne]
def Env.none (P:Program):Env P :=
  ⟨0,[],fun _ _ _ _=>False,fun _ _=>False,fun _ _ _ _ h=>h.elim,fun _ _ h=>h.elim,fun _ _ _ _ _ h=>h.elim,fun _ _ _ h=>h.elim,fun _ _ _ _ _ _ _ h=>h.elim⟩
theorem EnvE.less {P:Program} {E:Env P} {on:Prop} {Nx Nx':Nat→Prop} {g:D} {V:Vw} (h:EnvE E on Nx g V) (hn:∀b,Nx' b→Nx b):EnvE E on Nx' g V:=by
  unfold EnvE at *
  split
  · obtain⟨ho,Dp,Mx,h1,h2,h3⟩:=h
    exact⟨ho,Dp,Mx,h1,fun b hb=>h2 b (hb.imp id (hn b)),h3⟩
  · obtain⟨ho,Dp,h1,h2⟩:=h
    exact⟨ho,Dp,h1,fun b hb=>h2 b (hb.imp id (hn b))⟩
  · trivial
theorem qif {w:World} {D:Nat} {o o':Obj} (h:w.heap[D]? = some o) (hc:isK o=false) {b:Nat} (hb:isC w b):b≠D:=by
  rintro rfl
  obtain⟨q,h1,h2⟩:=hb
  rw [h] at h1;injection h1 with h1;subst h1;rw [hc] at h2;cases h2
theorem Vw.le_note {V:Vw} {D:Nat} {o:Obj} (o':Obj) (h:V.w.heap[D]? = some o) (hc:isK o=false) (hb:¬D∈V.bl):V.Le (V.to (V.w.putObj D o')) :=
  ⟨Nat.le_refl _,by show V.w.heap.size≤(V.w.putObj D o').heap.size;simp,fun b _ hm=>⟨fun hi=>World.putObj_heap_other (qif (o':=o') h hc hi),hm⟩,fun _ row _ h=>⟨⟨row,h⟩,rfl⟩,
    fun i ver n rows _ h=>⟨ver,n,rows,h,.inr ⟨rfl,rfl,rfl,rfl,fun b cs T hbi hh=>⟨cs,(World.putObj_heap_other (show b≠D from fun e=>hb (e▸lm4 hbi))).trans hh,rfl⟩⟩⟩,fun _ k wd es _ h=>⟨⟨k,wd,es,h⟩,rfl⟩⟩
theorem Ok.note {V:Vw} (hok:Ok V) {D:Nat} {o:Obj} (o':Obj) (h:V.w.heap[D]? = some o) (hc:isK o=false) (hb:¬D∈V.bl):Ok (V.to (V.w.putObj D o')):=by
  have hle:=Vw.le_note o' h hc hb
  have hsz:(V.w.putObj D o').heap.size=V.w.heap.size:=by simp
  have old:∀(i b:Nat),V.bl[i]? = some b→(V.w.putObj D o').heap[b]? = V.w.heap[b]?:=fun i b hi=>World.putObj_heap_other fun e=>hb (e▸lm4 hi)
  refine⟨hok.len,fun i b hi=>by have:=hok.lt i b hi;show b<(V.w.putObj D o').heap.size;omega,fun b hx=>by have:=hok.xlt b hx;show b<(V.w.putObj D o').heap.size;omega,fun w' hs hw=>hok.gd w' (by rw [←hsz];exact hs) fun b hlt h1 h2 hi=>?_,fun i b hi=>?_,hok.inj,fun i row b h1 h2=>?_,fun i ver n rows b h1 h2=>?_,fun i k wd es b h1 h2=>?_⟩
  · have hne:=qif (o':=o') h hc hi
    have hsame:(V.w.putObj D o').heap[b]? = V.w.heap[b]?:=World.putObj_heap_other hne
    obtain⟨q,q1,q2⟩:=hi
    exact (hw b (by show b<(V.w.putObj D o').heap.size;omega) h1 h2 ⟨q,hsame.trans q1,q2⟩).trans hsame
  · obtain⟨q,q1,q2⟩:=hok.isc i b hi
    exact⟨q,(old i b hi).trans q1,q2⟩
  · obtain⟨cs,T,k1,k2,k3⟩:=hok.cell i row b h1 h2
    exact⟨cs,T,(old i b h2).trans k1,k2,fun j x hj=>(k3 j x hj).mono hle⟩
  · obtain⟨cs,T,c,k1,k2,k3,k4,k5,k6⟩:=hok.arr i ver n rows b h1 h2
    exact⟨cs,T,c,(old i b h2).trans k1,k2,k3,k4,k5,fun k row j x hk hj=>(k6 k row j x hk hj).mono hle.size hle.blk⟩
  · obtain⟨ms,k1,k2,k3⟩:=hok.map i k wd es b h1 h2
    exact⟨ms,(old i b h2).trans k1,k2,fun j y row hj=>by obtain⟨q1,v,q2,q3⟩:=k3 j y row hj;exact⟨q1,v,q2,q3.mono hle⟩⟩
theorem M.note {P:Program} {C:Cx P} {V:Vw} {tm:Array Value} {n:Nat} {e:Nat→D} (hm:M C V tm n e) {D:Nat} {o:Obj} (o':Obj) (h:V.w.heap[D]? = some o) (hc:isK o=false) (hD:C.Kb D∨C.V0.w.heap.size≤D) (hDn:¬C.Nx D) (hb:¬D∈V.bl):M C (V.to (V.w.putObj D o')) tm n e :=
  have hle:=Vw.le_note o' h hc hb
  have hnx':NxOk C.Nx (V.to (V.w.putObj D o')):=fun b hbn=>by
    have hne:b≠D:=fun e=>hDn (e▸hbn)
    obtain⟨h1,h2⟩:=hm.nx b hbn
    refine⟨by show b<(V.w.putObj D o').heap.size;simpa using h1,h2.imp id fun ⟨q2,q3,q4⟩=>⟨q2.same (World.putObj_heap_other hne),q3,q4⟩⟩
  ⟨hm.size,fun t ht=>(hm.slot t ht).mono hle,hm.ok.note o' h hc hb,hm.le.trans hle,
    ⟨hm.fr.os,hm.fr.tape,hm.fr.output,by show C.V0.w.heap.size≤(V.w.putObj D o').heap.size;have:=hm.fr.size;simpa using this,fun b hlt hk=>(World.putObj_heap_other (show b≠D from fun e=>hD.elim (fun h=>hk (e▸h)) fun h=>by omega)).trans (hm.fr.block b hlt hk)⟩,
    hm.low,hm.sep,hm.x0,hm.xk,hm.xg,hnx',hm.nx0⟩
theorem qha {P:Program} {C:Cx P} (hro:C.ro=none) {fn:Func} {tm:Array Value} {n:Nat} {e:Nat→D} {g:D} {R:Ending→World→Prop}:∀(ms:List Nat) (V:Vw),ms.Nodup →
    (∀D∈ms,(C.ro=none→C.V0.w.heap.size≤D)∧V.w.heap[D]? = some (.deferred (some []))∧¬D∈V.bl∧¬V.x D)→M C V tm n e→EnvE C.E C.on (C.nxm ms) g V →
    (∀V':Vw,V'.st=V.st→M C V' tm n e→EnvE C.E C.on C.Nx g V'→∃v,(results fn tm).run P V'.w=.ok v V'.w∧R (.returned v) V'.w) →
    LeavesInM Fence.wide 0 P fn tm R (ms.map fun D=>{ target:=.collected D,args:=#[] }) .returning V.w
  | [],V,_,_,hm,henv,h=>by
    obtain⟨v,h1,h2⟩:=h V rfl hm (henv.less fun b hb=>.inl hb)
    exact⟨v,h1,h2⟩
  | D::ms,V,hnd,hms,hm,henv,h=>by
    obtain⟨q1,q2,q3,q4⟩:=hms D (by simp)
    have hnd:=List.nodup_cons.1 hnd
    refine⟨by simp,.inl ⟨D,_,rfl,run_takeDeferred q2,?_⟩⟩
    have he1:EnvE C.E C.on (C.nxm (D::ms)) g (V.to (V.w.putObj D (.deferred none))):=by
      refine henv.frm ⟨rfl,rfl,rfl,?_,fun b _ hb=>World.putObj_heap_other (show b≠D from fun e=>hb (.inr (.inr (by simp [e])))) ⟩ (fun b hb=>.inl hb) fun b hb=>hb
      show V.w.heap.size≤(V.w.putObj D (.deferred none)).heap.size
      simp
    have he2:EnvE C.E C.on (C.nxm ms) g (V.to (V.w.putObj D (.deferred none))):=he1.less fun b (hb:C.Nx b∨b∈ms)=>hb.imp id fun h=>by simp [h]
    refine qha hro (g:=g) ms (V.to (V.w.putObj D (.deferred none))) hnd.2 (fun D' hD'=>?_) (hm.note _ q2 rfl (.inr (q1 hro)) (fun hn=>by have:=hm.nx0 D hn;have:=q1 hro;omega) q3) he2 h
    obtain⟨p1,p2,p3,p4⟩:=hms D' (by simp [hD'])
    exact⟨p1,(World.putObj_heap_other (show D'≠D from fun e=>hnd.1 (e▸hD'))).trans p2,p3,p4⟩
def retR (RQ:(Nat→D)→List Bx→Prop):Exit→(Nat→D)→List Bx→Prop
  | .normal,e,st|.ret,e,st=>RQ e st
  | _,_,_=>False
theorem qeg {P:Program} {C:Cx P} {f:FuncId} {fn:Func} {c:Code} {args:Array Value} {n:Nat} {e:Nat→D} {R:Ending→World→Prop} {RQ:(Nat→D)→List Bx→Prop} (hf:P.funcs[f]? = some fn) (hb:fn.body=some c) (hro:C.ro=none)
    (hs:Sat C C.V0 { tmps:=args++Array.replicate (fn.ntmps-args.size) Go.undef,defers:=[] } n e) (h:WP C n c (retR RQ) e C.V0.st)
    (hR:∀(tm:Array Value) (V':Vw) (e':Nat→D),M C V' tm n e'→EnvE C.E C.on C.Nx (e' 1000000) V'→RQ e' V'.st→∃v,(results fn tm).run P V'.w=.ok v V'.w∧R (.returned v) V'.w):Calls P f args C.V0.w R:=by
  refine CallsIn.calls (F:=Fence.wide) (n:=0) (callsIn_of_wp_marks hf hb trivial ?_) room_wide
  have:=h _ C.V0.w C.V0.x C.V0.bl hs
  rw [hro] at this
  refine wpIn_mono this ?_
  rintro ex a' w' ⟨x',bl',e',st',⟨ms,⟨hd,hnd,hms⟩,hm,henv⟩,hq⟩
  have fin:RQ e' st'→LeavesInM Fence.wide 0 P fn a'.tmps R a'.defers .returning w':=fun hq=>by
    rw [hd]
    exact qha hro ms ⟨w',x',bl',st'⟩ hnd hms hm henv fun V' hst hm' henv'=>hR a'.tmps V' e' hm' henv' (hst▸hq)
  cases ex with
  | normal=>exact fin hq
  | ret=>exact fin hq
  | _=>exact hq.elim
theorem Ok.out {w:World} {x:Nat→Prop} (hx:∀b,x b→b<w.heap.size) (hg:∀w':World,w.heap.size≤w'.heap.size→(∀b,b<w.heap.size→¬x b→isC w b→w'.heap[b]? = w.heap[b]?)→Gd w'):Ok (out w x) :=
  ⟨rfl,fun i b h=>by have h:([]:List Nat)[i]? = some b:=h;simp at h,hx,fun w' hs hb=>hg w' hs fun b hlt hnx hc=>hb b hlt (by show ¬b∈([]:List Nat);simp) hnx hc,fun i b h=>by have h:([]:List Nat)[i]? = some b:=h;simp at h,fun i j b y z h=>by have h:([]:List Nat)[i]? = some b:=h;simp at h,fun i row b h=>by have h:([]:List Bx)[i]? = _:=h;simp at h,fun i ver n rows b h=>by have h:([]:List Bx)[i]? = _:=h;simp at h,fun i k wd es b h=>by have h:([]:List Bx)[i]? = _:=h;simp at h⟩
theorem qcg {V:Vw} {ds:List D} {vs:List Value} {n:Nat} (hl:ds.length≤n) (hvl:vs.length=ds.length) (hr:∀(i:Nat) (d':D),ds[i]? = some d'→RepD V d' (vs.getD i Go.undef)) (t:Nat):RepD V (qaj 0 ds t) ((vs.toArray++Array.replicate (n-vs.toArray.size) Go.undef).getD t Go.undef):=by
  rw [qcq,if_pos (Nat.zero_le t),Nat.sub_zero,Array.getD_eq_getD_getElem?,Array.getElem?_append]
  by_cases hlt:t<vs.length
  · have h1:ds[t]? = some (ds.getD t .undef):=by rw [List.getD_eq_getElem?_getD,List.getElem?_eq_getElem (by omega)];rfl
    have:=hr t _ h1
    rw [List.getD_eq_getElem?_getD] at this
    simp only [List.size_toArray,hlt,if_true,List.getElem?_toArray]
    exact this
  · have h1:ds.getD t .undef=.undef:=by rw [List.getD_eq_getElem?_getD,List.getElem?_eq_none (by omega)];rfl
    rw [h1]
    simp only [List.size_toArray,hlt,if_false]
    rw [Array.getElem?_replicate]
    split<;>exact .undef
theorem qem {ds:List D} (h:ds.length≤1000000):qaj 0 ds 1000000=.undef:=by
  rw [qcq,if_pos (Nat.zero_le _),Nat.sub_zero,List.getD_eq_getElem?_getD,List.getElem?_eq_none h];rfl
def Cx.pure (P:Program) (w:World) (x:Nat→Prop):Cx P:=⟨Go.Proofs.YthkojpnjdpbcgaaGreatDoor.out w x,Non,False,.none,.none P,Non⟩
theorem qaa.intro {P:Program} {f:FuncId} {fn:Func} {c:Code} {n:Nat} {ds:List D} {d:D} (hf:P.funcs[f]? = some fn) (hb:fn.body=some c) (he:∀(args:Array Value) (W:World),(callFunc f args).run P W=.ok (.enter f args) W) (hn:fn.ntmps=n) (hl:ds.length≤n) (hl2:n≤1000000)
    (h:∀C:Cx P,C.ro=.none→WP C n c (retR fun e st=>resL P n e st fn.results.toList d) (qaj 0 ds) []):qaa P f ds d:=by
  refine⟨he,fun w x vs hx hgd hvl hr=>?_⟩
  have hsat:Sat (Cx.pure P w x) (Cx.pure P w x).V0 { tmps:=vs.toArray++Array.replicate (fn.ntmps-vs.toArray.size) Go.undef,defers:=[] } n (qaj 0 ds):=by
    refine⟨[],⟨rfl,by simp,fun D hD=>by simp at hD⟩,⟨by simp;omega,fun t _=>qcg (by omega) hvl hr t,.out hx hgd,.refl _,.refl _ _,fun b hb=>by have hb:b∈([]:List Nat):=hb;simp at hb,fun b hb=>by have hb:b∈([]:List Nat):=hb;simp at hb,fun _ h=>h,fun h=>h.elim,fun _ h=>.inl h,fun _ h=>h.elim,fun _ h=>h.elim⟩,?_⟩
    rw [qem (by omega)];trivial
  refine qeg (C:=Cx.pure P w x) hf hb rfl hsat (h _ rfl) ?_
  intro tm V' e' hm _ hq
  obtain⟨v,h1,h2⟩:=qeo hm hq
  exact⟨v,h1,v,rfl,hm.fr.grw,h2.lessOut hm.x0⟩
/-! ### A new block -/
theorem Step.push {V:Vw} (hok:Ok V) (cs:Array Value) (T:TypeId) (row:List A) (hl:cs.size=row.length) (hr:∀(j:Nat) (y:A),row[j]? = some y→RepA V y (cs.getD j Go.undef)) :
    Step V ⟨V.w.alloc (.cells cs T),V.x,V.bl++[V.w.heap.size],V.st++[.cell row]⟩:=by
  have hnew:(V.w.alloc (.cells cs T)).heap[V.w.heap.size]? = some (.cells cs T):=qbb _ _ _ rfl
  have hold:∀b,b<V.w.heap.size→(V.w.alloc (.cells cs T)).heap[b]? = V.w.heap[b]?:=fun b hb=>Below.heap_alloc V.w _ b hb
  have hmine:∀b,(⟨V.w.alloc (.cells cs T),V.x,V.bl++[V.w.heap.size],V.st++[.cell row]⟩:Vw).mine b→b<V.w.heap.size→V.mine b:=by
    rintro b ⟨i,y,h1,h2,h3⟩ hb
    simp only at h1 h2
    rw [List.getElem?_append] at h1 h2
    rw [←hok.len] at h2
    split at h1
    · rename_i hi
      rw [if_pos hi] at h2
      exact⟨i,y,h1,h2,h3⟩
    · have:=lm4 h1
      simp at this;omega
  have hle:V.Le ⟨V.w.alloc (.cells cs T),V.x,V.bl++[V.w.heap.size],V.st++[.cell row]⟩:=by
    refine⟨by simp,by simp,fun b hb hm=>⟨fun _=>hold b hb,fun h=>hm ?_⟩,fun i r hi h=>?_,fun i ver n rows hi h=>?_,fun i k wd es hi h=>?_⟩
    · rcases h with h|h
      · exact .inl h
      · exact .inr (hmine b h hb)
    · simp only at h ⊢
      rw [List.getElem?_append_left hi] at h
      exact⟨⟨r,h⟩,List.getElem?_append_left (by rw [hok.len];exact hi)⟩
    · simp only at h ⊢
      rw [List.getElem?_append_left hi] at h
      exact⟨ver,n,rows,h,.inr ⟨rfl,rfl,rfl,List.getElem?_append_left (by rw [hok.len];exact hi),fun b cs _ hb hc=>⟨cs,(hold b (hok.lt i b hb)).trans hc,rfl⟩⟩⟩
    · simp only at h ⊢
      rw [List.getElem?_append_left hi] at h
      exact⟨⟨k,wd,es,h⟩,List.getElem?_append_left (by rw [hok.len];exact hi)⟩
  have at1:∀i (b:Nat),(V.bl++[V.w.heap.size])[i]? = some b→(i<V.st.length∧V.bl[i]? = some b)∨(i=V.st.length∧b=V.w.heap.size):=by
    intro i b h
    rw [List.getElem?_append] at h
    split at h
    · rename_i hi;left;rw [hok.len] at hi;exact⟨hi,h⟩
    · rename_i hi
      right
      have hlt:=(List.getElem?_eq_some_iff.1 h).1
      simp at hlt
      have:i=V.bl.length:=by omega
      subst this
      simp at h
      exact⟨hok.len,h.symm⟩
  have at2:∀i (y:Bx),(V.st++[Bx.cell row])[i]? = some y→i<V.st.length→V.st[i]? = some y:=fun i y h hi=>by rwa [List.getElem?_append_left hi] at h
  refine⟨hle,⟨by simp [hok.len],fun i b h=>?_,fun b h=>?_,fun w' hs hb=>hok.gd w' (by have:(V.w.alloc (.cells cs T)).heap.size≤w'.heap.size:=hs;simp at this;omega) (fun b hlt hn hnx hc=>(hb b (by show b<(V.w.alloc (.cells cs T)).heap.size;simp;omega) (by show ¬b∈V.bl++[V.w.heap.size];simp;exact⟨hn,by omega⟩) hnx (by obtain⟨o,h1,h2⟩:=hc;exact⟨o,(hold b hlt).trans h1,h2⟩)).trans (hold b hlt)),fun i b h=>?_,fun i j b y z h1 h2 h3 h4 h5 h6=>?_,fun i r b h1 h2=>?_,fun i ver n rows b h1 h2=>?_,fun i k wd es b h1 h2=>?_⟩,.of_grwK ((Grw.refl _).alloc _),fun b hb=>?_⟩
  · rcases at1 i b h with ⟨_,h⟩|⟨_,rfl⟩
    · have:=hok.lt i b h;simp;omega
    · simp
  · have:=hok.xlt b h;simp;omega
  · rcases at1 i b h with ⟨_,h⟩|⟨_,rfl⟩
    · obtain⟨o,q1,q2⟩:=hok.isc i b h
      exact⟨o,(hold b (hok.lt i b h)).trans q1,q2⟩
    · exact⟨_,hnew,rfl⟩
  · rcases at1 i b h1 with ⟨hi,h1⟩|⟨rfl,rfl⟩
    · rcases at1 j b h2 with ⟨hj,h2⟩|⟨rfl,rfl⟩
      · exact hok.inj i j b y z h1 h2 (at2 i y h3 hi) (at2 j z h4 hj) h5 h6
      · have:=hok.lt i _ h1;omega
    · rcases at1 j _ h2 with ⟨hj,h2⟩|⟨rfl,_⟩
      · have:=hok.lt j _ h2;omega
      · rfl
  · rcases at1 i b h2 with ⟨hi,h2⟩|⟨rfl,rfl⟩
    · obtain⟨cs',T',k1,k2,k3⟩:=hok.cell i r b (at2 i _ h1 hi) h2
      exact⟨cs',T',(hold b (hok.lt i b h2)).trans k1,k2,fun j y hj=>(k3 j y hj).mono hle⟩
    · simp at h1
      subst h1
      exact⟨cs,T,hnew,hl,fun j y hj=>(hr j y hj).mono hle⟩
  · rcases at1 i b h2 with ⟨hi,h2⟩|⟨rfl,rfl⟩
    · obtain⟨cs',T',c,k1,k2,k3,k4,k5,k6⟩:=hok.arr i ver n rows b (at2 i _ h1 hi) h2
      exact⟨cs',T',c,(hold b (hok.lt i b h2)).trans k1,k2,k3,k4,k5,fun k r j y hk hj=>(k6 k r j y hk hj).mono hle.size hle.blk⟩
    · simp at h1
  · rcases at1 i b h2 with ⟨hi,h2⟩|⟨rfl,rfl⟩
    · obtain⟨ms,k1,k2,k3⟩:=hok.map i k wd es b (at2 i _ h1 hi) h2
      exact⟨ms,(hold b (hok.lt i b h2)).trans k1,k2,fun j y row hj=>by obtain⟨q1,v,q2,q3⟩:=k3 j y row hj;exact⟨q1,v,q2,q3.mono hle⟩⟩
    · simp at h1
  · simp at hb
    rcases hb with hb|rfl
    · exact .inl hb
    · right;exact Nat.le_refl _
theorem qjc {V:Vw} (hok:Ok V) (w:World) (row:List A):RepA ⟨w,V.x,V.bl++[V.w.heap.size],V.st++[.cell row]⟩ (.ptr V.st.length 0) (.pointer (some ⟨V.w.heap.size,0,none⟩)) :=
  .ptr _ 0 _ (by simp) fun _ _=>by simp only;rw [←hok.len];simp
def qba:D→Option (List A)
  | .a .nl=>some [.sl []]
  | .a x=>some [x]
  | .r row=>some row
  | _=>none
theorem one_cells {u:Value} (h:u.oneCell'=true):u.cells = #[u]:=by cases u<;>first|rfl|cases h
theorem qch {V:Vw} {d:D} {u:Value} {xs:List A} (h:RepD V d u) (hd:qba d=some xs):u.cells.size=xs.length∧(∀(j:Nat) (y:A),xs[j]? = some y→RepA V y (u.cells.getD j Go.undef))∧∀v∈u.cells.toList,v.oneCell'=true:=by
  cases h with
  | junk=>cases hd
  | undef=>cases hd
  | t=>cases hd
  | a x u h =>
    have main:∀y:A,RepA V y u→u.cells.size=([y]:List A).length∧(∀(j:Nat) (z:A),([y]:List A)[j]? = some z→RepA V z (u.cells.getD j Go.undef))∧∀v∈u.cells.toList,v.oneCell'=true:=fun y h=>by
      rw [one_cells h.one]
      refine⟨rfl,fun j z hj=>?_,fun v hv=>?_⟩
      · cases j with
        | zero=>simp at hj;subst hj;exact h
        | succ j=>simp at hj
      · simp at hv;subst hv;exact h.one
    cases x with
    | nl =>
      injection hd with hd;subst hd
      refine main _ ?_
      cases h with
      | c _ _ h=>cases h with
        | nl=>exact .c _ _ (.sl0 none 0)
    | _=>injection hd with hd;subst hd;exact main _ h
  | r row vs hl h =>
    injection hd with hd;subst hd
    have key:∀(j:Nat) (y:A),row[j]? = some y→RepA V y (vs.toArray.getD j Go.undef):=fun j y hj=>by
      have:=h j y hj
      rw [List.getD_eq_getElem?_getD] at this
      rw [Array.getD_eq_getD_getElem?,List.getElem?_toArray];exact this
    refine⟨by simpa [Value.cells] using hl,key,fun v hv=>?_⟩
    obtain⟨j,hj,rfl⟩:=List.getElem_of_mem (show v∈vs by simpa [Value.cells] using hv)
    have:=h j _ (List.getElem?_eq_getElem (show j<row.length by omega))
    rw [List.getD_eq_getElem?_getD,List.getElem?_eq_getElem hj] at this
    exact this.one
section
variable {P:Program} {st:List Bx} {e:Nat→D} {o:Oper}
theorem OpG.box {T:TypeId} {x:Operand} {xs:List A} (ho:o.op=.box T x) (hx:qba (evO e x)=some xs):OpG P st e o (.a (.ptr st.length 0)) (st++[.cell xs]):=by
  intro ρ V hst hok hu
  rw [ho] at hu
  have h:=hu x (by simp [qad,Op.operands])
  obtain⟨h1,h2,_⟩:=qch h hx
  have hrun:(execOp ρ o).run P V.w=.ok (.value (.pointer (some ⟨V.w.heap.size,0,none⟩))) (V.w.alloc (.cells (ρ x).cells T)):=by
    simp only [execOp,ho];rfl
  rw [hrun]
  subst hst
  exact⟨_,.push hok _ T xs h1 h2,.a _ _ (qjc hok _ _)⟩
def zrow (P:Program) (T:TypeId):Option (List A):=((P.info? T).bind (·.zero)).bind fun z=>z.cells.toList.mapM zA
theorem qew {V:Vw} {T:TypeId} {row:List A} (h:zrow P T=some row):∃i z,P.info? T=some i∧i.zero=some z∧z.cells.size=row.length∧∀(j:Nat) (y:A),row[j]? = some y→RepA V y (z.cells.getD j Go.undef):=by
  unfold zrow at h
  cases hi:P.info? T with
  | none=>simp [hi] at h
  | some i =>
    cases hz:i.zero with
    | none=>simp [hi,hz] at h
    | some z =>
      simp only [hi,hz,Option.bind_some] at h
      obtain⟨h1,h2⟩:=qgg (V:=V) h
      exact⟨i,z,rfl,hz,by simpa using h1,fun j y hj=>by have:=h2 j y hj;rw [List.getD_eq_getElem?_getD] at this;rw [Array.getD_eq_getD_getElem?,←Array.getElem?_toList];exact this⟩
theorem OpG.allocZ {T:TypeId} {row:List A} (ho:o.op=.alloc T) (hz:∀V:Vw,∃i z,P.info? T=some i∧i.zero=some z∧z.cells.size=row.length∧∀(j:Nat) (y:A),row[j]? = some y→RepA V y (z.cells.getD j Go.undef)):OpG P st e o (.a (.ptr st.length 0)) (st++[.cell row]):=by
  intro ρ V hst hok _
  obtain⟨i,z,h1,h2,h3,h4⟩:=hz V
  have hrun:(execOp ρ o).run P V.w=.ok (.value (.pointer (some ⟨V.w.heap.size,0,none⟩))) (V.w.alloc (.cells z.cells T)):=by
    have hzv:(zeroValue T).run P V.w=.ok z V.w:=by simp [zeroValue,typeInfo,h1,h2]
    simp only [execOp,ho,Instr.alloc,Sem.run_bind,hzv,Result.andThen_ok];rfl
  rw [hrun]
  subst hst
  exact⟨_,.push hok _ T row h3 h4,.a _ _ (qjc hok _ _)⟩
theorem OpG.alloc {T:TypeId} {row:List A} (ho:o.op=.alloc T) (hz:zrow P T=some row):OpG P st e o (.a (.ptr st.length 0)) (st++[.cell row]):=.allocZ ho fun V=>qew (V:=V) hz
/-! ### A store -/
def putV:Array Value→Nat→List Value→Array Value
  | cur,_,[]=>cur
  | cur,i,v::r=>putV (cur.setIfInBounds i v) (i+1) r
theorem qbx:∀(vs:List Value) (cur:Array Value) (i:Nat),(putV cur i vs).size=cur.size
  | [],_,_=>rfl
  | v::r,cur,i=>by rw [putV,qbx r];simp
theorem qcx:∀(vs:List Value) (cur:Array Value) (i j:Nat),i+vs.length≤cur.size→(putV cur i vs).getD j Go.undef=if i≤j∧j<i+vs.length then vs.getD (j-i) Go.undef else cur.getD j Go.undef
  | [],cur,i,j,_=>by rw [putV,if_neg (by rw [List.length_nil];omega)]
  | v::r,cur,i,j,h=>by
    rw [List.length_cons] at h
    rw [putV,qcx r _ _ j (by simp;omega),List.length_cons]
    by_cases h1:i+1≤j∧j<i+1+r.length
    · rw [if_pos h1,if_pos (by omega),show j-i=(j-(i+1))+1 by omega];rfl
    · rw [if_neg h1]
      by_cases h2:j=i
      · subst h2
        rw [if_pos (by omega),Nat.sub_self,Array.getD_eq_getD_getElem?,Array.getElem?_setIfInBounds_self,if_pos (by omega)];rfl
      · rw [if_neg (by omega),Array.getD_eq_getD_getElem?,Array.getElem?_setIfInBounds_ne (Ne.symm h2),←Array.getD_eq_getD_getElem?]
theorem setRow_id {w:World} {g:Nat} {cur:Array Value} {t:TypeId} {fr:Nat×Nat} (hg:w.heap[g]? = some (.cells cur t fr)):w.setRow g cur=w:=by
  unfold World.setRow
  cases w with
  | mk heap tape drawn os output =>
    congr 1
    apply Array.ext_getElem?
    intro k
    rw [Array.getElem?_modify]
    split
    · rename_i hk;subst hk
      simp only at hg
      rw [hg];rfl
    · rfl
theorem qgu (g:Nat) (t:TypeId):∀(vs:List Value) (i:Nat) (cur:Array Value) (w:World),w.heap[g]? = some (.cells cur t (0,0))→i+vs.length≤cur.size→(∀v∈vs,v.oneCell'=true) →
    (storeCells ⟨g,0,none⟩ vs i).run P w=.ok () (w.setRow g (putV cur i vs))
  | [],i,cur,w,hg,_,_=>by
    rw [putV,setRow_id hg];rfl
  | v::rest,i,cur,w,hg,hl,h1=>by
    have hi:i<cur.size:=by simp at hl;omega
    have hadd:(⟨g,0,none⟩:Addr).add i=⟨g,i,none⟩:=by unfold Addr.add;split<;>simp_all
    have hcell:w.cell? ⟨g,i,none⟩=some cur[i]:=by simp [World.cell?,hg,hi]
    have hfro:w.frozen? ⟨g,i,none⟩=false:=by simp [World.frozen?,hg]
    have hst:(store ((⟨g,0,none⟩:Addr).add i) v).run P w=.ok () (w.setRow g (cur.setIfInBounds i v)):=by
      rw [hadd,run_store P w _ v _ (h1 v (by simp)),hcell]
      simp [hfro,setCell_eq_setRow w g i cur t (0,0) v hg]
    have ih:=qgu g t rest (i+1) (cur.setIfInBounds i v) (w.setRow g (cur.setIfInBounds i v)) (setRow_heap w g cur _ t _ hg) (by simp at hl ⊢;omega) (fun x hx=>h1 x (by simp [hx]))
    simp only [storeCells,Sem.run_bind,hst,Result.andThen_ok,ih,setRow_setRow]
    rfl
theorem qbm (g off:Nat):∀(vs:List Value) (i:Nat),storeCells ⟨g,off,none⟩ vs i=storeCells ⟨g,0,none⟩ vs (off+i)
  | [],_=>rfl
  | v::r,i=>by
    rw [storeCells,storeCells,qbm g off r (i+1),Addr.add_mid,Addr.add_mid,Nat.zero_add,Nat.add_assoc]
def qah (row:List A) (off:Nat) (xs:List A):List A:=row.take off++xs++row.drop (off+xs.length)
theorem Step.set {V:Vw} (hok:Ok V) {i b off:Nat} {row xs:List A} {cs:Array Value} {T:TypeId} {vs:List Value} (hs:V.st[i]? = some (.cell row)) (hb:V.bl[i]? = some b) (hh:V.w.heap[b]? = some (.cells cs T (0,0))) (hsz:cs.size=row.length)
    (hr:∀(j:Nat) (y:A),row[j]? = some y→RepA V y (cs.getD j Go.undef)) (hl:vs.length=xs.length) (hx:∀(j:Nat) (y:A),xs[j]? = some y→RepA V y (vs.getD j Go.undef)) (hle:off+xs.length≤row.length) :
    Step V ⟨V.w.setRow b (putV cs off vs),V.x,V.bl,V.st.set i (.cell (qah row off xs))⟩:=by
  have hil:i<V.st.length:=(List.getElem?_eq_some_iff.1 hs).1
  have hold:∀k,k≠b→(V.w.setRow b (putV cs off vs)).heap[k]? = V.w.heap[k]?:=fun k hk=>setRow_other V.w b k _ hk
  have hmb:V.mine b:=⟨i,_,hb,hs,rfl⟩
  have hst:∀j,(V.st.set i (.cell (qah row off xs)))[j]? = if i=j then some (.cell (qah row off xs)) else V.st[j]?:=fun j=>by
    rw [List.getElem?_set]
    split
    · rename_i h;subst h;simp [hil]
    · rfl
  have hlive:∀j (y:Bx),(V.st.set i (.cell (qah row off xs)))[j]? = some y→y.live=true→∃y':Bx,V.st[j]? = some y'∧y'.live=true:=fun j y h1 h2=>by
    rw [hst] at h1
    split at h1
    · rename_i h;subst h;exact⟨_,hs,rfl⟩
    · exact⟨y,h1,h2⟩
  have hle':V.Le ⟨V.w.setRow b (putV cs off vs),V.x,V.bl,V.st.set i (.cell (qah row off xs))⟩:=by
    refine⟨by simp,by simp,fun k hk hm=>⟨fun _=>hold k fun h=>hm (h▸.inr hmb),fun h=>hm ?_⟩,fun j r hj h=>?_,fun j ver n rows hj h=>?_,fun j kk wd es hj h=>?_⟩
    · rcases h with h|⟨j,y,h1,h2,h3⟩
      · exact .inl h
      · obtain⟨y',h4,h5⟩:=hlive j y h2 h3
        exact .inr ⟨j,y',h1,h4,h5⟩
    · have h:(V.st.set i (.cell (qah row off xs)))[j]? = some (.cell r):=h
      rw [hst] at h
      split at h
      · rename_i h';subst h';exact⟨⟨row,hs⟩,rfl⟩
      · exact⟨⟨r,h⟩,rfl⟩
    · have h7:(V.st.set i (.cell (qah row off xs)))[j]? = some (.arr ver n rows):=h
      rw [hst] at h7
      clear h
      split at h7
      · cases h7
      · rename_i hne
        refine⟨ver,n,rows,h7,.inr ⟨rfl,rfl,rfl,rfl,fun k cs _ hk hc=>⟨cs,(hold k fun hkb=>?_).trans hc,rfl⟩⟩⟩
        subst hkb
        exact hne (hok.inj i j k _ _ hb hk hs h7 rfl rfl)
    · have h7:(V.st.set i (.cell (qah row off xs)))[j]? = some (.map kk wd es):=h
      rw [hst] at h7
      split at h7
      · cases h7
      · exact⟨⟨kk,wd,es,h7⟩,rfl⟩
  refine⟨hle',⟨by simp [hok.len],fun j k h=>by have:=hok.lt j k h;simpa using this,fun k h=>by have:=hok.xlt k h;simpa using this,fun w' hs' hb'=>hok.gd w' (by have h9:(V.w.setRow b (putV cs off vs)).heap.size≤w'.heap.size:=hs';simpa using h9) (fun k hlt hn hnx hc=>(hb' k (by show k<(V.w.setRow b (putV cs off vs)).heap.size;simpa using hlt) hn hnx (by obtain⟨o,h1,h2⟩:=hc;exact⟨o,(hold k fun h=>hn (h▸lm4 hb)).trans h1,h2⟩)).trans (hold k fun h=>hn (h▸lm4 hb))),fun j k h=>?_,fun j k c y z h1 h2 h3 h4 h5 h6=>?_,fun j r k h1 h2=>?_,fun j ver n rows k h1 h2=>?_,fun j kk wd es k h1 h2=>?_⟩,?_,fun k hk=>.inl hk⟩
  · by_cases hkb:k=b
    · subst hkb;exact⟨_,setRow_heap V.w k cs _ T _ hh,rfl⟩
    · obtain⟨o,q1,q2⟩:=hok.isc j k h
      exact⟨o,(hold k hkb).trans q1,q2⟩
  · obtain⟨y',k1,k2⟩:=hlive j y h3 h5
    obtain⟨z',k3,k4⟩:=hlive k z h4 h6
    exact hok.inj j k c y' z' h1 h2 k1 k3 k2 k4
  · simp only at h1 h2 ⊢
    rw [hst] at h1
    split at h1
    · rename_i h';subst h'
      injection h1 with h1;injection h1 with h1;subst h1
      rw [hb] at h2;injection h2 with h2;subst h2
      refine⟨_,T,setRow_heap V.w b cs _ T _ hh,?_,fun j y hj=>?_⟩
      · rw [qbx,hsz];simp [qah];omega
      · rw [qcx vs cs off j (by omega),hl]
        have hp:(qah row off xs)[j]? = if off≤j∧j<off+xs.length then xs[j-off]? else row[j]?:=by
          unfold qah
          rw [List.getElem?_append,List.getElem?_append]
          simp only [List.length_append,List.length_take]
          by_cases h1:j<off
          · rw [if_pos (by omega),if_pos (by omega),if_neg (by omega),List.getElem?_take_of_lt h1]
          · by_cases h2:j<off+xs.length
            · rw [if_pos (by omega),if_neg (by omega),if_pos (by omega),show min off row.length=off by omega]
            · rw [if_neg (by omega),if_neg (by omega),List.getElem?_drop];congr 1;omega
        rw [hp] at hj
        split at hj
        · rename_i hc;rw [if_pos hc];exact (hx _ y hj).mono hle'
        · rename_i hc;rw [if_neg hc];exact (hr j y hj).mono hle'
    · rename_i hne
      obtain⟨cs',T',k1,k2,k3⟩:=hok.cell j r k h1 h2
      refine⟨cs',T',(hold k fun hkb=>?_).trans k1,k2,fun j y hj=>(k3 j y hj).mono hle'⟩
      subst hkb
      exact hne (hok.inj i j k _ _ hb h2 hs h1 rfl rfl)
  · simp only at h1 h2 ⊢
    rw [hst] at h1
    split at h1
    · cases h1
    · rename_i hne
      obtain⟨cs',T',c,k1,k2,k3,k4,k5,k6⟩:=hok.arr j ver n rows k h1 h2
      refine⟨cs',T',c,(hold k fun hkb=>?_).trans k1,k2,k3,k4,k5,fun k r j y hk hj=>(k6 k r j y hk hj).mono hle'.size hle'.blk⟩
      subst hkb
      exact hne (hok.inj i j k _ _ hb h2 hs h1 rfl rfl)
  · simp only at h1 h2 ⊢
    rw [hst] at h1
    split at h1
    · cases h1
    · rename_i hne
      obtain⟨ms,k1,k2,k3⟩:=hok.map j kk wd es k h1 h2
      refine⟨ms,(hold k fun hkb=>?_).trans k1,k2,fun q y row hj=>by obtain⟨q1,v,q2,q3⟩:=k3 q y row hj;exact⟨q1,v,q2,q3.mono hle'⟩⟩
      subst hkb
      exact hne (hok.inj i j k _ _ hb h2 hs h1 rfl rfl)
  · exact⟨rfl,rfl,rfl,by simp,fun k _ hn=>hold k fun h=>hn (h▸lm4 hb)⟩
theorem OpG.store {T:TypeId} {x y:Operand} {i off:Nat} {row xs:List A} (ho:o.op=.store T x y) (hx:evO e x=.a (.ptr i off)) (hs:st[i]? = some (.cell row)) (hy:qba (evO e y)=some xs) (hT:(P.info? T).map (·.size)=some xs.length) (hle:off+xs.length≤row.length) :
    OpG P st e o .undef (st.set i (.cell (qah row off xs))):=by
  intro ρ V hst hok hu
  rw [ho] at hu
  have h:=hu x (by simp [qad,Op.operands])
  have h':=hu y (by simp [qad,Op.operands])
  rw [hx] at h
  obtain⟨k1,k2,k3⟩:=qch h' hy
  simp only [execOp,ho]
  generalize ρ x=u at *
  subst hst
  cases h with
  | a _ _ h=>cases h with
    | c _ _ h=>cases h
    | ptr _ _ b hi hb =>
      obtain⟨cs,T',h1,h2,h3⟩:=hok.cell i row b hs (hb row hs)
      have hinf:∃inf,P.info? T=some inf∧inf.size=xs.length:=by
        cases hq:P.info? T with
        | none=>simp [hq] at hT
        | some inf=>exact⟨inf,rfl,by simpa [hq] using hT⟩
      obtain⟨inf,hq,hqs⟩:=hinf
      have hrun:(Instr.storeAt T (.pointer (some ⟨b,off,none⟩)) (ρ y)).run P V.w=.ok () (V.w.setRow b (putV cs off (ρ y).cells.toList)):=by
        simp only [Instr.storeAt,Instr.sureAddr,storeVar,sizeOf,typeInfo,Sem.run_bind,Sem.run_pure,Result.andThen_ok,run_program,hq,k1,hqs,ne_eq,not_true_eq_false,if_false]
        rw [qbm,Nat.add_zero]
        exact qgu b T' _ off cs V.w h1 (by simp [k1];omega) k3
      simp only [Sem.run_bind,hrun,Result.andThen_ok,Sem.run_pure]
      exact⟨rfl,V.bl,.set hok hs (hb row hs) h1 h2 h3 (by simpa using k1) (fun j y' hj=>by have:=k2 j y' hj;rw [Array.getD_eq_getD_getElem?,←Array.getElem?_toList,←List.getD_eq_getElem?_getD] at this;exact this) hle⟩
end
theorem qe2 {done:Nat→Bool} {i k:Nat} (h:i≠k):upB done k i=done i:=by
  unfold upB;rw [show (i==k)=false by simpa using h,Bool.or_false]
def dep (ops:Array Oper) (k i:Nat):Bool :=
  match ops[k]? with
  | some o=>o.after.toList.any fun e=>Region.binds .any e&&e.on==i
  | none=>false
def qit (acc:List Nat):List Edge→Nat
  | []=>0
  | e::r=>if Region.binds .any e then 2 ^ e.on ||| (acc.getD e.on 0 ||| qit acc r) else qit acc r
def qdg:List Oper→List Nat→List Nat
  | [],acc=>acc
  | o::r,acc=>qdg r (acc++[qit acc o.after.toList])
theorem qev {acc:List Nat} {i:Nat}:∀{l:List Edge},(qit acc l).testBit i=true→∃e∈l,Region.binds .any e=true∧(e.on=i∨(acc.getD e.on 0).testBit i=true)
  | [],h=>by simp [qit] at h
  | e::r,h=>by
    unfold qit at h
    split at h
    · rename_i hb
      rw [Nat.testBit_or,Nat.testBit_or,Bool.or_eq_true,Bool.or_eq_true] at h
      rcases h with h|h|h
      · rw [Nat.testBit_two_pow,decide_eq_true_iff] at h
        exact⟨e,by simp,hb,.inl h⟩
      · exact⟨e,by simp,hb,.inr h⟩
      · obtain⟨e',h1,h2⟩:=qev h
        exact⟨e',by simp [h1],h2⟩
    · obtain⟨e',h1,h2⟩:=qev h
      exact⟨e',by simp [h1],h2⟩
def Cl (ops:Array Oper) (done:Nat→Bool):Prop:=∀k i,done k=true→dep ops k i=true→done i=true
theorem qdf {ops:Array Oper} {done:Nat→Bool} (hc:Cl ops done):∀(l:List Oper) (acc:List Nat) ,(∀j,l[j]? = ops[acc.length+j]?) →
    (∀k,k<acc.length→(∀i,dep ops k i=true→done i=true)→∀i,(acc.getD k 0).testBit i=true→done i=true) →
    ∀k,(∀i,dep ops k i=true→done i=true)→∀i,((qdg l acc).getD k 0).testBit i=true→done i=true
  | [],acc,_,h,k,hk,i,hi=>by
    by_cases hlt:k<acc.length
    · exact h k hlt hk i hi
    · rw [qdg,List.getD_eq_getElem?_getD,List.getElem?_eq_none (by omega)] at hi;simp at hi
  | o::r,acc,hl,h,k,hk,i,hi=>by
    rw [qdg] at hi
    refine qdf hc r _ (fun j=>?_) (fun k' hk' hd i' hi'=>?_) k hk i hi
    · have:=hl (j+1)
      rw [List.length_append,List.length_singleton]
      simpa [Nat.add_assoc,Nat.add_comm 1 j] using this
    · rw [List.length_append,List.length_singleton] at hk'
      by_cases hlt:k'<acc.length
      · rw [List.getD_eq_getElem?_getD,List.getElem?_append_left hlt,←List.getD_eq_getElem?_getD] at hi'
        exact h k' hlt hd i' hi'
      · have:k'=acc.length:=by omega
        subst this
        have ho:ops[acc.length]? = some o:=by simpa using (hl 0).symm
        rw [List.getD_eq_getElem?_getD,List.getElem?_append_right (Nat.le_refl _),Nat.sub_self] at hi'
        obtain⟨e,h1,h2,h3⟩:=qev hi'
        have hdep:dep ops acc.length e.on=true:=by
          simp only [dep,ho,List.any_eq_true]
          exact⟨e,h1,by simp [h2]⟩
        have hdn:=hd e.on hdep
        rcases h3 with h3|h3
        · rw [←h3];exact hdn
        · by_cases hlt2:e.on<acc.length
          · exact h e.on hlt2 (fun i hi=>hc e.on i hdn hi) i' h3
          · rw [List.getD_eq_getElem?_getD,List.getElem?_eq_none (by omega)] at h3;simp at h3
def qhk (ops:Array Oper) (n m:Nat):Bool :=
  qfl ops n&&(let bs:=qdg ops.toList [];(List.range ops.size).all fun k=>match ops[k]? with
    | none=>true
    | some o=>(o.after.toList.all fun e=>!Region.binds .any e||decide (e.on<k)) &&
      (if k<m then
        (o.op.operands.toList.all fun x=>match x with
          | .tmp t=>(match wrt ops t with|some i=>(if i<k then dep ops k i else if k<i then dep ops i k else true)|none=>true)
          | _=>true)&&(match o.guard with|some (j,_)=>dep ops k j|none=>true)
      else (List.range k).all fun i=>(bs.getD k 0).testBit i))
structure DrawOk (ops:Array Oper) (n m:Nat):Prop where
  seq:SeqOk ops n
  acyc:∀k i,dep ops k i=true→i<k
  opd:∀(k:Nat) (o:Oper) (t i:Nat),k<m→ops[k]? = some o→.tmp t∈o.op.operands→wrt ops t=some i→(i<k→dep ops k i=true)∧(k<i→dep ops i k=true)
  grd:∀(k:Nat) (o:Oper) (j:Nat) (b:Bool),k<m→ops[k]? = some o→o.guard=some (j,b)→dep ops k j=true
  tail:∀(done:Nat→Bool) (k:Nat),Cl ops done→m≤k→k<ops.size→(∀i,dep ops k i=true→done i=true)→∀i,i<k→done i=true
theorem qk8 {ops:Array Oper} {n m:Nat} (h:qhk ops n m=true):DrawOk ops n m:=by
  unfold qhk at h
  rw [Bool.and_eq_true] at h
  obtain⟨h1,h2⟩:=h
  have key:∀k o,ops[k]? = some o→_:=fun k o ho=>by
    have hlt:=(Array.getElem?_eq_some_iff.1 ho).1
    have:=(List.all_eq_true.1 h2) k (by simpa using hlt)
    simp only [ho,Bool.and_eq_true] at this
    exact this
  refine⟨qc8 h1,fun k i hd=>?_,fun k o t i hk ho hx hw=>?_,fun k o j b hk ho hg=>?_,fun done k hc hk hlt hd i hi=>?_⟩
  · unfold dep at hd
    split at hd
    · rename_i o ho
      rw [List.any_eq_true] at hd
      obtain⟨e,he,hb⟩:=hd
      rw [Bool.and_eq_true,beq_iff_eq] at hb
      have:=List.all_eq_true.1 (key k o ho).1 e he
      simp only [hb.1,Bool.not_true,Bool.false_or,decide_eq_true_iff] at this
      omega
    · cases hd
  · have:=(key k o ho).2
    rw [if_pos hk,Bool.and_eq_true] at this
    have:=List.all_eq_true.1 this.1 (.tmp t) (by simpa using hx)
    simp only [hw] at this
    refine⟨fun hlt=>?_,fun hlt=>?_⟩
    · rwa [if_pos hlt] at this
    · rwa [if_neg (by omega),if_pos hlt] at this
  · have:=(key k o ho).2
    rw [if_pos hk,Bool.and_eq_true] at this
    have:=this.2
    simpa only [hg] using this
  · have ho:=Array.getElem?_eq_getElem hlt
    have:=(key k _ ho).2
    rw [if_neg (by omega)] at this
    have:=List.all_eq_true.1 this i (by simpa using hi)
    exact qdf hc ops.toList [] (fun j=>by simp) (fun k h=>by simp at h) k hd i this
def RQ (P:Program) (ops:Array Oper) (st:List Bx):List Oper→(Nat→D)→((Nat→D)→Prop)→Prop
  | [],e,K=>K e
  | o::r,e,K=>∃d,qa8 ops e o (OpJ P st e o d)∧RQ P ops st r (putE e o.dst d) K
def eat:List Oper→List D→(Nat→D)→Nat→Nat→D
  | o::l,d::ds,e,k+1=>eat l ds (putE e o.dst d) k
  | _,_,e,_=>e
theorem RQ.data {P:Program} {ops:Array Oper} {st:List Bx} {K:(Nat→D)→Prop}:∀{l:List Oper} {e:Nat→D},RQ P ops st l e K →
    ∃ds:List D,ds.length=l.length∧(∀(k:Nat) (o:Oper),l[k]? = some o→qa8 ops (eat l ds e k) o (OpJ P st (eat l ds e k) o (ds.getD k .junk)))∧K (eat l ds e l.length)
  | [],e,h=>⟨[],rfl,fun k o h=>by simp at h,h⟩
  | o::l,e,h=>by
    obtain⟨d,h1,h2⟩:=h
    obtain⟨ds,h3,h4,h5⟩:=RQ.data h2
    refine⟨d::ds,by simp [h3],fun k o' ho=>?_,h5⟩
    cases k with
    | zero =>
      simp only [List.getElem?_cons_zero,Option.some.injEq] at ho
      subst ho;exact h1
    | succ k=>exact h4 k o' (by simpa using ho)
theorem qdc:∀(l:List Oper) (ds:List D) (e:Nat→D) (k t:Nat),(∀(i:Nat) (o:Oper),i<k→l[i]? = some o→o.dst≠some t)→eat l ds e k t=e t
  | [],_,_,_,_,_=>by simp [eat]
  | _::_,[],_,_,_,_=>by simp [eat]
  | _::_,_::_,_,0,_,_=>by simp [eat]
  | o::l,d::ds,e,k+1,t,h=>by
    rw [eat,qdc l ds _ k t fun i o' hi ho=>h (i+1) o' (by omega) (by simpa using ho)]
    have:=h 0 o (by omega) rfl
    cases hd:o.dst with
    | none=>rfl
    | some t'=>simp only [putE,upd];rw [if_neg];intro he;exact this (by rw [hd,he])
theorem eat_at:∀(l:List Oper) (ds:List D) (e:Nat→D) (k t i:Nat) (o:Oper),ds.length=l.length→i<k→l[i]? = some o→o.dst=some t→(∀(j:Nat) (o':Oper),l[j]? = some o'→o'.dst=some t→j=i)→eat l ds e k t=ds.getD i .junk
  | [],_,_,_,_,_,_,_,_,h,_,_=>by simp at h
  | _::_,[],_,_,_,_,_,hl,_,_,_,_=>by simp at hl
  | _::_,_::_,_,0,_,_,_,_,h,_,_,_=>by omega
  | o::l,d::ds,e,k+1,t,i,o',hl,hi,ho,hd,hu=>by
    rw [eat]
    cases i with
    | zero =>
      simp only [List.getElem?_cons_zero,Option.some.injEq] at ho
      subst ho
      rw [qdc l ds _ k t fun j o' hj ho' hd'=>by have:=hu (j+1) o' (by simpa using ho') hd';omega]
      simp [putE,hd,upd]
    | succ i =>
      rw [eat_at l ds _ k t i o' (by simpa using hl) (by omega) (by simpa using ho) hd fun j o'' hj hd'=>by have:=hu (j+1) o'' (by simpa using hj) hd';omega]
      simp
def eD (ops:Array Oper) (ds:List D) (e:Nat→D) (done:Nat→Bool) (t:Nat):D :=
  match wrt ops t with
  | some i=>if done i then ds.getD i .junk else e t
  | none=>e t
theorem OpJ.congr {P:Program} {st:List Bx} {e e':Nat→D} {o:Oper} {d:D} (h:OpJ P st e o d) (he:∀t,.tmp t∈o.op.operands→e t=e' t):OpJ P st e' o d:=by
  intro ρ V hst hok hu
  refine h ρ V hst hok fun x hx=>?_
  have hmem:x∈o.op.operands:=by
    cases hop:o.op with
    | pick c p q =>
      rw [hop] at hx
      simp only [qad] at hx
      split at hx<;>simp only [List.mem_cons,List.not_mem_nil,or_false] at hx<;>simp only [Op.operands,List.mem_toArray,List.mem_cons,List.not_mem_nil,or_false]
      · rcases hx with h|h<;>simp [h]
      · rcases hx with h|h<;>simp [h]
      · simp [hx]
    | _=>rw [hop] at hx;simp only [qad] at hx;simpa using hx
  have:=hu x hx
  cases x with
  | tmp t=>show RepD V (e t) _;rw [he t hmem];exact this
  | _=>exact this
theorem qa8.congr {ops:Array Oper} {e e':Nat→D} {o:Oper} {p p':Prop} (h:qa8 ops e o p) (hp:p→p') (he:∀j b t,o.guard=some (j,b)→qbr ops j=some t→e t=e' t):qa8 ops e' o p':=by
  unfold qa8 at *
  cases hg:o.guard with
  | none=>rw [hg] at h;exact hp h
  | some jb =>
    obtain⟨j,b⟩:=jb
    rw [hg] at h
    simp only at h ⊢
    have:(qbr ops j).map e'=(qbr ops j).map e:=by
      cases hs:qbr ops j with
      | none=>rfl
      | some t=>simp only [Option.map_some];rw [he j b t hg hs]
    rw [this]
    split
    · rename_i x hx
      rw [hx] at h
      exact fun hb=>hp (h hb)
    · trivial
    · rename_i hx0 hx
      split at h
      · rename_i x hx';exact absurd hx' (hx0 x)
      · rename_i hx';exact absurd hx' hx
      · exact hp h
section
variable {P:Program} {ops:Array Oper} {n m:Nat} {x:Nat→Prop} {Q:Exit→Act→World→Prop}
theorem qbn {listed:Array Bool} {k:Nat} (h:k∈Region.ready .any ops listed):listed.getD k true=false∧k<ops.size∧∀i,dep ops k i=true→listed.getD i false=true:=by
  obtain⟨h1,o,h2,h3⟩:=mem_ready.1 h
  refine⟨h1,(Array.getElem?_eq_some_iff.1 h2).1,fun i hd=>?_⟩
  simp only [dep,h2,List.any_eq_true] at hd
  obtain⟨e,he,hb⟩:=hd
  rw [Bool.and_eq_true,beq_iff_eq] at hb
  rw [←hb.2]
  exact h3 e (by simpa using he) hb.1
theorem qe8 {listed:Array Bool} {k:Nat} (hl:listed.getD k true=false) (hk:k<ops.size) (h:∀i,dep ops k i=true→listed.getD i false=true):k∈Region.ready .any ops listed:=by
  refine mem_ready.2 ⟨hl,ops[k],Array.getElem?_eq_getElem hk,fun e he hb=>h e.on ?_⟩
  simp only [dep,Array.getElem?_eq_getElem hk,List.any_eq_true]
  exact⟨e,by simpa using he,by simp [hb]⟩
theorem qa2 {listed:Array Bool} {k:Nat} (hk:k<listed.size):listed.getD k true=listed.getD k false:=by
  simp [hk]
theorem qe7 {listed:Array Bool} {k:Nat} (hk:k<listed.size):(fun i=>(listed.setIfInBounds k true).getD i false)=upB (fun i=>listed.getD i false) k:=by
  funext i
  unfold upB
  by_cases h:i=k
  · subst h;simp [hk]
  · rw [getD_set_ne false (Ne.symm h)];simp [h]
theorem drawB {C:Cx P} {Nx:Nat→Prop} (hD:DrawOk ops n m) {K:(Nat→D)→List Bx→Prop}:∀(l:List Oper) (k fuel:Nat) (listed:Array Bool) (V:Vw) (a:Act) (e:Nat→D),(∀j,l[j]? = ops[k+j]?)→k+l.length=ops.size→listed.size=ops.size→(∀i,i<ops.size→listed.getD i false=decide (i<k))→m≤k→l.length≤fuel →
    RM ops (fun i=>decide (i<k)) V a.tmps n e→Ok V→(∀b,b∈V.bl→¬V.x b)→NxOk Nx V→EnvE C.E C.on Nx (e 1000000) V→RS C ops l e V.st K →
    (∀a' w' x' bl' st' e',qbj C.on Nx V ⟨w',x',bl',st'⟩→RM ops (fun i=>decide (i<ops.size)) ⟨w',x',bl',st'⟩ a'.tmps n e'→EnvE C.E C.on Nx (e' 1000000) ⟨w',x',bl',st'⟩→a'.defers=a.defers→K e' st'→Q .normal a' w')→wpAnyIn (FR C.ro) 0 P .any ops Q fuel listed a V.w
  | [],k,fuel,listed,V,a,e,_,hk,hls,hdone,_,_,hm,hok,_,_,hE,h,hK=>by
    have hks:k=ops.size:=by simpa using hk
    refine wpAnyIn_done ?_ (hK a V.w V.x V.bl V.st e (.refl hok) (by rw [←hks];exact hm) hE rfl h) fuel
    cases hr:Region.ready .any ops listed with
    | nil=>rfl
    | cons i r =>
      obtain⟨h1,h2,_⟩:=qbn (ops:=ops) (listed:=listed) (k:=i) (by rw [hr];simp)
      rw [qa2 (by omega),hdone i h2] at h1
      simp at h1;omega
  | o::l,k,0,_,_,_,_,_,_,_,_,_,hf,_,_,_,_,_,_,_=>by simp at hf
  | o::l,k,fuel+1,listed,V,a,e,hl,hk,hls,hdone,hmk,hf,hm,hok,hsep,hnx,hE,h,hK=>by
    have ho:ops[k]? = some o:=by simpa using (hl 0).symm
    have hlt:k<ops.size:=(Array.getElem?_eq_some_iff.1 ho).1
    have hkr:k∈Region.ready .any ops listed:=qe8 (by rw [qa2 (by omega),hdone k hlt];simp) hlt fun i hd=>by have:=hD.acyc k i hd;rw [hdone i (by omega)];simp [this]
    refine⟨fun h0=>(by rw [h0] at hkr;cases hkr),fun i hi=>?_⟩
    obtain⟨h1,h2,h3⟩:=qbn hi
    rw [qa2 (by omega),hdone i h2] at h1
    have hik:i=k:=by
      by_cases hlt2:k<i
      · have hcl:Cl ops (fun i=>listed.getD i false):=fun a b ha hab=>by
          have:=hD.acyc a b hab
          have hla:a<ops.size:=by
            rcases Nat.lt_or_ge a listed.size with h|h
            · omega
            · simp [h] at ha
          have ha:listed.getD a false=true:=ha
          rw [hdone a hla] at ha
          show listed.getD b false=true
          rw [hdone b (by omega)]
          simp at ha ⊢;omega
        have:=hD.tail _ i hcl (by omega) h2 h3 k hlt2
        rw [hdone k hlt] at this;simp at this
      · simp at h1;omega
    subst hik
    have hcl:∀(a j:Nat) (b:Bool),decide (a<i)=true→gd ops a=some (j,b)→decide (j<i)=true:=fun a j b ha hg=>by
      obtain⟨oi,g1,g2⟩:=ql3 hg
      have:=hD.seq.glt a oi j b g1 g2
      simp only [decide_eq_true_iff] at ha ⊢
      omega
    have hnext:∀j,j<ops.size→(listed.setIfInBounds i true).getD j false=decide (j<i+1):=fun j hj=>by
      have h9:(listed.setIfInBounds i true).getD j false=upB (fun i=>listed.getD i false) i j:=congrFun (qe7 (listed:=listed) (k:=i) (by omega)) j
      rw [h9]
      show (listed.getD j false||j==i)=decide (j<i+1)
      rw [hdone j hj,Bool.eq_iff_iff,Bool.or_eq_true,decide_eq_true_iff,decide_eq_true_iff,beq_iff_eq]
      omega
    rcases h with ⟨d,st',hs,hr⟩|⟨hgu,O,hs,hr⟩
    · refine qen hD.seq.one ho hm hok (by simp) hcl (fun j b hg=>by have:=hD.seq.glt i o j b ho hg;simpa using this) (hD.seq.use i o ho) (fun t i _ _=>by simp) (fun t ht=>hD.seq.tmp i o t ho ht) (fun j b t hg ht=>hD.seq.gs i o j b t ho hg ht) (hD.seq.nd i o ho) hs ?_
      intro a' w' bl' hstep hm' hdef
      rw [qmo] at hm'
      have hX:=hstep.toX (on:=C.on) (Nx:=Nx) hok
      refine drawB hD l (i+1) fuel _ ⟨w',V.x,bl',st'⟩ a' _ (fun j=>by have:=hl (j+1);simpa [Nat.add_assoc,Nat.add_comm 1 j] using this) (by simp at hk;omega) (by simpa using hls) hnext (by omega) (by simpa using hf) hm' hstep.ok (hX.sep hsep) (hnx.step hX) (by rw [qfo (hD.seq.ng i o ho)];exact hE.step hstep hok hsep fun _ h=>h) hr ?_
      intro a'' w'' x'' bl'' st'' e'' hs2 hm2 hE2 hd2 hk2
      exact hK a'' w'' x'' bl'' st'' e'' (hX.trans hs2) hm2 hE2 (hd2.trans hdef) hk2
    · refine qe6 hD.seq.one ho hm hok hsep hnx hE (by simp) hcl hgu (fun j b hg=>by have:=hD.seq.glt i o j b ho hg;simpa using this) (fun i oi j b t hi hg ht=>hD.seq.gs i oi j b t hi hg ht) (hD.seq.use i o ho) (fun t i _ _=>by simp) (fun t ht=>hD.seq.tmp i o t ho ht) (hD.seq.nd i o ho) hs ?_
      intro a' w' d st' g x' bl' hO hX hm' hEg hdef
      rw [qmo] at hm'
      refine drawB hD l (i+1) fuel _ ⟨w',x',bl',st'⟩ a' _ (fun j=>by have:=hl (j+1);simpa [Nat.add_assoc,Nat.add_comm 1 j] using this) (by simp at hk;omega) (by simpa using hls) hnext (by omega) (by simpa using hf) (hm'.ghost hD.seq.nle g) hX.ok (hX.sep hsep) (hnx.step hX) (by simpa [upd] using hEg) (hr d st' g hO) ?_
      intro a'' w'' x'' bl'' st'' e'' hs2 hm2 hE2 hd2 hk2
      exact hK a'' w'' x'' bl'' st'' e'' (hX.trans hs2) hm2 hE2 (hd2.trans hdef) hk2
theorem qdh {l:List Oper} {ds:List D} {e:Nat→D} (h1:OneW ops) (hl:∀(j:Nat),j<l.length→l[j]? = ops[j]?) (hds:ds.length=l.length) {done:Nat→Bool} {k:Nat} (hk:k≤l.length) {t:Nat} (ht:∀i,wrt ops t=some i→(done i=true↔i<k)):eD ops ds e done t=eat l ds e k t:=by
  have none_of:(∀i,i<k→wrt ops t≠some i)→eat l ds e k t=e t:=fun h=>qdc l ds e k t fun i o hi ho hd=>h i hi (qdn h1 (by rw [←hl i (by omega)];exact ho) hd)
  unfold eD
  cases hw:wrt ops t with
  | none=>exact (none_of fun i _ h=>by rw [hw] at h;cases h).symm
  | some i =>
    simp only
    by_cases hik:i<k
    · rw [if_pos ((ht i hw).2 hik)]
      obtain⟨o,ho,hd⟩:=qa5 hw
      exact (eat_at l ds e k t i o hds hik (by rw [hl i (by omega)];exact ho) hd fun j o' hj hd'=>by
        have hjl:=(List.getElem?_eq_some_iff.1 hj).1
        exact h1 j i o' o t (by rw [←hl j hjl];exact hj) ho hd' hd).symm
    · rw [if_neg fun h=>hik ((ht i hw).1 h)]
      exact (none_of fun j hj h=>by rw [hw] at h;injection h with h;omega).symm
theorem drawA {C:Cx P} {Nx:Nat→Prop} (hD:DrawOk ops n m) (hms:m≤ops.size) {K:(Nat→D)→List Bx→Prop} {ds:List D} {e0:Nat→D} {st:List Bx} (hds:ds.length=m)
    (hJ:∀(k:Nat) (o:Oper),k<m→ops[k]? = some o→qa8 ops (eat (ops.toList.take m) ds e0 k) o (OpJ P st (eat (ops.toList.take m) ds e0 k) o (ds.getD k .junk))) (hR:RS C ops (ops.toList.drop m) (eat (ops.toList.take m) ds e0 m) st K) :
    ∀(fuel:Nat) (listed:Array Bool) (V:Vw) (a:Act) (un:List Nat),un.length≤fuel→(∀i,i<ops.size→listed.getD i false=false→i∈un)→listed.size=ops.size→Cl ops (fun i=>listed.getD i false)→(∀i,m≤i→listed.getD i false=false) →
    RM ops (fun i=>listed.getD i false) V a.tmps n (eD ops ds e0 fun i=>listed.getD i false)→Ok V→(∀b,b∈V.bl→¬V.x b)→NxOk Nx V→EnvE C.E C.on Nx (e0 1000000) V→V.st=st →
    (∀a' w' x' bl' st' e',qbj C.on Nx V ⟨w',x',bl',st'⟩→RM ops (fun i=>decide (i<ops.size)) ⟨w',x',bl',st'⟩ a'.tmps n e'→EnvE C.E C.on Nx (e' 1000000) ⟨w',x',bl',st'⟩→a'.defers=a.defers→K e' st'→Q .normal a' w')→wpAnyIn (FR C.ro) 0 P .any ops Q fuel listed a V.w:=by
  have hlen:(ops.toList.take m).length=m:=by simp;omega
  have hget:∀j,j<(ops.toList.take m).length→(ops.toList.take m)[j]? = ops[j]?:=fun j hj=>by rw [List.getElem?_take_of_lt (by omega),Array.getElem?_toList]
  have hge:eat (ops.toList.take m) ds e0 m 1000000=e0 1000000:=qdc _ _ _ _ _ fun i o hi ho=>hD.seq.ng i o (by rw [←hget i (by omega)];exact ho)
  intro fuel
  induction fuel with
  | zero =>
    intro listed V a un hun hin hls hcl htl hm hok hsep hnx hE hst hK
    have hun0:un=[]:=List.eq_nil_of_length_eq_zero (by omega)
    subst hun0
    have hall:∀i,i<ops.size→listed.getD i false=true:=fun i hi=>by
      cases h:listed.getD i false with
      | true=>rfl
      | false=>have:=hin i hi h;simp at this
    have hm0:m=ops.size:=by
      rcases Nat.lt_or_ge m ops.size with h|h
      · have:=hall m h;rw [htl m (Nat.le_refl _)] at this;cases this
      · omega
    subst hst
    have hE':EnvE C.E C.on Nx (eat (ops.toList.take m) ds e0 m 1000000) V:=by rw [hge];exact hE
    have hR':RS C ops [] (eat (ops.toList.take m) ds e0 m) V.st K:=by
      have:ops.toList.drop m=[]:=by rw [List.drop_eq_nil_iff];simp;omega
      rw [this] at hR;exact hR
    refine drawB hD [] m 0 listed V a (eat (ops.toList.take m) ds e0 m) (fun j=>by rw [Array.getElem?_eq_none (by omega)];simp) (by simpa using hm0) hls (fun i hi=>by rw [hall i hi];simp;omega) (Nat.le_refl _) (Nat.le_refl _) ?_ hok hsep hnx hE' hR' hK
    refine⟨hm.size,fun t ht=>?_⟩
    have hs:=hm.slot t ht
    rw [qdh hD.seq.one hget (by omega) (k:=m) (by omega) (fun i hw=>by
      obtain⟨o,ho,_⟩:=qa5 hw
      have:=(Array.getElem?_eq_some_iff.1 ho).1
      simp only [hall i this,true_iff];omega)] at hs
    have:gdD ops (fun i=>decide (i<m)) t=gdD ops (fun i=>listed.getD i false) t:=by
      unfold gdD
      cases hw:wrt ops t with
      | none=>rfl
      | some i =>
        obtain⟨o,ho,_⟩:=qa5 hw
        have hi:=(Array.getElem?_eq_some_iff.1 ho).1
        simp only [hall i hi,if_true]
        rw [if_pos (by simp;omega)]
    rw [this];exact hs
  | succ fuel ih =>
    intro listed V a un hun hin hls hcl htl hm hok hsep hnx hE hst hK
    by_cases hall:∀i,i<m→listed.getD i false=true
    · subst hst
      have hE':EnvE C.E C.on Nx (eat (ops.toList.take m) ds e0 m 1000000) V:=by rw [hge];exact hE
      have hdone:∀i,listed.getD i false=decide (i<m):=fun i=>by
        by_cases hi:i<m
        · rw [hall i hi];simp [hi]
        · rw [htl i (by omega)];simp [hi]
      have hfun:(fun i=>listed.getD i false)=fun i=>decide (i<m):=funext hdone
      refine drawB hD (ops.toList.drop m) m (fuel+1) listed V a (eat (ops.toList.take m) ds e0 m) (fun j=>by rw [List.getElem?_drop,Array.getElem?_toList]) (by simp;omega) hls (fun i _=>hdone i) (Nat.le_refl _) ?_ ?_ hok hsep hnx hE' hR hK
      · have:(List.range' m (ops.size-m)).length≤un.length:=List.Nodup.length_le_of_subset (List.nodup_range' ..) fun i hi=>by
          rw [List.mem_range'] at hi
          obtain⟨j,hj,rfl⟩:=hi
          exact hin _ (by omega) (htl _ (by omega))
        simp at this ⊢;omega
      · refine⟨hm.size,fun t ht=>?_⟩
        have hs:=hm.slot t ht
        rw [hfun] at hs
        rwa [qdh hD.seq.one hget (by omega) (k:=m) (by omega) (fun i _=>by simp)] at hs
    · have hex:∃k,k<m∧listed.getD k false=false∧∀i,i<k→listed.getD i false=true:=by
        have:∃k,k<m∧listed.getD k false=false:=by
          refine Classical.byContradiction fun h=>hall fun i hi=>?_
          cases hh:listed.getD i false with
          | true=>rfl
          | false=>exact absurd ⟨i,hi,hh⟩ h
        obtain⟨k,hk⟩:=this
        induction k using Nat.strongRecOn with
        | _ k ihk =>
          by_cases hlow:∀i,i<k→listed.getD i false=true
          · exact⟨k,hk.1,hk.2,hlow⟩
          · have:∃i,i<k∧listed.getD i false=false:=by
              refine Classical.byContradiction fun h=>hlow fun i hi=>?_
              cases hh:listed.getD i false with
              | true=>rfl
              | false=>exact absurd ⟨i,hi,hh⟩ h
            obtain⟨i,h1,h2⟩:=this
            exact ihk i h1 ⟨by omega,h2⟩
      obtain⟨k0,hk1,hk2,hk3⟩:=hex
      have hk0r:k0∈Region.ready .any ops listed:=qe8 (by rw [qa2 (by omega)];exact hk2) (by omega) fun i hd=>hk3 i (hD.acyc k0 i hd)
      refine⟨fun h0=>(by rw [h0] at hk0r;cases hk0r),fun k hk=>?_⟩
      obtain⟨h1,h2,h3⟩:=qbn hk
      have h1:listed.getD k false=false:=by rw [qa2 (by omega)] at h1;exact h1
      have hkm:k<m:=by
        rcases Nat.lt_or_ge k m with h|h
        · exact h
        · have:=hD.tail _ k hcl h h2 h3 k0 (by omega)
          rw [hk2] at this;cases this
      have ho:ops[k]? = some ops[k]:=Array.getElem?_eq_getElem h2
      have hagree:∀t,.tmp t∈ops[k].op.operands→∀i,wrt ops t=some i→(listed.getD i false=true↔i<k):=fun t ht i hw=>by
        obtain⟨g1,g2⟩:=hD.opd k _ t i hkm ho ht hw
        refine⟨fun hdi=>?_,fun hlt=>h3 i (g1 hlt)⟩
        rcases Nat.lt_trichotomy i k with h|h|h
        · exact h
        · subst h;rw [h1] at hdi;cases hdi
        · have h9:listed.getD k false=true:=hcl i k hdi (g2 h)
          rw [h1] at h9;cases h9
      have hgagree:∀j b t,ops[k].guard=some (j,b)→qbr ops j=some t→∀i,wrt ops t=some i→(listed.getD i false=true↔i<k):=fun j b t hg hs i hw=>by
        have hjk:=hD.seq.glt k _ j b ho hg
        have hij:i=j:=by
          unfold qbr at hs
          cases hoj:ops[j]? with
          | none=>simp [hoj] at hs
          | some oj =>
            simp only [hoj,Option.bind_some] at hs
            have:=qdn hD.seq.one hoj hs
            rw [hw] at this;injection this
        subst hij
        have:=h3 i (hD.grd k _ i b hkm ho hg)
        simp only [this,true_iff];exact hjk
      have hJk:=hJ k _ hkm ho
      subst hst
      have hstep:DStep P ops V.st (eD ops ds e0 fun i=>listed.getD i false) ops[k] (ds.getD k .junk) V.st :=
        .inr ⟨rfl,hJk.congr (fun hp=>hp.congr fun t ht=>(qdh hD.seq.one hget (by omega) (by omega) (hagree t ht)).symm) fun j b t hg hs=>(qdh hD.seq.one hget (by omega) (by omega) (hgagree j b t hg hs)).symm⟩
      refine qen hD.seq.one ho hm hok h1 (fun i j b hi hg=>?_) (fun j b hg=>h3 j (hD.grd k _ j b hkm ho hg)) (hD.seq.use k _ ho) (fun t i ht hw=>hagree t ht i hw) (fun t ht=>hD.seq.tmp k _ t ho ht) (fun j b t hg ht=>hD.seq.gs k _ j b t ho hg ht) (hD.seq.nd k _ ho) hstep ?_
      · obtain⟨oi,g1,g2⟩:=ql3 hg
        have hil:=(Array.getElem?_eq_some_iff.1 g1).1
        rcases Nat.lt_or_ge i m with h|h
        · exact hcl i j hi (hD.grd i oi j b h g1 g2)
        · have h9:listed.getD i false=true:=hi
          rw [htl i h] at h9;cases h9
      · intro a' w' bl' hstep' hm' hdef
        have hset:=qe7 (listed:=listed) (k:=k) (by omega)
        have hX:=hstep'.toX (on:=C.on) (Nx:=Nx) hok
        have henv:putE (eD ops ds e0 fun i=>listed.getD i false) ops[k].dst (ds.getD k .junk)=eD ops ds e0 (upB (fun i=>listed.getD i false) k):=by
          funext t
          cases hd:ops[k].dst with
          | none =>
            simp only [putE]
            unfold eD
            cases hw:wrt ops t with
            | none=>rfl
            | some i =>
              have hik:i≠k:=fun h=>by subst h;obtain⟨o',g1,g2⟩:=qa5 hw;rw [ho] at g1;injection g1 with g1;rw [←g1,hd] at g2;cases g2
              simp only [qe2 hik]
          | some t' =>
            simp only [putE,upd]
            by_cases htt:t=t'
            · subst htt
              rw [if_pos rfl]
              unfold eD
              rw [qdn hD.seq.one ho hd]
              simp [upB]
            · rw [if_neg htt]
              unfold eD
              cases hw:wrt ops t with
              | none=>rfl
              | some i =>
                have hik:i≠k:=fun h=>by subst h;obtain⟨o',g1,g2⟩:=qa5 hw;rw [ho] at g1;injection g1 with g1;rw [←g1,hd] at g2;injection g2 with g2;exact htt g2.symm
                simp only [qe2 hik]
        rw [henv,←hset] at hm'
        refine ih _ ⟨w',V.x,bl',V.st⟩ a' (un.erase k) ?_ (fun i hi hu=>?_) (by simpa using hls) ?_ (fun i hi=>?_) hm' hstep'.ok (hX.sep hsep) (hnx.step hX) (hE.step hstep' hok hsep fun _ h=>h) rfl ?_
        · have hmem:=hin k h2 h1
          rw [List.length_erase_of_mem hmem];omega
        · have h9:(listed.setIfInBounds k true).getD i false=upB (fun i=>listed.getD i false) k i:=congrFun hset i
          rw [h9] at hu
          simp only [upB,Bool.or_eq_false_iff,beq_eq_false_iff_ne] at hu
          exact (List.mem_erase_of_ne hu.2).2 (hin i hi hu.1)
        · rw [hset]
          intro i j hi hd
          simp only [upB,Bool.or_eq_true,beq_iff_eq] at hi ⊢
          rcases hi with hi|rfl
          · exact .inl (hcl i j hi hd)
          · exact .inl (h3 j hd)
        · have h9:(listed.setIfInBounds k true).getD i false=upB (fun i=>listed.getD i false) k i:=congrFun hset i
          rw [h9]
          simp only [upB,htl i hi,Bool.false_or,beq_eq_false_iff_ne];omega
        · intro a'' w'' x'' bl'' st'' e'' hs2 hm2 hE2 hd2 hk2
          exact hK a'' w'' x'' bl'' st'' e'' (hX.trans hs2) hm2 hE2 (hd2.trans hdef) hk2
end
theorem WP.draw {P:Program} {C:Cx P} {n:Nat} {Q:Exit→(Nat→D)→List Bx→Prop} {e:Nat→D} {st:List Bx} {id:Nat} {ops:Array Oper} (m:Nat) (ks:List Nat) (hd:qhk ops n m=true) (hms:m≤ops.size) (hk:ksOk ops ks=true) (hmix:P.follows .mixedOrders=true)
    (h:RQ P ops st (ops.toList.take m) e fun e'=>RS C ops (ops.toList.drop m) e' st fun e'' st''=>Q .normal (qa7 e'' ks) st''):WP C n (.region id ops true) Q e st:=by
  rintro a w x bl ⟨ms,hmk,hm,henv⟩
  have hD:=qk8 hd
  obtain⟨ds,h1,h2,h3⟩:=h.data
  have hlen:(ops.toList.take m).length=m:=by simp;omega
  rw [hlen] at h1 h3
  have hg:Grw w { w with drawn:=w.drawn+1 }:=(Grw.refl w).drew
  have hok':=hm.ok.grw (w:={ w with drawn:=w.drawn+1 }) hg
  have hle:=Vw.le_grw hm.ok (w:={ w with drawn:=w.drawn+1 }) hg
  have hX:qbj C.on (C.nxm ms) ⟨w,x,bl,st⟩ ⟨{ w with drawn:=w.drawn+1 },x,bl,st⟩:=Step.toX (V:=⟨w,x,bl,st⟩) (.grw hm.ok hg) hm.ok
  refine wpIn_region_any hmix ?_
  have hfalse:(fun i=>(Array.replicate ops.size false).getD i false)=fun _=>false:=by
    funext i
    rw [Array.getD_eq_getD_getElem?,Array.getElem?_replicate];split<;>rfl
  refine drawA (C:=C) (Nx:=C.nxm ms) hD hms h1 (fun k o hk ho=>h2 k o (by rw [List.getElem?_take_of_lt hk,Array.getElem?_toList];exact ho)) h3 ops.size (Array.replicate ops.size false) ⟨{ w with drawn:=w.drawn+1 },x,bl,st⟩ a (List.range ops.size) (by simp) (fun i hi _=>by simpa using hi) (by simp) (fun i j hi _=>by have:=congrFun hfalse i;simp only at this hi;rw [this] at hi;cases hi) (fun i _=>congrFun hfalse i) ?_ hok' hm.sep ((hmk.nx hm.nx).step hX) (henv.frm ⟨rfl,rfl,rfl,Nat.le_refl _,fun _ _ _=>rfl⟩ (fun b hb=>.inl hb) fun _ hb=>hb) rfl ?_
  · refine⟨hm.size,fun t ht=>?_⟩
    have hgd:gdD ops (fun i=>(Array.replicate ops.size false).getD i false) t=none:=by
      rw [hfalse];unfold gdD;split<;>simp
    have he:eD ops ds e (fun i=>(Array.replicate ops.size false).getD i false) t=e t:=by
      rw [hfalse];unfold eD;split<;>simp
    rw [hgd,he]
    exact (hm.slot t ht).mono hle
  · intro a' w' x' bl' st' e' hstep hm' hE hdf hK
    have hst:=hX.trans hstep
    exact⟨x',bl',_,st',⟨ms,hdf▸hmk.step hst,hm.step (fun b hb=>.inl hb) hst hm'.size fun t ht=>hm'.keep hk t ht,hE.keep ks⟩,hK⟩
section
variable (P:Program)
def ar (T:TypeId):Option (Nat×Nat) :=
  match P.underlying T with
  | some (.array len e)=>(P.info? e).map fun i=>(len,i.size)
  | _=>none
def plc (T i:Nat):Option (Nat×Nat) :=
  match P.underlying T with
  | some (.array _ e)=>(P.info? e).map fun ie=>(i*ie.size,ie.size)
  | some (.struct fields)=>(match fields.toList.mapM (fun f=>(P.info? f.type).map fun i=>(f.offset,i.size)) with
    | some places=>places[i]?
    | none=>none)
  | _=>none
def qhh (T:TypeId):List A→List (Nat×D)→Option (List A)
  | row,[]=>some row
  | row,(i,d)::r=>(match plc P T i,qba d with
    | some (off,n),some xs=>if xs.length=n∧off+n≤row.length then qhh T (qah row off xs) r else none
    | _,_=>none)
end
section
variable {P:Program} {st:List Bx} {e:Nat→D} {o:Oper}
theorem run_arr {T:TypeId} {len sz b o':Nat} {z:Int} {k:IntKind} {w:World} (ha:ar P T=some (len,sz)) (h0:0≤z) (hl:z<len):(Instr.indexAt T (.pointer (some ⟨b,o',none⟩)) (.int k z)).run P w=.ok (.pointer (some ⟨b,o'+z.toNat*sz,none⟩)) w:=by
  unfold ar at ha
  split at ha
  · rename_i len' el hel
    cases hinfo:P.info? el with
    | none=>simp [hinfo] at ha
    | some inf =>
      simp only [hinfo,Option.map_some,Option.some.injEq,Prod.mk.injEq] at ha
      obtain⟨rfl,rfl⟩:=ha
      simp [Instr.indexAt,asIntOf,Sem.run_bind,run_underlying hel,Instr.sureAddr,sizeOf,typeInfo,hinfo,h0,hl,Addr.add_mid]
  · cases ha
theorem OpJ.arr_ref {T:TypeId} {x i:Operand} {row:List A} {off len sz:Nat} {z:Int} {k:IntKind} (ho:o.op=.indexAddr T x i) (hx:evO e x=.a (.ref row off)) (hi:evO e i=.a (.v (.int k z))) (ha:ar P T=some (len,sz)) (h0:0≤z) (hl:z<len):OpJ P st e o (.a (.ref row (off+z.toNat*sz))):=by
  intro ρ V _ _ hu
  rw [ho] at hu
  have h1:=hu x (by simp [qad,Op.operands])
  have h2:=hu i (by simp [qad,Op.operands])
  rw [hx] at h1
  rw [hi] at h2
  obtain⟨h2,_⟩:=h2.v_inv
  simp only [execOp,ho,h2]
  generalize ρ x=u at *
  cases h1.c_inv rfl with
  | ref _ _ b o' val hb hm h3 h4 =>
    simp only [Sem.run_bind,run_arr ha h0 hl,Result.andThen_ok,Sem.run_pure]
    refine .val (.a _ _ ?_)
    rw [Nat.add_assoc]
    exact .c _ _ (.ref row (off+z.toNat*sz) b o' val hb hm h3 h4)
theorem OpJ.arr_ptr {T:TypeId} {x i:Operand} {j off len sz:Nat} {z:Int} {k:IntKind} (ho:o.op=.indexAddr T x i) (hx:evO e x=.a (.ptr j off)) (hi:evO e i=.a (.v (.int k z))) (ha:ar P T=some (len,sz)) (h0:0≤z) (hl:z<len):OpJ P st e o (.a (.ptr j (off+z.toNat*sz))):=by
  intro ρ V _ _ hu
  rw [ho] at hu
  have h1:=hu x (by simp [qad,Op.operands])
  have h2:=hu i (by simp [qad,Op.operands])
  rw [hx] at h1
  rw [hi] at h2
  obtain⟨h2,_⟩:=h2.v_inv
  simp only [execOp,ho,h2]
  generalize ρ x=u at *
  cases h1 with
  | a _ _ h=>cases h with
    | c _ _ h=>cases h
    | ptr _ _ b hi hb =>
      simp only [Sem.run_bind,run_arr ha h0 hl,Result.andThen_ok,Sem.run_pure]
      exact .val (.a _ _ (.ptr j (off+z.toNat*sz) b hi hb))
theorem OpJ.mx {x y:Operand} {tys:Array TypeId} {k k':IntKind} {a b:Int} (ho:o.op=.call ⟨.builtin .max,#[x,y],tys⟩) (hx:evO e x=.a (.v (.int k a))) (hy:evO e y=.a (.v (.int k' b))):OpJ P st e o (.a (.v (.int k (max a b)))):=by
  intro ρ V _ _ hu
  rw [ho] at hu
  have h1:=hu x (by simp [qad,Op.operands,Call.operands])
  have h2:=hu y (by simp [qad,Op.operands,Call.operands])
  rw [hx] at h1
  rw [hy] at h2
  obtain⟨h1,_⟩:=h1.v_inv
  obtain⟨h2,_⟩:=h2.v_inv
  have hm:(if a<b then b else a)=max a b:=by omega
  simp [execOp,ho,resolve,invoke,builtin,Builtin.max_,Builtin.max2,h1,h2,hm]
  exact .val (V:=V) (v:=.int k _) (.v rfl)
theorem OpJ.mn {x y:Operand} {tys:Array TypeId} {k k':IntKind} {a b:Int} (ho:o.op=.call ⟨.builtin .min,#[x,y],tys⟩) (hx:evO e x=.a (.v (.int k a))) (hy:evO e y=.a (.v (.int k' b))):OpJ P st e o (.a (.v (.int k (min a b)))):=by
  intro ρ V _ _ hu
  rw [ho] at hu
  have h1:=hu x (by simp [qad,Op.operands,Call.operands])
  have h2:=hu y (by simp [qad,Op.operands,Call.operands])
  rw [hx] at h1
  rw [hy] at h2
  obtain⟨h1,_⟩:=h1.v_inv
  obtain⟨h2,_⟩:=h2.v_inv
  have hm:(if b<a then b else a)=min a b:=by omega
  simp [execOp,ho,resolve,invoke,builtin,Builtin.min_,Builtin.min2,h1,h2,hm]
  exact .val (V:=V) (v:=.int k _) (.v rfl)
theorem OpJ.index_str {T:TypeId} {x i:Operand} {s:ByteArray} {z:Int} {k:IntKind} {b:UInt8} (ho:o.op=.index T x i) (hx:evO e x=.a (.v (.string s))) (hi:evO e i=.a (.v (.int k z))) (hT:qhd P T=true) (h0:0≤z) (hb:s.data.toList[z.toNat]? = some b):OpJ P st e o (.a (.v (.int .u8 b.toNat))):=by
  intro ρ V _ _ hu
  rw [ho] at hu
  have h1:=hu x (by simp [qad,Op.operands])
  have h2:=hu i (by simp [qad,Op.operands])
  rw [hx] at h1
  rw [hi] at h2
  obtain⟨h1,_⟩:=h1.v_inv
  obtain⟨h2,_⟩:=h2.v_inv
  unfold qhd at hT
  split at hT
  · rename_i hU
    have hlt:z.toNat<s.size:=by have:=(List.getElem?_eq_some_iff.1 hb).1;rw [qi7];exact this
    have hget:s[z.toNat]? = some b:=by
      rw [getElem?_pos s z.toNat hlt]
      have:=qgi s z.toNat hlt
      rw [hb] at this;exact this.symm
    have hrun:(Instr.index T (.string s) (.int k z)).run P V.w=.ok (.int .u8 b.toNat) V.w:=by
      simp [Instr.index,asIntOf,Sem.run_bind,run_underlying hU,h0,hget]
    simp only [execOp,ho,h1,h2,Sem.run_bind,hrun,Result.andThen_ok,Sem.run_pure]
    exact .val (V:=V) (v:=.int .u8 _) (.v rfl)
  · cases hT
theorem OpJ.field {T k:Nat} {x:Operand} {row:List A} {off:Nat} {l:Option Nat} {d:D} (ho:o.op=.field T x k) (hx:evO e x=.r row) (hf:fo2 P T k=some (off,l)) (hd:qae l row off=some d):OpJ P st e o d:=by
  intro ρ V _ _ hu
  rw [ho] at hu
  have h1:=hu x (by simp [qad,Op.operands])
  rw [hx] at h1
  obtain⟨vs,hv,hl,hr⟩:=h1.r_inv
  simp only [execOp,ho,hv]
  unfold fo2 at hf
  split at hf
  · rename_i fs hu
    split at hf
    · rename_i f hfk
      rw [Option.map_eq_some_iff] at hf
      obtain⟨l',hl',hf⟩:=hf
      injection hf with h3 h4;subst h3;subst h4
      unfold ldk at hl'
      split at hl'
      · rename_i dd i hud hi
        split at hl'
        · rename_i hrow
          injection hl' with hl';subst hl'
          simp only [qae] at hd
          split at hd
          · rename_i hle
            injection hd with hd;subst hd
            have hagg:(isAgg f.type).run P V.w=.ok true V.w:=by
              unfold isAgg
              rw [Sem.run_bind,run_underlying hud V.w]
              cases dd<;>simp_all
            have hrun:(Instr.field T (.agg vs.toArray) k).run P V.w=.ok (.agg ((vs.drop f.offset).take i.size).toArray) V.w:=by
              simp [Instr.field,Sem.run_bind,run_underlying hu,hfk,asAgg,part,hagg,sizeOf,typeInfo,hi,List.extract_eq_take_drop]
            simp only [Sem.run_bind,hrun,Result.andThen_ok,Sem.run_pure]
            refine .val (.r _ _ (by simp;omega) fun j y hj=>?_)
            have hjl:j<i.size:=by have:=(List.getElem?_eq_some_iff.1 hj).1;simp at this;omega
            rw [List.getElem?_take_of_lt hjl,List.getElem?_drop] at hj
            have:=hr _ y hj
            rw [List.getD_eq_getElem?_getD] at this ⊢
            rw [List.getElem?_take_of_lt hjl,List.getElem?_drop];exact this
          · cases hd
        · rename_i hrow
          injection hl' with hl';subst hl'
          simp only [qae] at hd
          cases hx:row[f.offset]? with
          | none=>simp [hx] at hd
          | some y =>
            simp only [hx,Option.map_some,Option.some.injEq] at hd
            subst hd
            have hagg:(isAgg f.type).run P V.w=.ok false V.w:=by
              unfold isAgg
              rw [Sem.run_bind,run_underlying hud V.w]
              cases dd<;>simp_all
            have hlt:f.offset<vs.length:=by have:=(List.getElem?_eq_some_iff.1 hx).1;omega
            have hrun:(Instr.field T (.agg vs.toArray) k).run P V.w=.ok (vs.getD f.offset Go.undef) V.w:=by
              simp [Instr.field,Sem.run_bind,run_underlying hu,hfk,asAgg,part,hagg,hlt]
            simp only [Sem.run_bind,hrun,Result.andThen_ok,Sem.run_pure]
            exact .val (.a _ _ (hr _ y hx))
      · cases hl'
    · cases hf
  · cases hf
theorem OpJ.makeFunc {f:FuncId} {caps:Array Operand} {xs:List A} (ho:o.op=.makeFunc (.func f) #[] caps) (hx:caps.toList.map (evO e)=xs.map D.a):OpJ P st e o (.a (.fn f xs)):=by
  intro ρ V _ _ hu
  rw [ho] at hu
  have hlen:caps.toList.length=xs.length:=by have:=congrArg List.length hx;simpa using this
  have hrun:(execOp ρ o).run P V.w=.ok (.value (.func (.func f) #[] (caps.toList.map ρ).toArray)) V.w:=by
    simp only [execOp,ho,Instr.makeFunc,Sem.run_bind,Sem.run_pure,Result.andThen_ok]
    rw [←Array.toList_map,Array.toArray_toList,Array.map_empty]
  rw [hrun]
  refine .val (.a _ _ (.fn f xs _ (by simpa using hlen) fun i y hy=>?_))
  have hi:i<caps.toList.length:=by have:=(List.getElem?_eq_some_iff.1 hy).1;omega
  have h1:(caps.toList.map (evO e))[i]? = some (.a y):=by rw [hx,List.getElem?_map,hy];rfl
  rw [List.getElem?_map,List.getElem?_eq_getElem hi] at h1
  simp only [Option.map_some,Option.some.injEq] at h1
  have:=hu caps.toList[i] (by have:=List.getElem_mem hi;simp only [qad,Op.operands];simp)
  rw [h1] at this
  rw [List.getD_eq_getElem?_getD,List.getElem?_map,List.getElem?_eq_getElem hi]
  cases this with
  | a _ _ h=>exact h
theorem qgj (off:Nat):∀(l:List Value) (k:Nat) (cs:Array Value),(l.zipIdx k).foldl (fun cs (p:Value×Nat)=>cs.setIfInBounds (off+p.2) p.1) cs=putV cs (off+k) l
  | [],_,_=>rfl
  | v::r,k,cs=>by rw [List.zipIdx_cons,List.foldl_cons,putV,qgj off r (k+1),Nat.add_assoc]
theorem qfn {row xs:List A} {off j:Nat} (hle:off+xs.length≤row.length):(qah row off xs)[j]? = if off≤j∧j<off+xs.length then xs[j-off]? else row[j]?:=by
  unfold qah
  rw [List.getElem?_append,List.getElem?_append]
  simp only [List.length_append,List.length_take]
  by_cases h1:j<off
  · rw [if_pos (by omega),if_pos (by omega),if_neg (by omega),List.getElem?_take_of_lt h1]
  · by_cases h2:j<off+xs.length
    · rw [if_pos (by omega),if_neg (by omega),if_pos (by omega),show min off row.length=off by omega]
    · rw [if_neg (by omega),if_neg (by omega),List.getElem?_drop];congr 1;omega
theorem qnf {V:Vw} {T:TypeId} {pl:Nat→Option (Nat×Nat)} (hpl:∀i q,plc P T i=some q→pl i=some q):∀(parts:List (Nat×D)) (pv:List (Nat×Value)) (cs:Array Value) (row row':List A),pv.length=parts.length→(∀(j:Nat) (q:Nat×D),parts[j]? = some q→∃v,pv[j]? = some (q.1,v)∧RepD V q.2 v) →
    cs.size=row.length→(∀(j:Nat) (y:A),row[j]? = some y→RepA V y (cs.getD j Go.undef))→qhh P T row parts=some row'→∃cs',Instr.fill pl cs pv=some cs'∧cs'.size=row'.length∧∀(j:Nat) (y:A),row'[j]? = some y→RepA V y (cs'.getD j Go.undef)
  | [],[],cs,row,row',_,_,hs,hr,h=>by injection h with h;subst h;exact⟨cs,rfl,hs,hr⟩
  | [],_::_,_,_,_,hl,_,_,_,_=>by simp at hl
  | _::_,[],_,_,_,hl,_,_,_,_=>by simp at hl
  | (i,d)::parts,p::pv,cs,row,row',hl,hp,hs,hr,h=>by
    obtain⟨v,hv,hd⟩:=hp 0 (i,d) rfl
    simp only [List.getElem?_cons_zero,Option.some.injEq] at hv
    subst hv
    unfold qhh at h
    split at h
    · rename_i off n xs h1 h2
      split at h
      · rename_i hc
        obtain⟨hc1,hc2⟩:=hc
        subst hc1
        obtain⟨k1,k2,_⟩:=qch hd h2
        have hfold:(v.cells.zipIdx.foldl (fun cs (c,j)=>cs.setIfInBounds (off+j) c) cs)=putV cs off v.cells.toList:=by
          rw [←Array.foldl_toList,Array.toList_zipIdx]
          have:=qgj off v.cells.toList 0 cs
          simpa using this
        have hstep:Instr.fill pl cs ((i,v)::pv)=Instr.fill pl (putV cs off v.cells.toList) pv:=by
          rw [Instr.fill,hpl i _ h1]
          simp only
          rw [if_neg (by simp;omega),hfold]
        rw [hstep]
        refine qnf hpl parts pv _ (qah row off xs) row' (by simpa using hl) (fun j q hq=>by simpa using hp (j+1) q (by simpa using hq)) ?_ (fun j y hj=>?_) h
        · rw [qbx,hs];simp [qah];omega
        · rw [qfn hc2] at hj
          rw [qcx _ cs off j (by simp [k1];omega)]
          simp only [Array.length_toList,k1]
          split at hj
          · rename_i hcc;rw [if_pos hcc]
            have:=k2 _ y hj
            rw [Array.getD_eq_getD_getElem?,←Array.getElem?_toList,←List.getD_eq_getElem?_getD] at this;exact this
          · rename_i hcc;rw [if_neg hcc];exact hr j y hj
      · cases h
    · cases h
theorem OpJ.buildZ {T:TypeId} {parts:Array (Nat×Operand)} {row row':List A} (ho:o.op=.build T parts) (hb:(P.built T []).isSome=true) (hz:∀V:Vw,∃i z,P.info? T=some i∧i.zero=some z∧z.cells.size=row.length∧∀(j:Nat) (y:A),row[j]? = some y→RepA V y (z.cells.getD j Go.undef)) (hf:qhh P T row (parts.toList.map fun p=>(p.1,evO e p.2))=some row'):OpJ P st e o (.r row'):=by
  intro ρ V _ _ hu
  rw [ho] at hu
  obtain⟨it,z,h1,h2,h3,h4⟩:=hz V
  have hpv:∀(j:Nat) (q:Nat×D),(parts.toList.map fun p=>(p.1,evO e p.2))[j]? = some q→∃v,(parts.toList.map fun p=>(p.1,ρ p.2))[j]? = some (q.1,v)∧RepD V q.2 v:=by
    intro j q hq
    rw [List.getElem?_map,Option.map_eq_some_iff] at hq
    obtain⟨p,hp,rfl⟩:=hq
    refine⟨ρ p.2,by rw [List.getElem?_map,hp];rfl,hu p.2 ?_⟩
    simp only [qad,Op.operands,List.mem_map]
    exact⟨p,lm4 hp,rfl⟩
  have key:∃cs',P.built T (parts.toList.map fun p=>(p.1,ρ p.2))=some cs'∧cs'.size=row'.length∧∀(j:Nat) (y:A),row'[j]? = some y→RepA V y (cs'.getD j Go.undef):=by
    have general:∀pl:Nat→Option (Nat×Nat),(∀i q,plc P T i=some q→pl i=some q)→∃cs',Instr.fill pl z.cells (parts.toList.map fun p=>(p.1,ρ p.2))=some cs'∧cs'.size=row'.length∧∀(j:Nat) (y:A),row'[j]? = some y→RepA V y (cs'.getD j Go.undef) :=
      fun pl hpl=>qnf hpl _ _ z.cells row row' (by simp) hpv h3 h4 hf
    unfold Program.built at hb ⊢
    unfold plc at general
    rw [h1] at hb ⊢
    split at hb
    · rename_i it' _ e' hit hue
      injection hit with hit;subst hit
      rw [hue] at general
      simp only [h2] at hb ⊢
      cases hie:P.info? e' with
      | none=>simp [hie] at hb
      | some ie =>
        simp only [hie] at general ⊢
        exact general _ fun i q hq=>by simpa using hq
    · rename_i it' fields hit hue
      injection hit with hit;subst hit
      rw [hue] at general
      simp only [h2] at hb ⊢
      cases hpl:fields.toList.mapM (fun f=>(P.info? f.type).map fun i=>(f.offset,i.size)) with
      | none=>simp [hpl] at hb
      | some places =>
        simp only [hpl] at general ⊢
        exact general _ fun i q hq=>by simpa using hq
    · simp at hb
  obtain⟨cs',k1,k2,k3⟩:=key
  have hrun:=run_build (P:=P) V.w T (parts.map fun (i,x)=>(i,ρ x)) cs' (by rw [←k1];congr 1;simp)
  simp only [execOp,ho,Sem.run_bind,hrun,Result.andThen_ok,Sem.run_pure]
  have:=RepD.r (V:=V) row' cs'.toList (by simpa using k2) fun j y hj=>by
    have:=k3 j y hj
    rw [Array.getD_eq_getD_getElem?,←Array.getElem?_toList,←List.getD_eq_getElem?_getD] at this;exact this
  rw [Array.toArray_toList] at this
  exact .val this
theorem OpJ.build {T:TypeId} {parts:Array (Nat×Operand)} {row row':List A} (ho:o.op=.build T parts) (hb:(P.built T []).isSome=true) (hz:zrow P T=some row) (hf:qhh P T row (parts.toList.map fun p=>(p.1,evO e p.2))=some row'):OpJ P st e o (.r row'):=.buildZ ho hb (fun V=>qew (V:=V) hz) hf
def bndD (e:Nat→D):Option Operand→Nat→Option Nat
  | none,n=>some n
  | some x,n=>(match evO e x with
    | .a (.v (.int _ z))=>if 0≤z∧z≤n then some z.toNat else none
    | _=>none)
def lowD (e:Nat→D) (lo:Option Operand) (h:Nat):Option Nat:=match lo with|none=>some 0|some x=>bndD e (some x) h
theorem qde {V:Vw} {ρ:Operand→Value} {x:Option Operand} {n m y:Nat} {c:BoundsCode} (hu:∀z,x=some z→RepD V (evO e z) (ρ z)) (h:bndD e x n=some m) (hn:n≤y) {w:World} :
    (match x.map ρ with|some v=>Instr.sliceBound v y c|none=>(pure n:Sem Nat)).run P w=.ok m w∧m≤n:=by
  cases x with
  | none=>injection h with h;subst h;exact⟨rfl,Nat.le_refl _⟩
  | some z =>
    unfold bndD at h
    simp only at h
    split at h
    · rename_i k i hz
      split at h
      · rename_i hc
        injection h with h;subst h
        have:=hu z rfl
        rw [hz] at this
        obtain⟨hv,_⟩:=this.v_inv
        refine⟨?_,by omega⟩
        simp only [Option.map_some,hv]
        have h2:i≤(y:Int):=by omega
        simp [Instr.sliceBound,asIntOf,Sem.run_bind,hc.1,h2]
      · cases h
    · cases h
theorem qea {V:Vw} {ρ:Operand→Value} {lo hi:Option Operand} {isS:Bool} {len cap l h:Nat} (hlo:∀z,lo=some z→RepD V (evO e z) (ρ z)) (hhi:∀z,hi=some z→RepD V (evO e z) (ρ z)) (h1:bndD e hi len=some h) (h2:lowD e lo h=some l) (hc:len≤cap) {w:World} :
    (Instr.sliceBounds isS len cap (lo.map ρ) (hi.map ρ) none).run P w=.ok (l,h,cap) w∧h≤len∧l≤h:=by
  have hh:h≤len:=(qde (P:=P) (w:=w) (c:=if isS then .sliceAcap else .sliceAlen) hhi h1 hc).2
  have k1:∀z,hi=some z→(Instr.sliceBound (ρ z) cap (if isS then .sliceAcap else .sliceAlen)).run P w=.ok h w:=fun z hz=>by
    subst hz
    exact (qde (P:=P) (w:=w) (c:=if isS then .sliceAcap else .sliceAlen) hhi h1 hc).1
  have k2:∀z,lo=some z→(Instr.sliceBound (ρ z) h .sliceB).run P w=.ok l w∧l≤h:=fun z hz=>by
    subst hz
    exact qde (P:=P) (w:=w) (c:=.sliceB) hlo h2 (Nat.le_refl _)
  refine⟨?_,hh,?_⟩
  · unfold Instr.sliceBounds
    cases hi with
    | none =>
      injection h1 with h1;subst h1
      cases lo with
      | none=>injection h2 with h2;subst h2;rfl
      | some z =>
        simp only [Option.map_none,Option.map_some,Sem.run_bind,Sem.run_pure,Result.andThen_ok,Option.isSome_none,Bool.false_eq_true,if_false,(k2 z rfl).1]
    | some y =>
      cases lo with
      | none =>
        injection h2 with h2;subst h2
        simp only [Option.map_none,Option.map_some,Sem.run_bind,Sem.run_pure,Result.andThen_ok,k1 y rfl]
      | some z =>
        simp only [Option.map_none,Option.map_some,Sem.run_bind,Sem.run_pure,Result.andThen_ok,Option.isSome_none,Bool.false_eq_true,if_false,k1 y rfl,(k2 z rfl).1]
  · cases lo with
    | none=>injection h2 with h2;omega
    | some z=>exact (k2 z rfl).2
theorem OpJ.slice_sl {T:TypeId} {x:Operand} {lo hi:Option Operand} {rows:List (List A)} {l h n:Nat} (ho:o.op=.slice T x lo hi none) (hx:evO e x=.a (.sl rows)) (hn:es P T=some n) (hrn:∀(i:Nat) (row:List A),rows[i]? = some row→row.length=n)
    (h1:bndD e hi rows.length=some h) (h2:lowD e lo h=some l):OpJ P st e o (.a (.sl ((rows.take h).drop l))):=by
  intro ρ V _ _ hu
  rw [ho] at hu
  have hx1:=hu x (by simp [qad,Op.operands])
  rw [hx] at hx1
  have hlo:∀z,lo=some z→RepD V (evO e z) (ρ z):=fun z hz=>hu z (by subst hz;simp [qad,Op.operands])
  have hhi:∀z,hi=some z→RepD V (evO e z) (ρ z):=fun z hz=>hu z (by subst hz;simp [qad,Op.operands])
  simp only [execOp,ho]
  generalize ρ x=u at *
  unfold es at hn
  split at hn
  · rename_i el hel
    cases hinfo:P.info? el with
    | none=>simp [hinfo] at hn
    | some inf =>
      simp only [hinfo,Option.map_some,Option.some.injEq] at hn
      subst hn
      have main:∀(ad:Option Addr) (c:Nat),rows.length≤c→(Instr.sliceAt T (.slice ad rows.length c) (lo.map ρ) (hi.map ρ) none).run P V.w=.ok (.slice (if c=l then ad else ad.map (·.add (l*inf.size))) (h-l) (c-l)) V.w∧h≤rows.length∧l≤h:=by
        intro ad c hc
        obtain⟨g1,g2,g3⟩:=qea (P:=P) (isS:=true) (w:=V.w) hlo hhi h1 h2 hc
        refine⟨?_,g2,g3⟩
        simp only [Instr.sliceAt,Instr.slice,Sem.run_bind,run_underlying hel,Result.andThen_ok,Option.map_none,g1,sizeOf,typeInfo,run_program,hinfo,Sem.run_pure]
      cases hx1.c_inv rfl with
      | sl0 a c =>
        obtain⟨g1,g2,g3⟩:=main a c (Nat.zero_le _)
        have g1:(Instr.sliceAt T (.slice a 0 c) (lo.map ρ) (hi.map ρ) none).run P V.w=_:=g1
        simp only [Option.map_none,Sem.run_bind,g1,Result.andThen_ok,Sem.run_pure]
        simp at g2
        subst g2
        simp at g3
        subst g3
        exact .val (.a _ _ (.c _ _ (.sl0 _ _)))
      | sl _ n' b o' c val hb hm hc hlen h3 h4 =>
        obtain⟨g1,g2,g3⟩:=main (some ⟨b,o',none⟩) c hc
        simp only [Option.map_none,Sem.run_bind,g1,Result.andThen_ok,Sem.run_pure]
        by_cases hlh:l=h
        · subst hlh
          have:(rows.take l).drop l=[]:=by rw [List.drop_eq_nil_iff];simp;omega
          rw [this,Nat.sub_self]
          exact .val (.a _ _ (.c _ _ (.sl0 _ _)))
        · have hcl:c≠l:=by omega
          rw [if_neg hcl]
          have hne:∃row,rows[l]? = some row:=⟨_,List.getElem?_eq_getElem (by omega)⟩
          obtain⟨row0,hrow0⟩:=hne
          have hnn:n'=inf.size:=by rw [←hlen _ _ hrow0];exact hrn _ _ hrow0
          subst hnn
          have hlen2:((rows.take h).drop l).length=h-l:=by simp;omega
          have hget:∀i row,((rows.take h).drop l)[i]? = some row→rows[l+i]? = some row:=fun i row hi=>by
            rw [List.getElem?_drop] at hi
            rw [List.getElem?_take] at hi
            split at hi
            · exact hi
            · cases hi
          have:=RepC.sl (w:=V.w) (mu:=V.mut) ((rows.take h).drop l) inf.size b (o'+l*inf.size) (c-l) (fun i j=>val (l+i) j) hb hm (by rw [hlen2];omega) (fun i row hi=>hlen _ _ (hget i row hi)) (fun i row j y hi hj=>by
            have:=h3 _ row j y (hget i row hi) hj
            rw [Nat.add_mul,←Nat.add_assoc] at this;exact this) (fun i row j y hi hj=>h4 _ row j y (hget i row hi) hj)
          rw [hlen2] at this
          simp only [Option.map_some,Addr.add_mid]
          exact .val (.a _ _ (.c _ _ this))
  · cases hn
theorem OpJ.slice_str {T:TypeId} {x:Operand} {lo hi:Option Operand} {s:ByteArray} {l h:Nat} (ho:o.op=.slice T x lo hi none) (hx:evO e x=.a (.v (.string s))) (hT:qhd P T=true) (h1:bndD e hi s.size=some h) (h2:lowD e lo h=some l):OpJ P st e o (.a (.v (.string (s.extract l h)))):=by
  intro ρ V _ _ hu
  rw [ho] at hu
  have hx1:=hu x (by simp [qad,Op.operands])
  rw [hx] at hx1
  obtain⟨hx2,_⟩:=hx1.v_inv
  have hlo:∀z,lo=some z→RepD V (evO e z) (ρ z):=fun z hz=>hu z (by subst hz;simp [qad,Op.operands])
  have hhi:∀z,hi=some z→RepD V (evO e z) (ρ z):=fun z hz=>hu z (by subst hz;simp [qad,Op.operands])
  unfold qhd at hT
  split at hT
  · rename_i hU
    obtain⟨g1,g2,g3⟩:=qea (P:=P) (isS:=false) (w:=V.w) hlo hhi h1 h2 (Nat.le_refl _)
    have hrun:(Instr.sliceAt T (.string s) (lo.map ρ) (hi.map ρ) none).run P V.w=.ok (.string (s.extract l h)) V.w:=by
      simp only [Instr.sliceAt,Instr.slice,Sem.run_bind,run_underlying hU,Result.andThen_ok,Option.isSome_none,Bool.false_eq_true,if_false,g1,Sem.run_pure]
    simp only [execOp,ho,hx2,Option.map_none,Sem.run_bind,hrun,Result.andThen_ok,Sem.run_pure]
    exact .val (.v rfl)
  · cases hT
/-! ### Arrays of one's own, read -/
theorem OpJ.ix_own {T:TypeId} {x i:Operand} {j ver n:Nat} {rows:List (List A)} {z:Int} {k:IntKind} (ho:o.op=.indexAddr T x i) (hx:evO e x=.a (.own j ver)) (hs:st[j]? = some (.arr ver n rows)) (hi:evO e i=.a (.v (.int k z))) (hn:es P T=some n) (h0:0≤z) (hl:z<rows.length):OpJ P st e o (.a (.ep j ver z.toNat 0)):=by
  intro ρ V hst _ hu
  rw [ho] at hu
  have h1:=hu x (by simp [qad,Op.operands])
  have h2:=hu i (by simp [qad,Op.operands])
  rw [hx] at h1
  rw [hi] at h2
  obtain⟨h2,_⟩:=h2.v_inv
  simp only [execOp,ho,h2]
  generalize ρ x=u at *
  subst hst
  unfold es at hn
  split at hn
  · rename_i el hel
    cases hinfo:P.info? el with
    | none=>simp [hinfo] at hn
    | some inf =>
      simp only [hinfo,Option.map_some,Option.some.injEq] at hn
      subst hn
      cases h1 with
      | a _ _ h=>cases h with
        | c _ _ h=>cases h
        | own _ _ a l c hj hr =>
          obtain⟨_,hr⟩:=hr _ _ _ hs
          obtain⟨rfl,b,cs,T',rfl,hb,hh,hsz,hlc⟩:=hr rfl
          have hrun:(Instr.indexAt T (.slice (some ⟨b,0,none⟩) rows.length c) (.int k z)).run P V.w=.ok (.pointer (some ⟨b,z.toNat*inf.size,none⟩)) V.w:=by
            simp [Instr.indexAt,asIntOf,Sem.run_bind,run_underlying hel,sizeOf,typeInfo,hinfo,h0,hl,Addr.add_mid]
          simp only [Sem.run_bind,hrun,Result.andThen_ok,Sem.run_pure]
          refine .val (.a _ _ (.ep j ver z.toNat 0 b (z.toNat*inf.size) hj fun ver' n' rows' h'=>?_))
          rw [hs] at h';injection h' with h';injection h' with e1 e2 e3
          subst e1;subst e2
          exact⟨Nat.le_refl _,fun _=>⟨hb,by omega⟩⟩
  · cases hn
theorem OpJ.load_ep {T:TypeId} {x:Operand} {k:Option Nat} {row:List A} {i ver n z off:Nat} {rows:List (List A)} {d:D} (ho:o.op=.load T x) (hx:evO e x=.a (.ep i ver z off)) (hs:st[i]? = some (.arr ver n rows)) (hz:rows[z]? = some row) (hk:ldk P T=some k) (hd:qae k row off=some d):OpJ P st e o d:=by
  intro ρ V hst hok hu
  rw [ho] at hu
  have h:=hu x (by simp [qad,Op.operands])
  rw [hx] at h
  simp only [execOp,ho]
  generalize ρ x=u at *
  subst hst
  cases h with
  | a _ _ h=>cases h with
    | c _ _ h=>cases h
    | ep _ _ _ _ b ad hi hb =>
      obtain⟨hb3,had⟩:=(hb _ _ _ hs).2 rfl
      subst had
      obtain⟨cs,T',c,h1,h2,h3,h4,h5,h6⟩:=hok.arr i ver n rows b hs hb3
      have hrl:=h5 z row hz
      have hzl:=(List.getElem?_eq_some_iff.1 hz).1
      have hc:∀j x,row[j]? = some x→V.w.cell? ⟨b,z*n+j,none⟩=some (cs.getD (z*n+j) Go.undef):=fun j x hj=>by
        have hlt:=(List.getElem?_eq_some_iff.1 hj).1
        have:(z+1)*n≤c*n:=Nat.mul_le_mul_right n (by omega)
        rw [Nat.add_mul,Nat.one_mul] at this
        rw [cell_of_row V.w b _ cs T' (0,0) h1,Array.getD_eq_getD_getElem?,Array.getElem?_eq_getElem (by omega)];rfl
      obtain⟨v,hr,hv⟩:=qki (off:=off) hk hd _ hc fun j x hj=>.c _ _ (h6 z row j x hz hj)
      simp only [Sem.run_bind,hr,Result.andThen_ok,Sem.run_pure]
      exact .val hv
theorem OpJ.fa_ep {T k off off' i ver z:Nat} {x:Operand} (ho:o.op=.fieldAddr T x k) (hx:evO e x=.a (.ep i ver z off)) (hf:fo P T k=some off'):OpJ P st e o (.a (.ep i ver z (off+off'))):=by
  intro ρ V _ _ hu
  rw [ho] at hu
  have h:=hu x (by simp [qad,Op.operands])
  rw [hx] at h
  simp only [execOp,ho]
  generalize ρ x=u at *
  cases h with
  | a _ _ h=>cases h with
    | c _ _ h=>cases h
    | ep _ _ _ _ b ad hi hb =>
      simp only [Sem.run_bind,qi8 hf,Result.andThen_ok,Sem.run_pure]
      exact .val (.a _ _ (.ep i ver z (off+off') b (ad+off') hi fun ver' n rows hs=>⟨(hb ver' n rows hs).1,fun e=>⟨((hb ver' n rows hs).2 e).1,by rw [((hb ver' n rows hs).2 e).2];omega⟩⟩))
theorem OpJ.nil_ep {x:Operand} {i ver z off:Nat} (ho:o.op=.nilCheck x) (hx:evO e x=.a (.ep i ver z off)):OpJ P st e o (.a (.ep i ver z off)):=by
  intro ρ V _ _ hu
  rw [ho] at hu
  have h:=hu x (by simp [qad,Op.operands])
  rw [hx] at h
  simp only [execOp,ho]
  generalize ρ x=u at *
  cases h with
  | a _ _ h=>cases h with
    | c _ _ h=>cases h
    | ep _ _ _ _ b ad hi hb=>exact .val (.a _ _ (.ep i ver z off b ad hi hb))
end
def okC:Nat→Value→Value→Bool
  | 0,.bool _,.bool _=>true
  | 1,.int k _,.int k' _=>decide (k=k')
  | 2,.string _,.string _=>true
  | _,_,_=>false
def eqV:Value→Value→Bool
  | .bool x,.bool y=>x==y
  | .int _ x,.int _ y=>x==y
  | .string x,.string y=>x.toList==y.toList
  | _,_=>false
def okLs:List Nat→List Value→List Value→Bool
  | [],[],[]=>true
  | c::cs,x::xs,y::ys=>okC c x y&&okLs cs xs ys
  | _,_,_=>false
def eqLs:List Value→List Value→Bool
  | x::xs,y::ys=>eqV x y&&eqLs xs ys
  | _,_=>true
theorem qed:∀{cs:List Nat} {xs ys:List Value},okLs cs xs ys=true→xs.length=cs.length∧ys.length=cs.length
  | [],[],[],_=>⟨rfl,rfl⟩
  | c::cs,x::xs,y::ys,h=>by
    simp only [okLs,Bool.and_eq_true] at h
    obtain⟨h1,h2⟩:=qed h.2
    exact⟨by simp [h1],by simp [h2]⟩
  | [],_::_,_,h=>by simp [okLs] at h
  | [],[],_::_,h=>by simp [okLs] at h
  | _::_,[],_,h=>by simp [okLs] at h
  | _::_,_::_,[],h=>by simp [okLs] at h
theorem qjf:∀{c1 c2:List Nat} {xs ys:List Value},okLs (c1++c2) xs ys=true→okLs c1 (xs.take c1.length) (ys.take c1.length)=true∧okLs c2 (xs.drop c1.length) (ys.drop c1.length)=true∧eqLs xs ys=(eqLs (xs.take c1.length) (ys.take c1.length)&&eqLs (xs.drop c1.length) (ys.drop c1.length))
  | [],c2,xs,ys,h=>by
    refine⟨by simp [okLs],by simpa using h,?_⟩
    simp [eqLs]
  | c::c1,c2,x::xs,y::ys,h=>by
    simp only [List.cons_append,okLs,Bool.and_eq_true] at h
    obtain⟨h1,h2,h3⟩:=qjf h.2
    refine⟨by simp [okLs,h.1,h1],by simpa using h2,?_⟩
    simp only [eqLs,List.length_cons,List.take_succ_cons,List.drop_succ_cons,h3,Bool.and_assoc]
  | _::_,_,[],_,h=>by simp [okLs] at h
  | _::_,_,_::_,[],h=>by simp [okLs] at h
section
variable (P:Program)
def rowT (T:TypeId):Bool:=match P.underlying T with|some d=>d.isRow|none=>false
def qnd (lf:TypeId→Option (List Nat)):List Field→Nat→Option (List Nat)
  | [],_=>some []
  | f::r,pos=>if f.name = "_"∨f.offset≠pos then none else (match lf f.type with
    | some l=>if (P.info? f.type).map (·.size)=some l.length then (qnd lf r (pos+l.length)).map fun m=>l++m else none
    | none=>none)
def qk1:Nat→TypeId→Option (List Nat)
  | 0,_=>none
  | d+1,t=>match P.underlying t with
    | some .bool=>some [0]
    | some (.int _)=>some [1]
    | some .string=>some [2]
    | some (.struct fs)=>if P.stoodInHeld t=true then none else qnd P (qk1 d) fs.toList 0
    | some (.array n e)=>(match qk1 d e with
      | some l=>if (P.info? e).map (·.size)=some l.length then some (List.replicate n l).flatten else none
      | none=>none)
    | _=>none
def wr (T:TypeId) (A:List Value):Value:=if rowT P T=true then .agg A.toArray else A.getD 0 Go.undef
end
section
variable {P:Program}
theorem qge {T:TypeId} {n off:Nat} {A:List Value} (hu:(P.underlying T).isSome=true) (hz:(P.info? T).map (·.size)=some n) (h1:rowT P T=false→n=1) (hle:off+n≤A.length) (w:World):(part T A.toArray off).run P w=.ok (wr P T ((A.drop off).take n)) w:=by
  cases hud:P.underlying T with
  | none=>simp [hud] at hu
  | some d =>
    cases hi:P.info? T with
    | none=>simp [hi] at hz
    | some i =>
      simp only [hi,Option.map_some,Option.some.injEq] at hz
      by_cases hr:d.isRow=true
      · have hagg:(isAgg T).run P w=.ok true w:=by
          unfold isAgg
          rw [Sem.run_bind,run_underlying hud w]
          cases d<;>simp_all
        have hw:rowT P T=true:=by simp [rowT,hud,hr]
        simp [part,Sem.run_bind,hagg,sizeOf,typeInfo,hi,hz,wr,hw,List.extract_eq_take_drop]
      · have hw:rowT P T=false:=by simp [rowT,hud,hr]
        have hn:=h1 hw
        have hagg:(isAgg T).run P w=.ok false w:=by
          unfold isAgg
          rw [Sem.run_bind,run_underlying hud w]
          cases d<;>simp_all
        have hlt:off<A.length:=by omega
        subst hn
        have hg:wr P T ((A.drop off).take 1)=A[off]:=by
          simp only [wr,hw,Bool.false_eq_true,if_false]
          rw [List.getD_eq_getElem?_getD,List.getElem?_take_of_lt (by omega),List.getElem?_drop,Nat.add_zero,List.getElem?_eq_getElem hlt];rfl
        rw [hg]
        simp [part,Sem.run_bind,hagg,hlt]
theorem qk0 {d:Nat} {T:TypeId} {l:List Nat} (h:qk1 P d T=some l):(P.underlying T).isSome=true∧(rowT P T=false→l.length=1):=by
  cases d with
  | zero=>cases h
  | succ d =>
    unfold qk1 at h
    split at h
    · rename_i hu;injection h with h;subst h;exact⟨by simp [hu],fun _=>rfl⟩
    · rename_i hu;injection h with h;subst h;exact⟨by simp [hu],fun _=>rfl⟩
    · rename_i hu;injection h with h;subst h;exact⟨by simp [hu],fun _=>rfl⟩
    · rename_i hu;exact⟨by simp [hu],fun hr=>by simp [rowT,hu] at hr⟩
    · rename_i hu;exact⟨by simp [hu],fun hr=>by simp [rowT,hu] at hr⟩
    · cases h
def qdb (d:Nat) (e:TypeId) (n:Nat) (xs ys:Array Value):List Nat→Sem Bool
  | []=>pure true
  | i::r=>do
    let a ←part e xs (i*n)
    let b ←part e ys (i*n)
    let q ←Op.equalIn d e a b
    if (!q)=true then pure false else qdb d e n xs ys r
theorem qgv (w:World) (d:Nat) (t e:TypeId) (len n:Nat) (xs ys:Array Value) (ht:P.underlying t=some (.array len e)) (hs:(sizeOf e).run P w=.ok n w) :
    (Op.equalIn (d+1) t (.agg xs) (.agg ys)).run P w=(qdb d e n xs ys (List.range' 0 len)).run P w:=by
  simp only [Op.equalIn,Sem.run_bind,run_underlying ht,Result.andThen_ok,hs]
  rw [Std.Legacy.Range.forIn_eq_forIn_range']
  simp only [Std.Legacy.Range.size,Nat.sub_zero,Nat.add_sub_cancel,Nat.div_one]
  generalize List.range' 0 len 1=l
  clear ht hs
  induction l generalizing w with
  | nil=>simp [qdb]
  | cons i l ih =>
    simp only [List.forIn_cons,qdb,Sem.run_bind]
    generalize (part e xs (i*n)).run P w=r1
    cases r1 with
    | ok a w1 =>
      simp only [Result.andThen_ok]
      generalize (part e ys (i*n)).run P w1=r2
      cases r2 with
      | ok b w2 =>
        simp only [Result.andThen_ok]
        generalize (Op.equalIn d e a b).run P w2=r3
        cases r3 with
        | ok r w3 =>
          cases r
          · simp only [Result.andThen_ok,Bool.not_false,if_true,Sem.run_pure]
          · simp only [Result.andThen_ok,Bool.not_true,Bool.false_eq_true,if_false,Sem.run_pure]
            exact ih w3
        | halt x w3=>simp [Result.andThen]
      | halt x w2=>simp [Result.andThen]
    | halt x w1=>simp [Result.andThen]
theorem qhb:∀(d:Nat) (T:TypeId) (l:List Nat),qk1 P d T=some l→∀(A B:List Value),okLs l A B=true→∀w:World,(Op.equalIn d T (wr P T A) (wr P T B)).run P w=.ok (eqLs A B) w
  | 0,_,_,h,_,_,_,_=>by cases h
  | d+1,T,l,h,A,B,hok,w=>by
    have scalar:∀c,l=[c]→∃a b,A=[a]∧B=[b]∧okC c a b=true:=by
      intro c hc
      subst hc
      obtain⟨h1,h2⟩:=qed hok
      match A,B,h1,h2 with
      | [a],[b],_,_=>exact⟨a,b,rfl,rfl,by simpa [okLs] using hok⟩
    unfold qk1 at h
    split at h
    · rename_i hu
      injection h with h
      obtain⟨a,b,rfl,rfl,hc⟩:=scalar 0 h.symm
      have hr:rowT P T=false:=by simp [rowT,hu]
      cases a<;>cases b<;>simp only [okC,Bool.false_eq_true] at hc
      simp only [wr,hr,Bool.false_eq_true,if_false,List.getD_cons_zero,run_equalIn_bool' w d T _ _ hu,eqLs,eqV,Bool.and_true]
    · rename_i k hu
      injection h with h
      obtain⟨a,b,rfl,rfl,hc⟩:=scalar 1 h.symm
      have hr:rowT P T=false:=by simp [rowT,hu]
      cases a<;>cases b<;>simp only [okC,Bool.false_eq_true,decide_eq_true_iff] at hc
      subst hc
      simp only [wr,hr,Bool.false_eq_true,if_false,List.getD_cons_zero,run_equalIn_int w d T _ k _ _ hu,eqLs,eqV,Bool.and_true]
    · rename_i hu
      injection h with h
      obtain⟨a,b,rfl,rfl,hc⟩:=scalar 2 h.symm
      have hr:rowT P T=false:=by simp [rowT,hu]
      cases a<;>cases b<;>simp only [okC,Bool.false_eq_true] at hc
      simp only [wr,hr,Bool.false_eq_true,if_false,List.getD_cons_zero,run_equalIn_string w d T _ _ hu,eqLs,eqV,Bool.and_true]
    · rename_i fs hu
      split at h
      · cases h
      · rename_i hst
        have hr:rowT P T=true:=by simp [rowT,hu]
        have hf:P.fieldsOf T=fs:=by simp [Program.fieldsOf,hu]
        simp only [wr,hr,if_true]
        rw [run_equalIn_agg w d T _ _ (by rw [hf];exact hu) (by simpa using hst),hf]
        have key:∀(fs:List Field) (pos:Nat) (l:List Nat),qnd P (qk1 P d) fs pos=some l→∀(A B pA pB:List Value),pA.length=pos→pB.length=pos→okLs l A B=true→∀w:World,(Op.eqFields d (pA++A).toArray (pB++B).toArray fs).run P w=.ok (eqLs A B) w:=by
          intro fs
          induction fs with
          | nil =>
            intro pos l hl A B pA pB _ _ hok w
            injection hl with hl;subst hl
            obtain⟨h1,h2⟩:=qed hok
            simp at h1 h2
            subst h1;subst h2
            simp [Op.eqFields,eqLs]
          | cons f fs ih =>
            intro pos l hl A B pA pB hA hB hok w
            unfold qnd at hl
            split at hl
            · cases hl
            · rename_i hn
              split at hl
              · rename_i l1 hl1
                split at hl
                · rename_i hz
                  rw [Option.map_eq_some_iff] at hl
                  obtain⟨l2,hl2,rfl⟩:=hl
                  obtain⟨k1,k2,k3⟩:=qjf hok
                  obtain⟨g1,g2⟩:=qed hok
                  obtain⟨o1,o2⟩:=qk0 hl1
                  have hnm:f.name ≠ "_":=fun h=>hn (.inl h)
                  have hoff:f.offset=pos:=Classical.byContradiction fun h=>hn (.inr h)
                  have pAe:(part f.type (pA++A).toArray f.offset).run P w=.ok (wr P f.type (A.take l1.length)) w:=by
                    rw [qge o1 hz o2 (by rw [List.length_append,hoff,hA];rw [g1];simp) w,hoff,←hA,List.drop_left]
                  have pBe:(part f.type (pB++B).toArray f.offset).run P w=.ok (wr P f.type (B.take l1.length)) w:=by
                    rw [qge o1 hz o2 (by rw [List.length_append,hoff,hB];rw [g2];simp) w,hoff,←hB,List.drop_left]
                  have hrun:=qhb d f.type l1 hl1 _ _ k1 w
                  have ih':=ih (pos+l1.length) l2 hl2 (A.drop l1.length) (B.drop l1.length) (pA++A.take l1.length) (pB++B.take l1.length) (by simp [hA,g1]) (by simp [hB,g2]) k2 w
                  rw [List.append_assoc,List.take_append_drop,List.append_assoc,List.take_append_drop] at ih'
                  simp only [Op.eqFields,if_pos hnm,Sem.run_bind,pAe,pBe,Result.andThen_ok,hrun,Sem.run_ite,Sem.run_pure,ih']
                  rw [k3]
                  cases eqLs (A.take l1.length) (B.take l1.length)<;>simp
                · cases hl
              · cases hl
        exact key fs.toList 0 l h A B [] [] rfl rfl hok w
    · rename_i len el hu
      split at h
      · rename_i l1 hl1
        split at h
        · rename_i hz
          injection h with h;subst h
          have hr:rowT P T=true:=by simp [rowT,hu]
          simp only [wr,hr,if_true]
          have hinf:∃inf,P.info? el=some inf∧inf.size=l1.length:=by
            cases hq:P.info? el with
            | none=>simp [hq] at hz
            | some inf=>exact⟨inf,rfl,by simpa [hq] using hz⟩
          obtain⟨inf,hq,hqs⟩:=hinf
          rw [qgv w d T el len l1.length _ _ hu (by simp [sizeOf,typeInfo,hq,hqs])]
          obtain⟨o1,o2⟩:=qk0 hl1
          have key:∀(m i:Nat) (A B pA pB:List Value),pA.length=i*l1.length→pB.length=i*l1.length→okLs (List.replicate m l1).flatten A B=true→∀w:World,(qdb d el l1.length (pA++A).toArray (pB++B).toArray (List.range' i m)).run P w=.ok (eqLs A B) w:=by
            intro m
            induction m with
            | zero =>
              intro i A B pA pB _ _ hok w
              obtain⟨h1,h2⟩:=qed hok
              simp at h1 h2
              subst h1;subst h2
              simp [qdb,eqLs]
            | succ m ih =>
              intro i A B pA pB hA hB hok w
              rw [List.replicate_succ,List.flatten_cons] at hok
              obtain⟨k1,k2,k3⟩:=qjf hok
              obtain⟨g1,g2⟩:=qed hok
              have pAe:(part el (pA++A).toArray (i*l1.length)).run P w=.ok (wr P el (A.take l1.length)) w:=by
                rw [qge o1 hz o2 (by rw [List.length_append,hA,g1];simp) w,←hA,List.drop_left]
              have pBe:(part el (pB++B).toArray (i*l1.length)).run P w=.ok (wr P el (B.take l1.length)) w:=by
                rw [qge o1 hz o2 (by rw [List.length_append,hB,g2];simp) w,←hB,List.drop_left]
              have hrun:=qhb d el l1 hl1 _ _ k1 w
              have ih':=ih (i+1) (A.drop l1.length) (B.drop l1.length) (pA++A.take l1.length) (pB++B.take l1.length) (by rw [List.length_append,hA,List.length_take,g1,Nat.add_mul];simp) (by rw [List.length_append,hB,List.length_take,g2,Nat.add_mul];simp) k2 w
              rw [List.append_assoc,List.take_append_drop,List.append_assoc,List.take_append_drop] at ih'
              rw [List.range'_succ]
              simp only [qdb,Sem.run_bind,pAe,pBe,Result.andThen_ok,hrun,Sem.run_ite,Sem.run_pure,ih']
              rw [k3]
              cases eqLs (A.take l1.length) (B.take l1.length)<;>simp
          have:=key len 0 A B [] [] (by simp) (by simp) hok w
          simpa using this
        · cases h
      · cases h
    · cases h
def qby:List A→Option (List Value)
  | []=>some []
  | .v x::r=>(qby r).map fun l=>x::l
  | _::_=>none
theorem qii:∀{row:List A} {l:List Value},qby row=some l→row=l.map A.v
  | [],l,h=>by injection h with h;subst h;rfl
  | .v x::r,l,h=>by
    unfold qby at h
    rw [Option.map_eq_some_iff] at h
    obtain⟨m,h1,rfl⟩:=h
    rw [qii h1];rfl
  | .nl::_,_,h=>by cases h
  | .sl _::_,_,h=>by cases h
  | .ref _ _::_,_,h=>by cases h
  | .ptr _ _::_,_,h=>by cases h
  | .own _ _::_,_,h=>by cases h
  | .fn _ _::_,_,h=>by cases h
theorem qih {V:Vw} {row:List A} {l:List Value} {u:Value} (h:RepD V (.r row) u) (hp:qby row=some l):u=.agg l.toArray:=by
  obtain⟨vs,rfl,hl,hr⟩:=h.r_inv
  rw [qii hp] at hl hr
  simp at hl
  congr 2
  apply List.ext_getElem?
  intro j
  by_cases hj:j<l.length
  · have:=hr j (.v l[j]) (by rw [List.getElem?_map,List.getElem?_eq_getElem hj];rfl)
    rw [List.getD_eq_getElem?_getD,List.getElem?_eq_getElem (by omega)] at this
    rw [List.getElem?_eq_getElem (by omega),List.getElem?_eq_getElem hj]
    exact congrArg some ((RepD.a _ _ this:RepD V (.a (.v l[j])) _).v_inv.1)
  · rw [List.getElem?_eq_none (by omega),List.getElem?_eq_none (by omega)]
def eqOk (P:Program) (T:TypeId):Option (List Nat):=if rowT P T=true∧P.eqGuardType P.depth T=false then qk1 P 10000 T else none
def eqR (neg:Bool) (ls:Option (List Nat)) (r1 r2:List A):Option D :=
  match ls,qby r1,qby r2 with
  | some l,some a,some b=>if okLs l a b=true then some (.a (.v (.bool (bif neg then !(eqLs a b) else eqLs a b)))) else none
  | _,_,_=>none
theorem OpJ.eqR {st:List Bx} {e:Nat→D} {o:Oper} {neg:Bool} {T T':TypeId} {x y:Operand} {r1 r2:List A} {d:D} (ho:o.op=.binOp (if neg=true then .neq else .eql) T x y T') (hx:evO e x=.r r1) (hy:evO e y=.r r2) (hz:eqR neg (eqOk P T) r1 r2=some d):OpJ P st e o d:=by
  intro ρ V _ _ hu
  rw [ho] at hu
  have h1:=hu x (by simp [qad,Op.operands])
  have h2:=hu y (by simp [qad,Op.operands])
  rw [hx] at h1
  rw [hy] at h2
  unfold Go.Proofs.YthkojpnjdpbcgaaGreatDoor.eqR at hz
  split at hz
  · rename_i l a b hl ha hb
    split at hz
    · rename_i hok
      injection hz with hz;subst hz
      have e1:=qih h1 ha
      have e2:=qih h2 hb
      unfold eqOk at hl
      split at hl
      · rename_i hc
        have hrun:=qhb 10000 T l hl a b hok V.w
        simp only [wr,hc.1,if_true] at hrun
        simp only [execOp,ho,e1,e2,Sem.run_bind,run_eqGuard_agg V.w _ T x y _ _ hc.2,Result.andThen_ok]
        cases neg
        · simp only [Bool.false_eq_true,if_false,run_eql_struct,hrun,Result.andThen_ok,Sem.run_pure,cond_false]
          exact .val (.v rfl)
        · simp only [if_true,run_neq_struct,hrun,Result.andThen_ok,Sem.run_pure,cond_true]
          exact .val (.v rfl)
      · cases hl
    · cases hz
  · cases hz
end
end Go.Proofs.YthkojpnjdpbcgaaGreatDoor
