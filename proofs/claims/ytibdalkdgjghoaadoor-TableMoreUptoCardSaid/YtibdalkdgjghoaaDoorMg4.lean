/- More operations that only read, or lay blocks that nobody writes. No program in sight. Conditions: none. -/
import Derived.Test.YtibdalkdgjghoaaDoorMg3
import Derived.Laws.StructEq
set_option linter.unusedVariables false
set_option maxRecDepth 100000
set_option maxHeartbeats 8000000
set_option linter.unusedSimpArgs false
namespace Go.Proofs.YtibdalkdgjghoaaDoor
open Go.RowKit
section
variable (P:Program)
def ar (T:TypeId):Option (Nat×Nat) :=
 match P.underlying T with
 | some (.array len e)=>(P.info? e).map fun i=>(len,i.size)
 | _=>none
def plc (T i:Nat):Option (Nat×Nat) :=
 match P.underlying T with
 | some (.array _ e)=>(P.info? e).map fun ie=>(i*ie.size,ie.size)
 | some (.struct fields)=>(match fields.toList.mapM (fun f=>(P.info? f.type).map fun i=>(f.offset,i.size)) with
  | some places=>places[i]?
  | none=>none)
 | _=>none
def fillD (T:TypeId):List A→List (Nat×D)→Option (List A)
 | row,[]=>some row
 | row,(i,d)::r=>(match plc P T i,dCells d with
  | some (off,n),some xs=>if xs.length=n∧off+n≤row.length then fillD T (putRow row off xs) r else none
  | _,_=>none)
end
section
variable {P:Program} {st:List Bx} {e:Nat→D} {o:Oper}
theorem run_arr {T:TypeId} {len sz b o':Nat} {z:Int} {k:IntKind} {w:World} (ha:ar P T=some (len,sz)) (h0:0≤z) (hl:z<len):(Instr.indexAt T (.pointer (some ⟨b,o',none⟩)) (.int k z)).run P w=.ok (.pointer (some ⟨b,o'+z.toNat*sz,none⟩)) w:=by
 unfold ar at ha
 split at ha
 ·rename_i len' el hel
  cases hinfo:P.info? el with
  | none=>simp [hinfo] at ha
  | some inf =>
   simp only [hinfo,Option.map_some,Option.some.injEq,Prod.mk.injEq] at ha
   obtain⟨rfl,rfl⟩:=ha
   simp [Instr.indexAt,asIntOf,Sem.run_bind,run_underlying hel,Instr.sureAddr,sizeOf,typeInfo,hinfo,h0,hl,Addr.add_mid]
 ·cases ha
theorem OpJ.arr_ref {T:TypeId} {x i:Operand} {row:List A} {off len sz:Nat} {z:Int} {k:IntKind} (ho:o.op=.indexAddr T x i) (hx:evO e x=.a (.ref row off)) (hi:evO e i=.a (.v (.int k z))) (ha:ar P T=some (len,sz)) (h0:0≤z) (hl:z<len):OpJ P st e o (.a (.ref row (off+z.toNat*sz))):=by
 intro ρ V _ _ hu
 rw [ho] at hu
 have h1:=hu x (by simp [usedO,Op.operands])
 have h2:=hu i (by simp [usedO,Op.operands])
 rw [hx] at h1
 rw [hi] at h2
 obtain⟨h2,_⟩:=h2.v_inv
 simp only [execOp,ho,h2]
 generalize ρ x=u at *
 cases h1.c_inv rfl with
 | ref _ _ b o' val hb hm h3 h4 =>
  simp only [Sem.run_bind,run_arr ha h0 hl,Result.andThen_ok,Sem.run_pure]
  refine .val (.a _ _ ?_)
  rw [Nat.add_assoc]
  exact .c _ _ (.ref row (off+z.toNat*sz) b o' val hb hm h3 h4)
theorem OpJ.arr_ptr {T:TypeId} {x i:Operand} {j off len sz:Nat} {z:Int} {k:IntKind} (ho:o.op=.indexAddr T x i) (hx:evO e x=.a (.ptr j off)) (hi:evO e i=.a (.v (.int k z))) (ha:ar P T=some (len,sz)) (h0:0≤z) (hl:z<len):OpJ P st e o (.a (.ptr j (off+z.toNat*sz))):=by
 intro ρ V _ _ hu
 rw [ho] at hu
 have h1:=hu x (by simp [usedO,Op.operands])
 have h2:=hu i (by simp [usedO,Op.operands])
 rw [hx] at h1
 rw [hi] at h2
 obtain⟨h2,_⟩:=h2.v_inv
 simp only [execOp,ho,h2]
 generalize ρ x=u at *
 cases h1 with
 | a _ _ h=>cases h with
  | c _ _ h=>cases h
  | ptr _ _ b hi hb =>
   simp only [Sem.run_bind,run_arr ha h0 hl,Result.andThen_ok,Sem.run_pure]
   exact .val (.a _ _ (.ptr j (off+z.toNat*sz) b hi hb))
theorem OpJ.mx {x y:Operand} {tys:Array TypeId} {k k':IntKind} {a b:Int} (ho:o.op=.call ⟨.builtin .max,#[x,y],tys⟩) (hx:evO e x=.a (.v (.int k a))) (hy:evO e y=.a (.v (.int k' b))):OpJ P st e o (.a (.v (.int k (max a b)))):=by
 intro ρ V _ _ hu
 rw [ho] at hu
 have h1:=hu x (by simp [usedO,Op.operands,Call.operands])
 have h2:=hu y (by simp [usedO,Op.operands,Call.operands])
 rw [hx] at h1
 rw [hy] at h2
 obtain⟨h1,_⟩:=h1.v_inv
 obtain⟨h2,_⟩:=h2.v_inv
 have hm:(if a<b then b else a)=max a b:=by omega
 simp [execOp,ho,resolve,invoke,builtin,Builtin.max_,Builtin.max2,h1,h2,hm]
 exact .val (V:=V) (v:=.int k _) (.v rfl)
theorem OpJ.mn {x y:Operand} {tys:Array TypeId} {k k':IntKind} {a b:Int} (ho:o.op=.call ⟨.builtin .min,#[x,y],tys⟩) (hx:evO e x=.a (.v (.int k a))) (hy:evO e y=.a (.v (.int k' b))):OpJ P st e o (.a (.v (.int k (min a b)))):=by
 intro ρ V _ _ hu
 rw [ho] at hu
 have h1:=hu x (by simp [usedO,Op.operands,Call.operands])
 have h2:=hu y (by simp [usedO,Op.operands,Call.operands])
 rw [hx] at h1
 rw [hy] at h2
 obtain⟨h1,_⟩:=h1.v_inv
 obtain⟨h2,_⟩:=h2.v_inv
 have hm:(if b<a then b else a)=min a b:=by omega
 simp [execOp,ho,resolve,invoke,builtin,Builtin.min_,Builtin.min2,h1,h2,hm]
 exact .val (V:=V) (v:=.int k _) (.v rfl)
theorem OpJ.index_str {T:TypeId} {x i:Operand} {s:ByteArray} {z:Int} {k:IntKind} {b:UInt8} (ho:o.op=.index T x i) (hx:evO e x=.a (.v (.string s))) (hi:evO e i=.a (.v (.int k z))) (hT:isStr P T=true) (h0:0≤z) (hb:s.data.toList[z.toNat]? = some b):OpJ P st e o (.a (.v (.int .u8 b.toNat))):=by
 intro ρ V _ _ hu
 rw [ho] at hu
 have h1:=hu x (by simp [usedO,Op.operands])
 have h2:=hu i (by simp [usedO,Op.operands])
 rw [hx] at h1
 rw [hi] at h2
 obtain⟨h1,_⟩:=h1.v_inv
 obtain⟨h2,_⟩:=h2.v_inv
 unfold isStr at hT
 split at hT
 ·rename_i hU
  have hlt:z.toNat<s.size:=by have:=(List.getElem?_eq_some_iff.1 hb).1;rw [size_eq];exact this
  have hget:s[z.toNat]? = some b:=by
   rw [getElem?_pos s z.toNat hlt]
   have:=get_list s z.toNat hlt
   rw [hb] at this;exact this.symm
  have hrun:(Instr.index T (.string s) (.int k z)).run P V.w=.ok (.int .u8 b.toNat) V.w:=by
   simp [Instr.index,asIntOf,Sem.run_bind,run_underlying hU,h0,hget]
  simp only [execOp,ho,h1,h2,Sem.run_bind,hrun,Result.andThen_ok,Sem.run_pure]
  exact .val (V:=V) (v:=.int .u8 _) (.v rfl)
 ·cases hT
theorem OpJ.field {T k:Nat} {x:Operand} {row:List A} {off:Nat} {l:Option Nat} {d:D} (ho:o.op=.field T x k) (hx:evO e x=.r row) (hf:fo2 P T k=some (off,l)) (hd:ldRow l row off=some d):OpJ P st e o d:=by
 intro ρ V _ _ hu
 rw [ho] at hu
 have h1:=hu x (by simp [usedO,Op.operands])
 rw [hx] at h1
 obtain⟨vs,hv,hl,hr⟩:=h1.r_inv
 simp only [execOp,ho,hv]
 unfold fo2 at hf
 split at hf
 ·rename_i fs hu
  split at hf
  ·rename_i f hfk
   rw [Option.map_eq_some_iff] at hf
   obtain⟨l',hl',hf⟩:=hf
   injection hf with h3 h4;subst h3;subst h4
   unfold ldk at hl'
   split at hl'
   ·rename_i dd i hud hi
    split at hl'
    ·rename_i hrow
     injection hl' with hl';subst hl'
     simp only [ldRow] at hd
     split at hd
     ·rename_i hle
      injection hd with hd;subst hd
      have hagg:(isAgg f.type).run P V.w=.ok true V.w:=by
       unfold isAgg
       rw [Sem.run_bind,run_underlying hud V.w]
       cases dd<;>simp_all
      have hrun:(Instr.field T (.agg vs.toArray) k).run P V.w=.ok (.agg ((vs.drop f.offset).take i.size).toArray) V.w:=by
       simp [Instr.field,Sem.run_bind,run_underlying hu,hfk,asAgg,part,hagg,sizeOf,typeInfo,hi,List.extract_eq_take_drop]
      simp only [Sem.run_bind,hrun,Result.andThen_ok,Sem.run_pure]
      refine .val (.r _ _ (by simp;omega) fun j y hj=>?_)
      have hjl:j<i.size:=by have:=(List.getElem?_eq_some_iff.1 hj).1;simp at this;omega
      rw [List.getElem?_take_of_lt hjl,List.getElem?_drop] at hj
      have:=hr _ y hj
      rw [List.getD_eq_getElem?_getD] at this ⊢
      rw [List.getElem?_take_of_lt hjl,List.getElem?_drop];exact this
     ·cases hd
    ·rename_i hrow
     injection hl' with hl';subst hl'
     simp only [ldRow] at hd
     cases hx:row[f.offset]? with
     | none=>simp [hx] at hd
     | some y =>
      simp only [hx,Option.map_some,Option.some.injEq] at hd
      subst hd
      have hagg:(isAgg f.type).run P V.w=.ok false V.w:=by
       unfold isAgg
       rw [Sem.run_bind,run_underlying hud V.w]
       cases dd<;>simp_all
      have hlt:f.offset<vs.length:=by have:=(List.getElem?_eq_some_iff.1 hx).1;omega
      have hrun:(Instr.field T (.agg vs.toArray) k).run P V.w=.ok (vs.getD f.offset Go.undef) V.w:=by
       simp [Instr.field,Sem.run_bind,run_underlying hu,hfk,asAgg,part,hagg,hlt]
      simp only [Sem.run_bind,hrun,Result.andThen_ok,Sem.run_pure]
      exact .val (.a _ _ (hr _ y hx))
   ·cases hl'
  ·cases hf
 ·cases hf
theorem OpJ.makeFunc {f:FuncId} {caps:Array Operand} {xs:List A} (ho:o.op=.makeFunc (.func f) #[] caps) (hx:caps.toList.map (evO e)=xs.map D.a):OpJ P st e o (.a (.fn f xs)):=by
 intro ρ V _ _ hu
 rw [ho] at hu
 have hlen:caps.toList.length=xs.length:=by have:=congrArg List.length hx;simpa using this
 have hrun:(execOp ρ o).run P V.w=.ok (.value (.func (.func f) #[] (caps.toList.map ρ).toArray)) V.w:=by
  simp only [execOp,ho,Instr.makeFunc,Sem.run_bind,Sem.run_pure,Result.andThen_ok]
  rw [←Array.toList_map,Array.toArray_toList,Array.map_empty]
 rw [hrun]
 refine .val (.a _ _ (.fn f xs _ (by simpa using hlen) fun i y hy=>?_))
 have hi:i<caps.toList.length:=by have:=(List.getElem?_eq_some_iff.1 hy).1;omega
 have h1:(caps.toList.map (evO e))[i]? = some (.a y):=by rw [hx,List.getElem?_map,hy];rfl
 rw [List.getElem?_map,List.getElem?_eq_getElem hi] at h1
 simp only [Option.map_some,Option.some.injEq] at h1
 have:=hu caps.toList[i] (by have:=List.getElem_mem hi;simp only [usedO,Op.operands];simp)
 rw [h1] at this
 rw [List.getD_eq_getElem?_getD,List.getElem?_map,List.getElem?_eq_getElem hi]
 cases this with
 | a _ _ h=>exact h
theorem fold_put (off:Nat):∀(l:List Value) (k:Nat) (cs:Array Value),(l.zipIdx k).foldl (fun cs (p:Value×Nat)=>cs.setIfInBounds (off+p.2) p.1) cs=putV cs (off+k) l
 | [],_,_=>rfl
 | v::r,k,cs=>by rw [List.zipIdx_cons,List.foldl_cons,putV,fold_put off r (k+1),Nat.add_assoc]
theorem putRow_get {row xs:List A} {off j:Nat} (hle:off+xs.length≤row.length):(putRow row off xs)[j]? = if off≤j∧j<off+xs.length then xs[j-off]? else row[j]?:=by
 unfold putRow
 rw [List.getElem?_append,List.getElem?_append]
 simp only [List.length_append,List.length_take]
 by_cases h1:j<off
 ·rw [if_pos (by omega),if_pos (by omega),if_neg (by omega),List.getElem?_take_of_lt h1]
 ·by_cases h2:j<off+xs.length
  ·rw [if_pos (by omega),if_neg (by omega),if_pos (by omega),show min off row.length=off by omega]
  ·rw [if_neg (by omega),if_neg (by omega),List.getElem?_drop];congr 1;omega
theorem fill_rep {V:Vw} {T:TypeId} {pl:Nat→Option (Nat×Nat)} (hpl:∀i q,plc P T i=some q→pl i=some q):∀(parts:List (Nat×D)) (pv:List (Nat×Value)) (cs:Array Value) (row row':List A),pv.length=parts.length→(∀(j:Nat) (q:Nat×D),parts[j]? = some q→∃v,pv[j]? = some (q.1,v)∧RepD V q.2 v) →
  cs.size=row.length→(∀(j:Nat) (y:A),row[j]? = some y→RepA V y (cs.getD j Go.undef))→fillD P T row parts=some row'→∃cs',Instr.fill pl cs pv=some cs'∧cs'.size=row'.length∧∀(j:Nat) (y:A),row'[j]? = some y→RepA V y (cs'.getD j Go.undef)
 | [],[],cs,row,row',_,_,hs,hr,h=>by injection h with h;subst h;exact⟨cs,rfl,hs,hr⟩
 | [],_::_,_,_,_,hl,_,_,_,_=>by simp at hl
 | _::_,[],_,_,_,hl,_,_,_,_=>by simp at hl
 | (i,d)::parts,p::pv,cs,row,row',hl,hp,hs,hr,h=>by
  obtain⟨v,hv,hd⟩:=hp 0 (i,d) rfl
  simp only [List.getElem?_cons_zero,Option.some.injEq] at hv
  subst hv
  unfold fillD at h
  split at h
  ·rename_i off n xs h1 h2
   split at h
   ·rename_i hc
    obtain⟨hc1,hc2⟩:=hc
    subst hc1
    obtain⟨k1,k2,_⟩:=dCells_rep hd h2
    have hfold:(v.cells.zipIdx.foldl (fun cs (c,j)=>cs.setIfInBounds (off+j) c) cs)=putV cs off v.cells.toList:=by
     rw [←Array.foldl_toList,Array.toList_zipIdx]
     have:=fold_put off v.cells.toList 0 cs
     simpa using this
    have hstep:Instr.fill pl cs ((i,v)::pv)=Instr.fill pl (putV cs off v.cells.toList) pv:=by
     rw [Instr.fill,hpl i _ h1]
     simp only
     rw [if_neg (by simp;omega),hfold]
    rw [hstep]
    refine fill_rep hpl parts pv _ (putRow row off xs) row' (by simpa using hl) (fun j q hq=>by simpa using hp (j+1) q (by simpa using hq)) ?_ (fun j y hj=>?_) h
    ·rw [putV_size,hs];simp [putRow];omega
    ·rw [putRow_get hc2] at hj
     rw [putV_get _ cs off j (by simp [k1];omega)]
     simp only [Array.length_toList,k1]
     split at hj
     ·rename_i hcc;rw [if_pos hcc]
      have:=k2 _ y hj
      rw [Array.getD_eq_getD_getElem?,←Array.getElem?_toList,←List.getD_eq_getElem?_getD] at this;exact this
     ·rename_i hcc;rw [if_neg hcc];exact hr j y hj
   ·cases h
  ·cases h
theorem OpJ.build {T:TypeId} {parts:Array (Nat×Operand)} {row row':List A} (ho:o.op=.build T parts) (hb:(P.built T []).isSome=true) (hz:zrow P T=some row) (hf:fillD P T row (parts.toList.map fun p=>(p.1,evO e p.2))=some row'):OpJ P st e o (.r row'):=by
 intro ρ V _ _ hu
 rw [ho] at hu
 obtain⟨it,z,h1,h2,h3,h4⟩:=zrow_rep (V:=V) hz
 have hpv:∀(j:Nat) (q:Nat×D),(parts.toList.map fun p=>(p.1,evO e p.2))[j]? = some q→∃v,(parts.toList.map fun p=>(p.1,ρ p.2))[j]? = some (q.1,v)∧RepD V q.2 v:=by
  intro j q hq
  rw [List.getElem?_map,Option.map_eq_some_iff] at hq
  obtain⟨p,hp,rfl⟩:=hq
  refine⟨ρ p.2,by rw [List.getElem?_map,hp];rfl,hu p.2 ?_⟩
  simp only [usedO,Op.operands,List.mem_map]
  exact⟨p,List.mem_of_getElem? hp,rfl⟩
 have key:∃cs',P.built T (parts.toList.map fun p=>(p.1,ρ p.2))=some cs'∧cs'.size=row'.length∧∀(j:Nat) (y:A),row'[j]? = some y→RepA V y (cs'.getD j Go.undef):=by
  have general:∀pl:Nat→Option (Nat×Nat),(∀i q,plc P T i=some q→pl i=some q)→∃cs',Instr.fill pl z.cells (parts.toList.map fun p=>(p.1,ρ p.2))=some cs'∧cs'.size=row'.length∧∀(j:Nat) (y:A),row'[j]? = some y→RepA V y (cs'.getD j Go.undef) :=
   fun pl hpl=>fill_rep hpl _ _ z.cells row row' (by simp) hpv h3 h4 hf
  unfold Program.built at hb ⊢
  unfold plc at general
  rw [h1] at hb ⊢
  split at hb
  ·rename_i it' _ e' hit hue
   injection hit with hit;subst hit
   rw [hue] at general
   simp only [h2] at hb ⊢
   cases hie:P.info? e' with
   | none=>simp [hie] at hb
   | some ie =>
    simp only [hie] at general ⊢
    exact general _ fun i q hq=>by simpa using hq
  ·rename_i it' fields hit hue
   injection hit with hit;subst hit
   rw [hue] at general
   simp only [h2] at hb ⊢
   cases hpl:fields.toList.mapM (fun f=>(P.info? f.type).map fun i=>(f.offset,i.size)) with
   | none=>simp [hpl] at hb
   | some places =>
    simp only [hpl] at general ⊢
    exact general _ fun i q hq=>by simpa using hq
  ·simp at hb
 obtain⟨cs',k1,k2,k3⟩:=key
 have hrun:=run_build (P:=P) V.w T (parts.map fun (i,x)=>(i,ρ x)) cs' (by rw [←k1];congr 1;simp)
 simp only [execOp,ho,Sem.run_bind,hrun,Result.andThen_ok,Sem.run_pure]
 have:=RepD.r (V:=V) row' cs'.toList (by simpa using k2) fun j y hj=>by
  have:=k3 j y hj
  rw [Array.getD_eq_getD_getElem?,←Array.getElem?_toList,←List.getD_eq_getElem?_getD] at this;exact this
 rw [Array.toArray_toList] at this
 exact .val this
def bndD (e:Nat→D):Option Operand→Nat→Option Nat
 | none,n=>some n
 | some x,n=>(match evO e x with
  | .a (.v (.int _ z))=>if 0≤z∧z≤n then some z.toNat else none
  | _=>none)
def lowD (e:Nat→D) (lo:Option Operand) (h:Nat):Option Nat:=match lo with|none=>some 0|some x=>bndD e (some x) h
theorem bndD_run {V:Vw} {ρ:Operand→Value} {x:Option Operand} {n m y:Nat} {c:BoundsCode} (hu:∀z,x=some z→RepD V (evO e z) (ρ z)) (h:bndD e x n=some m) (hn:n≤y) {w:World} :
  (match x.map ρ with|some v=>Instr.sliceBound v y c|none=>(pure n:Sem Nat)).run P w=.ok m w∧m≤n:=by
 cases x with
 | none=>injection h with h;subst h;exact⟨rfl,Nat.le_refl _⟩
 | some z =>
  unfold bndD at h
  simp only at h
  split at h
  ·rename_i k i hz
   split at h
   ·rename_i hc
    injection h with h;subst h
    have:=hu z rfl
    rw [hz] at this
    obtain⟨hv,_⟩:=this.v_inv
    refine⟨?_,by omega⟩
    simp only [Option.map_some,hv]
    have h2:i≤(y:Int):=by omega
    simp [Instr.sliceBound,asIntOf,Sem.run_bind,hc.1,h2]
   ·cases h
  ·cases h
theorem run_bounds {V:Vw} {ρ:Operand→Value} {lo hi:Option Operand} {isS:Bool} {len cap l h:Nat} (hlo:∀z,lo=some z→RepD V (evO e z) (ρ z)) (hhi:∀z,hi=some z→RepD V (evO e z) (ρ z)) (h1:bndD e hi len=some h) (h2:lowD e lo h=some l) (hc:len≤cap) {w:World} :
  (Instr.sliceBounds isS len cap (lo.map ρ) (hi.map ρ) none).run P w=.ok (l,h,cap) w∧h≤len∧l≤h:=by
 have hh:h≤len:=(bndD_run (P:=P) (w:=w) (c:=if isS then .sliceAcap else .sliceAlen) hhi h1 hc).2
 have k1:∀z,hi=some z→(Instr.sliceBound (ρ z) cap (if isS then .sliceAcap else .sliceAlen)).run P w=.ok h w:=fun z hz=>by
  subst hz
  exact (bndD_run (P:=P) (w:=w) (c:=if isS then .sliceAcap else .sliceAlen) hhi h1 hc).1
 have k2:∀z,lo=some z→(Instr.sliceBound (ρ z) h .sliceB).run P w=.ok l w∧l≤h:=fun z hz=>by
  subst hz
  exact bndD_run (P:=P) (w:=w) (c:=.sliceB) hlo h2 (Nat.le_refl _)
 refine⟨?_,hh,?_⟩
 ·unfold Instr.sliceBounds
  cases hi with
  | none =>
   injection h1 with h1;subst h1
   cases lo with
   | none=>injection h2 with h2;subst h2;rfl
   | some z =>
    simp only [Option.map_none,Option.map_some,Sem.run_bind,Sem.run_pure,Result.andThen_ok,Option.isSome_none,Bool.false_eq_true,if_false,(k2 z rfl).1]
  | some y =>
   cases lo with
   | none =>
    injection h2 with h2;subst h2
    simp only [Option.map_none,Option.map_some,Sem.run_bind,Sem.run_pure,Result.andThen_ok,k1 y rfl]
   | some z =>
    simp only [Option.map_none,Option.map_some,Sem.run_bind,Sem.run_pure,Result.andThen_ok,Option.isSome_none,Bool.false_eq_true,if_false,k1 y rfl,(k2 z rfl).1]
 ·cases lo with
  | none=>injection h2 with h2;omega
  | some z=>exact (k2 z rfl).2
theorem OpJ.slice_sl {T:TypeId} {x:Operand} {lo hi:Option Operand} {rows:List (List A)} {l h n:Nat} (ho:o.op=.slice T x lo hi none) (hx:evO e x=.a (.sl rows)) (hn:es P T=some n) (hrn:∀(i:Nat) (row:List A),rows[i]? = some row→row.length=n)
  (h1:bndD e hi rows.length=some h) (h2:lowD e lo h=some l):OpJ P st e o (.a (.sl ((rows.take h).drop l))):=by
 intro ρ V _ _ hu
 rw [ho] at hu
 have hx1:=hu x (by simp [usedO,Op.operands])
 rw [hx] at hx1
 have hlo:∀z,lo=some z→RepD V (evO e z) (ρ z):=fun z hz=>hu z (by subst hz;simp [usedO,Op.operands])
 have hhi:∀z,hi=some z→RepD V (evO e z) (ρ z):=fun z hz=>hu z (by subst hz;simp [usedO,Op.operands])
 simp only [execOp,ho]
 generalize ρ x=u at *
 unfold es at hn
 split at hn
 ·rename_i el hel
  cases hinfo:P.info? el with
  | none=>simp [hinfo] at hn
  | some inf =>
   simp only [hinfo,Option.map_some,Option.some.injEq] at hn
   subst hn
   have main:∀(ad:Option Addr) (c:Nat),rows.length≤c→(Instr.sliceAt T (.slice ad rows.length c) (lo.map ρ) (hi.map ρ) none).run P V.w=.ok (.slice (if c=l then ad else ad.map (·.add (l*inf.size))) (h-l) (c-l)) V.w∧h≤rows.length∧l≤h:=by
    intro ad c hc
    obtain⟨g1,g2,g3⟩:=run_bounds (P:=P) (isS:=true) (w:=V.w) hlo hhi h1 h2 hc
    refine⟨?_,g2,g3⟩
    simp only [Instr.sliceAt,Instr.slice,Sem.run_bind,run_underlying hel,Result.andThen_ok,Option.map_none,g1,sizeOf,typeInfo,run_program,hinfo,Sem.run_pure]
   cases hx1.c_inv rfl with
   | sl0 a c =>
    obtain⟨g1,g2,g3⟩:=main a c (Nat.zero_le _)
    have g1:(Instr.sliceAt T (.slice a 0 c) (lo.map ρ) (hi.map ρ) none).run P V.w=_:=g1
    simp only [Option.map_none,Sem.run_bind,g1,Result.andThen_ok,Sem.run_pure]
    simp at g2
    subst g2
    simp at g3
    subst g3
    exact .val (.a _ _ (.c _ _ (.sl0 _ _)))
   | sl _ n' b o' c val hb hm hc hlen h3 h4 =>
    obtain⟨g1,g2,g3⟩:=main (some ⟨b,o',none⟩) c hc
    simp only [Option.map_none,Sem.run_bind,g1,Result.andThen_ok,Sem.run_pure]
    by_cases hlh:l=h
    ·subst hlh
     have:(rows.take l).drop l=[]:=by rw [List.drop_eq_nil_iff];simp;omega
     rw [this,Nat.sub_self]
     exact .val (.a _ _ (.c _ _ (.sl0 _ _)))
    ·have hcl:c≠l:=by omega
     rw [if_neg hcl]
     have hne:∃row,rows[l]? = some row:=⟨_,List.getElem?_eq_getElem (by omega)⟩
     obtain⟨row0,hrow0⟩:=hne
     have hnn:n'=inf.size:=by rw [←hlen _ _ hrow0];exact hrn _ _ hrow0
     subst hnn
     have hlen2:((rows.take h).drop l).length=h-l:=by simp;omega
     have hget:∀i row,((rows.take h).drop l)[i]? = some row→rows[l+i]? = some row:=fun i row hi=>by
      rw [List.getElem?_drop] at hi
      rw [List.getElem?_take] at hi
      split at hi
      ·exact hi
      ·cases hi
     have:=RepC.sl (w:=V.w) (mu:=V.mut) ((rows.take h).drop l) inf.size b (o'+l*inf.size) (c-l) (fun i j=>val (l+i) j) hb hm (by rw [hlen2];omega) (fun i row hi=>hlen _ _ (hget i row hi)) (fun i row j y hi hj=>by
      have:=h3 _ row j y (hget i row hi) hj
      rw [Nat.add_mul,←Nat.add_assoc] at this;exact this) (fun i row j y hi hj=>h4 _ row j y (hget i row hi) hj)
     rw [hlen2] at this
     simp only [Option.map_some,Addr.add_mid]
     exact .val (.a _ _ (.c _ _ this))
 ·cases hn
theorem OpJ.slice_str {T:TypeId} {x:Operand} {lo hi:Option Operand} {s:ByteArray} {l h:Nat} (ho:o.op=.slice T x lo hi none) (hx:evO e x=.a (.v (.string s))) (hT:isStr P T=true) (h1:bndD e hi s.size=some h) (h2:lowD e lo h=some l):OpJ P st e o (.a (.v (.string (s.extract l h)))):=by
 intro ρ V _ _ hu
 rw [ho] at hu
 have hx1:=hu x (by simp [usedO,Op.operands])
 rw [hx] at hx1
 obtain⟨hx2,_⟩:=hx1.v_inv
 have hlo:∀z,lo=some z→RepD V (evO e z) (ρ z):=fun z hz=>hu z (by subst hz;simp [usedO,Op.operands])
 have hhi:∀z,hi=some z→RepD V (evO e z) (ρ z):=fun z hz=>hu z (by subst hz;simp [usedO,Op.operands])
 unfold isStr at hT
 split at hT
 ·rename_i hU
  obtain⟨g1,g2,g3⟩:=run_bounds (P:=P) (isS:=false) (w:=V.w) hlo hhi h1 h2 (Nat.le_refl _)
  have hrun:(Instr.sliceAt T (.string s) (lo.map ρ) (hi.map ρ) none).run P V.w=.ok (.string (s.extract l h)) V.w:=by
   simp only [Instr.sliceAt,Instr.slice,Sem.run_bind,run_underlying hU,Result.andThen_ok,Option.isSome_none,Bool.false_eq_true,if_false,g1,Sem.run_pure]
  simp only [execOp,ho,hx2,Option.map_none,Sem.run_bind,hrun,Result.andThen_ok,Sem.run_pure]
  exact .val (.v rfl)
 ·cases hT
/-! ### Arrays of one's own, read -/
theorem OpJ.ix_own {T:TypeId} {x i:Operand} {j ver n:Nat} {rows:List (List A)} {z:Int} {k:IntKind} (ho:o.op=.indexAddr T x i) (hx:evO e x=.a (.own j ver)) (hs:st[j]? = some (.arr ver n rows)) (hi:evO e i=.a (.v (.int k z))) (hn:es P T=some n) (h0:0≤z) (hl:z<rows.length):OpJ P st e o (.a (.ep j ver z.toNat 0)):=by
 intro ρ V hst _ hu
 rw [ho] at hu
 have h1:=hu x (by simp [usedO,Op.operands])
 have h2:=hu i (by simp [usedO,Op.operands])
 rw [hx] at h1
 rw [hi] at h2
 obtain⟨h2,_⟩:=h2.v_inv
 simp only [execOp,ho,h2]
 generalize ρ x=u at *
 subst hst
 unfold es at hn
 split at hn
 ·rename_i el hel
  cases hinfo:P.info? el with
  | none=>simp [hinfo] at hn
  | some inf =>
   simp only [hinfo,Option.map_some,Option.some.injEq] at hn
   subst hn
   cases h1 with
   | a _ _ h=>cases h with
    | c _ _ h=>cases h
    | own _ _ a l c hj hr =>
     obtain⟨_,hr⟩:=hr _ _ _ hs
     obtain⟨rfl,b,cs,T',rfl,hb,hh,hsz,hlc⟩:=hr rfl
     have hrun:(Instr.indexAt T (.slice (some ⟨b,0,none⟩) rows.length c) (.int k z)).run P V.w=.ok (.pointer (some ⟨b,z.toNat*inf.size,none⟩)) V.w:=by
      simp [Instr.indexAt,asIntOf,Sem.run_bind,run_underlying hel,sizeOf,typeInfo,hinfo,h0,hl,Addr.add_mid]
     simp only [Sem.run_bind,hrun,Result.andThen_ok,Sem.run_pure]
     refine .val (.a _ _ (.ep j ver z.toNat 0 b (z.toNat*inf.size) hj fun ver' n' rows' h'=>?_))
     rw [hs] at h';injection h' with h';injection h' with e1 e2 e3
     subst e1;subst e2
     exact⟨Nat.le_refl _,fun _=>⟨hb,by omega⟩⟩
 ·cases hn
theorem OpJ.load_ep {T:TypeId} {x:Operand} {k:Option Nat} {row:List A} {i ver n z off:Nat} {rows:List (List A)} {d:D} (ho:o.op=.load T x) (hx:evO e x=.a (.ep i ver z off)) (hs:st[i]? = some (.arr ver n rows)) (hz:rows[z]? = some row) (hk:ldk P T=some k) (hd:ldRow k row off=some d):OpJ P st e o d:=by
 intro ρ V hst hok hu
 rw [ho] at hu
 have h:=hu x (by simp [usedO,Op.operands])
 rw [hx] at h
 simp only [execOp,ho]
 generalize ρ x=u at *
 subst hst
 cases h with
 | a _ _ h=>cases h with
  | c _ _ h=>cases h
  | ep _ _ _ _ b ad hi hb =>
   obtain⟨hb3,had⟩:=(hb _ _ _ hs).2 rfl
   subst had
   obtain⟨cs,T',c,h1,h2,h3,h4,h5,h6⟩:=hok.arr i ver n rows b hs hb3
   have hrl:=h5 z row hz
   have hzl:=(List.getElem?_eq_some_iff.1 hz).1
   have hc:∀j x,row[j]? = some x→V.w.cell? ⟨b,z*n+j,none⟩=some (cs.getD (z*n+j) Go.undef):=fun j x hj=>by
    have hlt:=(List.getElem?_eq_some_iff.1 hj).1
    have:(z+1)*n≤c*n:=Nat.mul_le_mul_right n (by omega)
    rw [Nat.add_mul,Nat.one_mul] at this
    rw [cell_of_row V.w b _ cs T' (0,0) h1,Array.getD_eq_getD_getElem?,Array.getElem?_eq_getElem (by omega)];rfl
   obtain⟨v,hr,hv⟩:=run_ld (off:=off) hk hd _ hc fun j x hj=>.c _ _ (h6 z row j x hz hj)
   simp only [Sem.run_bind,hr,Result.andThen_ok,Sem.run_pure]
   exact .val hv
theorem OpJ.fa_ep {T k off off' i ver z:Nat} {x:Operand} (ho:o.op=.fieldAddr T x k) (hx:evO e x=.a (.ep i ver z off)) (hf:fo P T k=some off'):OpJ P st e o (.a (.ep i ver z (off+off'))):=by
 intro ρ V _ _ hu
 rw [ho] at hu
 have h:=hu x (by simp [usedO,Op.operands])
 rw [hx] at h
 simp only [execOp,ho]
 generalize ρ x=u at *
 cases h with
 | a _ _ h=>cases h with
  | c _ _ h=>cases h
  | ep _ _ _ _ b ad hi hb =>
   simp only [Sem.run_bind,run_foff hf,Result.andThen_ok,Sem.run_pure]
   exact .val (.a _ _ (.ep i ver z (off+off') b (ad+off') hi fun ver' n rows hs=>⟨(hb ver' n rows hs).1,fun e=>⟨((hb ver' n rows hs).2 e).1,by rw [((hb ver' n rows hs).2 e).2];omega⟩⟩))
theorem OpJ.nil_ep {x:Operand} {i ver z off:Nat} (ho:o.op=.nilCheck x) (hx:evO e x=.a (.ep i ver z off)):OpJ P st e o (.a (.ep i ver z off)):=by
 intro ρ V _ _ hu
 rw [ho] at hu
 have h:=hu x (by simp [usedO,Op.operands])
 rw [hx] at h
 simp only [execOp,ho]
 generalize ρ x=u at *
 cases h with
 | a _ _ h=>cases h with
  | c _ _ h=>cases h
  | ep _ _ _ _ b ad hi hb=>exact .val (.a _ _ (.ep i ver z off b ad hi hb))
end
def okC:Nat→Value→Value→Bool
 | 0,.bool _,.bool _=>true
 | 1,.int k _,.int k' _=>decide (k=k')
 | 2,.string _,.string _=>true
 | _,_,_=>false
def eqV:Value→Value→Bool
 | .bool x,.bool y=>x==y
 | .int _ x,.int _ y=>x==y
 | .string x,.string y=>x.toList==y.toList
 | _,_=>false
def okLs:List Nat→List Value→List Value→Bool
 | [],[],[]=>true
 | c::cs,x::xs,y::ys=>okC c x y&&okLs cs xs ys
 | _,_,_=>false
def eqLs:List Value→List Value→Bool
 | x::xs,y::ys=>eqV x y&&eqLs xs ys
 | _,_=>true
theorem okLs_len:∀{cs:List Nat} {xs ys:List Value},okLs cs xs ys=true→xs.length=cs.length∧ys.length=cs.length
 | [],[],[],_=>⟨rfl,rfl⟩
 | c::cs,x::xs,y::ys,h=>by
  simp only [okLs,Bool.and_eq_true] at h
  obtain⟨h1,h2⟩:=okLs_len h.2
  exact⟨by simp [h1],by simp [h2]⟩
 | [],_::_,_,h=>by simp [okLs] at h
 | [],[],_::_,h=>by simp [okLs] at h
 | _::_,[],_,h=>by simp [okLs] at h
 | _::_,_::_,[],h=>by simp [okLs] at h
theorem okLs_app:∀{c1 c2:List Nat} {xs ys:List Value},okLs (c1++c2) xs ys=true→okLs c1 (xs.take c1.length) (ys.take c1.length)=true∧okLs c2 (xs.drop c1.length) (ys.drop c1.length)=true∧eqLs xs ys=(eqLs (xs.take c1.length) (ys.take c1.length)&&eqLs (xs.drop c1.length) (ys.drop c1.length))
 | [],c2,xs,ys,h=>by
  refine⟨by simp [okLs],by simpa using h,?_⟩
  simp [eqLs]
 | c::c1,c2,x::xs,y::ys,h=>by
  simp only [List.cons_append,okLs,Bool.and_eq_true] at h
  obtain⟨h1,h2,h3⟩:=okLs_app h.2
  refine⟨by simp [okLs,h.1,h1],by simpa using h2,?_⟩
  simp only [eqLs,List.length_cons,List.take_succ_cons,List.drop_succ_cons,h3,Bool.and_assoc]
 | _::_,_,[],_,h=>by simp [okLs] at h
 | _::_,_,_::_,[],h=>by simp [okLs] at h
section
variable (P:Program)
def rowT (T:TypeId):Bool:=match P.underlying T with|some d=>d.isRow|none=>false
def leafsF (lf:TypeId→Option (List Nat)):List Field→Nat→Option (List Nat)
 | [],_=>some []
 | f::r,pos=>if f.name = "_"∨f.offset≠pos then none else (match lf f.type with
  | some l=>if (P.info? f.type).map (·.size)=some l.length then (leafsF lf r (pos+l.length)).map fun m=>l++m else none
  | none=>none)
def leafs:Nat→TypeId→Option (List Nat)
 | 0,_=>none
 | d+1,t=>match P.underlying t with
  | some .bool=>some [0]
  | some (.int _)=>some [1]
  | some .string=>some [2]
  | some (.struct fs)=>if P.stoodInHeld t=true then none else leafsF P (leafs d) fs.toList 0
  | some (.array n e)=>(match leafs d e with
   | some l=>if (P.info? e).map (·.size)=some l.length then some (List.replicate n l).flatten else none
   | none=>none)
  | _=>none
def wr (T:TypeId) (A:List Value):Value:=if rowT P T=true then .agg A.toArray else A.getD 0 Go.undef
end
section
variable {P:Program}
theorem run_part {T:TypeId} {n off:Nat} {A:List Value} (hu:(P.underlying T).isSome=true) (hz:(P.info? T).map (·.size)=some n) (h1:rowT P T=false→n=1) (hle:off+n≤A.length) (w:World):(part T A.toArray off).run P w=.ok (wr P T ((A.drop off).take n)) w:=by
 cases hud:P.underlying T with
 | none=>simp [hud] at hu
 | some d =>
  cases hi:P.info? T with
  | none=>simp [hi] at hz
  | some i =>
   simp only [hi,Option.map_some,Option.some.injEq] at hz
   by_cases hr:d.isRow=true
   ·have hagg:(isAgg T).run P w=.ok true w:=by
     unfold isAgg
     rw [Sem.run_bind,run_underlying hud w]
     cases d<;>simp_all
    have hw:rowT P T=true:=by simp [rowT,hud,hr]
    simp [part,Sem.run_bind,hagg,sizeOf,typeInfo,hi,hz,wr,hw,List.extract_eq_take_drop]
   ·have hw:rowT P T=false:=by simp [rowT,hud,hr]
    have hn:=h1 hw
    have hagg:(isAgg T).run P w=.ok false w:=by
     unfold isAgg
     rw [Sem.run_bind,run_underlying hud w]
     cases d<;>simp_all
    have hlt:off<A.length:=by omega
    subst hn
    have hg:wr P T ((A.drop off).take 1)=A[off]:=by
     simp only [wr,hw,Bool.false_eq_true,if_false]
     rw [List.getD_eq_getElem?_getD,List.getElem?_take_of_lt (by omega),List.getElem?_drop,Nat.add_zero,List.getElem?_eq_getElem hlt];rfl
    rw [hg]
    simp [part,Sem.run_bind,hagg,hlt]
theorem leafs_one {d:Nat} {T:TypeId} {l:List Nat} (h:leafs P d T=some l):(P.underlying T).isSome=true∧(rowT P T=false→l.length=1):=by
 cases d with
 | zero=>cases h
 | succ d =>
  unfold leafs at h
  split at h
  ·rename_i hu;injection h with h;subst h;exact⟨by simp [hu],fun _=>rfl⟩
  ·rename_i hu;injection h with h;subst h;exact⟨by simp [hu],fun _=>rfl⟩
  ·rename_i hu;injection h with h;subst h;exact⟨by simp [hu],fun _=>rfl⟩
  ·rename_i hu;exact⟨by simp [hu],fun hr=>by simp [rowT,hu] at hr⟩
  ·rename_i hu;exact⟨by simp [hu],fun hr=>by simp [rowT,hu] at hr⟩
  ·cases h
def eqElems' (d:Nat) (e:TypeId) (n:Nat) (xs ys:Array Value):List Nat→Sem Bool
 | []=>pure true
 | i::r=>do
  let a ←part e xs (i*n)
  let b ←part e ys (i*n)
  let q ←Op.equalIn d e a b
  if (!q)=true then pure false else eqElems' d e n xs ys r
theorem run_equalIn_arr (w:World) (d:Nat) (t e:TypeId) (len n:Nat) (xs ys:Array Value) (ht:P.underlying t=some (.array len e)) (hs:(sizeOf e).run P w=.ok n w) :
  (Op.equalIn (d+1) t (.agg xs) (.agg ys)).run P w=(eqElems' d e n xs ys (List.range' 0 len)).run P w:=by
 simp only [Op.equalIn,Sem.run_bind,run_underlying ht,Result.andThen_ok,hs]
 rw [Std.Legacy.Range.forIn_eq_forIn_range']
 simp only [Std.Legacy.Range.size,Nat.sub_zero,Nat.add_sub_cancel,Nat.div_one]
 generalize List.range' 0 len 1=l
 clear ht hs
 induction l generalizing w with
 | nil=>simp [eqElems']
 | cons i l ih =>
  simp only [List.forIn_cons,eqElems',Sem.run_bind]
  generalize (part e xs (i*n)).run P w=r1
  cases r1 with
  | ok a w1 =>
   simp only [Result.andThen_ok]
   generalize (part e ys (i*n)).run P w1=r2
   cases r2 with
   | ok b w2 =>
    simp only [Result.andThen_ok]
    generalize (Op.equalIn d e a b).run P w2=r3
    cases r3 with
    | ok r w3 =>
     cases r
     ·simp only [Result.andThen_ok,Bool.not_false,if_true,Sem.run_pure]
     ·simp only [Result.andThen_ok,Bool.not_true,Bool.false_eq_true,if_false,Sem.run_pure]
      exact ih w3
    | halt x w3=>simp [Result.andThen]
   | halt x w2=>simp [Result.andThen]
  | halt x w1=>simp [Result.andThen]
theorem leafs_run:∀(d:Nat) (T:TypeId) (l:List Nat),leafs P d T=some l→∀(A B:List Value),okLs l A B=true→∀w:World,(Op.equalIn d T (wr P T A) (wr P T B)).run P w=.ok (eqLs A B) w
 | 0,_,_,h,_,_,_,_=>by cases h
 | d+1,T,l,h,A,B,hok,w=>by
  have scalar:∀c,l=[c]→∃a b,A=[a]∧B=[b]∧okC c a b=true:=by
   intro c hc
   subst hc
   obtain⟨h1,h2⟩:=okLs_len hok
   match A,B,h1,h2 with
   | [a],[b],_,_=>exact⟨a,b,rfl,rfl,by simpa [okLs] using hok⟩
  unfold leafs at h
  split at h
  ·rename_i hu
   injection h with h
   obtain⟨a,b,rfl,rfl,hc⟩:=scalar 0 h.symm
   have hr:rowT P T=false:=by simp [rowT,hu]
   cases a<;>cases b<;>simp only [okC,Bool.false_eq_true] at hc
   simp only [wr,hr,Bool.false_eq_true,if_false,List.getD_cons_zero,run_equalIn_bool' w d T _ _ hu,eqLs,eqV,Bool.and_true]
  ·rename_i k hu
   injection h with h
   obtain⟨a,b,rfl,rfl,hc⟩:=scalar 1 h.symm
   have hr:rowT P T=false:=by simp [rowT,hu]
   cases a<;>cases b<;>simp only [okC,Bool.false_eq_true,decide_eq_true_iff] at hc
   subst hc
   simp only [wr,hr,Bool.false_eq_true,if_false,List.getD_cons_zero,run_equalIn_int w d T _ k _ _ hu,eqLs,eqV,Bool.and_true]
  ·rename_i hu
   injection h with h
   obtain⟨a,b,rfl,rfl,hc⟩:=scalar 2 h.symm
   have hr:rowT P T=false:=by simp [rowT,hu]
   cases a<;>cases b<;>simp only [okC,Bool.false_eq_true] at hc
   simp only [wr,hr,Bool.false_eq_true,if_false,List.getD_cons_zero,run_equalIn_string w d T _ _ hu,eqLs,eqV,Bool.and_true]
  ·rename_i fs hu
   split at h
   ·cases h
   ·rename_i hst
    have hr:rowT P T=true:=by simp [rowT,hu]
    have hf:P.fieldsOf T=fs:=by simp [Program.fieldsOf,hu]
    simp only [wr,hr,if_true]
    rw [run_equalIn_agg w d T _ _ (by rw [hf];exact hu) (by simpa using hst),hf]
    have key:∀(fs:List Field) (pos:Nat) (l:List Nat),leafsF P (leafs P d) fs pos=some l→∀(A B pA pB:List Value),pA.length=pos→pB.length=pos→okLs l A B=true→∀w:World,(Op.eqFields d (pA++A).toArray (pB++B).toArray fs).run P w=.ok (eqLs A B) w:=by
     intro fs
     induction fs with
     | nil =>
      intro pos l hl A B pA pB _ _ hok w
      injection hl with hl;subst hl
      obtain⟨h1,h2⟩:=okLs_len hok
      simp at h1 h2
      subst h1;subst h2
      simp [Op.eqFields,eqLs]
     | cons f fs ih =>
      intro pos l hl A B pA pB hA hB hok w
      unfold leafsF at hl
      split at hl
      ·cases hl
      ·rename_i hn
       split at hl
       ·rename_i l1 hl1
        split at hl
        ·rename_i hz
         rw [Option.map_eq_some_iff] at hl
         obtain⟨l2,hl2,rfl⟩:=hl
         obtain⟨k1,k2,k3⟩:=okLs_app hok
         obtain⟨g1,g2⟩:=okLs_len hok
         obtain⟨o1,o2⟩:=leafs_one hl1
         have hnm:f.name ≠ "_":=fun h=>hn (.inl h)
         have hoff:f.offset=pos:=Classical.byContradiction fun h=>hn (.inr h)
         have pAe:(part f.type (pA++A).toArray f.offset).run P w=.ok (wr P f.type (A.take l1.length)) w:=by
          rw [run_part o1 hz o2 (by rw [List.length_append,hoff,hA];rw [g1];simp) w,hoff,←hA,List.drop_left]
         have pBe:(part f.type (pB++B).toArray f.offset).run P w=.ok (wr P f.type (B.take l1.length)) w:=by
          rw [run_part o1 hz o2 (by rw [List.length_append,hoff,hB];rw [g2];simp) w,hoff,←hB,List.drop_left]
         have hrun:=leafs_run d f.type l1 hl1 _ _ k1 w
         have ih':=ih (pos+l1.length) l2 hl2 (A.drop l1.length) (B.drop l1.length) (pA++A.take l1.length) (pB++B.take l1.length) (by simp [hA,g1]) (by simp [hB,g2]) k2 w
         rw [List.append_assoc,List.take_append_drop,List.append_assoc,List.take_append_drop] at ih'
         simp only [Op.eqFields,if_pos hnm,Sem.run_bind,pAe,pBe,Result.andThen_ok,hrun,Sem.run_ite,Sem.run_pure,ih']
         rw [k3]
         cases eqLs (A.take l1.length) (B.take l1.length)<;>simp
        ·cases hl
       ·cases hl
    exact key fs.toList 0 l h A B [] [] rfl rfl hok w
  ·rename_i len el hu
   split at h
   ·rename_i l1 hl1
    split at h
    ·rename_i hz
     injection h with h;subst h
     have hr:rowT P T=true:=by simp [rowT,hu]
     simp only [wr,hr,if_true]
     have hinf:∃inf,P.info? el=some inf∧inf.size=l1.length:=by
      cases hq:P.info? el with
      | none=>simp [hq] at hz
      | some inf=>exact⟨inf,rfl,by simpa [hq] using hz⟩
     obtain⟨inf,hq,hqs⟩:=hinf
     rw [run_equalIn_arr w d T el len l1.length _ _ hu (by simp [sizeOf,typeInfo,hq,hqs])]
     obtain⟨o1,o2⟩:=leafs_one hl1
     have key:∀(m i:Nat) (A B pA pB:List Value),pA.length=i*l1.length→pB.length=i*l1.length→okLs (List.replicate m l1).flatten A B=true→∀w:World,(eqElems' d el l1.length (pA++A).toArray (pB++B).toArray (List.range' i m)).run P w=.ok (eqLs A B) w:=by
      intro m
      induction m with
      | zero =>
       intro i A B pA pB _ _ hok w
       obtain⟨h1,h2⟩:=okLs_len hok
       simp at h1 h2
       subst h1;subst h2
       simp [eqElems',eqLs]
      | succ m ih =>
       intro i A B pA pB hA hB hok w
       rw [List.replicate_succ,List.flatten_cons] at hok
       obtain⟨k1,k2,k3⟩:=okLs_app hok
       obtain⟨g1,g2⟩:=okLs_len hok
       have pAe:(part el (pA++A).toArray (i*l1.length)).run P w=.ok (wr P el (A.take l1.length)) w:=by
        rw [run_part o1 hz o2 (by rw [List.length_append,hA,g1];simp) w,←hA,List.drop_left]
       have pBe:(part el (pB++B).toArray (i*l1.length)).run P w=.ok (wr P el (B.take l1.length)) w:=by
        rw [run_part o1 hz o2 (by rw [List.length_append,hB,g2];simp) w,←hB,List.drop_left]
       have hrun:=leafs_run d el l1 hl1 _ _ k1 w
       have ih':=ih (i+1) (A.drop l1.length) (B.drop l1.length) (pA++A.take l1.length) (pB++B.take l1.length) (by rw [List.length_append,hA,List.length_take,g1,Nat.add_mul];simp) (by rw [List.length_append,hB,List.length_take,g2,Nat.add_mul];simp) k2 w
       rw [List.append_assoc,List.take_append_drop,List.append_assoc,List.take_append_drop] at ih'
       rw [List.range'_succ]
       simp only [eqElems',Sem.run_bind,pAe,pBe,Result.andThen_ok,hrun,Sem.run_ite,Sem.run_pure,ih']
       rw [k3]
       cases eqLs (A.take l1.length) (B.take l1.length)<;>simp
     have:=key len 0 A B [] [] (by simp) (by simp) hok w
     simpa using this
    ·cases h
   ·cases h
  ·cases h
def plainR:List A→Option (List Value)
 | []=>some []
 | .v x::r=>(plainR r).map fun l=>x::l
 | _::_=>none
theorem plainR_map:∀{row:List A} {l:List Value},plainR row=some l→row=l.map A.v
 | [],l,h=>by injection h with h;subst h;rfl
 | .v x::r,l,h=>by
  unfold plainR at h
  rw [Option.map_eq_some_iff] at h
  obtain⟨m,h1,rfl⟩:=h
  rw [plainR_map h1];rfl
 | .nl::_,_,h=>by cases h
 | .sl _::_,_,h=>by cases h
 | .ref _ _::_,_,h=>by cases h
 | .ptr _ _::_,_,h=>by cases h
 | .own _ _::_,_,h=>by cases h
 | .fn _ _::_,_,h=>by cases h
theorem plainR_rep {V:Vw} {row:List A} {l:List Value} {u:Value} (h:RepD V (.r row) u) (hp:plainR row=some l):u=.agg l.toArray:=by
 obtain⟨vs,rfl,hl,hr⟩:=h.r_inv
 rw [plainR_map hp] at hl hr
 simp at hl
 congr 2
 apply List.ext_getElem?
 intro j
 by_cases hj:j<l.length
 ·have:=hr j (.v l[j]) (by rw [List.getElem?_map,List.getElem?_eq_getElem hj];rfl)
  rw [List.getD_eq_getElem?_getD,List.getElem?_eq_getElem (by omega)] at this
  rw [List.getElem?_eq_getElem (by omega),List.getElem?_eq_getElem hj]
  exact congrArg some ((RepD.a _ _ this:RepD V (.a (.v l[j])) _).v_inv.1)
 ·rw [List.getElem?_eq_none (by omega),List.getElem?_eq_none (by omega)]
def eqOk (P:Program) (T:TypeId):Option (List Nat):=if rowT P T=true∧P.eqGuardType P.depth T=false then leafs P 10000 T else none
def eqR (neg:Bool) (ls:Option (List Nat)) (r1 r2:List A):Option D :=
 match ls,plainR r1,plainR r2 with
 | some l,some a,some b=>if okLs l a b=true then some (.a (.v (.bool (bif neg then !(eqLs a b) else eqLs a b)))) else none
 | _,_,_=>none
theorem OpJ.eqR {st:List Bx} {e:Nat→D} {o:Oper} {neg:Bool} {T T':TypeId} {x y:Operand} {r1 r2:List A} {d:D} (ho:o.op=.binOp (if neg=true then .neq else .eql) T x y T') (hx:evO e x=.r r1) (hy:evO e y=.r r2) (hz:eqR neg (eqOk P T) r1 r2=some d):OpJ P st e o d:=by
 intro ρ V _ _ hu
 rw [ho] at hu
 have h1:=hu x (by simp [usedO,Op.operands])
 have h2:=hu y (by simp [usedO,Op.operands])
 rw [hx] at h1
 rw [hy] at h2
 unfold Go.Proofs.YtibdalkdgjghoaaDoor.eqR at hz
 split at hz
 ·rename_i l a b hl ha hb
  split at hz
  ·rename_i hok
   injection hz with hz;subst hz
   have e1:=plainR_rep h1 ha
   have e2:=plainR_rep h2 hb
   unfold eqOk at hl
   split at hl
   ·rename_i hc
    have hrun:=leafs_run 10000 T l hl a b hok V.w
    simp only [wr,hc.1,if_true] at hrun
    simp only [execOp,ho,e1,e2,Sem.run_bind,run_eqGuard_agg V.w _ T x y _ _ hc.2,Result.andThen_ok]
    cases neg
    ·simp only [Bool.false_eq_true,if_false,run_eql_struct,hrun,Result.andThen_ok,Sem.run_pure,cond_false]
     exact .val (.v rfl)
    ·simp only [if_true,run_neq_struct,hrun,Result.andThen_ok,Sem.run_pure,cond_true]
     exact .val (.v rfl)
   ·cases hl
  ·cases hz
 ·cases hz
end
end Go.Proofs.YtibdalkdgjghoaaDoor
