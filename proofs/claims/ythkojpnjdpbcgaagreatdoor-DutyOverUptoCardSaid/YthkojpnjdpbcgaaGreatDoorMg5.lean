/- '==' of structs and arrays whose cells are numbers, texts, or truths: it is that of their cells. No program in sight. Conditions: none. -/
import Derived.Test.YthkojpnjdpbcgaaGreatDoorMg4
import Derived.Laws.StructEq
set_option linter.unusedVariables false
set_option maxRecDepth 100000
set_option maxHeartbeats 8000000
set_option linter.unusedSimpArgs false
namespace Go.Proofs.YthkojpnjdpbcgaaGreatDoor
open Go.RowKit
def okC:Nat→Value→Value→Bool
 | 0,.bool _,.bool _=>true
 | 1,.int k _,.int k' _=>decide (k=k')
 | 2,.string _,.string _=>true
 | _,_,_=>false
def eqV:Value→Value→Bool
 | .bool x,.bool y=>x==y
 | .int _ x,.int _ y=>x==y
 | .string x,.string y=>x.toList==y.toList
 | _,_=>false
def okLs:List Nat→List Value→List Value→Bool
 | [],[],[]=>true
 | c::cs,x::xs,y::ys=>okC c x y&&okLs cs xs ys
 | _,_,_=>false
def eqLs:List Value→List Value→Bool
 | x::xs,y::ys=>eqV x y&&eqLs xs ys
 | _,_=>true
theorem qd2:∀{cs:List Nat} {xs ys:List Value},okLs cs xs ys=true→xs.length=cs.length∧ys.length=cs.length
 | [],[],[],_=>⟨rfl,rfl⟩
 | c::cs,x::xs,y::ys,h=>by
  simp only [okLs,Bool.and_eq_true] at h
  obtain⟨h1,h2⟩:=qd2 h.2
  exact⟨by simp [h1],by simp [h2]⟩
 | [],_::_,_,h=>by simp [okLs] at h
 | [],[],_::_,h=>by simp [okLs] at h
 | _::_,[],_,h=>by simp [okLs] at h
 | _::_,_::_,[],h=>by simp [okLs] at h
theorem qjm:∀{c1 c2:List Nat} {xs ys:List Value},okLs (c1++c2) xs ys=true→okLs c1 (xs.take c1.length) (ys.take c1.length)=true∧okLs c2 (xs.drop c1.length) (ys.drop c1.length)=true∧eqLs xs ys=(eqLs (xs.take c1.length) (ys.take c1.length)&&eqLs (xs.drop c1.length) (ys.drop c1.length))
 | [],c2,xs,ys,h=>by
  refine⟨by simp [okLs],by simpa using h,?_⟩
  simp [eqLs]
 | c::c1,c2,x::xs,y::ys,h=>by
  simp only [List.cons_append,okLs,Bool.and_eq_true] at h
  obtain⟨h1,h2,h3⟩:=qjm h.2
  refine⟨by simp [okLs,h.1,h1],by simpa using h2,?_⟩
  simp only [eqLs,List.length_cons,List.take_succ_cons,List.drop_succ_cons,h3,Bool.and_assoc]
 | _::_,_,[],_,h=>by simp [okLs] at h
 | _::_,_,_::_,[],h=>by simp [okLs] at h
section
variable (P:Program)
def rowT (T:TypeId):Bool:=match P.underlying T with|some d=>d.isRow|none=>false
def qnl (lf:TypeId→Option (List Nat)):List Field→Nat→Option (List Nat)
 | [],_=>some []
 | f::r,pos=>if f.name = "_"∨f.offset≠pos then none else (match lf f.type with
  | some l=>if (P.info? f.type).map (·.size)=some l.length then (qnl lf r (pos+l.length)).map fun m=>l++m else none
  | none=>none)
def qk6:Nat→TypeId→Option (List Nat)
 | 0,_=>none
 | d+1,t=>match P.underlying t with
  | some .bool=>some [0]
  | some (.int _)=>some [1]
  | some .string=>some [2]
  | some (.struct fs)=>if P.stoodInHeld t=true then none else qnl P (qk6 d) fs.toList 0
  | some (.array n e)=>(match qk6 d e with
   | some l=>if (P.info? e).map (·.size)=some l.length then some (List.replicate n l).flatten else none
   | none=>none)
  | _=>none
def wr (T:TypeId) (A:List Value):Value:=if rowT P T=true then .agg A.toArray else A.getD 0 Go.undef
end
section
variable {P:Program}
theorem qgp {T:TypeId} {n off:Nat} {A:List Value} (hu:(P.underlying T).isSome=true) (hz:(P.info? T).map (·.size)=some n) (h1:rowT P T=false→n=1) (hle:off+n≤A.length) (w:World):(part T A.toArray off).run P w=.ok (wr P T ((A.drop off).take n)) w:=by
 cases hud:P.underlying T with
 | none=>simp [hud] at hu
 | some d =>
  cases hi:P.info? T with
  | none=>simp [hi] at hz
  | some i =>
   simp only [hi,Option.map_some,Option.some.injEq] at hz
   by_cases hr:d.isRow=true
   ·have hagg:(isAgg T).run P w=.ok true w:=by
     unfold isAgg
     rw [Sem.run_bind,run_underlying hud w]
     cases d<;>simp_all
    have hw:rowT P T=true:=by simp [rowT,hud,hr]
    simp [part,Sem.run_bind,hagg,sizeOf,typeInfo,hi,hz,wr,hw,List.extract_eq_take_drop]
   ·have hw:rowT P T=false:=by simp [rowT,hud,hr]
    have hn:=h1 hw
    have hagg:(isAgg T).run P w=.ok false w:=by
     unfold isAgg
     rw [Sem.run_bind,run_underlying hud w]
     cases d<;>simp_all
    have hlt:off<A.length:=by omega
    subst hn
    have hg:wr P T ((A.drop off).take 1)=A[off]:=by
     simp only [wr,hw,Bool.false_eq_true,if_false]
     rw [List.getD_eq_getElem?_getD,List.getElem?_take_of_lt (by omega),List.getElem?_drop,Nat.add_zero,List.getElem?_eq_getElem hlt];rfl
    rw [hg]
    simp [part,Sem.run_bind,hagg,hlt]
theorem qk5 {d:Nat} {T:TypeId} {l:List Nat} (h:qk6 P d T=some l):(P.underlying T).isSome=true∧(rowT P T=false→l.length=1):=by
 cases d with
 | zero=>cases h
 | succ d =>
  unfold qk6 at h
  split at h
  ·rename_i hu;injection h with h;subst h;exact⟨by simp [hu],fun _=>rfl⟩
  ·rename_i hu;injection h with h;subst h;exact⟨by simp [hu],fun _=>rfl⟩
  ·rename_i hu;injection h with h;subst h;exact⟨by simp [hu],fun _=>rfl⟩
  ·rename_i hu;exact⟨by simp [hu],fun hr=>by simp [rowT,hu] at hr⟩
  ·rename_i hu;exact⟨by simp [hu],fun hr=>by simp [rowT,hu] at hr⟩
  ·cases h
def qdd (d:Nat) (e:TypeId) (n:Nat) (xs ys:Array Value):List Nat→Sem Bool
 | []=>pure true
 | i::r=>do
  let a ←part e xs (i*n)
  let b ←part e ys (i*n)
  let q ←Op.equalIn d e a b
  if (!q)=true then pure false else qdd d e n xs ys r
theorem qg6 (w:World) (d:Nat) (t e:TypeId) (len n:Nat) (xs ys:Array Value) (ht:P.underlying t=some (.array len e)) (hs:(sizeOf e).run P w=.ok n w) :
  (Op.equalIn (d+1) t (.agg xs) (.agg ys)).run P w=(qdd d e n xs ys (List.range' 0 len)).run P w:=by
 simp only [Op.equalIn,Sem.run_bind,run_underlying ht,Result.andThen_ok,hs]
 rw [Std.Legacy.Range.forIn_eq_forIn_range']
 simp only [Std.Legacy.Range.size,Nat.sub_zero,Nat.add_sub_cancel,Nat.div_one]
 generalize List.range' 0 len 1=l
 clear ht hs
 induction l generalizing w with
 | nil=>simp [qdd]
 | cons i l ih =>
  simp only [List.forIn_cons,qdd,Sem.run_bind]
  generalize (part e xs (i*n)).run P w=r1
  cases r1 with
  | ok a w1 =>
   simp only [Result.andThen_ok]
   generalize (part e ys (i*n)).run P w1=r2
   cases r2 with
   | ok b w2 =>
    simp only [Result.andThen_ok]
    generalize (Op.equalIn d e a b).run P w2=r3
    cases r3 with
    | ok r w3 =>
     cases r
     ·simp only [Result.andThen_ok,Bool.not_false,if_true,Sem.run_pure]
     ·simp only [Result.andThen_ok,Bool.not_true,Bool.false_eq_true,if_false,Sem.run_pure]
      exact ih w3
    | halt x w3=>simp [Result.andThen]
   | halt x w2=>simp [Result.andThen]
  | halt x w1=>simp [Result.andThen]
theorem qhh:∀(d:Nat) (T:TypeId) (l:List Nat),qk6 P d T=some l→∀(A B:List Value),okLs l A B=true→∀w:World,(Op.equalIn d T (wr P T A) (wr P T B)).run P w=.ok (eqLs A B) w
 | 0,_,_,h,_,_,_,_=>by cases h
 | d+1,T,l,h,A,B,hok,w=>by
  have scalar:∀c,l=[c]→∃a b,A=[a]∧B=[b]∧okC c a b=true:=by
   intro c hc
   subst hc
   obtain⟨h1,h2⟩:=qd2 hok
   match A,B,h1,h2 with
   | [a],[b],_,_=>exact⟨a,b,rfl,rfl,by simpa [okLs] using hok⟩
  unfold qk6 at h
  split at h
  ·rename_i hu
   injection h with h
   obtain⟨a,b,rfl,rfl,hc⟩:=scalar 0 h.symm
   have hr:rowT P T=false:=by simp [rowT,hu]
   cases a<;>cases b<;>simp only [okC,Bool.false_eq_true] at hc
   simp only [wr,hr,Bool.false_eq_true,if_false,List.getD_cons_zero,run_equalIn_bool' w d T _ _ hu,eqLs,eqV,Bool.and_true]
  ·rename_i k hu
   injection h with h
   obtain⟨a,b,rfl,rfl,hc⟩:=scalar 1 h.symm
   have hr:rowT P T=false:=by simp [rowT,hu]
   cases a<;>cases b<;>simp only [okC,Bool.false_eq_true,decide_eq_true_iff] at hc
   subst hc
   simp only [wr,hr,Bool.false_eq_true,if_false,List.getD_cons_zero,run_equalIn_int w d T _ k _ _ hu,eqLs,eqV,Bool.and_true]
  ·rename_i hu
   injection h with h
   obtain⟨a,b,rfl,rfl,hc⟩:=scalar 2 h.symm
   have hr:rowT P T=false:=by simp [rowT,hu]
   cases a<;>cases b<;>simp only [okC,Bool.false_eq_true] at hc
   simp only [wr,hr,Bool.false_eq_true,if_false,List.getD_cons_zero,run_equalIn_string w d T _ _ hu,eqLs,eqV,Bool.and_true]
  ·rename_i fs hu
   split at h
   ·cases h
   ·rename_i hst
    have hr:rowT P T=true:=by simp [rowT,hu]
    have hf:P.fieldsOf T=fs:=by simp [Program.fieldsOf,hu]
    simp only [wr,hr,if_true]
    rw [run_equalIn_agg w d T _ _ (by rw [hf];exact hu) (by simpa using hst),hf]
    have key:∀(fs:List Field) (pos:Nat) (l:List Nat),qnl P (qk6 P d) fs pos=some l→∀(A B pA pB:List Value),pA.length=pos→pB.length=pos→okLs l A B=true→∀w:World,(Op.eqFields d (pA++A).toArray (pB++B).toArray fs).run P w=.ok (eqLs A B) w:=by
     intro fs
     induction fs with
     | nil =>
      intro pos l hl A B pA pB _ _ hok w
      injection hl with hl;subst hl
      obtain⟨h1,h2⟩:=qd2 hok
      simp at h1 h2
      subst h1;subst h2
      simp [Op.eqFields,eqLs]
     | cons f fs ih =>
      intro pos l hl A B pA pB hA hB hok w
      unfold qnl at hl
      split at hl
      ·cases hl
      ·rename_i hn
       split at hl
       ·rename_i l1 hl1
        split at hl
        ·rename_i hz
         rw [Option.map_eq_some_iff] at hl
         obtain⟨l2,hl2,rfl⟩:=hl
         obtain⟨k1,k2,k3⟩:=qjm hok
         obtain⟨g1,g2⟩:=qd2 hok
         obtain⟨o1,o2⟩:=qk5 hl1
         have hnm:f.name ≠ "_":=fun h=>hn (.inl h)
         have hoff:f.offset=pos:=Classical.byContradiction fun h=>hn (.inr h)
         have pAe:(part f.type (pA++A).toArray f.offset).run P w=.ok (wr P f.type (A.take l1.length)) w:=by
          rw [qgp o1 hz o2 (by rw [List.length_append,hoff,hA];rw [g1];simp) w,hoff,←hA,List.drop_left]
         have pBe:(part f.type (pB++B).toArray f.offset).run P w=.ok (wr P f.type (B.take l1.length)) w:=by
          rw [qgp o1 hz o2 (by rw [List.length_append,hoff,hB];rw [g2];simp) w,hoff,←hB,List.drop_left]
         have hrun:=qhh d f.type l1 hl1 _ _ k1 w
         have ih':=ih (pos+l1.length) l2 hl2 (A.drop l1.length) (B.drop l1.length) (pA++A.take l1.length) (pB++B.take l1.length) (by simp [hA,g1]) (by simp [hB,g2]) k2 w
         rw [List.append_assoc,List.take_append_drop,List.append_assoc,List.take_append_drop] at ih'
         simp only [Op.eqFields,if_pos hnm,Sem.run_bind,pAe,pBe,Result.andThen_ok,hrun,Sem.run_ite,Sem.run_pure,ih']
         rw [k3]
         cases eqLs (A.take l1.length) (B.take l1.length)<;>simp
        ·cases hl
       ·cases hl
    exact key fs.toList 0 l h A B [] [] rfl rfl hok w
  ·rename_i len el hu
   split at h
   ·rename_i l1 hl1
    split at h
    ·rename_i hz
     injection h with h;subst h
     have hr:rowT P T=true:=by simp [rowT,hu]
     simp only [wr,hr,if_true]
     have hinf:∃inf,P.info? el=some inf∧inf.size=l1.length:=by
      cases hq:P.info? el with
      | none=>simp [hq] at hz
      | some inf=>exact⟨inf,rfl,by simpa [hq] using hz⟩
     obtain⟨inf,hq,hqs⟩:=hinf
     rw [qg6 w d T el len l1.length _ _ hu (by simp [sizeOf,typeInfo,hq,hqs])]
     obtain⟨o1,o2⟩:=qk5 hl1
     have key:∀(m i:Nat) (A B pA pB:List Value),pA.length=i*l1.length→pB.length=i*l1.length→okLs (List.replicate m l1).flatten A B=true→∀w:World,(qdd d el l1.length (pA++A).toArray (pB++B).toArray (List.range' i m)).run P w=.ok (eqLs A B) w:=by
      intro m
      induction m with
      | zero =>
       intro i A B pA pB _ _ hok w
       obtain⟨h1,h2⟩:=qd2 hok
       simp at h1 h2
       subst h1;subst h2
       simp [qdd,eqLs]
      | succ m ih =>
       intro i A B pA pB hA hB hok w
       rw [List.replicate_succ,List.flatten_cons] at hok
       obtain⟨k1,k2,k3⟩:=qjm hok
       obtain⟨g1,g2⟩:=qd2 hok
       have pAe:(part el (pA++A).toArray (i*l1.length)).run P w=.ok (wr P el (A.take l1.length)) w:=by
        rw [qgp o1 hz o2 (by rw [List.length_append,hA,g1];simp) w,←hA,List.drop_left]
       have pBe:(part el (pB++B).toArray (i*l1.length)).run P w=.ok (wr P el (B.take l1.length)) w:=by
        rw [qgp o1 hz o2 (by rw [List.length_append,hB,g2];simp) w,←hB,List.drop_left]
       have hrun:=qhh d el l1 hl1 _ _ k1 w
       have ih':=ih (i+1) (A.drop l1.length) (B.drop l1.length) (pA++A.take l1.length) (pB++B.take l1.length) (by rw [List.length_append,hA,List.length_take,g1,Nat.add_mul];simp) (by rw [List.length_append,hB,List.length_take,g2,Nat.add_mul];simp) k2 w
       rw [List.append_assoc,List.take_append_drop,List.append_assoc,List.take_append_drop] at ih'
       rw [List.range'_succ]
       simp only [qdd,Sem.run_bind,pAe,pBe,Result.andThen_ok,hrun,Sem.run_ite,Sem.run_pure,ih']
       rw [k3]
       cases eqLs (A.take l1.length) (B.take l1.length)<;>simp
     have:=key len 0 A B [] [] (by simp) (by simp) hok w
     simpa using this
    ·cases h
   ·cases h
  ·cases h
def qha:List A→Option (List Value)
 | []=>some []
 | .v x::r=>(qha r).map fun l=>x::l
 | _::_=>none
theorem qij:∀{row:List A} {l:List Value},qha row=some l→row=l.map A.v
 | [],l,h=>by injection h with h;subst h;rfl
 | .v x::r,l,h=>by
  unfold qha at h
  rw [Option.map_eq_some_iff] at h
  obtain⟨m,h1,rfl⟩:=h
  rw [qij h1];rfl
 | .nl::_,_,h=>by cases h
 | .sl _::_,_,h=>by cases h
 | .ref _ _::_,_,h=>by cases h
 | .ptr _ _::_,_,h=>by cases h
 | .own _ _::_,_,h=>by cases h
 | .fn _ _::_,_,h=>by cases h
theorem qii {V:Vw} {row:List A} {l:List Value} {u:Value} (h:RepD V (.r row) u) (hp:qha row=some l):u=.agg l.toArray:=by
 obtain⟨vs,rfl,hl,hr⟩:=h.r_inv
 rw [qij hp] at hl hr
 simp at hl
 congr 2
 apply List.ext_getElem?
 intro j
 by_cases hj:j<l.length
 ·have:=hr j (.v l[j]) (by rw [List.getElem?_map,List.getElem?_eq_getElem hj];rfl)
  rw [List.getD_eq_getElem?_getD,List.getElem?_eq_getElem (by omega)] at this
  rw [List.getElem?_eq_getElem (by omega),List.getElem?_eq_getElem hj]
  exact congrArg some ((RepD.a _ _ this:RepD V (.a (.v l[j])) _).v_inv.1)
 ·rw [List.getElem?_eq_none (by omega),List.getElem?_eq_none (by omega)]
def eqOk (P:Program) (T:TypeId):Option (List Nat):=if rowT P T=true∧P.eqGuardType P.depth T=false then qk6 P 10000 T else none
def eqR (neg:Bool) (ls:Option (List Nat)) (r1 r2:List A):Option D :=
 match ls,qha r1,qha r2 with
 | some l,some a,some b=>if okLs l a b=true then some (.a (.v (.bool (bif neg then !(eqLs a b) else eqLs a b)))) else none
 | _,_,_=>none
theorem OpJ.eqR {st:List Bx} {e:Nat→D} {o:Oper} {neg:Bool} {T T':TypeId} {x y:Operand} {r1 r2:List A} {d:D} (ho:o.op=.binOp (if neg=true then .neq else .eql) T x y T') (hx:evO e x=.r r1) (hy:evO e y=.r r2) (hz:eqR neg (eqOk P T) r1 r2=some d):OpJ P st e o d:=by
 intro ρ V _ _ hu
 rw [ho] at hu
 have h1:=hu x (by simp [qac,Op.operands])
 have h2:=hu y (by simp [qac,Op.operands])
 rw [hx] at h1
 rw [hy] at h2
 unfold Go.Proofs.YthkojpnjdpbcgaaGreatDoor.eqR at hz
 split at hz
 ·rename_i l a b hl ha hb
  split at hz
  ·rename_i hok
   injection hz with hz;subst hz
   have e1:=qii h1 ha
   have e2:=qii h2 hb
   unfold eqOk at hl
   split at hl
   ·rename_i hc
    have hrun:=qhh 10000 T l hl a b hok V.w
    simp only [wr,hc.1,if_true] at hrun
    simp only [execOp,ho,e1,e2,Sem.run_bind,run_eqGuard_agg V.w _ T x y _ _ hc.2,Result.andThen_ok]
    cases neg
    ·simp only [Bool.false_eq_true,if_false,run_eql_struct,hrun,Result.andThen_ok,Sem.run_pure,cond_false]
     exact .val (.v rfl)
    ·simp only [if_true,run_neq_struct,hrun,Result.andThen_ok,Sem.run_pure,cond_true]
     exact .val (.v rfl)
   ·cases hl
  ·cases hz
 ·cases hz
end
end Go.Proofs.YthkojpnjdpbcgaaGreatDoor
