/- Slices of cells of one's own: made of an array in a cell, their length. No program in sight. Conditions: none. -/
import Derived.Test.YthkojpnjdpbcgaaGreatDoorMl12
set_option linter.unusedVariables false
set_option maxRecDepth 100000
set_option maxHeartbeats 8000000
set_option linter.unusedSimpArgs false
namespace Go.Proofs.YthkojpnjdpbcgaaGreatDoor
open Go.RowKit
section
variable {P:Program} {st:List Bx} {e:Nat→D} {o:Oper}
theorem OpJ.sliceC {T:TypeId} {x:Operand} {i off len sz:Nat} (ho:o.op=.slice T x none none none) (hx:evO e x=.a (.ptr i off)) (ha:ar P T=some (len,sz)) (h0:0<len):OpJ P st e o (.a (.cs i off len)):=by
 intro ρ V _ _ hu
 rw [ho] at hu
 have hx1:=hu x (by simp [qad,Op.operands])
 rw [hx] at hx1
 have hno:∀z,(none:Option Operand)=some z→RepD V (evO e z) (ρ z):=fun z hz=>by cases hz
 simp only [execOp,ho]
 generalize ρ x=u at *
 unfold ar at ha
 split at ha
 ·rename_i len' el hel
  cases hinfo:P.info? el with
  | none=>simp [hinfo] at ha
  | some inf =>
   simp only [hinfo,Option.map_some,Option.some.injEq,Prod.mk.injEq] at ha
   obtain⟨rfl,rfl⟩:=ha
   obtain⟨g1,g2,g3,g4⟩:=qgw (P:=P) (e:=e) (w:=V.w) hno hno hno (fun h=>by cases h) (show bndD e none len'=some len' from rfl) (show bndD e none len'=some len' from rfl) (show lowD e none len'=some 0 from rfl)
   cases hx1 with
   | a _ _ h=>cases h with
    | c _ _ h=>cases h
    | ptr _ _ b hi hb =>
     have main:(Instr.sliceAt T (.pointer (some ⟨b,off,none⟩)) (none:Option Value) none none).run P V.w=.ok (.slice (some ⟨b,off,none⟩) len' len') V.w:=by
      rw [Option.map_none] at g1
      simp only [Instr.sliceAt,Sem.run_bind,run_underlying hel,Result.andThen_ok,Instr.sureAddr,Sem.run_pure,g1,sizeOf,typeInfo,run_program,hinfo]
      rw [if_neg (by omega)]
      simp [Addr.add]
     simp only [Option.map_none,Sem.run_bind,main,Result.andThen_ok,Sem.run_pure]
     exact .val (.a _ _ (.cs i off _ b hi hb))
 ·cases ha
theorem OpJ.lenC {x:Operand} {T:TypeId} {i off n:Nat} (ho:o.op=.call ⟨.builtin .len,#[x],#[T]⟩) (hx:evO e x=.a (.cs i off n)) (hT:isSl P T=true):OpJ P st e o (.a (.v (.int .i64 n))):=by
 intro ρ V _ _ hu
 rw [ho] at hu
 have h1:=hu x (by simp [qad,Op.operands,Call.operands])
 rw [hx] at h1
 have key:∃a,ρ x=.slice a n n:=by
  generalize ρ x=u at *
  cases h1 with
  | a _ _ h=>cases h with
   | c _ _ h=>cases h
   | cs _ _ _ b hi hb=>exact⟨_,rfl⟩
 obtain⟨a,key⟩:=key
 unfold isSl at hT
 split at hT
 ·rename_i el hU
  simp [execOp,ho,resolve,invoke,builtin,Builtin.len_,Sem.run_bind,run_underlying hU,key,goInt]
  exact .val (V:=V) (v:=.int .i64 _) (.v rfl)
 ·cases hT
end
section
variable {P:Program} {C:Cx P} {ops:Array Oper} {r:List Oper} {e:Nat→D} {st:List Bx} {dst:Option Nat} {ty T:TypeId} {pos:String} {after:Array Edge} {K:(Nat→D)→List Bx→Prop} {KQ:(Nat→D)→Prop} {guard:Option (Nat×Bool)} {i off len sz n m:Nat} {x:Operand} {σ:List Nat}
@[go_sem] theorem unA_cs:unA σ (.cs i off n)=.cs (σ.idxOf i) off n:=rfl
@[go_sem] theorem inA_cs:inA σ (.cs i off n)=σ.contains i:=rfl
theorem RQ.sC (h:RQ P ops st r (putE e dst (.a (.cs i off len))) KQ) (hx:evO e x=.a (.ptr i off):=by (simp only [go_sem,simprocAttr,fx])<;>rfl) (ha:ar P T=some (len,sz):=by (simp only [go_sem])<;>rfl) (h0:0<len:=by decide):RQ P ops st (⟨dst,.slice T x none none none,ty,pos,after,guard⟩::r) e KQ :=
 ⟨_,.of (OpJ.sliceC rfl hx ha h0),h⟩
theorem RS.lC (h:RS C ops r (putE e dst (.a (.v (.int .i64 n)))) st K) (hx:evO e x=.a (.cs i off n):=by (simp only [go_sem,simprocAttr,fx])<;>rfl) (hT:isSl P T=true:=by simp only [go_sem]):RS C ops (⟨dst,.call ⟨.builtin .len,⟨[x]⟩,⟨[T]⟩⟩,ty,pos,after,guard⟩::r) e st K :=
 .inl ⟨_,st,.inr ⟨rfl,.of (OpJ.lenC rfl hx hT)⟩,h⟩
end
theorem qjw {n:Nat} (hn:0<n):∀(rows:List (List A)),(∀(k:Nat) (row:List A),rows[k]? = some row→row.length=n)→∀(q:Nat) (y:A),rows.flatten[q]? = some y→∃row,rows[q / n]? = some row∧row[q % n]? = some y
 | [],_,q,y,h=>by simp at h
 | r::rest,hl,q,y,h=>by
  have hr:r.length=n:=hl 0 r rfl
  rw [List.flatten_cons,List.getElem?_append] at h
  split at h
  ·rename_i hq
   rw [hr] at hq
   exact⟨r,by rw [Nat.div_eq_of_lt hq];rfl,by rw [Nat.mod_eq_of_lt hq];exact h⟩
  ·rename_i hq
   rw [hr] at hq h
   obtain⟨row,h1,h2⟩:=qjw hn rest (fun k row hk=>hl (k+1) row (by simpa using hk)) (q-n) y h
   have hqn:q=(q-n)+n:=by omega
   refine⟨row,?_,?_⟩
   ·rw [hqn,Nat.add_div_right _ hn];simpa using h1
   ·rw [hqn,Nat.add_mod_right];exact h2
theorem qjv {n:Nat}:∀(rows:List (List A)),(∀(k:Nat) (row:List A),rows[k]? = some row→row.length=n)→rows.flatten.length=rows.length*n
 | [],_=>by simp
 | r::rest,hl=>by
  rw [List.flatten_cons,List.length_append,hl 0 r rfl,qjv rest (fun k row hk=>hl (k+1) row (by simpa using hk)),List.length_cons,Nat.add_mul,Nat.one_mul,Nat.add_comm]
section
variable {P:Program} {st:List Bx} {e:Nat→D} {o:Oper}
theorem OpG.copyC {d s:Operand} {T:TypeId} {i off len n:Nat} {row:List A} {rows:List (List A)} (ho:o.op=.call ⟨.builtin .copy,#[d,s],#[T,T]⟩) (hd:evO e d=.a (.cs i off len)) (hs:st[i]? = some (.cell row)) (hx:qb2 st (evO e s)=some rows) (hn:es P T=some n) (hn0:0<n) (hl2:qay n rows=true) (hle:off+len*n≤row.length) :
  OpG P st e o (.a (.v (.int .i64 (min rows.length len:Nat)))) (st.set i (.cell (qah row off (rows.take (min rows.length len)).flatten))):=by
 intro ρ V hst hok hu
 rw [ho] at hu
 have h1:=hu d (by simp [qad,Op.operands,Call.operands])
 have h2:=hu s (by simp [qad,Op.operands,Call.operands])
 rw [hd] at h1
 subst hst
 have hl2':=qd9 hl2
 have hrun0:(execOp ρ o).run P V.w=((Builtin.copy_ #[T,T] o.type #[ρ d,ρ s]).run P V.w).andThen fun v w=>.ok (.value v) w:=by
  simp only [execOp,ho,resolve,invoke,builtin,Sem.run_bind,Sem.run_pure,Result.andThen_ok,List.map_toArray,List.map_cons,List.map_nil]
 rw [hrun0]
 generalize ρ d=ud at h1
 generalize ρ s=us at h2
 unfold es at hn
 split at hn
 ·rename_i el hel
  cases hinfo:P.info? el with
  | none=>simp [hinfo] at hn
  | some inf =>
   simp only [hinfo,Option.map_some,Option.some.injEq] at hn
   obtain⟨ao,c2,news,rfl,n1,n2,n3,n4⟩:=qck hok h2 hx hn0 hl2'
   cases h1 with
   | a _ _ h=>cases h with
    | c _ _ h=>cases h
    | cs _ _ _ b hi hb =>
     obtain⟨cs,T',k1,k2,k3⟩:=hok.cell i row b hs (hb row hs)
     obtain⟨m,hm⟩:∃m,m=min rows.length len:=⟨_,rfl⟩
     rw [←hm]
     have hmr:m≤rows.length:=by omega
     have hml:m≤len:=by omega
     have hmn:m*n≤rows.length*n:=Nat.mul_le_mul_right n hmr
     have hmn2:m*n≤len*n:=Nat.mul_le_mul_right n hml
     have htl:(news.take (m*n)).length=m*n:=by rw [List.length_take,n1];omega
     have hfc:(Builtin.firstCells inf.size m (.slice ao rows.length c2)).run P V.w=.ok (news.take (m*n)).toArray V.w:=by
      rcases n4 with ⟨rfl,h4⟩|⟨a,rfl,h4⟩
      ·subst h4
       have:m=0:=by simpa using hmr
       subst this
       simp [Builtin.firstCells]
      ·refine run_firstCells_some (P:=P) V.w inf.size m a rows.length c2 _ (by rw [htl,hn]) fun j v hj=>h4 j v ?_
       rw [List.getElem?_take] at hj
       split at hj
       ·exact hj
       ·cases hj
     have hput:(storeCells ⟨b,off,none⟩ (news.take (m*n))).run P V.w=.ok () (V.w.setRow b (putV cs off (news.take (m*n)))):=by
      rw [qbm,Nat.add_zero]
      exact qgu b T' _ off cs V.w k1 (by rw [htl,k2];omega) fun v hv=>n2 v (List.mem_of_mem_take hv)
     have hrun:(Builtin.copy_ #[T,T] o.type #[.slice (some ⟨b,off,none⟩) len len,.slice ao rows.length c2]).run P V.w=.ok (goInt m) (V.w.setRow b (putV cs off (news.take (m*n)))):=by
      have hmin:Nat.min rows.length len=m:=hm.symm
      simp [Builtin.copy_,run_underlying hel,Builtin.lenOf,sizeOf,typeInfo,hinfo,hmin,hfc,hput]
     rw [hrun,Result.andThen_ok]
     have htr:∀(k:Nat) (row:List A),(rows.take m)[k]? = some row→row.length=n:=fun k row hk=>by
      rw [List.getElem?_take] at hk
      split at hk
      ·exact hl2' k row hk
      ·cases hk
     have hfl:(rows.take m).flatten.length=m*n:=by rw [qjv _ htr,List.length_take];congr 1;omega
     refine .val (.set hok hs (hb row hs) k1 k2 k3 (by rw [htl,hfl]) (fun j y hj=>?_) (by rw [hfl];omega)) (.a _ _ (.c _ _ (.v _ rfl)))
     obtain⟨row',g1,g2⟩:=qjw hn0 _ htr j y hj
     have hjl:j<m*n:=by have:=(List.getElem?_eq_some_iff.1 hj).1;rwa [hfl] at this
     have g1':rows[j / n]? = some row':=by
      rw [List.getElem?_take] at g1
      split at g1
      ·exact g1
      ·cases g1
     have:=n3 _ row' _ y g1' g2
     rw [show j / n*n+j % n=j from Nat.div_add_mod' j n] at this
     have h5:(news.take (m*n)).getD j Go.undef=news.getD j Go.undef:=by
      rw [List.getD_eq_getElem?_getD,List.getElem?_take_of_lt hjl,←List.getD_eq_getElem?_getD]
     rw [h5]
     exact .c _ _ this
 ·cases hn
end
section
variable {P:Program} {C:Cx P} {ops:Array Oper} {r:List Oper} {e:Nat→D} {st st':List Bx} {dst:Option Nat} {ty T:TypeId} {pos:String} {after:Array Edge} {K:(Nat→D)→List Bx→Prop} {i off len n:Nat} {row:List A} {rows:List (List A)} {d s:Operand}
@[go_sem] theorem evQ_copy {q:Array TypeId} {xs:Array Operand} {guard:Option (Nat×Bool)}:evQ P st e ⟨dst,.call ⟨.builtin .copy,xs,q⟩,ty,pos,after,guard⟩=none:=rfl
@[go_sem] theorem evG_copy {q:Array TypeId} {xs:Array Operand} {guard:Option (Nat×Bool)}:evG P st e ⟨dst,.call ⟨.builtin .copy,xs,q⟩,ty,pos,after,guard⟩=none:=rfl
@[go_sem] theorem slD_ptr {lo hi:Option Operand} {j:Nat}:slD P T e lo hi (.a (.ptr j off))=none:=rfl
@[go_sem] theorem lenS_cs:lenS P st T (.a (.cs i off len))=none:=by unfold lenS;split<;>simp_all [lenD]
theorem RS.cC (h:RS C ops r (putE e dst (.a (.v (.int .i64 (min rows.length len:Nat))))) (st.set i (.cell (qah row off (rows.take (min rows.length len)).flatten))) K) (hd:evO e d=.a (.cs i off len):=by (simp only [go_sem,simprocAttr,fx])<;>rfl) (hs:st[i]? = some (.cell row):=by (simp only [go_sem,simprocAttr,fx])<;>rfl) (hx:qb2 st (evO e s)=some rows:=by (simp only [go_sem,simprocAttr,fx])<;>rfl) (hn:es P T=some n:=by (simp only [go_sem])<;>rfl) (hn0:0<n:=by decide) (hl2:qay n rows=true:=by simp only [go_sem,simprocAttr,fx]) (hle:off+len*n≤row.length:=by simp only [go_sem,simprocAttr,fx]):RS C ops (⟨dst,.call ⟨.builtin .copy,⟨[d,s]⟩,⟨[T,T]⟩⟩,ty,pos,after,none⟩::r) e st K :=
 .inl ⟨_,_,.inl ⟨rfl,OpG.copyC rfl hd hs hx hn hn0 hl2 hle⟩,h⟩
end
end Go.Proofs.YthkojpnjdpbcgaaGreatDoor
