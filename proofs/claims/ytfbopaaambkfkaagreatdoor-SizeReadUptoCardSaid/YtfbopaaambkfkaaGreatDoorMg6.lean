/- Operations carried out on plain data by reckoning. No program in sight. Conditions: none. -/
import Derived.Test.YtfbopaaambkfkaaGreatDoorMg5
set_option linter.unusedVariables false
set_option maxRecDepth 100000
set_option maxHeartbeats 8000000
set_option linter.unusedSimpArgs false
namespace Go.Proofs.YtfbopaaambkfkaaGreatDoor
open Go.RowKit
def szo (P:Program) (T:TypeId):Option Nat:=(P.info? T).map (·.size)
def byt (P:Program) (T:TypeId):Option Nat :=
 match P.underlying T with
 | some (.slice e)=>(P.info? e).map (·.bytes)
 | _=>none
def zrT (P:Program) (T:TypeId):Option (List A) :=
 match P.underlying T with
 | some (.slice e)=>zrow P e
 | _=>none
def qjj:D→D→D→Option D
 | .a (.v (.bool a)),.a (.v (.bool b)),.a (.v (.bool d))=>some (.a (.v (.bool (bif a then b else d))))
 | _,_,_=>none
def ldD (st:List Bx) (k:Option (Option Nat)):D→Option D
 | .a (.ref row off)=>k.bind fun k=>qap k row off
 | .a (.ptr i off)=>(match st[i]? with
  | some (.cell row)=>k.bind fun k=>qap k row off
  | _=>none)
 | .a (.ep i ver z off)=>(match st[i]? with
  | some (.arr ver' _ rows)=>if ver=ver' then (rows[z]?).bind fun row=>k.bind fun k=>qap k row off else none
  | _=>none)
 | _=>none
def bin2 (b:Bool) (ls:Option (List Nat)) (op:BinOp):D→D→Option D
 | .a (.v x),.a (.v y)=>(qc9 b op x y).map fun z=>.a (.v z)
 | .r r1,.r r2=>(match op with|.eql=>eqR false ls r1 r2|.neq=>eqR true ls r1 r2|_=>none)
 | _,_=>none
def un1 (op:UnOp):D→Option D
 | .a (.v x)=>(evUn op x).map fun z=>.a (.v z)
 | _=>none
def faD (o:Option Nat):D→Option D
 | .a (.ref row off)=>o.map fun o=>.a (.ref row (off+o))
 | .a (.ptr i off)=>o.map fun o=>.a (.ptr i (off+o))
 | .a (.ep i ver z off)=>o.map fun o=>.a (.ep i ver z (off+o))
 | _=>none
def ixD (n:Option Nat) (ar:Option (Nat×Nat)):D→D→Option D
 | .a (.sl rows),.a (.v (.int _ z))=>if 0≤z∧z<rows.length∧n=some (rows.getD z.toNat []).length then some (.a (.ref (rows.getD z.toNat []) 0)) else none
 | .a (.ref row off),.a (.v (.int _ z))=>(match ar with
  | some (len,sz)=>if 0≤z∧z<len then some (.a (.ref row (off+z.toNat*sz))) else none
  | none=>none)
 | .a (.ptr j off),.a (.v (.int _ z))=>(match ar with
  | some (len,sz)=>if 0≤z∧z<len then some (.a (.ptr j (off+z.toNat*sz))) else none
  | none=>none)
 | _,_=>none
def mxD (g:Bool):D→D→Option D
 | .a (.v (.int k a)),.a (.v (.int _ b))=>some (.a (.v (.int k (bif g then max a b else min a b))))
 | _,_=>none
def chD (b:Bool):D→D→Option D
 | .a (.v (.string s)),.a (.v (.int _ z))=>(match s.data.toList[z.toNat]? with
  | some c=>if b=true∧0≤z then some (.a (.v (.int .u8 c.toNat))) else none
  | none=>none)
 | _,_=>none
def fdD (q:Option (Nat×Option Nat)):D→Option D
 | .r row=>q.bind fun p=>qap p.2 row p.1
 | _=>none
def capD:List D→Option (List A)
 | []=>some []
 | .a x::r=>(capD r).map fun l=>x::l
 | _::_=>none
def bOk (P:Program) (T:TypeId):Bool:=(P.built T []).isSome
def buD (P:Program) (T:TypeId) (parts:List (Nat×D)):Option D:=if bOk P T=true then (zrow P T).bind fun row=>(qha P T row parts).map D.r else none
def qc1 (n:Nat) (rows:List (List A)):Bool:=rows.all fun r=>r.length==n
def slD (P:Program) (T:TypeId) (e:Nat→D) (lo hi:Option Operand):D→Option D
 | .a (.sl rows)=>(match es P T with
  | some n=>if qc1 n rows=true then (bndD e hi rows.length).bind fun h=>(lowD e lo h).map fun l=>D.a (.sl ((rows.take h).drop l)) else none
  | none=>none)
 | .a (.v (.string s))=>if qis P T=true then (bndD e hi s.size).bind fun h=>(lowD e lo h).map fun l=>D.a (.v (.string (s.extract l h))) else none
 | _=>none
def exD (k:Nat):D→Option D
 | .t ds=>ds[k]?
 | _=>none
def nilD:D→Option D
 | .a (.ref row off)=>some (.a (.ref row off))
 | .a (.ptr i off)=>some (.a (.ptr i off))
 | .a (.ep i ver z off)=>some (.a (.ep i ver z off))
 | _=>none
def ixS (st:List Bx) (n:Option Nat) (ar:Option (Nat×Nat)):D→D→Option D
 | .a (.own i ver),.a (.v (.int _ z))=>(match st[i]? with
  | some (.arr ver' n' rows)=>if ver=ver'∧0≤z∧z<rows.length∧n=some n' then some (.a (.ep i ver z.toNat 0)) else none
  | _=>none)
 | x,i=>ixD n ar x i
def lenS (P:Program) (st:List Bx) (T:TypeId):D→Option D
 | .a (.v (.string s))=>if qis P T=true then some (.a (.v (.int .i64 s.size))) else none
 | d=>if isSl P T=true then (lenD st d).map fun (n:Nat)=>D.a (.v (.int .i64 (n:Int))) else none
def evQ (P:Program) (st:List Bx) (e:Nat→D) (o:Oper):Option D :=
 match o.op with
 | .move x=>some (evO e x)
 | .assign x=>some (evO e x)
 | .pick c x y=>qjj (evO e c) (evO e x) (evO e y)
 | .load T x=>ldD st (ldk P T) (evO e x)
 | .binOp op T x y _=>bin2 (qcn P T) (eqOk P T) op (evO e x) (evO e y)
 | .unOp op _ x=>un1 op (evO e x)
 | .fieldAddr T x k=>faD (fo P T k) (evO e x)
 | .indexAddr T x i=>ixS st (es P T) (ar P T) (evO e x) (evO e i)
 | .extract x k=>exD k (evO e x)
 | .nilCheck x=>nilD (evO e x)
 | .call ⟨.builtin .len,⟨[x]⟩,⟨[T]⟩⟩=>lenS P st T (evO e x)
 | .call ⟨.builtin .max,⟨[x,y]⟩,_⟩=>mxD true (evO e x) (evO e y)
 | .call ⟨.builtin .min,⟨[x,y]⟩,_⟩=>mxD false (evO e x) (evO e y)
 | .index T x i=>chD (qis P T) (evO e x) (evO e i)
 | .field T x k=>fdD (fo2 P T k) (evO e x)
 | .makeFunc (.func f) ⟨[]⟩ ⟨caps⟩=>(capD (caps.map (evO e))).map fun l=>.a (.fn f l)
 | .build T ⟨parts⟩=>buD P T (parts.map fun p=>(p.1,evO e p.2))
 | .slice T x lo hi none=>slD P T e lo hi (evO e x)
 | _=>none
theorem qmh:∀{l:List D} {xs:List A},capD l=some xs→l=xs.map D.a
 | [],xs,h=>by injection h with h;subst h;rfl
 | .a x::r,xs,h=>by
  unfold capD at h
  rw [Option.map_eq_some_iff] at h
  obtain⟨l,h1,rfl⟩:=h
  rw [qmh h1];rfl
 | .junk::_,_,h=>by cases h
 | .undef::_,_,h=>by cases h
 | .r _::_,_,h=>by cases h
 | .t _::_,_,h=>by cases h
theorem qdg {P:Program} {st:List Bx} {e:Nat→D} {o:Oper} {d:D} (h:evQ P st e o=some d):OpJ P st e o d:=by
 obtain⟨dst,op,ty,pos,after,guard⟩:=o
 unfold evQ at h
 simp only at h
 split at h
 ·injection h with h;subst h;exact .move rfl
 ·injection h with h;subst h;exact .assign rfl
 ·rename_i c x y
  unfold qjj at h
  split at h
  ·rename_i hc hx hy
   injection h with h;subst h;exact .pick rfl hc hx hy
  ·cases h
 ·rename_i T x
  unfold ldD at h
  split at h
  ·rename_i row off hx
   rw [Option.bind_eq_some_iff] at h
   obtain⟨k,h1,h2⟩:=h
   exact .load_ref rfl hx h1 h2
  ·rename_i i off hx
   split at h
   ·rename_i row hs
    rw [Option.bind_eq_some_iff] at h
    obtain⟨k,h1,h2⟩:=h
    exact .load_ptr rfl hx hs h1 h2
   ·cases h
  ·rename_i i ver z off hx
   split at h
   ·rename_i ver' n rows hs
    split at h
    ·rename_i hv
     subst hv
     rw [Option.bind_eq_some_iff] at h
     obtain⟨row,h0,h⟩:=h
     rw [Option.bind_eq_some_iff] at h
     obtain⟨k,h1,h2⟩:=h
     exact .load_ep rfl hx hs h0 h1 h2
    ·cases h
   ·cases h
  ·cases h
 ·rename_i op T x y T'
  unfold bin2 at h
  split at h
  ·rename_i u v hx hy
   rw [Option.map_eq_some_iff] at h
   obtain⟨z,h1,rfl⟩:=h
   exact .bin rfl hx hy h1
  ·rename_i r1 r2 hx hy
   split at h
   ·exact .eqR (neg:=false) (T:=T) (T':=T') rfl hx hy h
   ·exact .eqR (neg:=true) (T:=T) (T':=T') rfl hx hy h
   ·cases h
  ·cases h
 ·rename_i op T x
  unfold un1 at h
  split at h
  ·rename_i u hx
   rw [Option.map_eq_some_iff] at h
   obtain⟨z,h1,rfl⟩:=h
   exact .un (T:=T) rfl hx h1
  ·cases h
 ·rename_i T x k
  unfold faD at h
  split at h
  ·rename_i row off hx
   rw [Option.map_eq_some_iff] at h
   obtain⟨z,h1,rfl⟩:=h
   exact .fa_ref rfl hx h1
  ·rename_i i off hx
   rw [Option.map_eq_some_iff] at h
   obtain⟨z,h1,rfl⟩:=h
   exact .fa_ptr rfl hx h1
  ·rename_i i ver z off hx
   rw [Option.map_eq_some_iff] at h
   obtain⟨o,h1,rfl⟩:=h
   exact .fa_ep rfl hx h1
  ·cases h
 ·rename_i T x i
  unfold ixS at h
  split at h
  ·rename_i j ver k z hx hi
   split at h
   ·rename_i ver' n rows hs
    split at h
    ·rename_i hc
     obtain⟨rfl,hc⟩:=hc
     injection h with h;subst h
     exact .ix_own rfl hx hs hi hc.2.2 hc.1 hc.2.1
    ·cases h
   ·cases h
  unfold ixD at h
  split at h
  ·rename_i rows k z hx hi
   split at h
   ·rename_i hc
    injection h with h;subst h
    exact .index_sl rfl hx hi hc.2.2 hc.1 hc.2.1 rfl
   ·cases h
  ·rename_i row off k z hx hi
   split at h
   ·rename_i len sz ha
    split at h
    ·rename_i hc
     injection h with h;subst h
     exact .arr_ref rfl hx hi ha hc.1 hc.2
    ·cases h
   ·cases h
  ·rename_i j off k z hx hi
   split at h
   ·rename_i len sz ha
    split at h
    ·rename_i hc
     injection h with h;subst h
     exact .arr_ptr rfl hx hi ha hc.1 hc.2
    ·cases h
   ·cases h
  ·cases h
 ·rename_i x k
  unfold exD at h
  split at h
  ·rename_i ds hx
   exact .extract rfl (by rw [hx];intro h;cases h) hx h
  ·cases h
 ·rename_i x
  unfold nilD at h
  split at h
  ·rename_i row off hx
   injection h with h;subst h;exact .nil_ref rfl hx
  ·rename_i i off hx
   injection h with h;subst h;exact .nil_ptr rfl hx
  ·rename_i i ver z off hx
   injection h with h;subst h;exact .nil_ep rfl hx
  ·cases h
 ·rename_i x T
  unfold lenS at h
  split at h
  ·rename_i s hx
   split at h
   ·rename_i hT
    injection h with h;subst h;exact .len_str (T:=T) rfl hx hT
   ·cases h
  ·split at h
   ·rename_i hT
    rw [Option.map_eq_some_iff] at h
    obtain⟨n,h1,rfl⟩:=h
    exact .len_sl (T:=T) rfl h1 hT
   ·cases h
 ·rename_i x y tys
  unfold mxD at h
  split at h
  ·rename_i k a k' b hx hy
   injection h with h;subst h
   exact .mx rfl hx hy
  ·cases h
 ·rename_i x y tys
  unfold mxD at h
  split at h
  ·rename_i k a k' b hx hy
   injection h with h;subst h
   exact .mn rfl hx hy
  ·cases h
 ·rename_i T x i
  unfold chD at h
  split at h
  ·rename_i s k z hx hi
   split at h
   ·rename_i c hc
    split at h
    ·rename_i hb
     injection h with h;subst h
     exact .index_str rfl hx hi hb.1 hb.2 hc
    ·cases h
   ·cases h
  ·cases h
 ·rename_i T x k
  unfold fdD at h
  split at h
  ·rename_i row hx
   rw [Option.bind_eq_some_iff] at h
   obtain⟨p,h1,h2⟩:=h
   exact .field rfl hx h1 h2
  ·cases h
 ·rename_i f caps
  rw [Option.map_eq_some_iff] at h
  obtain⟨l,h1,rfl⟩:=h
  exact .makeFunc rfl (qmh h1)
 ·rename_i T parts
  unfold buD at h
  split at h
  ·rename_i hb
   rw [Option.bind_eq_some_iff] at h
   obtain⟨row,h1,h2⟩:=h
   rw [Option.map_eq_some_iff] at h2
   obtain⟨row',h2,rfl⟩:=h2
   exact .build rfl hb h1 h2
  ·cases h
 ·rename_i T x lo hi
  unfold slD at h
  split at h
  ·rename_i rows hx
   split at h
   ·rename_i n hn
    split at h
    ·rename_i hl
     rw [Option.bind_eq_some_iff] at h
     obtain⟨hh,h1,h2⟩:=h
     rw [Option.map_eq_some_iff] at h2
     obtain⟨l,h2,rfl⟩:=h2
     exact .slice_sl rfl hx hn (fun i row hi=>by have:=List.all_eq_true.1 hl row (lm4 hi);simpa using this) h1 h2
    ·cases h
   ·cases h
  ·rename_i s hx
   split at h
   ·rename_i hT
    rw [Option.bind_eq_some_iff] at h
    obtain⟨hh,h1,h2⟩:=h
    rw [Option.map_eq_some_iff] at h2
    obtain⟨l,h2,rfl⟩:=h2
    exact .slice_str rfl hx hT h1 h2
   ·cases h
  ·cases h
 ·cases h
def stoD (st:List Bx) (z:Option Nat):D→Option (List A)→Option (D×List Bx)
 | .a (.ptr i off),some xs=>(match st[i]? with
  | some (.cell row)=>if z=some xs.length∧off+xs.length≤row.length then some (.undef,st.set i (.cell (qak row off xs))) else none
  | _=>none)
 | _,_=>none
def boxD (st:List Bx):Option (List A)→Option (D×List Bx)
 | some xs=>some (.a (.ptr st.length 0),st++[.cell xs])
 | none=>none
def nlz:Option (List A)→Option (List A)
 | some [.sl []]=>some [.nl]
 | x=>x
def qh6 (P:Program) (T:TypeId):Option (List A):=bif isSl P T then nlz (zrow P T) else zrow P T
def evG (P:Program) (st:List Bx) (e:Nat→D) (o:Oper):Option (D×List Bx) :=
 match o.op with
 | .box _ x=>boxD st (qbn (evO e x))
 | .alloc T=>boxD st (qh6 P T)
 | .store T x y=>stoD st (szo P T) (evO e x) (qbn (evO e y))
 | _=>none
theorem zA_slI {v:Value} (h:zA v=some (.sl [])):v=.slice none 0 0:=by
 unfold zA at h
 split at h
 ·rfl
 ·split at h
  ·injection h with h;cases h
  ·cases h
theorem mapM_nl {vs:List Value} (h:vs.mapM zA=some [.sl []]):vs=[.slice none 0 0]:=by
 cases vs with
 | nil=>simp at h
 | cons v r =>
  rw [List.mapM_cons] at h
  cases hv:zA v with
  | none=>simp [hv] at h
  | some y =>
   cases hr:r.mapM zA with
   | none=>simp [hv,hr] at h
   | some ys =>
    simp [hv,hr] at h
    obtain⟨rfl,rfl⟩:=h
    rw [zA_slI hv]
    cases r with
    | nil=>rfl
    | cons a b =>
     have:=(qgb (V:=⟨default,fun _=>False,[],[]⟩) hr).1
     simp at this
theorem OpG.allocA {P:Program} {st:List Bx} {e:Nat→D} {o:Oper} {T:TypeId} {row:List A} (ho:o.op=.alloc T) (hz:qh6 P T=some row):OpG P st e o (.a (.ptr st.length 0)) (st++[.cell row]):=by
 unfold qh6 at hz
 cases hs:isSl P T with
 | false=>rw [hs] at hz;exact .alloc ho hz
 | true =>
  rw [hs] at hz
  simp only [cond_true] at hz
  unfold nlz at hz
  split at hz
  ·rename_i x hz0
   injection hz with hz;subst hz
   intro ρ V hst hok _
   unfold zrow at hz0
   cases h1:P.info? T with
   | none=>simp [h1] at hz0
   | some i =>
    cases h2:i.zero with
    | none=>simp [h1,h2] at hz0
    | some z =>
     simp only [h1,h2,Option.bind_some] at hz0
     have hc:=mapM_nl hz0
     have hrun:(execOp ρ o).run P V.w=.ok (.value (.pointer (some ⟨V.w.heap.size,0,none⟩))) (V.w.alloc (.cells z.cells T)):=by
      have hzv:(zeroValue T).run P V.w=.ok z V.w:=by simp [zeroValue,typeInfo,h1,h2]
      simp only [execOp,ho,Instr.alloc,Sem.run_bind,hzv,Result.andThen_ok];rfl
     rw [hrun]
     subst hst
     have hz2:z.cells = #[.slice none 0 0]:=by rw [←Array.toArray_toList (xs:=z.cells),hc]
     refine⟨_,.push hok _ T [.nl] (by rw [hz2];rfl) (fun j y hj=>?_),.a _ _ (qif hok _ _)⟩
     cases j with
     | zero=>injection hj with hj;subst hj;rw [hz2];exact .c _ _ .nl
     | succ j=>simp at hj
  ·exact .alloc ho hz
theorem qcy {P:Program} {st st':List Bx} {e:Nat→D} {o:Oper} {d:D} (h:evG P st e o=some (d,st')):OpG P st e o d st':=by
 obtain⟨dst,op,ty,pos,after,guard⟩:=o
 unfold evG at h
 simp only at h
 split at h
 ·rename_i T x
  unfold boxD at h
  split at h
  ·rename_i xs hx
   injection h with h;injection h with h1 h2;subst h1;subst h2
   exact .box (T:=T) rfl hx
  ·cases h
 ·rename_i T
  unfold boxD at h
  split at h
  ·rename_i xs hx
   injection h with h;injection h with h1 h2;subst h1;subst h2
   exact .allocA rfl hx
  ·cases h
 ·rename_i T x y
  unfold stoD at h
  split at h
  ·rename_i i off xs hx hy
   split at h
   ·rename_i row hs
    split at h
    ·rename_i hc
     injection h with h;injection h with h1 h2;subst h1;subst h2
     exact .store rfl hx hs hy hc.1 hc.2
    ·cases h
   ·cases h
  ·cases h
 ·cases h
theorem qcb.of {ops:Array Oper} {e:Nat→D} {o:Oper} {p:Prop} (h:p):qcb ops e o p:=by
 unfold qcb
 split
 ·exact h
 ·split
  ·exact fun _=>h
  ·trivial
  ·exact h
def contQ (P:Program) (st:List Bx) (k:(Nat→D)→(Nat→D)×List Oper) (o:Oper) (r:List Oper) (e:Nat→D):Option D→(Nat→D)×List Oper
 | some d=>k (putE e o.dst d)
 | none=>(e,o::r)
def runQ (P:Program) (st:List Bx):List Oper→(Nat→D)→(Nat→D)×List Oper
 | [],e=>(e,[])
 | o::r,e=>contQ P st (runQ P st r) o r e (evQ P st e o)
theorem RQ.run' {P:Program} {ops:Array Oper} {st:List Bx} {K:(Nat→D)→Prop}:∀{l:List Oper} {e e':Nat→D} {l':List Oper},runQ P st l e=(e',l')→RQ P ops st l' e' K→RQ P ops st l e K
 | [],e,e',l',h,hr=>by injection h with h1 h2;subst h1;subst h2;exact hr
 | o::r,e,e',l',h,hr=>by
  rw [runQ] at h
  cases hv:evQ P st e o with
  | none=>rw [hv] at h;injection h with h1 h2;subst h1;subst h2;exact hr
  | some d=>rw [hv] at h;exact⟨d,.of (qdg hv),RQ.run' h hr⟩
inductive Go2 where
 | q (d:D)
 | g (p:D×List Bx)
 | no
def ev2 (g:Option (Nat×Bool)):Option D→Option (D×List Bx)→Go2
 | some d,_=>.q d
 | none,some p=>(match g with|none=>.g p|some _=>.no)
 | none,none=>.no
def contS (P:Program) (k:(Nat→D)→List Bx→(Nat→D)×List Bx×List Oper) (o:Oper) (r:List Oper) (e:Nat→D) (st:List Bx):Go2→(Nat→D)×List Bx×List Oper
 | .q d=>k (putE e o.dst d) st
 | .g p=>k (putE e o.dst p.1) p.2
 | .no=>(e,st,o::r)
def runS (P:Program):List Oper→(Nat→D)→List Bx→(Nat→D)×List Bx×List Oper
 | [],e,st=>(e,st,[])
 | o::r,e,st=>contS P (runS P r) o r e st (ev2 o.guard (evQ P st e o) (evG P st e o))
theorem RS.run' {P:Program} {C:Cx P} {ops:Array Oper} {K:(Nat→D)→List Bx→Prop}:∀{l:List Oper} {e e':Nat→D} {st st':List Bx} {l':List Oper},runS P l e st=(e',st',l')→RS C ops l' e' st' K→RS C ops l e st K
 | [],e,e',st,st',l',h,hr=>by injection h with h1 h2;injection h2 with h2 h3;subst h1;subst h2;subst h3;exact hr
 | o::r,e,e',st,st',l',h,hr=>by
  rw [runS] at h
  cases hv:evQ P st e o with
  | some d=>rw [hv] at h;exact .inl ⟨d,st,.inr ⟨rfl,.of (qdg hv)⟩,RS.run' h hr⟩
  | none =>
   rw [hv] at h
   cases hg:evG P st e o with
   | none=>rw [hg] at h;injection h with h1 h2;injection h2 with h2 h3;subst h1;subst h2;subst h3;exact hr
   | some p =>
    rw [hg] at h
    cases hgu:o.guard with
    | none=>rw [hgu] at h;exact .inl ⟨p.1,p.2,.inl ⟨hgu,qcy hg⟩,RS.run' h hr⟩
    | some g=>rw [hgu] at h;injection h with h1 h2;injection h2 with h2 h3;subst h1;subst h2;subst h3;exact hr
section
variable {P:Program} {C:Cx P} {ops:Array Oper} {st:List Bx} {e:Nat→D} {r:List Oper} {dst:Option Nat} {ty:TypeId} {pos:String} {after:Array Edge} {guard:Option (Nat×Bool)} {ds:List D} {d:D}
theorem RS.call {K:(Nat→D)→List Bx→Prop} {f:FuncId} {xs:List Operand} {tys:Array TypeId} (hx:xs.map (evO e)=ds) (hc:ds.all clD=true) (hp:qaa P f ds d) (h:RS C ops r (putE e dst d) st K):RS C ops (⟨dst,.call ⟨.value (.func f),⟨xs⟩,tys⟩,ty,pos,after,guard⟩::r) e st K :=
 .inl ⟨d,st,.inr ⟨rfl,.of (.call rfl hx hc hp)⟩,h⟩
theorem RQ.call {K:(Nat→D)→Prop} {f:FuncId} {xs:List Operand} {tys:Array TypeId} (hx:xs.map (evO e)=ds) (hc:ds.all clD=true) (hp:qaa P f ds d) (h:RQ P ops st r (putE e dst d) K):RQ P ops st (⟨dst,.call ⟨.value (.func f),⟨xs⟩,tys⟩,ty,pos,after,guard⟩::r) e K :=
 ⟨d,.of (.call rfl hx hc hp),h⟩
theorem RS.callv {K:(Nat→D)→List Bx→Prop} {f:FuncId} {y:Operand} {caps:List A} {xs:List Operand} {tys:Array TypeId} (hy:evO e y=.a (.fn f caps)) (hx:xs.map (evO e)++caps.map D.a=ds) (hc:ds.all clD=true) (hp:qaa P f ds d) (h:RS C ops r (putE e dst d) st K):RS C ops (⟨dst,.call ⟨.value y,⟨xs⟩,tys⟩,ty,pos,after,guard⟩::r) e st K :=
 .inl ⟨d,st,.inr ⟨rfl,.of (.callv rfl hy hx hc hp)⟩,h⟩
end
section
variable {P:Program} {C:Cx P} {n:Nat} {Q:Exit→(Nat→D)→List Bx→Prop} {N:(Nat→D)→List Bx→Prop} {e e':Nat→D} {st:List Bx} {ops:Array Oper} {ks:List Nat}
theorem RS.fin (he:qbd e ks=e') (h:Q .normal e' st):RS C ops [] e st fun e' st'=>Q .normal (qbd e' ks) st':=by subst he;exact h
theorem WP.reg {id:Nat} {l:List Oper} (ks:List Nat) (hs:qhi ⟨l⟩ n=true) (hk:ksOk ⟨l⟩ ks=true) (h:RS C ⟨l⟩ l e st fun e' st'=>Q .normal (qbd e' ks) st'):WP C n (.region id ⟨l⟩ false) Q e st:=WP.region ks hs hk h
theorem WP.drw {id:Nat} {l:List Oper} (m:Nat) (ks:List Nat) (hd:qhx ⟨l⟩ n m=true) (hms:decide (m≤l.length)=true) (hk:ksOk ⟨l⟩ ks=true) (hmix:P.follows .mixedOrders=true)
  (h:RQ P ⟨l⟩ st (l.take m) e fun e'=>RS C ⟨l⟩ (l.drop m) e' st fun e'' st''=>Q .normal (qbd e'' ks) st''):WP C n (.region id ⟨l⟩ true) Q e st:=WP.draw m ks hd (of_decide_eq_true hms) hk hmix h
end
/-! ### What the reckoning turns to -/
section
variable {P:Program} {st:List Bx} {e:Nat→D} {dst:Option Nat} {ty:TypeId} {pos:String} {after:Array Edge} {guard:Option (Nat×Bool)} {x y c i:Operand} {T T':TypeId} {k:Nat} {d:D} {o:Oper} {r:List Oper}
@[go_sem] theorem evQ_move:evQ P st e ⟨dst,.move x,ty,pos,after,guard⟩=some (evO e x):=rfl
@[go_sem] theorem evQ_assign:evQ P st e ⟨dst,.assign x,ty,pos,after,guard⟩=some (evO e x):=rfl
@[go_sem] theorem evQ_pick:evQ P st e ⟨dst,.pick c x y,ty,pos,after,guard⟩=qjj (evO e c) (evO e x) (evO e y):=rfl
@[go_sem] theorem evQ_load:evQ P st e ⟨dst,.load T x,ty,pos,after,guard⟩=ldD st (ldk P T) (evO e x):=rfl
@[go_sem] theorem evQ_bin {op:BinOp}:evQ P st e ⟨dst,.binOp op T x y T',ty,pos,after,guard⟩=bin2 (qcn P T) (eqOk P T) op (evO e x) (evO e y):=rfl
@[go_sem] theorem evQ_un {op:UnOp}:evQ P st e ⟨dst,.unOp op T x,ty,pos,after,guard⟩=un1 op (evO e x):=rfl
@[go_sem] theorem evQ_fa:evQ P st e ⟨dst,.fieldAddr T x k,ty,pos,after,guard⟩=faD (fo P T k) (evO e x):=rfl
@[go_sem] theorem evQ_ix:evQ P st e ⟨dst,.indexAddr T x i,ty,pos,after,guard⟩=ixS st (es P T) (ar P T) (evO e x) (evO e i):=rfl
@[go_sem] theorem ixS_sl {n:Option Nat} {ar:Option (Nat×Nat)} {rows:List (List A)}:ixS st n ar (.a (.sl rows)) d=ixD n ar (.a (.sl rows)) d:=rfl
@[go_sem] theorem ixS_ref {n:Option Nat} {ar:Option (Nat×Nat)} {row:List A} {off:Nat}:ixS st n ar (.a (.ref row off)) d=ixD n ar (.a (.ref row off)) d:=rfl
@[go_sem] theorem ixS_ptr {n:Option Nat} {ar:Option (Nat×Nat)} {j off:Nat}:ixS st n ar (.a (.ptr j off)) d=ixD n ar (.a (.ptr j off)) d:=rfl
@[go_sem] theorem ldD_ep {q:Option (Option Nat)} {j ver z off:Nat}:ldD st q (.a (.ep j ver z off))=(match st[j]? with|some (.arr ver' _ rows)=>if ver=ver' then (rows[z]?).bind fun row=>q.bind fun k=>qap k row off else none|_=>none):=rfl
theorem qet {n m:Nat} {q2:Option (Nat×Nat)} {i ver:Nat} {rows:List (List A)} {q:IntKind} {z:Int} {j:Nat} (hs:st[i]? = some (.arr ver n rows)) (hz:z=j) (hj:j<rows.length) (hm:m=n):ixS st (some m) q2 (.a (.own i ver)) (.a (.v (.int q z)))=some (.a (.ep i ver j 0)):=by
 subst hz;subst hm
 simp only [ixS,hs,Int.toNat_natCast]
 rw [if_pos ⟨trivial,by omega,by omega,trivial⟩]
@[go_sem] theorem evQ_ex:evQ P st e ⟨dst,.extract x k,ty,pos,after,guard⟩=exD k (evO e x):=rfl
@[go_sem] theorem evQ_nc:evQ P st e ⟨dst,.nilCheck x,ty,pos,after,guard⟩=nilD (evO e x):=rfl
@[go_sem] theorem evQ_len:evQ P st e ⟨dst,.call ⟨.builtin .len,⟨[x]⟩,⟨[T]⟩⟩,ty,pos,after,guard⟩=lenS P st T (evO e x):=rfl
@[go_sem] theorem evQ_max {tys:Array TypeId}:evQ P st e ⟨dst,.call ⟨.builtin .max,⟨[x,y]⟩,tys⟩,ty,pos,after,guard⟩=mxD true (evO e x) (evO e y):=rfl
@[go_sem] theorem evQ_min {tys:Array TypeId}:evQ P st e ⟨dst,.call ⟨.builtin .min,⟨[x,y]⟩,tys⟩,ty,pos,after,guard⟩=mxD false (evO e x) (evO e y):=rfl
@[go_sem] theorem evQ_field:evQ P st e ⟨dst,.field T x k,ty,pos,after,guard⟩=fdD (fo2 P T k) (evO e x):=rfl
@[go_sem] theorem evQ_makeFunc {f:FuncId} {caps:List Operand}:evQ P st e ⟨dst,.makeFunc (.func f) ⟨[]⟩ ⟨caps⟩,ty,pos,after,guard⟩=(capD (caps.map (evO e))).map fun l=>.a (.fn f l):=rfl
@[go_sem] theorem evQ_build {parts:List (Nat×Operand)}:evQ P st e ⟨dst,.build T ⟨parts⟩,ty,pos,after,guard⟩=buD P T (parts.map fun p=>(p.1,evO e p.2)):=rfl
@[go_sem] theorem evQ_slice {lo hi:Option Operand}:evQ P st e ⟨dst,.slice T x lo hi none,ty,pos,after,guard⟩=slD P T e lo hi (evO e x):=rfl
@[go_sem] theorem mxD_t {q q':IntKind} {a b:Int}:mxD true (.a (.v (.int q a))) (.a (.v (.int q' b)))=some (.a (.v (.int q (max a b)))):=rfl
@[go_sem] theorem mxD_f {q q':IntKind} {a b:Int}:mxD false (.a (.v (.int q a))) (.a (.v (.int q' b)))=some (.a (.v (.int q (min a b)))):=rfl
@[go_sem] theorem fdD_r {off:Nat} {l:Option Nat} {row:List A}:fdD (some (off,l)) (.r row)=qap l row off:=rfl
@[go_sem] theorem capD_n:capD []=some []:=rfl
@[go_sem] theorem capD_c {z:A} {l:List D}:capD (.a z::l)=(capD l).map fun l=>z::l:=rfl
@[go_sem] theorem ixD_ref {n:Option Nat} {len sz off:Nat} {row:List A} {q:IntKind} {z:Int}:ixD n (some (len,sz)) (.a (.ref row off)) (.a (.v (.int q z)))=if 0≤z∧z<len then some (.a (.ref row (off+z.toNat*sz))) else none:=rfl
@[go_sem] theorem ixD_ptr {n:Option Nat} {len sz off j:Nat} {q:IntKind} {z:Int}:ixD n (some (len,sz)) (.a (.ptr j off)) (.a (.v (.int q z)))=if 0≤z∧z<len then some (.a (.ptr j (off+z.toNat*sz))) else none:=rfl
@[go_sem] theorem buD_t {parts:List (Nat×D)} (h:bOk P T=true):buD P T parts=(zrow P T).bind fun row=>(qha P T row parts).map D.r:=if_pos h
@[go_sem] theorem fillD_n {row:List A}:qha P T row []=some row:=rfl
@[go_sem] theorem fillD_c {row:List A} {j:Nat} {parts:List (Nat×D)}:qha P T row ((j,d)::parts)=(match plc P T j,qbn d with|some (off,n),some xs=>if xs.length=n∧off+n≤row.length then qha P T (qak row off xs) parts else none|_,_=>none):=rfl
@[go_sem] theorem evQ_call {f:FuncId} {xs:List Operand} {tys:Array TypeId}:evQ P st e ⟨dst,.call ⟨.value x,⟨xs⟩,tys⟩,ty,pos,after,guard⟩=none:=rfl
@[go_sem] theorem evQ_box:evQ P st e ⟨dst,.box T x,ty,pos,after,guard⟩=none:=rfl
@[go_sem] theorem evQ_alloc:evQ P st e ⟨dst,.alloc T,ty,pos,after,guard⟩=none:=rfl
@[go_sem] theorem evQ_store:evQ P st e ⟨dst,.store T x y,ty,pos,after,guard⟩=none:=rfl
@[go_sem] theorem evG_box:evG P st e ⟨dst,.box T x,ty,pos,after,guard⟩=boxD st (qbn (evO e x)):=rfl
@[go_sem] theorem evG_alloc:evG P st e ⟨dst,.alloc T,ty,pos,after,guard⟩=boxD st (qh6 P T):=rfl
@[go_sem] theorem zrowA_t:qh6 P T=bif isSl P T then nlz (zrow P T) else zrow P T:=rfl
@[go_sem] theorem nlz_s:nlz (some [.sl []])=some [.nl]:=rfl
@[go_sem] theorem evG_store:evG P st e ⟨dst,.store T x y,ty,pos,after,guard⟩=stoD st (szo P T) (evO e x) (qbn (evO e y)):=rfl
@[go_sem] theorem evG_call {f:FuncId} {xs:List Operand} {tys:Array TypeId}:evG P st e ⟨dst,.call ⟨.value x,⟨xs⟩,tys⟩,ty,pos,after,guard⟩=none:=rfl
@[go_sem] theorem contQ_some {k:(Nat→D)→(Nat→D)×List Oper}:contQ P st k o r e (some d)=k (putE e o.dst d):=rfl
@[go_sem] theorem contQ_none {k:(Nat→D)→(Nat→D)×List Oper}:contQ P st k o r e none=(e,o::r):=rfl
@[go_sem] theorem runQ_nil:runQ P st [] e=(e,[]):=rfl
@[go_sem] theorem runQ_cons:runQ P st (o::r) e=contQ P st (runQ P st r) o r e (evQ P st e o):=rfl
@[go_sem] theorem ev2_q {g:Option (Nat×Bool)} {p:Option (D×List Bx)}:ev2 g (some d) p=.q d:=rfl
@[go_sem] theorem ev2_g {p:D×List Bx}:ev2 none none (some p)=.g p:=rfl
@[go_sem] theorem ev2_n {g:Option (Nat×Bool)}:ev2 g none none=.no:=rfl
@[go_sem] theorem contS_q {k:(Nat→D)→List Bx→(Nat→D)×List Bx×List Oper}:contS P k o r e st (.q d)=k (putE e o.dst d) st:=rfl
@[go_sem] theorem contS_g {k:(Nat→D)→List Bx→(Nat→D)×List Bx×List Oper} {st':List Bx}:contS P k o r e st (.g (d,st'))=k (putE e o.dst d) st':=rfl
@[go_sem] theorem contS_no {k:(Nat→D)→List Bx→(Nat→D)×List Bx×List Oper}:contS P k o r e st .no=(e,st,o::r):=rfl
@[go_sem] theorem runS_nil:runS P [] e st=(e,st,[]):=rfl
@[go_sem] theorem runS_cons:runS P (o::r) e st=contS P (runS P r) o r e st (ev2 o.guard (evQ P st e o) (evG P st e o)):=rfl
@[go_sem] theorem putE_s {t:Nat}:putE e (some t) d=upd e t d:=rfl
@[go_sem] theorem putE_n:putE e none d=e:=rfl
@[go_sem] theorem upd_eq {t:Nat}:upd e t d t=d:=if_pos rfl
@[go_sem] theorem upd_ne {t t':Nat} (h:t'≠t):upd e t d t'=e t':=if_neg h
@[go_sem] theorem evO_tmp {t:Nat}:evO e (.tmp t)=e t:=rfl
@[go_sem] theorem evO_int {q:IntKind} {z:Int}:evO e (.const (.int q z))=.a (.v (.int q z)):=rfl
@[go_sem] theorem evO_bool {z:Bool}:evO e (.const (.bool z))=.a (.v (.bool z)):=rfl
@[go_sem] theorem evO_str {z:ByteArray}:evO e (.const (.string z))=.a (.v (.string z)):=rfl
@[go_sem] theorem evO_nl:evO e (.const (.slice none 0 0))=.a .nl:=rfl
@[go_sem] theorem evO_agg {l:List Value}:evO e (.const (.agg ⟨l⟩))=aggD (l.mapM zA):=rfl
@[go_sem] theorem mapM_zn:List.mapM zA []=some []:=rfl
@[go_sem] theorem mapM_zc {v:Value} {l:List Value}:List.mapM zA (v::l)=(zA v).bind fun y=>(l.mapM zA).map fun r=>y::r:=by
 rw [List.mapM_cons]
 cases zA v with
 | none=>rfl
 | some y=>cases l.mapM zA<;>rfl
@[go_sem] theorem zA_i {k:IntKind} {z:Int}:zA (.int k z)=some (.v (.int k z)):=rfl
@[go_sem] theorem zA_st {z:ByteArray}:zA (.string z)=some (.v (.string z)):=rfl
@[go_sem] theorem zA_sl:zA (.slice none 0 0)=some (.sl []):=rfl
@[go_sem] theorem aggD_s {r:List A}:aggD (some r)=.r r:=rfl
@[go_sem] theorem evO_fn {f:FuncId}:evO e (.func f)=.a (.fn f []):=rfl
@[go_sem] theorem pick3_b {a b c:Bool}:qjj (.a (.v (.bool a))) (.a (.v (.bool b))) (.a (.v (.bool c)))=some (.a (.v (.bool (bif a then b else c)))):=rfl
@[go_sem] theorem ldD_ref {k:Option Nat} {row:List A} {off:Nat}:ldD st (some k) (.a (.ref row off))=qap k row off:=rfl
@[go_sem] theorem ldD_ptr {q:Option (Option Nat)} {i off:Nat}:ldD st q (.a (.ptr i off))=(match st[i]? with|some (.cell row)=>q.bind fun k=>qap k row off|_=>none):=rfl
@[go_sem] theorem bin2_r {b:Bool} {ls:Option (List Nat)} {r1 r2:List A}:bin2 b ls .eql (.r r1) (.r r2)=eqR false ls r1 r2:=rfl
@[go_sem] theorem bin2_rn {b:Bool} {ls:Option (List Nat)} {r1 r2:List A}:bin2 b ls .neq (.r r1) (.r r2)=eqR true ls r1 r2:=rfl
@[go_sem] theorem bin2_v {b:Bool} {ls:Option (List Nat)} {op:BinOp} {u v:Value}:bin2 b ls op (.a (.v u)) (.a (.v v))=(qc9 b op u v).map fun z=>.a (.v z):=rfl
@[go_sem] theorem un1_v {op:UnOp} {u:Value}:un1 op (.a (.v u))=(evUn op u).map fun z=>.a (.v z):=rfl
@[go_sem] theorem faD_ref {q:Nat} {row:List A} {off:Nat}:faD (some q) (.a (.ref row off))=some (.a (.ref row (off+q))):=rfl
@[go_sem] theorem faD_ptr {q i off:Nat}:faD (some q) (.a (.ptr i off))=some (.a (.ptr i (off+q))):=rfl
theorem qca {n:Nat} {row:List A} (h:row.length=n):qap (some n) row 0=some (.r row):=by
 show (if 0+n≤row.length then some (D.r ((row.drop 0).take n)) else none)=_
 rw [if_pos (by omega),List.drop_zero,List.take_of_length_le (by omega)]
theorem qbf {row xs:List A} (h:xs.length=row.length):qak row 0 xs=xs:=by
 unfold qak
 rw [List.take_zero,List.nil_append,Nat.zero_add,h,List.drop_length,List.append_nil]
theorem qar {n:Nat} {rows:List (List A)} {row:List A} {q:IntKind} {z:Int} {j:Nat} (hz:z=j) (hr:rows[j]? = some row) (hn:row.length=n) {q2:Option (Nat×Nat)}:ixD (some n) q2 (.a (.sl rows)) (.a (.v (.int q z)))=some (.a (.ref row 0)):=by
 subst hz
 have hj:=(List.getElem?_eq_some_iff.1 hr).1
 have hd:rows.getD j []=row:=by rw [List.getD_eq_getElem?_getD,hr];rfl
 simp only [ixD,Int.toNat_natCast,hd,hn]
 rw [if_pos ⟨by omega,by omega,trivial⟩]
@[go_sem] theorem exD_t {ds:List D}:exD k (.t ds)=ds[k]?:=rfl
@[go_sem] theorem nilD_ref {row:List A} {off:Nat}:nilD (.a (.ref row off))=some (.a (.ref row off)):=rfl
@[go_sem] theorem nilD_ptr {j off:Nat}:nilD (.a (.ptr j off))=some (.a (.ptr j off)):=rfl
@[go_sem] theorem lenS_l {rows:List (List A)}:lenS P st T (.a (.sl rows))=if isSl P T=true then some (.a (.v (.int .i64 rows.length))) else none:=rfl
@[go_sem] theorem boxD_s {xs:List A}:boxD st (some xs)=some (.a (.ptr st.length 0),st++[.cell xs]):=rfl
@[go_sem] theorem dCells_v {z:Value}:qbn (.a (.v z))=some [.v z]:=rfl
@[go_sem] theorem dCells_sl {z:List (List A)}:qbn (.a (.sl z))=some [.sl z]:=rfl
@[go_sem] theorem dCells_own {i o:Nat}:qbn (.a (.own i o))=some [.own i o]:=rfl
@[go_sem] theorem dCells_r {row:List A}:qbn (.r row)=some row:=rfl
@[go_sem] theorem stoD_p {q:Option Nat} {j off:Nat} {xs:List A}:stoD st q (.a (.ptr j off)) (some xs)=(match st[j]? with|some (.cell row)=>if q=some xs.length∧off+xs.length≤row.length then some (.undef,st.set j (.cell (qak row off xs))) else none|_=>none):=rfl
@[go_sem] theorem keepE_n:qbd e []=fun _=>.junk:=rfl
@[go_sem] theorem keepE_c {t:Nat} {ks:List Nat}:qbd e (t::ks)=upd (qbd e ks) t (e t):=rfl
@[go_sem] theorem envL_n:envL []=fun _=>.junk:=rfl
@[go_sem] theorem envL_c {t:Nat} {l:List (Nat×D)}:envL ((t,d)::l)=upd (envL l) t d:=rfl
@[go_sem] theorem argsFrom_n {j:Nat}:qau j []=fun _=>.undef:=rfl
@[go_sem] theorem argsFrom_c {j:Nat} {ds:List D}:qau j (d::ds)=upd (qau (j+1) ds) j d:=rfl
end
attribute [go_sem] ne_eq not_false_eq_true Int.toNat_natCast Int.natCast_nonneg Int.cast_ofNat_Int decide_true decide_false List.length_nil List.length_cons List.nil_append List.cons_append List.getElem?_cons_zero List.getElem?_cons_succ List.set_cons_zero List.set_cons_succ Option.map_some Option.map_none Option.bind_some if_true if_false Bool.cond_false Bool.cond_true Bool.cond_false_right Bool.cond_true_left Bool.not_true Bool.not_false List.length_map and_self and_true true_and Nat.zero_le Nat.le_refl and_false false_and List.map_cons List.map_nil
def owAt (o:Int×Int):List A:=[.v (.int .i64 o.1),.v (.int .i64 o.2)]
def qaj (s:List UInt8):List A:=[.v (.string (bs s))]
structure Ty where
 kind:Int
 cls:List UInt8
 n:Int
 o0:Int×Int
 o1:Int×Int
 o2:Int×Int
 o3:Int×Int
 deriving DecidableEq
def Ty.at (s:Ty):List A:=[.v (.int .i64 s.kind),.v (.string (bs s.cls)),.v (.int .i64 s.n),.v (.int .i64 s.o0.1),.v (.int .i64 s.o0.2),.v (.int .i64 s.o1.1),.v (.int .i64 s.o1.2),.v (.int .i64 s.o2.1),.v (.int .i64 s.o2.2),.v (.int .i64 s.o3.1),.v (.int .i64 s.o3.2)]
section
variable (s:Ty)
@[go_sem] theorem Ty.len:(Ty.at s).length=11:=by obtain⟨kind,cls,n,o0,o1,o2,o3⟩:=s;rfl
@[go_sem] theorem Ty.cl:(Ty.at s).all clA=true:=by obtain⟨kind,cls,n,o0,o1,o2,o3⟩:=s;rfl
@[go_sem] theorem Ty.w:qap (some 11) (Ty.at s) 0=some (.r (Ty.at s)):=qca (Ty.len s)
@[go_sem] theorem Ty.pw (t:Ty):qak (Ty.at s) 0 (Ty.at t)=Ty.at t:=qbf (by rw [Ty.len,Ty.len])
@[go_sem] theorem Ty.g0:qap none (Ty.at s) 0=some (.a (.v (.int .i64 s.kind))):=by obtain⟨kind,cls,n,o0,o1,o2,o3⟩:=s;rfl
@[go_sem] theorem Ty.g1:qap none (Ty.at s) 1=some (.a (.v (.string (bs s.cls)))):=by obtain⟨kind,cls,n,o0,o1,o2,o3⟩:=s;rfl
@[go_sem] theorem Ty.g2:qap none (Ty.at s) 2=some (.a (.v (.int .i64 s.n))):=by obtain⟨kind,cls,n,o0,o1,o2,o3⟩:=s;rfl
@[go_sem] theorem Ty.g3:qap none (Ty.at s) 3=some (.a (.v (.int .i64 s.o0.1))):=by obtain⟨kind,cls,n,o0,o1,o2,o3⟩:=s;rfl
@[go_sem] theorem Ty.g4:qap none (Ty.at s) 4=some (.a (.v (.int .i64 s.o0.2))):=by obtain⟨kind,cls,n,o0,o1,o2,o3⟩:=s;rfl
@[go_sem] theorem Ty.p0_0 (z:Int):qak (Ty.at s) 0 [.v (.int .i64 z)]=Ty.at { s with kind:=z }:=by obtain⟨kind,cls,n,o0,o1,o2,o3⟩:=s;rfl
end
def Ty.zero:Ty:=⟨0,[],0,(0,0),(0,0),(0,0),(0,0)⟩
theorem Ty.eqLs (s t:Ty):okLs [1,2,1,1,1,1,1,1,1,1,1] ((qcc (Ty.at s)).getD []) ((qcc (Ty.at t)).getD [])=true∧eqLs ((qcc (Ty.at s)).getD []) ((qcc (Ty.at t)).getD [])=decide (s=t):=by
 obtain⟨k,cls,n,⟨a0,b0⟩,⟨a1,b1⟩,⟨a2,b2⟩,⟨a3,b3⟩⟩:=s
 obtain⟨k',cls',n',⟨a0',b0'⟩,⟨a1',b1'⟩,⟨a2',b2'⟩,⟨a3',b3'⟩⟩:=t
 refine⟨rfl,?_⟩
 show (k==k'&&((bs cls).toList==(bs cls').toList&&(n==n'&&(a0==a0'&&(b0==b0'&&(a1==a1'&&(b1==b1'&&(a2==a2'&&(b2==b2'&&(a3==a3'&&(b3==b3'&&true)))))))))))=_
 rw [qec,qec,Bool.eq_iff_iff]
 simp [and_assoc]
@[go_sem] theorem Ty_eqR (s t:Ty):eqR false (some [1,2,1,1,1,1,1,1,1,1,1]) (Ty.at s) (Ty.at t)=some (.a (.v (.bool (decide (s=t))))):=by
 have h:=Ty.eqLs s t
 have h1:qcc (Ty.at s)=some ((qcc (Ty.at s)).getD []):=by cases s;rfl
 have h2:qcc (Ty.at t)=some ((qcc (Ty.at t)).getD []):=by cases t;rfl
 unfold eqR;rw [h1,h2];simp only [h.1,h.2,if_true,cond_true,cond_false]
@[go_sem] theorem Ty_neR (s t:Ty):eqR true (some [1,2,1,1,1,1,1,1,1,1,1]) (Ty.at s) (Ty.at t)=some (.a (.v (.bool (!decide (s=t))))):=by
 have h:=Ty.eqLs s t
 have h1:qcc (Ty.at s)=some ((qcc (Ty.at s)).getD []):=by cases s;rfl
 have h2:qcc (Ty.at t)=some ((qcc (Ty.at t)).getD []):=by cases t;rfl
 unfold eqR;rw [h1,h2];simp only [h.1,h.2,if_true,cond_true,cond_false]
structure Ex where
 kind:Int
 num:Int
 name:List UInt8
 kids:List Ex
mutual
def Ex.at:Ex→List A
 | ⟨kind,num,name,kids⟩=>[.v (.int .i64 kind),.v (.int .i64 num),.v (.string (bs name)),.sl (Ex.ats kids)]
def Ex.ats:List Ex→List (List A)
 | []=>[]
 | e::r=>Ex.at e::Ex.ats r
end
theorem Ex.ats_map:∀l:List Ex,Ex.ats l=l.map Ex.at
 | []=>rfl
 | e::r=>by rw [Ex.ats,Ex.ats_map r];rfl
section
variable (s:Ex)
@[go_sem] theorem Ex.len:(Ex.at s).length=4:=by obtain⟨kind,num,name,kids⟩:=s;simp only [Ex.at,Ex.at,Ex.ats_map];rfl
@[go_sem] theorem Ex.cl:(Ex.at s).all clA=true:=by obtain⟨kind,num,name,kids⟩:=s;simp only [Ex.at,Ex.at,Ex.ats_map];rfl
@[go_sem] theorem Ex.see (st:List Bx):(Ex.at s).map (seeA st)=Ex.at s:=by obtain⟨kind,num,name,kids⟩:=s;simp only [Ex.at,Ex.at,Ex.ats_map];rfl
@[go_sem] theorem Ex.w:qap (some 4) (Ex.at s) 0=some (.r (Ex.at s)):=qca (Ex.len s)
@[go_sem] theorem Ex.pw (t:Ex):qak (Ex.at s) 0 (Ex.at t)=Ex.at t:=qbf (by rw [Ex.len,Ex.len])
@[go_sem] theorem Ex.g0:qap none (Ex.at s) 0=some (.a (.v (.int .i64 s.kind))):=by obtain⟨kind,num,name,kids⟩:=s;simp only [Ex.at,Ex.at,Ex.ats_map];rfl
@[go_sem] theorem Ex.g1:qap none (Ex.at s) 1=some (.a (.v (.int .i64 s.num))):=by obtain⟨kind,num,name,kids⟩:=s;simp only [Ex.at,Ex.at,Ex.ats_map];rfl
@[go_sem] theorem Ex.g2:qap none (Ex.at s) 2=some (.a (.v (.string (bs s.name)))):=by obtain⟨kind,num,name,kids⟩:=s;simp only [Ex.at,Ex.at,Ex.ats_map];rfl
@[go_sem] theorem Ex.g3:qap none (Ex.at s) 3=some (.a (.sl (s.kids.map Ex.at))):=by obtain⟨kind,num,name,kids⟩:=s;simp only [Ex.at,Ex.at,Ex.ats_map];rfl
@[go_sem] theorem Ex.p0_0 (z:Int):qak (Ex.at s) 0 [.v (.int .i64 z)]=Ex.at { s with kind:=z }:=by obtain⟨kind,num,name,kids⟩:=s;simp only [Ex.at,Ex.at,Ex.ats_map];rfl
@[go_sem] theorem Ex.p1_1 (z:Int):qak (Ex.at s) 1 [.v (.int .i64 z)]=Ex.at { s with num:=z }:=by obtain⟨kind,num,name,kids⟩:=s;simp only [Ex.at,Ex.at,Ex.ats_map];rfl
@[go_sem] theorem Ex.p2_2 (z:ByteArray):qak (Ex.at s) 2 [.v (.string z)]=Ex.at { s with name:=z.data.toList }:=by obtain⟨kind,num,name,kids⟩:=s;simp only [Ex.at,Ex.at,Ex.ats_map];rfl
@[go_sem] theorem Ex.p3_3 (z:List Ex):qak (Ex.at s) 3 [.sl (z.map Ex.at)]=Ex.at { s with kids:=z }:=by obtain⟨kind,num,name,kids⟩:=s;simp only [Ex.at,Ex.at,Ex.ats_map];rfl
end
def Ex.zero:Ex:=⟨0,0,[],[]⟩
structure St where
 kind:Int
 x:List UInt8
 y:List UInt8
 name:List UInt8
 ty:Ty
 e:Ex
 args:List Ex
 body:List St
 els:List St
 at_:Int
mutual
def St.at:St→List A
 | ⟨kind,x,y,name,ty,e,args,body,els,at_⟩=>[.v (.int .i64 kind),.v (.string (bs x)),.v (.string (bs y)),.v (.string (bs name))]++Ty.at ty++Ex.at e++[.sl (args.map Ex.at),.sl (St.ats body),.sl (St.ats els),.v (.int .i64 at_)]
def St.ats:List St→List (List A)
 | []=>[]
 | e::r=>St.at e::St.ats r
end
theorem St.ats_map:∀l:List St,St.ats l=l.map St.at
 | []=>rfl
 | e::r=>by rw [St.ats,St.ats_map r];rfl
section
variable (s:St)
@[go_sem] theorem St.len:(St.at s).length=23:=by obtain⟨kind,x,y,name,⟨qay,ty_cls,ty_n,ty_o0,ty_o1,ty_o2,ty_o3⟩,⟨e_kind,e_num,e_name,e_kids⟩,args,body,els,at_⟩:=s;simp only [St.at,St.at,St.ats_map,Ex.at,Ex.ats_map];rfl
@[go_sem] theorem St.cl:(St.at s).all clA=true:=by obtain⟨kind,x,y,name,⟨qay,ty_cls,ty_n,ty_o0,ty_o1,ty_o2,ty_o3⟩,⟨e_kind,e_num,e_name,e_kids⟩,args,body,els,at_⟩:=s;simp only [St.at,St.at,St.ats_map,Ex.at,Ex.ats_map];rfl
@[go_sem] theorem St.see (st:List Bx):(St.at s).map (seeA st)=St.at s:=by obtain⟨kind,x,y,name,⟨qay,ty_cls,ty_n,ty_o0,ty_o1,ty_o2,ty_o3⟩,⟨e_kind,e_num,e_name,e_kids⟩,args,body,els,at_⟩:=s;simp only [St.at,St.at,St.ats_map,Ex.at,Ex.ats_map];rfl
@[go_sem] theorem St.w:qap (some 23) (St.at s) 0=some (.r (St.at s)):=qca (St.len s)
@[go_sem] theorem St.pw (t:St):qak (St.at s) 0 (St.at t)=St.at t:=qbf (by rw [St.len,St.len])
@[go_sem] theorem St.g0:qap none (St.at s) 0=some (.a (.v (.int .i64 s.kind))):=by obtain⟨kind,x,y,name,⟨qay,ty_cls,ty_n,ty_o0,ty_o1,ty_o2,ty_o3⟩,⟨e_kind,e_num,e_name,e_kids⟩,args,body,els,at_⟩:=s;simp only [St.at,St.at,St.ats_map,Ex.at,Ex.ats_map];rfl
@[go_sem] theorem St.g1:qap none (St.at s) 1=some (.a (.v (.string (bs s.x)))):=by obtain⟨kind,x,y,name,⟨qay,ty_cls,ty_n,ty_o0,ty_o1,ty_o2,ty_o3⟩,⟨e_kind,e_num,e_name,e_kids⟩,args,body,els,at_⟩:=s;simp only [St.at,St.at,St.ats_map,Ex.at,Ex.ats_map];rfl
@[go_sem] theorem St.g2:qap none (St.at s) 2=some (.a (.v (.string (bs s.y)))):=by obtain⟨kind,x,y,name,⟨qay,ty_cls,ty_n,ty_o0,ty_o1,ty_o2,ty_o3⟩,⟨e_kind,e_num,e_name,e_kids⟩,args,body,els,at_⟩:=s;simp only [St.at,St.at,St.ats_map,Ex.at,Ex.ats_map];rfl
@[go_sem] theorem St.g3:qap none (St.at s) 3=some (.a (.v (.string (bs s.name)))):=by obtain⟨kind,x,y,name,⟨qay,ty_cls,ty_n,ty_o0,ty_o1,ty_o2,ty_o3⟩,⟨e_kind,e_num,e_name,e_kids⟩,args,body,els,at_⟩:=s;simp only [St.at,St.at,St.ats_map,Ex.at,Ex.ats_map];rfl
@[go_sem] theorem St.g4:qap none (St.at s) 4=some (.a (.v (.int .i64 s.ty.kind))):=by obtain⟨kind,x,y,name,⟨qay,ty_cls,ty_n,ty_o0,ty_o1,ty_o2,ty_o3⟩,⟨e_kind,e_num,e_name,e_kids⟩,args,body,els,at_⟩:=s;simp only [St.at,St.at,St.ats_map,Ex.at,Ex.ats_map];rfl
@[go_sem] theorem St.g15:qap none (St.at s) 15=some (.a (.v (.int .i64 s.e.kind))):=by obtain⟨kind,x,y,name,⟨qay,ty_cls,ty_n,ty_o0,ty_o1,ty_o2,ty_o3⟩,⟨e_kind,e_num,e_name,e_kids⟩,args,body,els,at_⟩:=s;simp only [St.at,St.at,St.ats_map,Ex.at,Ex.ats_map];rfl
@[go_sem] theorem St.g19:qap none (St.at s) 19=some (.a (.sl (s.args.map Ex.at))):=by obtain⟨kind,x,y,name,⟨qay,ty_cls,ty_n,ty_o0,ty_o1,ty_o2,ty_o3⟩,⟨e_kind,e_num,e_name,e_kids⟩,args,body,els,at_⟩:=s;simp only [St.at,St.at,St.ats_map,Ex.at,Ex.ats_map];rfl
@[go_sem] theorem St.g20:qap none (St.at s) 20=some (.a (.sl (s.body.map St.at))):=by obtain⟨kind,x,y,name,⟨qay,ty_cls,ty_n,ty_o0,ty_o1,ty_o2,ty_o3⟩,⟨e_kind,e_num,e_name,e_kids⟩,args,body,els,at_⟩:=s;simp only [St.at,St.at,St.ats_map,Ex.at,Ex.ats_map];rfl
@[go_sem] theorem St.g21:qap none (St.at s) 21=some (.a (.sl (s.els.map St.at))):=by obtain⟨kind,x,y,name,⟨qay,ty_cls,ty_n,ty_o0,ty_o1,ty_o2,ty_o3⟩,⟨e_kind,e_num,e_name,e_kids⟩,args,body,els,at_⟩:=s;simp only [St.at,St.at,St.ats_map,Ex.at,Ex.ats_map];rfl
@[go_sem] theorem St.g22:qap none (St.at s) 22=some (.a (.v (.int .i64 s.at_))):=by obtain⟨kind,x,y,name,⟨qay,ty_cls,ty_n,ty_o0,ty_o1,ty_o2,ty_o3⟩,⟨e_kind,e_num,e_name,e_kids⟩,args,body,els,at_⟩:=s;simp only [St.at,St.at,St.ats_map,Ex.at,Ex.ats_map];rfl
@[go_sem] theorem St.s4:qap (some 11) (St.at s) 4=some (.r (Ty.at s.ty)):=by obtain⟨kind,x,y,name,⟨qay,ty_cls,ty_n,ty_o0,ty_o1,ty_o2,ty_o3⟩,⟨e_kind,e_num,e_name,e_kids⟩,args,body,els,at_⟩:=s;simp only [St.at,St.at,St.ats_map,Ex.at,Ex.ats_map];rfl
@[go_sem] theorem St.s15:qap (some 4) (St.at s) 15=some (.r (Ex.at s.e)):=by obtain⟨kind,x,y,name,⟨qay,ty_cls,ty_n,ty_o0,ty_o1,ty_o2,ty_o3⟩,⟨e_kind,e_num,e_name,e_kids⟩,args,body,els,at_⟩:=s;simp only [St.at,St.at,St.ats_map,Ex.at,Ex.ats_map];rfl
@[go_sem] theorem St.p15_20 (z:Ex):qak (St.at s) 15 (Ex.at z)=St.at { s with e:=z }:=by cases z;obtain⟨kind,x,y,name,⟨qay,ty_cls,ty_n,ty_o0,ty_o1,ty_o2,ty_o3⟩,⟨e_kind,e_num,e_name,e_kids⟩,args,body,els,at_⟩:=s;simp only [St.at,St.at,St.ats_map,Ex.at,Ex.ats_map];rfl
@[go_sem] theorem St.p19_26 (z:List Ex):qak (St.at s) 19 [.sl (z.map Ex.at)]=St.at { s with args:=z }:=by obtain⟨kind,x,y,name,⟨qay,ty_cls,ty_n,ty_o0,ty_o1,ty_o2,ty_o3⟩,⟨e_kind,e_num,e_name,e_kids⟩,args,body,els,at_⟩:=s;simp only [St.at,St.at,St.ats_map,Ex.at,Ex.ats_map];rfl
@[go_sem] theorem St.p20_28 (z:List St):qak (St.at s) 20 [.sl (z.map St.at)]=St.at { s with body:=z }:=by obtain⟨kind,x,y,name,⟨qay,ty_cls,ty_n,ty_o0,ty_o1,ty_o2,ty_o3⟩,⟨e_kind,e_num,e_name,e_kids⟩,args,body,els,at_⟩:=s;simp only [St.at,St.at,St.ats_map,Ex.at,Ex.ats_map];rfl
@[go_sem] theorem St.p21_30 (z:List St):qak (St.at s) 21 [.sl (z.map St.at)]=St.at { s with els:=z }:=by obtain⟨kind,x,y,name,⟨qay,ty_cls,ty_n,ty_o0,ty_o1,ty_o2,ty_o3⟩,⟨e_kind,e_num,e_name,e_kids⟩,args,body,els,at_⟩:=s;simp only [St.at,St.at,St.ats_map,Ex.at,Ex.ats_map];rfl
@[go_sem] theorem St.p22_32 (z:Int):qak (St.at s) 22 [.v (.int .i64 z)]=St.at { s with at_:=z }:=by obtain⟨kind,x,y,name,⟨qay,ty_cls,ty_n,ty_o0,ty_o1,ty_o2,ty_o3⟩,⟨e_kind,e_num,e_name,e_kids⟩,args,body,els,at_⟩:=s;simp only [St.at,St.at,St.ats_map,Ex.at,Ex.ats_map];rfl
end
def St.zero:St:=⟨0,[],[],[],Ty.zero,Ex.zero,[],[],[],0⟩
structure Vr where
 name:List UInt8
 ty:Ty
 at_:Int
def Vr.at (s:Vr):List A:=[.v (.string (bs s.name))]++Ty.at s.ty++[.v (.int .i64 s.at_)]
section
variable (s:Vr)
@[go_sem] theorem Vr.len:(Vr.at s).length=13:=by obtain⟨name,⟨qay,ty_cls,ty_n,ty_o0,ty_o1,ty_o2,ty_o3⟩,at_⟩:=s;rfl
@[go_sem] theorem Vr.cl:(Vr.at s).all clA=true:=by obtain⟨name,⟨qay,ty_cls,ty_n,ty_o0,ty_o1,ty_o2,ty_o3⟩,at_⟩:=s;rfl
@[go_sem] theorem Vr.see (st:List Bx):(Vr.at s).map (seeA st)=Vr.at s:=by obtain⟨name,⟨qay,ty_cls,ty_n,ty_o0,ty_o1,ty_o2,ty_o3⟩,at_⟩:=s;rfl
@[go_sem] theorem Vr.w:qap (some 13) (Vr.at s) 0=some (.r (Vr.at s)):=qca (Vr.len s)
@[go_sem] theorem Vr.pw (t:Vr):qak (Vr.at s) 0 (Vr.at t)=Vr.at t:=qbf (by rw [Vr.len,Vr.len])
@[go_sem] theorem Vr.g0:qap none (Vr.at s) 0=some (.a (.v (.string (bs s.name)))):=by obtain⟨name,⟨qay,ty_cls,ty_n,ty_o0,ty_o1,ty_o2,ty_o3⟩,at_⟩:=s;rfl
@[go_sem] theorem Vr.g1:qap none (Vr.at s) 1=some (.a (.v (.int .i64 s.ty.kind))):=by obtain⟨name,⟨qay,ty_cls,ty_n,ty_o0,ty_o1,ty_o2,ty_o3⟩,at_⟩:=s;rfl
@[go_sem] theorem Vr.g12:qap none (Vr.at s) 12=some (.a (.v (.int .i64 s.at_))):=by obtain⟨name,⟨qay,ty_cls,ty_n,ty_o0,ty_o1,ty_o2,ty_o3⟩,at_⟩:=s;rfl
@[go_sem] theorem Vr.s1:qap (some 11) (Vr.at s) 1=some (.r (Ty.at s.ty)):=by obtain⟨name,⟨qay,ty_cls,ty_n,ty_o0,ty_o1,ty_o2,ty_o3⟩,at_⟩:=s;rfl
@[go_sem] theorem Vr.p12_17 (z:Int):qak (Vr.at s) 12 [.v (.int .i64 z)]=Vr.at { s with at_:=z }:=by obtain⟨name,⟨qay,ty_cls,ty_n,ty_o0,ty_o1,ty_o2,ty_o3⟩,at_⟩:=s;rfl
end
def Vr.zero:Vr:=⟨[],Ty.zero,0⟩
structure Me where
 name:List UInt8
 pure_:Bool
 ret:Ty
 params:List Vr
 locals:List Vr
 body:List St
 at_:Int
def Me.at (s:Me):List A:=[.v (.string (bs s.name)),.v (.bool s.pure_)]++Ty.at s.ret++[.sl (s.params.map Vr.at),.sl (s.locals.map Vr.at),.sl (s.body.map St.at),.v (.int .i64 s.at_)]
section
variable (s:Me)
@[go_sem] theorem Me.len:(Me.at s).length=17:=by obtain⟨name,pure_,⟨ret_kind,ret_cls,ret_n,ret_o0,ret_o1,ret_o2,ret_o3⟩,params,locals,body,at_⟩:=s;rfl
@[go_sem] theorem Me.cl:(Me.at s).all clA=true:=by obtain⟨name,pure_,⟨ret_kind,ret_cls,ret_n,ret_o0,ret_o1,ret_o2,ret_o3⟩,params,locals,body,at_⟩:=s;rfl
@[go_sem] theorem Me.see (st:List Bx):(Me.at s).map (seeA st)=Me.at s:=by obtain⟨name,pure_,⟨ret_kind,ret_cls,ret_n,ret_o0,ret_o1,ret_o2,ret_o3⟩,params,locals,body,at_⟩:=s;rfl
@[go_sem] theorem Me.w:qap (some 17) (Me.at s) 0=some (.r (Me.at s)):=qca (Me.len s)
@[go_sem] theorem Me.pw (t:Me):qak (Me.at s) 0 (Me.at t)=Me.at t:=qbf (by rw [Me.len,Me.len])
@[go_sem] theorem Me.g0:qap none (Me.at s) 0=some (.a (.v (.string (bs s.name)))):=by obtain⟨name,pure_,⟨ret_kind,ret_cls,ret_n,ret_o0,ret_o1,ret_o2,ret_o3⟩,params,locals,body,at_⟩:=s;rfl
@[go_sem] theorem Me.g1:qap none (Me.at s) 1=some (.a (.v (.bool s.pure_))):=by obtain⟨name,pure_,⟨ret_kind,ret_cls,ret_n,ret_o0,ret_o1,ret_o2,ret_o3⟩,params,locals,body,at_⟩:=s;rfl
@[go_sem] theorem Me.g13:qap none (Me.at s) 13=some (.a (.sl (s.params.map Vr.at))):=by obtain⟨name,pure_,⟨ret_kind,ret_cls,ret_n,ret_o0,ret_o1,ret_o2,ret_o3⟩,params,locals,body,at_⟩:=s;rfl
@[go_sem] theorem Me.g14:qap none (Me.at s) 14=some (.a (.sl (s.locals.map Vr.at))):=by obtain⟨name,pure_,⟨ret_kind,ret_cls,ret_n,ret_o0,ret_o1,ret_o2,ret_o3⟩,params,locals,body,at_⟩:=s;rfl
@[go_sem] theorem Me.g15:qap none (Me.at s) 15=some (.a (.sl (s.body.map St.at))):=by obtain⟨name,pure_,⟨ret_kind,ret_cls,ret_n,ret_o0,ret_o1,ret_o2,ret_o3⟩,params,locals,body,at_⟩:=s;rfl
@[go_sem] theorem Me.g16:qap none (Me.at s) 16=some (.a (.v (.int .i64 s.at_))):=by obtain⟨name,pure_,⟨ret_kind,ret_cls,ret_n,ret_o0,ret_o1,ret_o2,ret_o3⟩,params,locals,body,at_⟩:=s;rfl
@[go_sem] theorem Me.s2:qap (some 11) (Me.at s) 2=some (.r (Ty.at s.ret)):=by obtain⟨name,pure_,⟨ret_kind,ret_cls,ret_n,ret_o0,ret_o1,ret_o2,ret_o3⟩,params,locals,body,at_⟩:=s;rfl
@[go_sem] theorem Me.p13_18 (z:List Vr):qak (Me.at s) 13 [.sl (z.map Vr.at)]=Me.at { s with params:=z }:=by obtain⟨name,pure_,⟨ret_kind,ret_cls,ret_n,ret_o0,ret_o1,ret_o2,ret_o3⟩,params,locals,body,at_⟩:=s;rfl
@[go_sem] theorem Me.p14_20 (z:List Vr):qak (Me.at s) 14 [.sl (z.map Vr.at)]=Me.at { s with locals:=z }:=by obtain⟨name,pure_,⟨ret_kind,ret_cls,ret_n,ret_o0,ret_o1,ret_o2,ret_o3⟩,params,locals,body,at_⟩:=s;rfl
@[go_sem] theorem Me.p15_22 (z:List St):qak (Me.at s) 15 [.sl (z.map St.at)]=Me.at { s with body:=z }:=by obtain⟨name,pure_,⟨ret_kind,ret_cls,ret_n,ret_o0,ret_o1,ret_o2,ret_o3⟩,params,locals,body,at_⟩:=s;rfl
@[go_sem] theorem Me.p16_24 (z:Int):qak (Me.at s) 16 [.v (.int .i64 z)]=Me.at { s with at_:=z }:=by obtain⟨name,pure_,⟨ret_kind,ret_cls,ret_n,ret_o0,ret_o1,ret_o2,ret_o3⟩,params,locals,body,at_⟩:=s;rfl
end
def Me.zero:Me:=⟨[],false,Ty.zero,[],[],[],0⟩
structure Cs where
 name:List UInt8
 params:List (List UInt8)
 super:List UInt8
 above:List (Int×Int)
 fields:List Vr
 methods:List Me
 at_:Int
def Cs.at (s:Cs):List A:=[.v (.string (bs s.name)),.sl (s.params.map qaj),.v (.string (bs s.super)),.sl (s.above.map owAt),.sl (s.fields.map Vr.at),.sl (s.methods.map Me.at),.v (.int .i64 s.at_)]
section
variable (s:Cs)
@[go_sem] theorem Cs.len:(Cs.at s).length=7:=by obtain⟨name,params,super,above,fields,methods,at_⟩:=s;rfl
@[go_sem] theorem Cs.cl:(Cs.at s).all clA=true:=by obtain⟨name,params,super,above,fields,methods,at_⟩:=s;rfl
@[go_sem] theorem Cs.see (st:List Bx):(Cs.at s).map (seeA st)=Cs.at s:=by obtain⟨name,params,super,above,fields,methods,at_⟩:=s;rfl
@[go_sem] theorem Cs.w:qap (some 7) (Cs.at s) 0=some (.r (Cs.at s)):=qca (Cs.len s)
@[go_sem] theorem Cs.pw (t:Cs):qak (Cs.at s) 0 (Cs.at t)=Cs.at t:=qbf (by rw [Cs.len,Cs.len])
@[go_sem] theorem Cs.g0:qap none (Cs.at s) 0=some (.a (.v (.string (bs s.name)))):=by obtain⟨name,params,super,above,fields,methods,at_⟩:=s;rfl
@[go_sem] theorem Cs.g1:qap none (Cs.at s) 1=some (.a (.sl (s.params.map qaj))):=by obtain⟨name,params,super,above,fields,methods,at_⟩:=s;rfl
@[go_sem] theorem Cs.g2:qap none (Cs.at s) 2=some (.a (.v (.string (bs s.super)))):=by obtain⟨name,params,super,above,fields,methods,at_⟩:=s;rfl
@[go_sem] theorem Cs.g3:qap none (Cs.at s) 3=some (.a (.sl (s.above.map owAt))):=by obtain⟨name,params,super,above,fields,methods,at_⟩:=s;rfl
@[go_sem] theorem Cs.g4:qap none (Cs.at s) 4=some (.a (.sl (s.fields.map Vr.at))):=by obtain⟨name,params,super,above,fields,methods,at_⟩:=s;rfl
@[go_sem] theorem Cs.g5:qap none (Cs.at s) 5=some (.a (.sl (s.methods.map Me.at))):=by obtain⟨name,params,super,above,fields,methods,at_⟩:=s;rfl
@[go_sem] theorem Cs.g6:qap none (Cs.at s) 6=some (.a (.v (.int .i64 s.at_))):=by obtain⟨name,params,super,above,fields,methods,at_⟩:=s;rfl
@[go_sem] theorem Cs.p1_1 (z:List (List UInt8)):qak (Cs.at s) 1 [.sl (z.map qaj)]=Cs.at { s with params:=z }:=by obtain⟨name,params,super,above,fields,methods,at_⟩:=s;rfl
@[go_sem] theorem Cs.p3_4 (z:List (Int×Int)):qak (Cs.at s) 3 [.sl (z.map owAt)]=Cs.at { s with above:=z }:=by obtain⟨name,params,super,above,fields,methods,at_⟩:=s;rfl
@[go_sem] theorem Cs.p4_6 (z:List Vr):qak (Cs.at s) 4 [.sl (z.map Vr.at)]=Cs.at { s with fields:=z }:=by obtain⟨name,params,super,above,fields,methods,at_⟩:=s;rfl
@[go_sem] theorem Cs.p5_8 (z:List Me):qak (Cs.at s) 5 [.sl (z.map Me.at)]=Cs.at { s with methods:=z }:=by obtain⟨name,params,super,above,fields,methods,at_⟩:=s;rfl
@[go_sem] theorem Cs.p6_10 (z:Int):qak (Cs.at s) 6 [.v (.int .i64 z)]=Cs.at { s with at_:=z }:=by obtain⟨name,params,super,above,fields,methods,at_⟩:=s;rfl
end
def Cs.zero:Cs:=⟨[],[],[],[],[],[],0⟩
@[go_sem] theorem owAt_len (o:Int×Int):(owAt o).length=2:=rfl
@[go_sem] theorem strAt_len (o:List UInt8):(qaj o).length=1:=rfl
@[go_sem] theorem owAt_pw (o q:Int×Int):qak (owAt o) 0 (owAt q)=owAt q:=rfl
@[go_sem] theorem owAt_cl (o:Int×Int):(owAt o).all clA=true:=rfl
@[go_sem] theorem owAt_0 (o:Int×Int):qap none (owAt o) 0=some (.a (.v (.int .i64 o.1))):=rfl
@[go_sem] theorem owAt_1 (o:Int×Int):qap none (owAt o) 1=some (.a (.v (.int .i64 o.2))):=rfl
@[go_sem] theorem owAt_w (o:Int×Int):qap (some 2) (owAt o) 0=some (.r (owAt o)):=rfl
@[go_sem] theorem strAt_0 (o:List UInt8):qap none (qaj o) 0=some (.a (.v (.string (bs o)))):=rfl
@[go_sem] theorem owAt_neR (o q:Int×Int):eqR true (some [1,1]) (owAt o) (owAt q)=some (.a (.v (.bool (!(o==q))))):=by
 show some (D.a (.v (.bool (bif true then !((o.1==q.1&&(o.2==q.2&&true))) else (o.1==q.1&&(o.2==q.2&&true))))))=_
 rw [Bool.and_true];rfl
theorem qbp {P:Program} {f:FuncId} {fn:Func} {c:Code} (hf:P.funcs[f]? = some fn) (hb:fn.body=some c) (hn:(fn.name == "runtime.NumGoroutine")=false) (args:Array Value) (W:World):(callFunc f args).run P W=.ok (.enter f args) W:=by
 have hn2:¬fn.name = "runtime.NumGoroutine":=by simpa using hn
 simp [callFunc,hf,hb,hn2]
theorem qaa.scal {P:Program} {f:FuncId} {xs:List Value} {z:Value} (he:∀(args:Array Value) (W:World),(callFunc f args).run P W=.ok (.enter f args) W) (hz:qdw z=true)
  (h:∀w:World,(∀w':World,w.heap.size≤w'.heap.size→(∀b,b<w.heap.size→w'.heap[b]? = w.heap[b]?)→Gd w')→Calls P f xs.toArray w fun e w'=>e=.returned z∧Grw w w'):qaa P f (xs.map fun x=>.a (.v x)) (.a (.v z)):=by
 refine⟨he,fun w x vs _ hg hl hr=>?_⟩
 have:vs=xs:=by
  apply List.ext_getElem?
  intro j
  simp at hl
  by_cases hj:j<xs.length
  ·have:=hr j (.a (.v xs[j])) (by rw [List.getElem?_map,List.getElem?_eq_getElem hj];rfl)
   rw [List.getD_eq_getElem?_getD,List.getElem?_eq_getElem (by omega)] at this
   rw [List.getElem?_eq_getElem (by omega),List.getElem?_eq_getElem hj]
   exact congrArg some this.v_inv.1
  ·rw [List.getElem?_eq_none (by omega),List.getElem?_eq_none (by omega)]
 subst this
 refine (h w fun w' hs hb=>hg w' hs fun b hlt _ _=>hb b hlt).mono ?_
 rintro e w' ⟨rfl,hq⟩
 exact⟨z,rfl,hq,.v hz⟩
def RSr {P:Program} (C:Cx P) (ops:Array Oper) (r:(Nat→D)×List Bx×List Oper) (K:(Nat→D)→List Bx→Prop):Prop:=RS C ops r.2.2 r.1 r.2.1 K
theorem qao {P:Program} {C:Cx P} {ops:Array Oper} {e:Nat→D} {st:List Bx} {l:List Oper} {K:(Nat→D)→List Bx→Prop}:RSr C ops (e,st,l) K=RS C ops l e st K:=rfl
theorem RS.run2 {P:Program} {C:Cx P} {ops:Array Oper} {K:(Nat→D)→List Bx→Prop} {l:List Oper} {e:Nat→D} {st:List Bx} {r:(Nat→D)×List Bx×List Oper} (h:runS P l e st=r) (hr:RSr C ops r K):RS C ops l e st K:=RS.run' (e':=r.1) (st':=r.2.1) (l':=r.2.2) h hr
def RQr (P:Program) (ops:Array Oper) (st:List Bx) (r:(Nat→D)×List Oper) (K:(Nat→D)→Prop):Prop:=RQ P ops st r.2 r.1 K
theorem qat {P:Program} {ops:Array Oper} {e:Nat→D} {st:List Bx} {l:List Oper} {K:(Nat→D)→Prop}:RQr P ops st (e,l) K=RQ P ops st l e K:=rfl
theorem RQ.run2 {P:Program} {ops:Array Oper} {K:(Nat→D)→Prop} {l:List Oper} {e:Nat→D} {st:List Bx} {r:(Nat→D)×List Oper} (h:runQ P st l e=r) (hr:RQr P ops st r K):RQ P ops st l e K:=RQ.run' (e':=r.1) (l':=r.2) h hr
def retN (P:Program) (n:Nat) (rs:List ResultVar) (d:D):Exit→(Nat→D)→List Bx→Prop
 | .normal,e,st|.ret,e,st=>resL P n e st rs d
 | _,_,_=>False
theorem qaa.go {P:Program} {f:FuncId} {fn:Func} {c:Code} {n:Nat} {rs:List ResultVar} {ds:List D} {d:D} (hf:P.funcs[f]? = some fn) (hb:fn.body=some c) (hn:fn.ntmps=n) (hr:fn.results=⟨rs⟩) (hnm:(fn.name == "runtime.NumGoroutine")=false) (hl:(decide (ds.length≤n)&&decide (n≤1000000))=true)
  (h:∀C:Cx P,C.ro=none→WP C n c (retN P n rs d) (qau 0 ds) []):qaa P f ds d:=by
 rw [Bool.and_eq_true,decide_eq_true_iff,decide_eq_true_iff] at hl
 refine qaa.intro hf hb (qbp hf hb hnm) hn hl.1 hl.2 fun C hC=>(h C hC).mono ?_
 intro ex e st hq
 have:fn.results.toList=rs:=by rw [hr]
 cases ex with
 | normal=>show resL P n e st fn.results.toList d;rw [this];exact hq
 | ret=>show resL P n e st fn.results.toList d;rw [this];exact hq
 | _=>exact hq
section
variable {P:Program} {C:Cx P} {n:Nat} {e e':Nat→D} {st:List Bx} {d d':D} {ks:List Nat} {ops:Array Oper} {N:(Nat→D)→List Bx→Prop} {Q:Exit→(Nat→D)→List Bx→Prop}
theorem ret1 {t:Nat} (ht:decide (t<n)=true) (he:qd3 st (e t)=d') (hc:clD1 d'=true) (h:d'=d):retN P n [.tmp t] d .ret e st:=by
 subst h
 show res1 P n e st (.tmp t)=some d'∧clD1 d'=true
 refine⟨?_,hc⟩
 simp only [res1]
 rw [if_pos (of_decide_eq_true ht),he]
theorem retC {t:Nat} {T:TypeId} {i off:Nat} {row:List A} {k:Option Nat} {d0:D} (ht:decide (t<n)=true) (he:e t=.a (.ptr i off)) (hs:st[i]? = some (.cell row)) (hk:ldk P T=some k) (hd:qap k row off=some d0) (hse:qd3 st d0=d') (hc:clD1 d'=true) (h:d'=d):retN P n [.cell t T] d .ret e st:=by
 subst h
 show res1 P n e st (.cell t T)=some d'∧clD1 d'=true
 refine⟨?_,hc⟩
 simp only [res1]
 rw [if_pos (of_decide_eq_true ht)]
 simp only [he,hs,hk,hd,Option.map_some,hse]
theorem RS.finT (he:qbd e ks=e') (h:N e' st):RS C ops [] e st fun e' st'=>qej N Q .normal (qbd e' ks) st':=by subst he;exact h
@[go_sem] theorem qab:qej N Q .normal=N:=rfl
@[go_sem] theorem qa1:qej N Q .ret=Q .ret:=rfl
@[go_sem] theorem qb8 {i:Nat}:qej N Q (.exit i)=Q (.exit i):=rfl
@[go_sem] theorem qae {i:Nat}:qhd i Q .normal=Q .normal:=rfl
@[go_sem] theorem qaz {i:Nat}:qhd i Q .ret=Q .ret:=rfl
theorem qbj (i:Nat):qhd i Q (.exit i)=Q .normal:=if_pos rfl
theorem qbi {i j:Nat} (h:j≠i):qhd i Q (.exit j)=Q (.exit j):=if_neg h
@[go_sem] theorem seeD1_v {x:Value}:qd3 st (.a (.v x))=.a (.v x):=rfl
@[go_sem] theorem seeD1_sl {rows:List (List A)}:qd3 st (.a (.sl rows))=.a (.sl rows):=rfl
@[go_sem] theorem seeD1_nl:qd3 st (.a .nl)=.a (.sl []):=rfl
@[go_sem] theorem seeD1_r {row:List A}:qd3 st (.r row)=.r (row.map (seeA st)):=rfl
@[go_sem] theorem clD1_v {x:Value}:clD1 (.a (.v x))=true:=rfl
@[go_sem] theorem clD1_sl {rows:List (List A)}:clD1 (.a (.sl rows))=true:=rfl
@[go_sem] theorem clD1_fn {f:FuncId} {l:List A}:clD1 (.a (.fn f l))=l.all clA:=rfl
@[go_sem] theorem clD1_r {row:List A}:clD1 (.r row)=row.all clA:=rfl
@[go_sem] theorem clD_v {x:Value}:clD (.a (.v x))=true:=rfl
@[go_sem] theorem clD_sl {rows:List (List A)}:clD (.a (.sl rows))=true:=rfl
@[go_sem] theorem clD_r {row:List A}:clD (.r row)=row.all clA:=rfl
@[go_sem] theorem clD_ref {row:List A} {o:Nat}:clD (.a (.ref row o))=true:=rfl
@[go_sem] theorem clD_fn {f:FuncId}:clD (.a (.fn f []))=true:=rfl
theorem RQ.nil {P:Program} {ops:Array Oper} {st:List Bx} {e:Nat→D} {K:(Nat→D)→Prop} (h:K e):RQ P ops st [] e K:=h
@[go_sem] theorem qac (l:List UInt8):ByteArray.toList ⟨⟨l⟩⟩=l:=by rw [qa9]
theorem qaf {a b:Bool} (h:a=b):D.a (.v (.bool a))=.a (.v (.bool b)):=by rw [h]
theorem ql9 {k:IntKind} {a b:Int} (h:a=b):D.a (.v (.int k a))=.a (.v (.int k b)):=by rw [h]
@[go_sem] theorem evBin_eqi {b:Bool} {k:IntKind} {x y:Int}:qc9 b .eql (.int k x) (.int k y)=some (.bool (x==y)):=if_pos rfl
@[go_sem] theorem evBin_nei {b:Bool} {k:IntKind} {x y:Int}:qc9 b .neq (.int k x) (.int k y)=some (.bool (x != y)):=if_pos rfl
@[go_sem] theorem evBin_lti {b:Bool} {k:IntKind} {x y:Int}:qc9 b .lss (.int k x) (.int k y)=some (.bool (decide (x<y))):=if_pos rfl
@[go_sem] theorem evBin_lei {b:Bool} {k:IntKind} {x y:Int}:qc9 b .leq (.int k x) (.int k y)=some (.bool (decide (x≤y))):=if_pos rfl
@[go_sem] theorem evBin_gti {b:Bool} {k:IntKind} {x y:Int}:qc9 b .gtr (.int k x) (.int k y)=some (.bool (decide (x>y))):=if_pos rfl
@[go_sem] theorem evBin_gei {b:Bool} {k:IntKind} {x y:Int}:qc9 b .geq (.int k x) (.int k y)=some (.bool (decide (x≥y))):=if_pos rfl
@[go_sem] theorem evBin_add {b:Bool} {k:IntKind} {x y:Int}:qc9 b .add (.int k x) (.int k y)=some (.int k (k.wrap (x+y))):=if_pos rfl
@[go_sem] theorem evBin_sub {b:Bool} {k:IntKind} {x y:Int}:qc9 b .sub (.int k x) (.int k y)=some (.int k (k.wrap (x-y))):=if_pos rfl
@[go_sem] theorem evBin_eqs {b:Bool} {x y:ByteArray}:qc9 b .eql (.string x) (.string y)=some (.bool (x.toList==y.toList)):=rfl
@[go_sem] theorem evBin_nes {b:Bool} {x y:ByteArray}:qc9 b .neq (.string x) (.string y)=some (.bool (!(x.toList==y.toList))):=rfl
@[go_sem] theorem evBin_eqb {x y:Bool}:qc9 true .eql (.bool x) (.bool y)=some (.bool (x==y)):=rfl
@[go_sem] theorem evBin_neb {x y:Bool}:qc9 true .neq (.bool x) (.bool y)=some (.bool (!(x==y))):=rfl
@[go_sem] theorem evUn_not {x:Bool}:evUn .not (.bool x)=some (.bool (!x)):=rfl
end
def nrA (m:Nat):A→Bool
 | .ptr i _=>decide (i<m)
 | .own i _=>decide (i<m)
 | .ep i _ _ _=>decide (i<m)
 | .fn _ caps=>nrL caps
 | .fm _ caps=>nrL caps
 | .mp i=>decide (i<m)
 | .cs i _ _=>decide (i<m)
 | _=>true
 where nrL:List A→Bool
 | []=>true
 | x::r=>nrA m x&&nrL r
theorem qgv {m:Nat}:∀{l:List A},nrA.nrL m l=true→∀(i:Nat) (x:A),l[i]? = some x→nrA m x=true
 | [],_,i,x,h=>by simp at h
 | y::r,h,i,x,hx=>by
  rw [nrA.nrL,Bool.and_eq_true] at h
  cases i with
  | zero=>simp at hx;subst hx;exact h.1
  | succ i=>exact qgv h.2 i x (by simpa using hx)
def nrD (m:Nat):D→Bool
 | .junk|.undef=>true
 | .a x=>nrA m x
 | .r row=>row.all (nrA m)
 | .t ds=>ds.all clD1
def nrS (m:Nat):List Bx→Bool
 | []=>true
 | .gone::r=>nrS m r
 | .cell row::r=>row.all (nrA m)&&nrS m r
 | .arr _ _ _::r=>nrS m r
 | .map _ _ es::r=>(es.all fun e=>e.2.all (nrA m))&&nrS m r
theorem qgu {m:Nat}:∀{l:List Bx} {i:Nat} {k:KS} {wd:Bool} {es:List (Value×List A)},nrS m l=true→l[i]? = some (.map k wd es)→(es.all fun e=>e.2.all (nrA m))=true
 | [],i,k,wd,es,_,h=>by simp at h
 | y::r,i,k,wd,es,h,hi=>by
  cases i with
  | zero =>
   simp at hi;subst hi
   rw [nrS,Bool.and_eq_true] at h;exact h.1
  | succ i =>
   have:nrS m r=true:=by cases y<;>simp only [nrS,Bool.and_eq_true] at h<;>first|exact h|exact h.2
   exact qgu this (by simpa using hi)
theorem qfi {m:Nat}:∀{l:List Bx} {i:Nat} {row:List A},nrS m l=true→l[i]? = some (.cell row)→row.all (nrA m)=true
 | [],i,row,_,h=>by simp at h
 | y::r,i,row,h,hi=>by
  cases i with
  | zero =>
   simp at hi;subst hi
   rw [nrS,Bool.and_eq_true] at h;exact h.1
  | succ i =>
   have:nrS m r=true:=by cases y<;>simp only [nrS,Bool.and_eq_true] at h<;>first|exact h|exact h.2
   exact qfi this (by simpa using hi)
theorem qfj {w:World} {x:Nat→Prop} {bl:List Nat} {st ex:List Bx} {b:Nat} (h:(⟨w,x,bl.take st.length,st⟩:Vw).mut b):(⟨w,x,bl,st++ex⟩:Vw).mut b:=by
 rcases h with h|⟨i,y,h1,h2,h3⟩
 ·exact .inl h
 ·have hi:i<st.length:=(List.getElem?_eq_some_iff.1 h2).1
  exact .inr ⟨i,y,by simp only at h1;rwa [List.getElem?_take_of_lt hi] at h1,by simp only;rwa [List.getElem?_append_left hi],h3⟩
theorem RepA.drop {w:World} {x:Nat→Prop} {bl:List Nat} {st ex:List Bx} {y:A} {u:Value} (h:RepA ⟨w,x,bl,st++ex⟩ y u):nrA st.length y=true→RepA ⟨w,x,bl.take st.length,st⟩ y u:=by
 induction h with
 | c y u h=>exact fun _=>.c _ _ (h.mono (Nat.le_refl _) fun b _ hm=>⟨fun _=>rfl,fun h=>hm (qfj h)⟩)
 | ptr i off b hi hr =>
  intro hn
  have hi:i<st.length:=by simpa [nrA] using hn
  refine .ptr i off b hi fun row hs=>?_
  have:=hr row (by simp only at hs ⊢;rwa [List.getElem?_append_left hi])
  simp only at this ⊢
  rwa [List.getElem?_take_of_lt hi]
 | cs i off len b hi hr =>
  intro hn
  have hi:i<st.length:=by simpa [nrA] using hn
  refine .cs i off len b hi fun row hs=>?_
  have:=hr row (by simp only at hs ⊢;rwa [List.getElem?_append_left hi])
  simp only at this ⊢
  rwa [List.getElem?_take_of_lt hi]
 | own i ver a l c hi hr =>
  intro hn
  have hi:i<st.length:=by simpa [nrA] using hn
  refine .own i ver a l c hi fun ver' n rows hs=>?_
  have:=hr ver' n rows (by simp only at hs ⊢;rwa [List.getElem?_append_left hi])
  simp only at this ⊢
  rwa [List.getElem?_take_of_lt hi]
 | ep i ver z off b ad hi hr =>
  intro hn
  have hi:i<st.length:=by simpa [nrA] using hn
  refine .ep i ver z off b ad hi fun ver' n rows hs=>?_
  have:=hr ver' n rows (by simp only at hs ⊢;rwa [List.getElem?_append_left hi])
  simp only at this ⊢
  rwa [List.getElem?_take_of_lt hi]
 | fn f caps vs hl _ ih=>exact fun hn=>.fn f caps vs hl fun i z hz=>ih i z hz (qgv hn i z hz)
 | fm f caps vs hl _ ih=>exact fun hn=>.fm f caps vs hl fun i z hz=>ih i z hz (qgv hn i z hz)
 | mp i b hi hr =>
  intro hn
  have hi:i<st.length:=by simpa [nrA] using hn
  refine .mp i b hi fun k wd es hs=>?_
  have:=hr k wd es (by simp only at hs ⊢;rwa [List.getElem?_append_left hi])
  simp only at this ⊢
  rwa [List.getElem?_take_of_lt hi]
theorem MRep.drop {w:World} {x:Nat→Prop} {bl:List Nat} {st ex:List Bx} {wd:Bool} {row:List A} {u:Value} (h:MRep ⟨w,x,bl,st++ex⟩ wd row u) (hn:row.all (nrA st.length)=true):MRep ⟨w,x,bl.take st.length,st⟩ wd row u:=by
 cases wd with
 | false=>obtain⟨y,rfl,h2⟩:=h;exact⟨y,rfl,h2.drop (by simpa using hn)⟩
 | true=>obtain⟨vs,h1,h2,h3⟩:=h;exact⟨vs,h1,h2,fun j y hj=>(h3 j y hj).drop (List.all_eq_true.1 hn y (lm4 hj))⟩
theorem RepD.drop {w:World} {x:Nat→Prop} {bl:List Nat} {st ex:List Bx} {d:D} {u:Value} (h:RepD ⟨w,x,bl,st++ex⟩ d u) (hn:nrD st.length d=true):RepD ⟨w,x,bl.take st.length,st⟩ d u:=by
 have row:∀{row:List A} {vs:List Value},vs.length=row.length→(∀(j:Nat) (y:A),row[j]? = some y→RepA ⟨w,x,bl,st++ex⟩ y (vs.getD j Go.undef))→row.all (nrA st.length)=true→RepD ⟨w,x,bl.take st.length,st⟩ (.r row) (.agg vs.toArray) :=
  fun hl h hn=>.r _ _ hl fun j y hj=>(h j y hj).drop (List.all_eq_true.1 hn y (lm4 hj))
 have clnr0:∀y:A,clA y=true→nrA st.length y=true:=fun y hy=>by
  cases y<;>first|rfl|(simp [clA] at hy;done)|skip
  rename_i caps
  cases caps<;>first|rfl|(simp [clA] at hy)
 have clnrL:∀l:List A,l.all clA=true→nrA.nrL st.length l=true:=fun l=>by
  induction l with
  | nil=>intro _;rfl
  | cons y l ih =>
   intro h
   rw [List.all_cons,Bool.and_eq_true] at h
   rw [nrA.nrL,Bool.and_eq_true]
   exact⟨clnr0 y h.1,ih h.2⟩
 have clnr:∀y:A,clA1 y=true→nrA st.length y=true:=fun y hy=>by
  cases y with
  | fn f caps=>exact clnrL caps hy
  | _=>exact clnr0 _ hy
 cases h with
 | junk _=>exact .junk _
 | undef=>exact .undef
 | a y u h=>exact .a y u (h.drop hn)
 | r r vs hl h=>exact row hl h hn
 | t ds vs hl h =>
  refine .t ds vs hl fun j d hd=>?_
  have hc:=List.all_eq_true.1 hn d (lm4 hd)
  have:=h j d hd
  generalize vs.getD j Go.undef=u' at this ⊢
  cases this with
  | junk=>cases hc
  | undef=>cases hc
  | a y _ h=>exact .a y _ (h.drop (clnr y hc))
  | r r vs hl h=>exact row hl h (List.all_eq_true.2 fun y hy=>clnr0 y (List.all_eq_true.1 hc y hy))
  | t=>cases hc
theorem M.drop {P:Program} {C:Cx P} {w:World} {x:Nat→Prop} {bl:List Nat} {st ex:List Bx} {tm:Array Value} {n:Nat} {e:Nat→D} (h:M C ⟨w,x,bl,st++ex⟩ tm n e) (he:∀t,nrD st.length (e t)=true) (hs:nrS st.length st=true) (hV:C.V0.st.length≤st.length):M C ⟨w,x,bl.take st.length,st⟩ tm n e:=by
 have hlen:=h.ok.len
 simp only [List.length_append] at hlen
 have at1:∀{i:Nat} {b:Nat},(bl.take st.length)[i]? = some b→i<st.length∧bl[i]? = some b:=fun {i b} hb=>by
  have:=(List.getElem?_eq_some_iff.1 hb).1
  simp only [List.length_take] at this
  have hi:i<st.length:=by omega
  exact⟨hi,by rwa [List.getElem?_take_of_lt hi] at hb⟩
 have at2:∀{i:Nat} {y:Bx},i<st.length→st[i]? = some y→(st++ex)[i]? = some y:=fun hi hy=>by rwa [List.getElem?_append_left hi]
 refine⟨h.size,fun t ht=>(h.slot t ht).drop (he t),⟨by simp;omega,fun i b hb=>h.ok.lt i b (at1 hb).2,h.ok.xlt,fun w' hs hb=>h.ok.gd w' hs fun b hlt hn hnx hc=>hb b hlt (fun hm=>hn (List.mem_of_mem_take hm)) hnx hc,fun i b hb=>h.ok.isc i b (at1 hb).2,fun i j b y z h1 h2 h3 h4 h5 h6=>?_,fun i row b h1 h2=>?_,fun i ver n rows b h1 h2=>?_,fun i k wd es b h1 h2=>?_⟩,⟨hV,h.le.size,fun b hb hm=>⟨(h.le.blk b hb hm).1,fun hm'=>(h.le.blk b hb hm).2 (qfj hm')⟩,fun i r hi hr=>?_,fun i ver m rows hi hr=>?_,fun i k wd es hi hr=>?_⟩,h.fr,fun b hb=>h.low b (List.mem_of_mem_take hb),fun b hb=>h.sep b (List.mem_of_mem_take hb),h.x0,h.xk,h.xg,fun b hb=>⟨(h.nx b hb).1,(h.nx b hb).2.imp id fun ⟨q2,q3,q4⟩=>⟨q2,fun hm=>q3 (List.mem_of_mem_take hm),q4⟩⟩,h.nx0⟩
 ·exact h.ok.inj i j b y z (at1 h1).2 (at1 h2).2 (at2 (at1 h1).1 h3) (at2 (at1 h2).1 h4) h5 h6
 ·obtain⟨hi,hb⟩:=at1 h2
  obtain⟨cs,T,k1,k2,k3⟩:=h.ok.cell i row b (at2 hi h1) hb
  have hrow:=qfi hs h1
  exact⟨cs,T,k1,k2,fun j y hj=>(k3 j y hj).drop (List.all_eq_true.1 hrow y (lm4 hj))⟩
 ·obtain⟨hi,hb⟩:=at1 h2
  obtain⟨cs,T,c,k1,k2,k3,k4,k5,k6⟩:=h.ok.arr i ver n rows b (at2 hi h1) hb
  exact⟨cs,T,c,k1,k2,k3,k4,k5,fun k r j y hk hj=>(k6 k r j y hk hj).mono (Nat.le_refl _) fun b _ hm=>⟨fun _=>rfl,fun hh=>hm (qfj hh)⟩⟩
 ·obtain⟨hi,hb⟩:=at1 h2
  obtain⟨ms,k1,k2,k3⟩:=h.ok.map i k wd es b (at2 hi h1) hb
  have hes:=qgu hs h1
  exact⟨ms,k1,k2,fun j y row hj=>by obtain⟨q1,v,q2,q3⟩:=k3 j y row hj;exact⟨q1,v,q2,q3.drop (List.all_eq_true.1 hes _ (lm4 hj))⟩⟩
 ·have hi2:i<st.length:=by omega
  have:=h.le.cell i r hi (at2 hi2 hr)
  simp only at this ⊢
  rwa [List.getElem?_take_of_lt hi2]
 ·have hi2:i<st.length:=by omega
  obtain⟨v0,n0,r0,q1,q2⟩:=h.le.arr i ver m rows hi (at2 hi2 hr)
  refine⟨v0,n0,r0,q1,q2.imp id fun ⟨e1,e2,e3,e4,e5⟩=>⟨e1,e2,e3,?_,e5⟩⟩
  simp only at e4 ⊢
  rwa [List.getElem?_take_of_lt hi2]
 ·have hi2:i<st.length:=by omega
  have:=h.le.map i k wd es hi (at2 hi2 hr)
  simp only at this ⊢
  rwa [List.getElem?_take_of_lt hi2]
def nrE (m:Nat) (l:List (Nat×D)):Bool:=l.all fun p=>nrD m p.2
theorem qkp {m:Nat}:∀{l:List (Nat×D)},nrE m l=true→∀t,nrD m (envL l t)=true
 | [],_,_=>rfl
 | (t',d)::r,h,t=>by
  simp only [nrE,List.all_cons,Bool.and_eq_true] at h
  by_cases ht:t=t'
  ·subst ht;simp only [envL,upd,if_true];exact h.1
  ·simp only [envL,upd];rw [if_neg ht];exact qkp h.2 t
theorem Sat.drop {P:Program} {C:Cx P} {w:World} {x:Nat→Prop} {bl:List Nat} {st ex:List Bx} {a:Act} {n:Nat} {e:Nat→D} (h:Sat C ⟨w,x,bl,st++ex⟩ a n e) (he:∀t,nrD st.length (e t)=true) (hs:nrS st.length st=true) (hV:C.V0.st.length≤st.length):Sat C ⟨w,x,bl.take st.length,st⟩ a n e:=by
 obtain⟨ms,⟨h1,h2,h3⟩,hm,henv⟩:=h
 refine⟨ms,⟨h1,h2,fun D hD=>?_⟩,hm.drop he hs hV,henv.frm ⟨rfl,rfl,rfl,Nat.le_refl _,fun _ _ _=>rfl⟩ (fun b hb=>?_) fun _ hb=>hb⟩
 ·obtain⟨q1,q2,q3,q4⟩:=h3 D hD
  exact⟨q1,q2,fun h=>q3 (List.mem_of_mem_take h),q4⟩
 ·obtain⟨i,y,h1,h2,h3⟩:=hb
  have hi:i<st.length:=(List.getElem?_eq_some_iff.1 h2).1
  exact .inl ⟨i,y,by simp only at h1;rwa [List.getElem?_take_of_lt hi] at h1,by simp only;rwa [List.getElem?_append_left hi],h3⟩
section
variable {P:Program} {C:Cx P} {n:Nat} {Q:Exit→(Nat→D)→List Bx→Prop} {e:Nat→D} {st:List Bx}
theorem WP.loopX {α:Type} (env:α→List (Nat×D)) (sto:α→List Bx) (μ:α→Nat) (y:α) {c:Code} (h0:qal e (env y)) (hs:st=sto y)
  (round:∀y,WP C n c (qej (fun e' st'=>∃z ex,μ z<μ y∧qal e' (env z)∧st'=sto z++ex∧nrE (sto z).length (env z)=true∧nrS (sto z).length (sto z)=true) Q) (envL (env y)) (sto y)) (hlen:∀y z,(sto y).length=(sto z).length:=by intros;rfl):WP C n (.loop c) Q e st:=by
 subst hs
 have main:C.V0.st.length≤(sto y).length→WP C n (.loop c) Q (envL (env y)) (sto y):=by
  intro hV
  refine WP.loopS (fun y e st=>e=envL (env y)∧st=sto y) μ y ⟨rfl,rfl⟩ ?_
  rintro y2 _ _ ⟨rfl,rfl⟩
  refine (round y2).mono ?_
  intro ex e' st' hq
  cases ex with
  | normal =>
   obtain⟨z,exx,hlt,hag,rfl,hn1,hn2⟩:=hq
   intro a w x bl hm
   exact⟨z,x,_,_,_,hlt,⟨rfl,rfl⟩,(hm.weaken hag).drop (qkp hn1) hn2 (by rw [hlen z y];exact hV)⟩
  | _=>exact hq
 intro a w x bl hm
 exact main hm.m.le.len a w x bl (hm.weaken h0)
end
@[go_sem] theorem qah {z:Int} (h1 : -9223372036854775808≤z) (h2:z<9223372036854775808):IntKind.i64.wrap z=z:=by
 simp [IntKind.wrap,IntKind.signed,IntKind.bits];omega
@[go_sem] theorem qa8 {k:Nat} (h:k<9223372036854775807):IntKind.i64.wrap ((k:Int)+1)=((k+1:Nat):Int):=by
 rw [qah (by omega) (by omega)];omega
def lend0 (st:List Bx):A→A
 | .ptr i off=>match st[i]? with
  | some (.cell row)=>.ref row off
  | _=>.ptr i off
 | .own i ver=>match st[i]? with
  | some (.arr ver' _ rows)=>if ver=ver' then .sl rows else .own i ver
  | _=>.own i ver
 | x=>x
def qfw (st:List Bx):A→Bool
 | .ptr i _=>match st[i]? with
  | some (.cell row)=>row.all clA
  | _=>false
 | .own i ver=>match st[i]? with
  | some (.arr ver' _ _)=>ver==ver'
  | _=>false
 | x=>clA x
def qmu (st:List Bx):A→A
 | .fn f caps=>.fn f (caps.map (lend0 st))
 | x=>lend0 st x
def ldOk (st:List Bx):A→Bool
 | .fn _ caps=>caps.all (qfw st)
 | x=>qfw st x
def qfu (st:List Bx):D→D
 | .a x=>.a (qmu st x)
 | d=>d
def qfv (st:List Bx):D→Bool
 | .a x=>ldOk st x
 | .r row=>row.all clA
 | _=>false
@[go_sem] theorem lendD_a (st:List Bx) (x:A):qfu st (.a x)=.a (qmu st x):=rfl
@[go_sem] theorem lendD_r (st:List Bx) (x:List A):qfu st (.r x)=.r x:=rfl
@[go_sem] theorem lendA_v (st:List Bx) (x:Value):qmu st (.v x)=.v x:=rfl
@[go_sem] theorem lendA_sl (st:List Bx) (x:List (List A)):qmu st (.sl x)=.sl x:=rfl
@[go_sem] theorem lendA_fn (st:List Bx) (f:FuncId) (l:List A):qmu st (.fn f l)=.fn f (l.map (lend0 st)):=rfl
@[go_sem] theorem lend0_ptr0 (row:List A) (st:List Bx) (o:Nat):lend0 (.cell row::st) (.ptr 0 o)=.ref row o:=rfl
@[go_sem] theorem lend0_ptr1 (y:Bx) (row:List A) (st:List Bx) (o:Nat):lend0 (y::.cell row::st) (.ptr 1 o)=.ref row o:=rfl
@[go_sem] theorem lend0_ptr2 (y z:Bx) (row:List A) (st:List Bx) (o:Nat):lend0 (y::z::.cell row::st) (.ptr 2 o)=.ref row o:=rfl
@[go_sem] theorem ldOkD_a (st:List Bx) (x:A):qfv st (.a x)=ldOk st x:=rfl
@[go_sem] theorem ldOkD_r (st:List Bx) (x:List A):qfv st (.r x)=x.all clA:=rfl
@[go_sem] theorem ldOk_v (st:List Bx) (x:Value):ldOk st (.v x)=true:=rfl
@[go_sem] theorem ldOk_sl (st:List Bx) (x:List (List A)):ldOk st (.sl x)=true:=rfl
@[go_sem] theorem ldOk_fn (st:List Bx) (f:FuncId) (l:List A):ldOk st (.fn f l)=l.all (qfw st):=rfl
@[go_sem] theorem ldOk0_ptr0 (row:List A) (st:List Bx) (o:Nat):qfw (.cell row::st) (.ptr 0 o)=row.all clA:=rfl
@[go_sem] theorem ldOk0_ptr1 (y:Bx) (row:List A) (st:List Bx) (o:Nat):qfw (y::.cell row::st) (.ptr 1 o)=row.all clA:=rfl
@[go_sem] theorem ldOk0_ptr2 (y z:Bx) (row:List A) (st:List Bx) (o:Nat):qfw (y::z::.cell row::st) (.ptr 2 o)=row.all clA:=rfl
def qg1 (V:Vw) (b:Nat):Prop:=V.x b∧¬b∈V.bl
theorem RepC.less {w:World} {m m':Nat→Prop} (h:∀b,m' b→m b) {x:A} {u:Value} (hr:RepC w m x u):RepC w m' x u :=
 hr.mono (Nat.le_refl _) fun b _ hm=>⟨fun _=>rfl,fun h'=>hm (h b h')⟩
theorem RepC.lent {V:Vw} {x:A} {u:Value} (hr:RepC V.w V.mut x u):RepC V.w (qg1 V) x u:=hr.less fun _ h=>.inl h.1
theorem RepA.lend0 {V:Vw} (hok:Ok V) {y:A} {u:Value} (h:RepA V y u) (hc:qfw V.st y=true):RepC V.w (qg1 V) (lend0 V.st y) u:=by
 have other:clA y=true→RepC V.w (qg1 V) y u:=fun hcl=>(h.cl hcl).lent
 cases y with
 | ptr i off =>
  unfold qfw at hc
  dsimp only at hc
  cases hs:V.st[i]? with
  | none=>rw [hs] at hc;cases hc
  | some bx =>
   cases bx with
   | gone=>rw [hs] at hc;cases hc
   | map=>rw [hs] at hc;cases hc
   | arr=>rw [hs] at hc;cases hc
   | cell row =>
    rw [hs] at hc
    dsimp only at hc
    have hl:Go.Proofs.YtfbopaaambkfkaaGreatDoor.lend0 V.st (.ptr i off)=.ref row off:=by unfold Go.Proofs.YtfbopaaambkfkaaGreatDoor.lend0;dsimp only;rw [hs]
    rw [hl]
    cases h with
    | c _ _ h=>cases h
    | ptr _ _ b hi hb =>
     have hb:=hb row hs
     obtain⟨cs,T,h1,h2,h3⟩:=hok.cell i row b hs hb
     have:=RepC.ref (w:=V.w) (mu:=qg1 V) row off b 0 (fun j=>cs.getD j Go.undef) (hok.isc i b hb) (fun hx=>hx.2 (lm4 hb)) (fun j x hj=>?_) fun j x hj=>((h3 j x hj).cl (List.all_eq_true.1 hc x (lm4 hj))).lent
     ·rw [Nat.zero_add] at this;exact this
     ·have hlt:j<cs.size:=by
       rw [h2];exact (List.getElem?_eq_some_iff.1 hj).1
      have hcell:V.w.cell? ⟨b,0+j,none⟩=cs[0+j]?:=by
       rw [World.cell?,h1];rfl
      rw [hcell,Nat.zero_add,Array.getD_eq_getD_getElem?,Array.getElem?_eq_getElem hlt];rfl
 | v x=>exact other hc
 | nl=>exact other hc
 | sl r=>exact other hc
 | ref r o=>exact other hc
 | own i ver =>
  unfold qfw at hc
  dsimp only at hc
  cases hs:V.st[i]? with
  | none=>rw [hs] at hc;cases hc
  | some bx =>
   cases bx with
   | gone=>rw [hs] at hc;cases hc
   | map=>rw [hs] at hc;cases hc
   | cell=>rw [hs] at hc;cases hc
   | arr ver' n rows =>
    rw [hs] at hc
    have hv:ver=ver':=by simpa using hc
    subst hv
    have hl:Go.Proofs.YtfbopaaambkfkaaGreatDoor.lend0 V.st (.own i ver)=.sl rows:=by unfold Go.Proofs.YtfbopaaambkfkaaGreatDoor.lend0;dsimp only;rw [hs];exact if_pos rfl
    rw [hl]
    cases h with
    | c _ _ h=>cases h
    | own _ _ a l c hi hr =>
     obtain⟨_,hr⟩:=hr _ _ _ hs
     obtain⟨rfl,b,cs,T,rfl,hb,hh,hsz,hlc⟩:=hr rfl
     obtain⟨cs',T',c',h1,h2,h3,h4,h5,h6⟩:=hok.arr i ver n rows b hs hb
     rw [hh] at h1;injection h1 with h1;injection h1 with e1 e2;subst e1
     refine .sl rows n b 0 c (fun k j=>cs.getD (k*n+j) Go.undef) (hok.isc i b hb) (fun hx=>hx.2 (lm4 hb)) hlc h5 (fun k row j y hk hj=>?_) fun k row j y hk hj=>(h6 k row j y hk hj).lent
     have hklt:=(List.getElem?_eq_some_iff.1 hk).1
     have hjlt:j<n:=by have:=(List.getElem?_eq_some_iff.1 hj).1;rw [h5 k row hk] at this;exact this
     have hlt:k*n+j<cs.size:=by
      rw [hsz]
      have:(k+1)*n≤c*n:=Nat.mul_le_mul_right n (by omega)
      rw [Nat.add_mul,Nat.one_mul] at this;omega
     have hcell:V.w.cell? ⟨b,0+k*n+j,none⟩=cs[0+k*n+j]?:=by
      rw [World.cell?,hh];rfl
     rw [hcell,Nat.zero_add,Array.getD_eq_getD_getElem?,Array.getElem?_eq_getElem hlt];rfl
 | ep i v z o=>cases hc
 | mp i=>cases hc
 | cs i o n=>cases hc
 | fn f caps=>exact other hc
 | fm f caps=>cases hc
theorem RepA.lend {V:Vw} (hok:Ok V) {y:A} {u:Value} (h:RepA V y u) (hc:ldOk V.st y=true):RepC V.w (qg1 V) (qmu V.st y) u:=by
 cases y with
 | fn f caps =>
  cases h with
  | c _ _ h=>cases h with
   | fn _ _ vs hl hr =>
    refine .fn f _ vs (by simpa using hl) fun i x hi=>?_
    rw [List.getElem?_map,Option.map_eq_some_iff] at hi
    obtain⟨y,hy,rfl⟩:=hi
    exact (RepA.c y _ (hr i y hy)).lend0 hok (List.all_eq_true.1 hc y (lm4 hy))
  | fn _ _ vs hl hr =>
   refine .fn f _ vs (by simpa using hl) fun i x hi=>?_
   rw [List.getElem?_map,Option.map_eq_some_iff] at hi
   obtain⟨y,hy,rfl⟩:=hi
   exact (hr i y hy).lend0 hok (List.all_eq_true.1 hc y (lm4 hy))
 | ptr i off=>exact h.lend0 hok hc
 | v x=>exact h.lend0 hok hc
 | nl=>exact h.lend0 hok hc
 | sl r=>exact h.lend0 hok hc
 | ref r o=>exact h.lend0 hok hc
 | own i v=>exact h.lend0 hok hc
 | fm f c=>exact h.lend0 hok hc
 | ep i v z o=>exact h.lend0 hok hc
 | mp i=>exact h.lend0 hok hc
 | cs i o n=>exact h.lend0 hok hc
theorem RepD.lend {V:Vw} (hok:Ok V) {d:D} {u:Value} (h:RepD V d u) (hc:qfv V.st d=true):RepD (out V.w (qg1 V)) (qfu V.st d) u:=by
 have key:∀{x:A} {u:Value},RepC V.w (qg1 V) x u→RepA (out V.w (qg1 V)) x u:=fun h=>h.toOut
 cases h with
 | a x u h=>exact .a _ _ (key (h.lend hok hc))
 | r row vs hl h =>
  refine .r row vs hl fun j x hj=>key ?_
  exact ((h j x hj).cl (List.all_eq_true.1 hc x (lm4 hj))).lent
 | junk=>cases hc
 | undef=>cases hc
 | t=>cases hc
theorem qaa.upL {P:Program} {f:FuncId} {ds raw:List D} {z:Value} (h:qaa P f ds (.a (.v z))) {V:Vw} (hok:Ok V) {vs:List Value} (hd:raw.map (qfu V.st)=ds) (hl:vs.length=raw.length) (hr:∀(i:Nat) (d':D),raw[i]? = some d'→RepD V d' (vs.getD i Go.undef)) (hc:raw.all (qfv V.st)=true) :
  Calls P f vs.toArray V.w fun en w'=>∃v,en=.returned v∧Grw V.w w'∧RepD (V.to w') (.a (.v z)) v:=by
 subst hd
 refine (h.2 V.w (qg1 V) vs (fun b hb=>hok.xlt b hb.1) (fun w' hs hb=>hok.gd w' hs fun b hlt _ hx=>hb b hlt fun h=>hx h.1) (by simpa using hl) fun i d' hi=>?_).mono ?_
 ·rw [List.getElem?_map,Option.map_eq_some_iff] at hi
  obtain⟨y,hy,rfl⟩:=hi
  exact (hr i y hy).lend hok (List.all_eq_true.1 hc y (lm4 hy))
 ·rintro en w' ⟨v,h1,h2,h3⟩
  obtain⟨rfl,hp⟩:=h3.v_inv
  exact⟨v,h1,h2,.a _ _ (.c _ _ (.v v hp))⟩
section
variable {P:Program} {st:List Bx} {e:Nat→D} {o:Oper}
theorem OpJ.callL {f:FuncId} {xs:Array Operand} {tys:Array TypeId} {ds:List D} {z:Value} (ho:o.op=.call ⟨.value (.func f),xs,tys⟩) (hx:(xs.toList.map (evO e)).map (qfu st)=ds) (hc:(xs.toList.map (evO e)).all (qfv st)=true) (hp:qaa P f ds (.a (.v z))):OpJ P st e o (.a (.v z)):=by
 intro ρ V hV hok hu
 subst hV
 rw [ho] at hu
 have hf:ρ (.func f)=.func (.func f) #[] #[]:=qme (hu (.func f) (by simp [qaq,Op.operands,Call.operands]))
 have hrun:(execOp ρ o).run P V.w=.ok (.enter f (xs.map ρ)) V.w:=by
  simp only [execOp,ho,resolve,hf,Deferred.ofValue,Sem.run_bind,Sem.run_pure,Result.andThen_ok,invoke,Array.empty_append,Array.append_empty,hp.1]
 rw [hrun]
 refine⟨rfl,?_⟩
 have:=hp.upL hok (vs:=(xs.map ρ).toList) hx (by simp) (fun i d' hd=>?_) hc
 ·rw [Array.toArray_toList] at this;exact this
 ·rw [List.getElem?_map,Option.map_eq_some_iff] at hd
  obtain⟨y,hy,rfl⟩:=hd
  have:=hu y (by have:=lm4 hy;simp [qaq,Op.operands,Call.operands];right;simpa using this)
  have hget:(xs.map ρ).toList.getD i Go.undef=ρ y:=by
   rw [List.getD_eq_getElem?_getD,Array.toList_map,List.getElem?_map,hy];rfl
  rw [hget];exact this
theorem OpJ.callvL {f:FuncId} {y:Operand} {caps:List A} {xs:Array Operand} {tys:Array TypeId} {ds:List D} {z:Value} (ho:o.op=.call ⟨.value y,xs,tys⟩) (hy:evO e y=.a (.fn f caps)) (hx:(xs.toList.map (evO e)++caps.map D.a).map (qfu st)=ds) (hc:(xs.toList.map (evO e)++caps.map D.a).all (qfv st)=true) (hp:qaa P f ds (.a (.v z))):OpJ P st e o (.a (.v z)):=by
 intro ρ V hV hok hu
 subst hV
 rw [ho] at hu
 have h1:=hu y (by simp [qaq,Op.operands,Call.operands])
 rw [hy] at h1
 have key:∃vs:List Value,ρ y=.func (.func f) #[] vs.toArray∧vs.length=caps.length∧∀(i:Nat) (z:A),caps[i]? = some z→RepA V z (vs.getD i Go.undef):=by
  generalize ρ y=u at *
  cases h1 with
  | a _ _ h=>cases h with
   | c _ _ h=>cases h with
    | fn _ _ vs hl h=>exact⟨vs,rfl,hl,fun i z hz=>.c _ _ (h i z hz)⟩
   | fn _ _ vs hl h=>exact⟨vs,rfl,hl,h⟩
 obtain⟨vs,hf,hvl,hvr⟩:=key
 have hrun:(execOp ρ o).run P V.w=.ok (.enter f (xs.map ρ++vs.toArray)) V.w:=by
  simp only [execOp,ho,resolve,hf,Deferred.ofValue,Sem.run_bind,Sem.run_pure,Result.andThen_ok,invoke,Array.empty_append,hp.1]
 rw [hrun]
 refine⟨rfl,?_⟩
 have:=hp.upL hok (vs:=(xs.map ρ).toList++vs) hx (by simp [hvl]) (fun i d' hd=>?_) hc
 ·rw [show ((xs.map ρ).toList++vs).toArray=xs.map ρ++vs.toArray by apply Array.ext';rw [List.toList_toArray,Array.toList_append]] at this;exact this
 ·rw [List.getElem?_append] at hd
  rw [List.getD_eq_getElem?_getD,List.getElem?_append]
  simp only [List.length_map,Array.length_toList,Array.size_map] at hd ⊢
  split at hd
  ·rename_i hlt
   rw [if_pos hlt]
   rw [List.getElem?_map,Option.map_eq_some_iff] at hd
   obtain⟨y',hy',rfl⟩:=hd
   have:=hu y' (by have:=lm4 hy';simp [qaq,Op.operands,Call.operands];right;simpa using this)
   rw [Array.toList_map,List.getElem?_map,hy'];exact this
  ·rename_i hlt
   rw [if_neg hlt]
   rw [List.getElem?_map,Option.map_eq_some_iff] at hd
   obtain⟨z,hz,rfl⟩:=hd
   have:=hvr _ z hz
   rw [List.getD_eq_getElem?_getD] at this
   exact .a _ _ this
end
section
variable {P:Program} {C:Cx P} {ops:Array Oper} {r:List Oper} {e:Nat→D} {st:List Bx} {ds:List D} {z:Value} {dst:Option Nat} {ty:TypeId} {pos:String} {after:Array Edge} {guard:Option (Nat×Bool)}
theorem RS.callL {K:(Nat→D)→List Bx→Prop} {f:FuncId} {xs:List Operand} {tys:Array TypeId} (hx:(xs.map (evO e)).map (qfu st)=ds) (hc:(xs.map (evO e)).all (qfv st)=true) (hp:qaa P f ds (.a (.v z))) (h:RS C ops r (putE e dst (.a (.v z))) st K):RS C ops (⟨dst,.call ⟨.value (.func f),⟨xs⟩,tys⟩,ty,pos,after,guard⟩::r) e st K :=
 .inl ⟨.a (.v z),st,.inr ⟨rfl,.of (.callL rfl hx hc hp)⟩,h⟩
theorem RS.callvL {K:(Nat→D)→List Bx→Prop} {f:FuncId} {y:Operand} {caps:List A} {xs:List Operand} {tys:Array TypeId} (hy:evO e y=.a (.fn f caps)) (hx:(xs.map (evO e)++caps.map D.a).map (qfu st)=ds) (hc:(xs.map (evO e)++caps.map D.a).all (qfv st)=true) (hp:qaa P f ds (.a (.v z))) (h:RS C ops r (putE e dst (.a (.v z))) st K):RS C ops (⟨dst,.call ⟨.value y,⟨xs⟩,tys⟩,ty,pos,after,guard⟩::r) e st K :=
 .inl ⟨.a (.v z),st,.inr ⟨rfl,.of (.callvL rfl hy hx hc hp)⟩,h⟩
end
def frz0 (i:Nat) (row:List A):A→A
 | .ptr j off=>if j=i then .ref row off else .ptr j off
 | x=>x
def frzA (i:Nat) (row:List A):A→A
 | .fn f caps=>.fn f (caps.map (frz0 i row))
 | x=>frz0 i row x
def frzD (i:Nat) (row:List A):D→D
 | .a x=>.a (frzA i row x)
 | d=>d
@[go_sem] theorem frz_eq (i:Nat) (row:List A) (off:Nat):frz0 i row (.ptr i off)=.ref row off:=if_pos rfl
@[go_sem] theorem frzD_a (i:Nat) (row:List A) (x:A):frzD i row (.a x)=.a (frzA i row x):=rfl
@[go_sem] theorem frzA_fn (i:Nat) (row:List A) (f:FuncId) (l:List A):frzA i row (.fn f l)=.fn f (l.map (frz0 i row)):=rfl
@[go_sem] theorem frzA_ptr (i:Nat) (row:List A) (j o:Nat):frzA i row (.ptr j o)=frz0 i row (.ptr j o):=rfl
@[go_sem] theorem frzA_v (i:Nat) (row:List A) (x:Value):frzA i row (.v x)=.v x:=rfl
theorem M.freeze {P:Program} {C:Cx P} {w:World} {x:Nat→Prop} {bl:List Nat} {st:List Bx} {tm:Array Value} {n:Nat} {e:Nat→D} {i:Nat} {row:List A} (hm:M C ⟨w,x,bl,st⟩ tm n e) (hs:st[i]? = some (.cell row)) (hc:row.all clA=true):M C ⟨w,x,bl,st.set i .gone⟩ tm n fun t=>frzD i row (e t):=by
 have hi:i<st.length:=(List.getElem?_eq_some_iff.1 hs).1
 have hne:∀(j:Nat) (y:Bx),(st.set i .gone)[j]? = some y→y.live=true→j≠i∧st[j]? = some y:=by
  intro j y hj hl
  rw [List.getElem?_set] at hj
  split at hj
  ·rename_i h
   subst h
   injection hj with hj;subst hj;cases hl
  ·rename_i h;exact⟨fun h'=>h h'.symm,hj⟩
 have hmut:∀b,(⟨w,x,bl,st.set i .gone⟩:Vw).mut b→(⟨w,x,bl,st⟩:Vw).mut b:=by
  rintro b (h|⟨j,y,h1,h2,h3⟩)
  ·exact .inl h
  ·exact .inr ⟨j,y,h1,(hne j y h2 h3).2,h3⟩
 have hle:(⟨w,x,bl,st⟩:Vw).Le ⟨w,x,bl,st.set i .gone⟩:=by
  refine⟨by simp,Nat.le_refl _,fun b _ h=>⟨fun _=>rfl,fun h'=>h (hmut b h')⟩,fun j r hj hr=>?_,fun j ver m rows hj hr=>?_,fun j kk wd es hj hr=>?_⟩
  ·exact⟨⟨r,(hne j _ hr rfl).2⟩,rfl⟩
  ·exact⟨ver,m,rows,(hne j _ hr rfl).2,.inr ⟨rfl,rfl,rfl,rfl,fun _ cs _ _ hc=>⟨cs,hc,rfl⟩⟩⟩
  ·exact⟨⟨kk,wd,es,(hne j _ hr rfl).2⟩,rfl⟩
 have hnm:∀b,bl[i]? = some b→¬(⟨w,x,bl,st.set i .gone⟩:Vw).mut b:=by
  rintro b hb (h|⟨j,y,h1,h2,h3⟩)
  ·exact hm.sep b (lm4 hb) h
  ·obtain⟨h4,h5⟩:=hne j y h2 h3
   exact h4 (hm.ok.inj j i b y (.cell row) h1 hb h5 hs h3 rfl)
 refine⟨hm.size,fun t ht=>?_,⟨by simpa using hm.ok.len,hm.ok.lt,hm.ok.xlt,hm.ok.gd,hm.ok.isc,fun j k b y z h1 h2 h3 h4 h5 h6=>?_,fun j r b h1 h2=>?_,fun j ver m rows b h1 h2=>?_,fun j kk wd es b h1 h2=>?_⟩,hm.le.trans hle,hm.fr,hm.low,hm.sep,hm.x0,hm.xk,hm.xg,hm.nx,hm.nx0⟩
 ·have h0:∀{y:A} {u:Value},RepA ⟨w,x,bl,st⟩ y u→RepA ⟨w,x,bl,st.set i .gone⟩ (frz0 i row y) u:=by
   intro y u h
   cases y with
   | ptr j off =>
    unfold frz0
    dsimp only
    split
    ·rename_i hji
     subst hji
     cases h with
     | c _ _ h=>cases h
     | ptr _ _ b hlt hb =>
      have hb:=hb row hs
      obtain⟨cs,T,h1,h2,h3⟩:=hm.ok.cell j row b hs hb
      have:=RepC.ref (w:=w) (mu:=(⟨w,x,bl,st.set j .gone⟩:Vw).mut) row off b 0 (fun k=>cs.getD k Go.undef) (hm.ok.isc j b hb) (hnm b hb) (fun k y hk=>?_) fun k y hk=>((h3 k y hk).cl (List.all_eq_true.1 hc y (lm4 hk))).less hmut
      ·rw [Nat.zero_add] at this;exact .c _ _ this
      ·have hlt2:k<cs.size:=by rw [h2];exact (List.getElem?_eq_some_iff.1 hk).1
       have hcell:w.cell? ⟨b,0+k,none⟩=cs[0+k]?:=by
        rw [World.cell?,h1];rfl
       rw [hcell,Nat.zero_add,Array.getD_eq_getD_getElem?,Array.getElem?_eq_getElem hlt2];rfl
    ·exact h.mono hle
   | v z=>exact h.mono hle
   | nl=>exact h.mono hle
   | sl z=>exact h.mono hle
   | ref z o=>exact h.mono hle
   | own z o=>exact h.mono hle
   | ep z o p q=>exact h.mono hle
   | mp z=>exact h.mono hle
   | cs z o n=>exact h.mono hle
   | fn f c=>exact h.mono hle
   | fm f c=>exact h.mono hle
  have h1:∀{y:A} {u:Value},RepA ⟨w,x,bl,st⟩ y u→RepA ⟨w,x,bl,st.set i .gone⟩ (frzA i row y) u:=by
   intro y u h
   cases y with
   | fn f caps =>
    have key:∃vs:List Value,u=.func (.func f) #[] vs.toArray∧vs.length=caps.length∧∀(j:Nat) (z:A),caps[j]? = some z→RepA ⟨w,x,bl,st⟩ z (vs.getD j Go.undef):=by
     cases h with
     | c _ _ h=>cases h with
      | fn _ _ vs hl h=>exact⟨vs,rfl,hl,fun j z hz=>.c _ _ (h j z hz)⟩
     | fn _ _ vs hl h=>exact⟨vs,rfl,hl,h⟩
    obtain⟨vs,rfl,hl,hv⟩:=key
    refine .fn f _ vs (by simpa using hl) fun j z hz=>?_
    rw [List.getElem?_map,Option.map_eq_some_iff] at hz
    obtain⟨z0,hz,rfl⟩:=hz
    exact h0 (hv j z0 hz)
   | ptr z o=>exact h0 h
   | v z=>exact h0 h
   | nl=>exact h0 h
   | sl z=>exact h0 h
   | ref z o=>exact h0 h
   | own z o=>exact h0 h
   | ep z o p q=>exact h0 h
   | mp z=>exact h0 h
   | cs z o n=>exact h0 h
   | fm f c=>exact h0 h
  have h:=hm.slot t ht
  generalize e t=d at h ⊢
  generalize tm.getD t Go.undef=u at h ⊢
  cases d with
  | a y=>cases h with
   | a _ _ h=>exact .a _ _ (h1 h)
  | _=>exact h.mono hle
 ·exact hm.ok.inj j k b y z h1 h2 (hne j y h3 h5).2 (hne k z h4 h6).2 h5 h6
 ·obtain⟨cs,T,k1,k2,k3⟩:=hm.ok.cell j r b (hne j _ h1 rfl).2 h2
  exact⟨cs,T,k1,k2,fun k y hk=>(k3 k y hk).mono hle⟩
 ·obtain⟨cs,T,c,k1,k2,k3,k4,k5,k6⟩:=hm.ok.arr j ver m rows b (hne j _ h1 rfl).2 h2
  exact⟨cs,T,c,k1,k2,k3,k4,k5,fun k r q y hk hq=>(k6 k r q y hk hq).less hmut⟩
 ·obtain⟨ms,k1,k2,k3⟩:=hm.ok.map j kk wd es b (hne j _ h1 rfl).2 h2
  exact⟨ms,k1,k2,fun q y row hj=>by obtain⟨q1,v,q2,q3⟩:=k3 q y row hj;exact⟨q1,v,q2,q3.mono hle⟩⟩
theorem Sat.freeze {P:Program} {C:Cx P} {w:World} {x:Nat→Prop} {bl:List Nat} {st:List Bx} {a:Act} {n:Nat} {e:Nat→D} {i:Nat} {row:List A} (h:Sat C ⟨w,x,bl,st⟩ a n e) (hs:st[i]? = some (.cell row)) (hc:row.all clA=true):Sat C ⟨w,x,bl,st.set i .gone⟩ a n fun t=>frzD i row (e t):=by
 obtain⟨ms,h1,hm,henv⟩:=h
 refine⟨ms,h1,hm.freeze hs hc,?_⟩
 have h2:EnvE C.E C.on (C.nxm ms) (e 1000000) ⟨w,x,bl,st.set i .gone⟩:=henv.frm ⟨rfl,rfl,rfl,Nat.le_refl _,fun _ _ _=>rfl⟩ (fun b hb=>by
  obtain⟨j,y,h1,h2,h3⟩:=hb
  have h2:(st.set i .gone)[j]? = some y:=h2
  rw [List.getElem?_set] at h2
  split at h2
  ·split at h2
   ·injection h2 with h2;subst h2;cases h3
   ·cases h2
  ·exact .inl ⟨j,y,h1,h2,h3⟩) fun _ hb=>hb
 show EnvE C.E C.on (C.nxm ms) (frzD i row (e 1000000)) _
 generalize e 1000000=g at h2 ⊢
 cases g with
 | a y =>
  cases y with
  | ptr j off =>
   unfold frzD frzA frz0
   dsimp only
   split<;>trivial
  | fn f c=>trivial
  | _=>exact h2
 | _=>exact h2
theorem WP.freeze {P:Program} {C:Cx P} {n:Nat} {c:Code} {Q:Exit→(Nat→D)→List Bx→Prop} {e:Nat→D} {st:List Bx} (i:Nat) (row:List A) (l:List (Nat×D)) (hs:st[i]? = some (.cell row)) (hc:row.all clA=true) (hag:qal (fun t=>frzD i row (e t)) l) (h:WP C n c Q (envL l) (st.set i .gone)):WP C n c Q e st:=by
 intro a w x bl hm
 exact h a w x bl ((hm.freeze hs hc).weaken hag)
def qem (row:List A) (off sz l h:Nat):List (List A):=(List.range (h-l)).map fun k=>(row.drop (off+(l+k)*sz)).take sz
section
variable {P:Program} {st:List Bx} {e:Nat→D} {o:Oper}
theorem qkd {V:Vw} {ρ:Operand→Value} {lo hi mx:Option Operand} {len m l h:Nat} (hlo:∀z,lo=some z→RepD V (evO e z) (ρ z)) (hhi:∀z,hi=some z→RepD V (evO e z) (ρ z)) (hmx:∀z,mx=some z→RepD V (evO e z) (ρ z))
  (hs:mx.isSome=true→hi.isSome=true) (h0:bndD e mx len=some m) (h1:bndD e hi m=some h) (h2:lowD e lo h=some l) {w:World} :
  (Instr.sliceBounds false len len (lo.map ρ) (hi.map ρ) (mx.map ρ)).run P w=.ok (l,h,m) w∧m≤len∧h≤m∧l≤h:=by
 have hm:=qdu (P:=P) (w:=w) (c:=.slice3Alen) hmx h0 (Nat.le_refl _)
 have hh:=fun c=>qdu (P:=P) (w:=w) (c:=c) hhi h1 (Nat.le_refl _)
 have hl:l≤h∧∀c z,lo=some z→(Instr.sliceBound (ρ z) h c).run P w=.ok l w:=by
  cases lo with
  | none=>injection h2 with h2;exact⟨by omega,fun c z hz=>by cases hz⟩
  | some z=>exact⟨(qdu (P:=P) (w:=w) (c:=.sliceB) hlo h2 (Nat.le_refl _)).2,fun c z' hz=>by injection hz with hz;subst hz;exact (qdu (P:=P) (w:=w) (c:=c) hlo h2 (Nat.le_refl _)).1⟩
 refine⟨?_,hm.2,(hh .sliceB).2,hl.1⟩
 unfold Instr.sliceBounds
 cases mx with
 | none =>
  injection h0 with h0;subst h0
  cases hi with
  | none =>
   injection h1 with h1;subst h1
   cases lo with
   | none=>injection h2 with h2;subst h2;rfl
   | some z=>simp only [Option.map_none,Option.map_some,Sem.run_bind,Sem.run_pure,Result.andThen_ok,Option.isSome_none,Bool.false_eq_true,if_false,hl.2 _ z rfl]
  | some y =>
   have hy:∀c,(Instr.sliceBound (ρ y) len c).run P w=.ok h w:=fun c=>(hh c).1
   cases lo with
   | none=>injection h2 with h2;subst h2;simp only [Option.map_none,Option.map_some,Sem.run_bind,Sem.run_pure,Result.andThen_ok,Option.isSome_none,Bool.false_eq_true,if_false,hy]
   | some z=>simp only [Option.map_none,Option.map_some,Sem.run_bind,Sem.run_pure,Result.andThen_ok,Option.isSome_none,Bool.false_eq_true,if_false,hy,hl.2 _ z rfl]
 | some t =>
  have ht:(Instr.sliceBound (ρ t) len .slice3Alen).run P w=.ok m w:=hm.1
  cases hi with
  | none=>cases hs rfl
  | some y =>
   have hy:∀c,(Instr.sliceBound (ρ y) m c).run P w=.ok h w:=fun c=>(hh c).1
   cases lo with
   | none=>injection h2 with h2;subst h2;simp only [Option.map_none,Option.map_some,Sem.run_bind,Sem.run_pure,Result.andThen_ok,Option.isSome_some,Bool.false_eq_true,if_false,if_true,ht,hy]
   | some z=>simp only [Option.map_none,Option.map_some,Sem.run_bind,Sem.run_pure,Result.andThen_ok,Option.isSome_some,Bool.false_eq_true,if_false,if_true,ht,hy,hl.2 _ z rfl]
theorem OpJ.slice_arr {T:TypeId} {x:Operand} {lo hi mx:Option Operand} {row:List A} {off len sz l h m:Nat} (ho:o.op=.slice T x lo hi mx) (hx:evO e x=.a (.ref row off)) (ha:ar P T=some (len,sz)) (hs:mx.isSome=true→hi.isSome=true)
  (h0:bndD e mx len=some m) (h1:bndD e hi m=some h) (h2:lowD e lo h=some l) (hr:off+h*sz≤row.length):OpJ P st e o (.a (.sl (qem row off sz l h))):=by
 intro ρ V _ _ hu
 rw [ho] at hu
 have hx1:=hu x (by simp [qaq,Op.operands])
 rw [hx] at hx1
 have hlo:∀z,lo=some z→RepD V (evO e z) (ρ z):=fun z hz=>hu z (by subst hz;simp [qaq,Op.operands])
 have hhi:∀z,hi=some z→RepD V (evO e z) (ρ z):=fun z hz=>hu z (by subst hz;simp [qaq,Op.operands])
 have hmx:∀z,mx=some z→RepD V (evO e z) (ρ z):=fun z hz=>hu z (by subst hz;simp [qaq,Op.operands])
 simp only [execOp,ho]
 generalize ρ x=u at *
 unfold ar at ha
 split at ha
 ·rename_i len' el hel
  cases hinfo:P.info? el with
  | none=>simp [hinfo] at ha
  | some inf =>
   simp only [hinfo,Option.map_some,Option.some.injEq,Prod.mk.injEq] at ha
   obtain⟨rfl,rfl⟩:=ha
   obtain⟨g1,g2,g3,g4⟩:=qkd (P:=P) (w:=V.w) hlo hhi hmx hs h0 h1 h2
   cases hx1.c_inv rfl with
   | ref _ _ b o' val hb hm hv hrr =>
    have main:(Instr.sliceAt T (.pointer (some ⟨b,o'+off,none⟩)) (lo.map ρ) (hi.map ρ) (mx.map ρ)).run P V.w=.ok (.slice (some (if m=l then ⟨b,o'+off,none⟩ else (⟨b,o'+off,none⟩:Addr).add (l*inf.size))) (h-l) (m-l)) V.w:=by
     simp only [Instr.sliceAt,Sem.run_bind,run_underlying hel,Result.andThen_ok,Instr.sureAddr,Sem.run_pure,g1,sizeOf,typeInfo,run_program,hinfo]
    simp only [Sem.run_bind,main,Result.andThen_ok,Sem.run_pure]
    by_cases hlh:h-l=0
    ·have:qem row off inf.size l h=[]:=by unfold qem;rw [hlh];rfl
     rw [this,hlh]
     exact .val (.a _ _ (.c _ _ (.sl0 _ _)))
    ·have hml:m≠l:=by omega
     rw [if_neg hml]
     have hlen:(qem row off inf.size l h).length=h-l:=by unfold qem;simp
     have hget:∀i r,(qem row off inf.size l h)[i]? = some r→i<h-l∧r=(row.drop (off+(l+i)*inf.size)).take inf.size:=fun i r hi=>by
      unfold qem at hi
      rw [List.getElem?_map,Option.map_eq_some_iff] at hi
      obtain⟨k,hk,rfl⟩:=hi
      obtain⟨h5,h6⟩:=List.getElem?_eq_some_iff.1 hk
      rw [List.length_range] at h5
      rw [List.getElem_range] at h6
      subst h6
      exact⟨h5,rfl⟩
     have hin:∀i,i<h-l→off+(l+i)*inf.size+inf.size≤row.length:=fun i hi=>by
      have:(l+i+1)*inf.size≤h*inf.size:=Nat.mul_le_mul_right _ (by omega)
      rw [Nat.add_mul,Nat.one_mul] at this
      omega
     have hat:∀i r j y,(qem row off inf.size l h)[i]? = some r→r[j]? = some y→row[off+(l+i)*inf.size+j]? = some y:=fun i r j y hi hj=>by
      obtain⟨h5,rfl⟩:=hget i r hi
      rw [List.getElem?_take] at hj
      split at hj
      ·rw [List.getElem?_drop] at hj;exact hj
      ·cases hj
     have:=RepC.sl (w:=V.w) (mu:=V.mut) (qem row off inf.size l h) inf.size b (o'+off+l*inf.size) (m-l) (fun i j=>val (off+(l+i)*inf.size+j)) hb hm (by rw [hlen];omega) (fun i r hi=>?_) (fun i r j y hi hj=>?_) (fun i r j y hi hj=>hrr _ y (hat i r j y hi hj))
     ·rw [hlen] at this
      rw [show (⟨b,o'+off,none⟩:Addr).add (l*inf.size)=⟨b,o'+off+l*inf.size,none⟩ by simp [Addr.add_mid]]
      exact .val (.a _ _ (.c _ _ this))
     ·obtain⟨h5,rfl⟩:=hget i r hi
      have:=hin i h5
      simp;omega
     ·have:=hv _ y (hat i r j y hi hj)
      rw [Nat.add_mul] at this
      rw [show o'+off+l*inf.size+i*inf.size+j=o'+(off+(l*inf.size+i*inf.size)+j) by omega]
      rw [this,Nat.add_mul]
 ·cases ha
theorem RS.sliceA {C:Cx P} {ops:Array Oper} {r:List Oper} {dst:Option Nat} {ty:TypeId} {pos:String} {after:Array Edge} {guard:Option (Nat×Bool)} {K:(Nat→D)→List Bx→Prop} {T:TypeId} {x:Operand} {lo hi mx:Option Operand} {row:List A} {off len sz l h m:Nat} {rows:List (List A)} (hx:evO e x=.a (.ref row off)) (ha:ar P T=some (len,sz)) (hs:(!mx.isSome||hi.isSome)=true)
  (h0:bndD e mx len=some m) (h1:bndD e hi m=some h) (h2:lowD e lo h=some l) (hr:off+h*sz≤row.length) (hc:qem row off sz l h=rows) (k:RS C ops r (putE e dst (.a (.sl rows))) st K):RS C ops (⟨dst,.slice T x lo hi mx,ty,pos,after,guard⟩::r) e st K :=
 .inl ⟨.a (.sl rows),st,.inr ⟨rfl,.of (hc▸.slice_arr rfl hx ha (fun h=>by rw [h] at hs;exact hs) h0 h1 h2 hr)⟩,k⟩
end
section
variable {P:Program} {st:List Bx} {e:Nat→D} {dst:Option Nat} {ty:TypeId} {pos:String} {after:Array Edge} {guard:Option (Nat×Bool)} {T:TypeId} {x m:Operand} {lo hi mx:Option Operand} {row:List A} {off:Nat}
@[go_sem] theorem evQ_slice3:evQ P st e ⟨dst,.slice T x lo hi (some m),ty,pos,after,guard⟩=none:=rfl
@[go_sem] theorem evG_slice:evG P st e ⟨dst,.slice T x lo hi mx,ty,pos,after,guard⟩=none:=rfl
@[go_sem] theorem slD_ref:slD P T e lo hi (.a (.ref row off))=none:=rfl
end
end Go.Proofs.YtfbopaaambkfkaaGreatDoor
