/- Operations carried out on plain data by reckoning. No program in sight. Conditions: none. -/
import Derived.Test.YthkojpnjdpbcgaaGreatDoorMl4
set_option linter.unusedVariables false
set_option maxRecDepth 100000
set_option maxHeartbeats 8000000
set_option linter.unusedSimpArgs false
namespace Go.Proofs.YthkojpnjdpbcgaaGreatDoor
open Go.RowKit
def szo (P:Program) (T:TypeId):Option Nat:=(P.info? T).map (·.size)
def byt (P:Program) (T:TypeId):Option Nat :=
 match P.underlying T with
 | some (.slice e)=>(P.info? e).map (·.bytes)
 | _=>none
def zrT (P:Program) (T:TypeId):Option (List A) :=
 match P.underlying T with
 | some (.slice e)=>zrow P e
 | _=>none
def qkq:D→D→D→Option D
 | .a (.v (.bool a)),.a (.v (.bool b)),.a (.v (.bool d))=>some (.a (.v (.bool (bif a then b else d))))
 | _,_,_=>none
def ldD (st:List Bx) (k:Option (Option Nat)):D→Option D
 | .a (.ref row off)=>k.bind fun k=>qae k row off
 | .a (.ptr i off)=>(match st[i]? with
  | some (.cell row)=>k.bind fun k=>qae k row off
  | _=>none)
 | .a (.ep i ver z off)=>(match st[i]? with
  | some (.arr ver' _ rows)=>if ver=ver' then (rows[z]?).bind fun row=>k.bind fun k=>qae k row off else none
  | _=>none)
 | _=>none
def bin2 (b:Bool) (ls:Option (List Nat)) (op:BinOp):D→D→Option D
 | .a (.v x),.a (.v y)=>(qc5 b op x y).map fun z=>.a (.v z)
 | .r r1,.r r2=>(match op with|.eql=>eqR false ls r1 r2|.neq=>eqR true ls r1 r2|_=>none)
 | _,_=>none
def un1 (op:UnOp):D→Option D
 | .a (.v x)=>(evUn op x).map fun z=>.a (.v z)
 | _=>none
def faD (o:Option Nat):D→Option D
 | .a (.ref row off)=>o.map fun o=>.a (.ref row (off+o))
 | .a (.ptr i off)=>o.map fun o=>.a (.ptr i (off+o))
 | .a (.ep i ver z off)=>o.map fun o=>.a (.ep i ver z (off+o))
 | _=>none
def ixD (n:Option Nat) (ar:Option (Nat×Nat)):D→D→Option D
 | .a (.sl rows),.a (.v (.int _ z))=>if 0≤z∧z<rows.length∧n=some (rows.getD z.toNat []).length then some (.a (.ref (rows.getD z.toNat []) 0)) else none
 | .a (.ref row off),.a (.v (.int _ z))=>(match ar with
  | some (len,sz)=>if 0≤z∧z<len then some (.a (.ref row (off+z.toNat*sz))) else none
  | none=>none)
 | .a (.ptr j off),.a (.v (.int _ z))=>(match ar with
  | some (len,sz)=>if 0≤z∧z<len then some (.a (.ptr j (off+z.toNat*sz))) else none
  | none=>none)
 | _,_=>none
def mxD (g:Bool):D→D→Option D
 | .a (.v (.int k a)),.a (.v (.int _ b))=>some (.a (.v (.int k (bif g then max a b else min a b))))
 | _,_=>none
def chD (b:Bool):D→D→Option D
 | .a (.v (.string s)),.a (.v (.int _ z))=>(match s.data.toList[z.toNat]? with
  | some c=>if b=true∧0≤z then some (.a (.v (.int .u8 c.toNat))) else none
  | none=>none)
 | _,_=>none
def fdD (q:Option (Nat×Option Nat)):D→Option D
 | .r row=>q.bind fun p=>qae p.2 row p.1
 | _=>none
def capD:List D→Option (List A)
 | []=>some []
 | .a x::r=>(capD r).map fun l=>x::l
 | _::_=>none
def bOk (P:Program) (T:TypeId):Bool:=(P.built T []).isSome
def buD (P:Program) (T:TypeId) (parts:List (Nat×D)):Option D:=if bOk P T=true then (zrow P T).bind fun row=>(qhh P T row parts).map D.r else none
def qay (n:Nat) (rows:List (List A)):Bool:=rows.all fun r=>r.length==n
def slD (P:Program) (T:TypeId) (e:Nat→D) (lo hi:Option Operand):D→Option D
 | .a (.sl rows)=>(match es P T with
  | some n=>if qay n rows=true then (bndD e hi rows.length).bind fun h=>(lowD e lo h).map fun l=>D.a (.sl ((rows.take h).drop l)) else none
  | none=>none)
 | .a (.v (.string s))=>if qhd P T=true then (bndD e hi s.size).bind fun h=>(lowD e lo h).map fun l=>D.a (.v (.string (s.extract l h))) else none
 | _=>none
def exD (k:Nat):D→Option D
 | .t ds=>ds[k]?
 | _=>none
def nilD:D→Option D
 | .a (.ref row off)=>some (.a (.ref row off))
 | .a (.ptr i off)=>some (.a (.ptr i off))
 | .a (.ep i ver z off)=>some (.a (.ep i ver z off))
 | _=>none
def ixS (st:List Bx) (n:Option Nat) (ar:Option (Nat×Nat)):D→D→Option D
 | .a (.own i ver),.a (.v (.int _ z))=>(match st[i]? with
  | some (.arr ver' n' rows)=>if ver=ver'∧0≤z∧z<rows.length∧n=some n' then some (.a (.ep i ver z.toNat 0)) else none
  | _=>none)
 | x,i=>ixD n ar x i
def lenS (P:Program) (st:List Bx) (T:TypeId):D→Option D
 | .a (.v (.string s))=>if qhd P T=true then some (.a (.v (.int .i64 s.size))) else none
 | d=>if isSl P T=true then (lenD st d).map fun (n:Nat)=>D.a (.v (.int .i64 (n:Int))) else none
def evQ (P:Program) (st:List Bx) (e:Nat→D) (o:Oper):Option D :=
 match o.op with
 | .move x=>some (evO e x)
 | .assign x=>some (evO e x)
 | .pick c x y=>qkq (evO e c) (evO e x) (evO e y)
 | .load T x=>ldD st (ldk P T) (evO e x)
 | .binOp op T x y _=>bin2 (qbq P T) (eqOk P T) op (evO e x) (evO e y)
 | .unOp op _ x=>un1 op (evO e x)
 | .fieldAddr T x k=>faD (fo P T k) (evO e x)
 | .indexAddr T x i=>ixS st (es P T) (ar P T) (evO e x) (evO e i)
 | .extract x k=>exD k (evO e x)
 | .nilCheck x=>nilD (evO e x)
 | .call ⟨.builtin .len,⟨[x]⟩,⟨[T]⟩⟩=>lenS P st T (evO e x)
 | .call ⟨.builtin .max,⟨[x,y]⟩,_⟩=>mxD true (evO e x) (evO e y)
 | .call ⟨.builtin .min,⟨[x,y]⟩,_⟩=>mxD false (evO e x) (evO e y)
 | .index T x i=>chD (qhd P T) (evO e x) (evO e i)
 | .field T x k=>fdD (fo2 P T k) (evO e x)
 | .makeFunc (.func f) ⟨[]⟩ ⟨caps⟩=>(capD (caps.map (evO e))).map fun l=>.a (.fn f l)
 | .build T ⟨parts⟩=>buD P T (parts.map fun p=>(p.1,evO e p.2))
 | .slice T x lo hi none=>slD P T e lo hi (evO e x)
 | _=>none
theorem qfh:∀{l:List D} {xs:List A},capD l=some xs→l=xs.map D.a
 | [],xs,h=>by injection h with h;subst h;rfl
 | .a x::r,xs,h=>by
  unfold capD at h
  rw [Option.map_eq_some_iff] at h
  obtain⟨l,h1,rfl⟩:=h
  rw [qfh h1];rfl
 | .junk::_,_,h=>by cases h
 | .undef::_,_,h=>by cases h
 | .r _::_,_,h=>by cases h
 | .t _::_,_,h=>by cases h
theorem qc3 {P:Program} {st:List Bx} {e:Nat→D} {o:Oper} {d:D} (h:evQ P st e o=some d):OpJ P st e o d:=by
 obtain⟨dst,op,ty,pos,after,guard⟩:=o
 unfold evQ at h
 simp only at h
 split at h
 ·injection h with h;subst h;exact .move rfl
 ·injection h with h;subst h;exact .assign rfl
 ·rename_i c x y
  unfold qkq at h
  split at h
  ·rename_i hc hx hy
   injection h with h;subst h;exact .pick rfl hc hx hy
  ·cases h
 ·rename_i T x
  unfold ldD at h
  split at h
  ·rename_i row off hx
   rw [Option.bind_eq_some_iff] at h
   obtain⟨k,h1,h2⟩:=h
   exact .load_ref rfl hx h1 h2
  ·rename_i i off hx
   split at h
   ·rename_i row hs
    rw [Option.bind_eq_some_iff] at h
    obtain⟨k,h1,h2⟩:=h
    exact .load_ptr rfl hx hs h1 h2
   ·cases h
  ·rename_i i ver z off hx
   split at h
   ·rename_i ver' n rows hs
    split at h
    ·rename_i hv
     subst hv
     rw [Option.bind_eq_some_iff] at h
     obtain⟨row,h0,h⟩:=h
     rw [Option.bind_eq_some_iff] at h
     obtain⟨k,h1,h2⟩:=h
     exact .load_ep rfl hx hs h0 h1 h2
    ·cases h
   ·cases h
  ·cases h
 ·rename_i op T x y T'
  unfold bin2 at h
  split at h
  ·rename_i u v hx hy
   rw [Option.map_eq_some_iff] at h
   obtain⟨z,h1,rfl⟩:=h
   exact .bin rfl hx hy h1
  ·rename_i r1 r2 hx hy
   split at h
   ·exact .eqR (neg:=false) (T:=T) (T':=T') rfl hx hy h
   ·exact .eqR (neg:=true) (T:=T) (T':=T') rfl hx hy h
   ·cases h
  ·cases h
 ·rename_i op T x
  unfold un1 at h
  split at h
  ·rename_i u hx
   rw [Option.map_eq_some_iff] at h
   obtain⟨z,h1,rfl⟩:=h
   exact .un (T:=T) rfl hx h1
  ·cases h
 ·rename_i T x k
  unfold faD at h
  split at h
  ·rename_i row off hx
   rw [Option.map_eq_some_iff] at h
   obtain⟨z,h1,rfl⟩:=h
   exact .fa_ref rfl hx h1
  ·rename_i i off hx
   rw [Option.map_eq_some_iff] at h
   obtain⟨z,h1,rfl⟩:=h
   exact .fa_ptr rfl hx h1
  ·rename_i i ver z off hx
   rw [Option.map_eq_some_iff] at h
   obtain⟨o,h1,rfl⟩:=h
   exact .fa_ep rfl hx h1
  ·cases h
 ·rename_i T x i
  unfold ixS at h
  split at h
  ·rename_i j ver k z hx hi
   split at h
   ·rename_i ver' n rows hs
    split at h
    ·rename_i hc
     obtain⟨rfl,hc⟩:=hc
     injection h with h;subst h
     exact .ix_own rfl hx hs hi hc.2.2 hc.1 hc.2.1
    ·cases h
   ·cases h
  unfold ixD at h
  split at h
  ·rename_i rows k z hx hi
   split at h
   ·rename_i hc
    injection h with h;subst h
    exact .index_sl rfl hx hi hc.2.2 hc.1 hc.2.1 rfl
   ·cases h
  ·rename_i row off k z hx hi
   split at h
   ·rename_i len sz ha
    split at h
    ·rename_i hc
     injection h with h;subst h
     exact .arr_ref rfl hx hi ha hc.1 hc.2
    ·cases h
   ·cases h
  ·rename_i j off k z hx hi
   split at h
   ·rename_i len sz ha
    split at h
    ·rename_i hc
     injection h with h;subst h
     exact .arr_ptr rfl hx hi ha hc.1 hc.2
    ·cases h
   ·cases h
  ·cases h
 ·rename_i x k
  unfold exD at h
  split at h
  ·rename_i ds hx
   exact .extract rfl (by rw [hx];intro h;cases h) hx h
  ·cases h
 ·rename_i x
  unfold nilD at h
  split at h
  ·rename_i row off hx
   injection h with h;subst h;exact .nil_ref rfl hx
  ·rename_i i off hx
   injection h with h;subst h;exact .nil_ptr rfl hx
  ·rename_i i ver z off hx
   injection h with h;subst h;exact .nil_ep rfl hx
  ·cases h
 ·rename_i x T
  unfold lenS at h
  split at h
  ·rename_i s hx
   split at h
   ·rename_i hT
    injection h with h;subst h;exact .len_str (T:=T) rfl hx hT
   ·cases h
  ·split at h
   ·rename_i hT
    rw [Option.map_eq_some_iff] at h
    obtain⟨n,h1,rfl⟩:=h
    exact .len_sl (T:=T) rfl h1 hT
   ·cases h
 ·rename_i x y tys
  unfold mxD at h
  split at h
  ·rename_i k a k' b hx hy
   injection h with h;subst h
   exact .mx rfl hx hy
  ·cases h
 ·rename_i x y tys
  unfold mxD at h
  split at h
  ·rename_i k a k' b hx hy
   injection h with h;subst h
   exact .mn rfl hx hy
  ·cases h
 ·rename_i T x i
  unfold chD at h
  split at h
  ·rename_i s k z hx hi
   split at h
   ·rename_i c hc
    split at h
    ·rename_i hb
     injection h with h;subst h
     exact .index_str rfl hx hi hb.1 hb.2 hc
    ·cases h
   ·cases h
  ·cases h
 ·rename_i T x k
  unfold fdD at h
  split at h
  ·rename_i row hx
   rw [Option.bind_eq_some_iff] at h
   obtain⟨p,h1,h2⟩:=h
   exact .field rfl hx h1 h2
  ·cases h
 ·rename_i f caps
  rw [Option.map_eq_some_iff] at h
  obtain⟨l,h1,rfl⟩:=h
  exact .makeFunc rfl (qfh h1)
 ·rename_i T parts
  unfold buD at h
  split at h
  ·rename_i hb
   rw [Option.bind_eq_some_iff] at h
   obtain⟨row,h1,h2⟩:=h
   rw [Option.map_eq_some_iff] at h2
   obtain⟨row',h2,rfl⟩:=h2
   exact .build rfl hb h1 h2
  ·cases h
 ·rename_i T x lo hi
  unfold slD at h
  split at h
  ·rename_i rows hx
   split at h
   ·rename_i n hn
    split at h
    ·rename_i hl
     rw [Option.bind_eq_some_iff] at h
     obtain⟨hh,h1,h2⟩:=h
     rw [Option.map_eq_some_iff] at h2
     obtain⟨l,h2,rfl⟩:=h2
     exact .slice_sl rfl hx hn (fun i row hi=>by have:=List.all_eq_true.1 hl row (lm4 hi);simpa using this) h1 h2
    ·cases h
   ·cases h
  ·rename_i s hx
   split at h
   ·rename_i hT
    rw [Option.bind_eq_some_iff] at h
    obtain⟨hh,h1,h2⟩:=h
    rw [Option.map_eq_some_iff] at h2
    obtain⟨l,h2,rfl⟩:=h2
    exact .slice_str rfl hx hT h1 h2
   ·cases h
  ·cases h
 ·cases h
def stoD (st:List Bx) (z:Option Nat):D→Option (List A)→Option (D×List Bx)
 | .a (.ptr i off),some xs=>(match st[i]? with
  | some (.cell row)=>if z=some xs.length∧off+xs.length≤row.length then some (.undef,st.set i (.cell (qah row off xs))) else none
  | _=>none)
 | _,_=>none
def boxD (st:List Bx):Option (List A)→Option (D×List Bx)
 | some xs=>some (.a (.ptr st.length 0),st++[.cell xs])
 | none=>none
def nlz:Option (List A)→Option (List A)
 | some [.sl []]=>some [.nl]
 | x=>x
def qgl (P:Program) (T:TypeId):Option (List A):=bif isSl P T then nlz (zrow P T) else zrow P T
def evG (P:Program) (st:List Bx) (e:Nat→D) (o:Oper):Option (D×List Bx) :=
 match o.op with
 | .box _ x=>boxD st (qba (evO e x))
 | .alloc T=>boxD st (qgl P T)
 | .store T x y=>stoD st (szo P T) (evO e x) (qba (evO e y))
 | _=>none
theorem zA_slI {v:Value} (h:zA v=some (.sl [])):v=.slice none 0 0:=by
 unfold zA at h
 split at h
 ·rfl
 ·split at h
  ·injection h with h;cases h
  ·cases h
theorem mapM_nl {vs:List Value} (h:vs.mapM zA=some [.sl []]):vs=[.slice none 0 0]:=by
 cases vs with
 | nil=>simp at h
 | cons v r =>
  rw [List.mapM_cons] at h
  cases hv:zA v with
  | none=>simp [hv] at h
  | some y =>
   cases hr:r.mapM zA with
   | none=>simp [hv,hr] at h
   | some ys =>
    simp [hv,hr] at h
    obtain⟨rfl,rfl⟩:=h
    rw [zA_slI hv]
    cases r with
    | nil=>rfl
    | cons a b =>
     have:=(qgg (V:=⟨default,fun _=>False,[],[]⟩) hr).1
     simp at this
theorem OpG.allocA {P:Program} {st:List Bx} {e:Nat→D} {o:Oper} {T:TypeId} {row:List A} (ho:o.op=.alloc T) (hz:qgl P T=some row):OpG P st e o (.a (.ptr st.length 0)) (st++[.cell row]):=by
 unfold qgl at hz
 cases hs:isSl P T with
 | false=>rw [hs] at hz;exact .alloc ho hz
 | true =>
  rw [hs] at hz
  simp only [cond_true] at hz
  unfold nlz at hz
  split at hz
  ·rename_i x hz0
   injection hz with hz;subst hz
   intro ρ V hst hok _
   unfold zrow at hz0
   cases h1:P.info? T with
   | none=>simp [h1] at hz0
   | some i =>
    cases h2:i.zero with
    | none=>simp [h1,h2] at hz0
    | some z =>
     simp only [h1,h2,Option.bind_some] at hz0
     have hc:=mapM_nl hz0
     have hrun:(execOp ρ o).run P V.w=.ok (.value (.pointer (some ⟨V.w.heap.size,0,none⟩))) (V.w.alloc (.cells z.cells T)):=by
      have hzv:(zeroValue T).run P V.w=.ok z V.w:=by simp [zeroValue,typeInfo,h1,h2]
      simp only [execOp,ho,Instr.alloc,Sem.run_bind,hzv,Result.andThen_ok];rfl
     rw [hrun]
     subst hst
     have hz2:z.cells = #[.slice none 0 0]:=by rw [←Array.toArray_toList (xs:=z.cells),hc]
     refine⟨_,.push hok _ T [.nl] (by rw [hz2];rfl) (fun j y hj=>?_),.a _ _ (qjc hok _ _)⟩
     cases j with
     | zero=>injection hj with hj;subst hj;rw [hz2];exact .c _ _ .nl
     | succ j=>simp at hj
  ·exact .alloc ho hz
theorem qc4 {P:Program} {st st':List Bx} {e:Nat→D} {o:Oper} {d:D} (h:evG P st e o=some (d,st')):OpG P st e o d st':=by
 obtain⟨dst,op,ty,pos,after,guard⟩:=o
 unfold evG at h
 simp only at h
 split at h
 ·rename_i T x
  unfold boxD at h
  split at h
  ·rename_i xs hx
   injection h with h;injection h with h1 h2;subst h1;subst h2
   exact .box (T:=T) rfl hx
  ·cases h
 ·rename_i T
  unfold boxD at h
  split at h
  ·rename_i xs hx
   injection h with h;injection h with h1 h2;subst h1;subst h2
   exact .allocA rfl hx
  ·cases h
 ·rename_i T x y
  unfold stoD at h
  split at h
  ·rename_i i off xs hx hy
   split at h
   ·rename_i row hs
    split at h
    ·rename_i hc
     injection h with h;injection h with h1 h2;subst h1;subst h2
     exact .store rfl hx hs hy hc.1 hc.2
    ·cases h
   ·cases h
  ·cases h
 ·cases h
theorem qa8.of {ops:Array Oper} {e:Nat→D} {o:Oper} {p:Prop} (h:p):qa8 ops e o p:=by
 unfold qa8
 split
 ·exact h
 ·split
  ·exact fun _=>h
  ·trivial
  ·exact h
def contQ (P:Program) (st:List Bx) (k:(Nat→D)→(Nat→D)×List Oper) (o:Oper) (r:List Oper) (e:Nat→D):Option D→(Nat→D)×List Oper
 | some d=>k (putE e o.dst d)
 | none=>(e,o::r)
def runQ (P:Program) (st:List Bx):List Oper→(Nat→D)→(Nat→D)×List Oper
 | [],e=>(e,[])
 | o::r,e=>contQ P st (runQ P st r) o r e (evQ P st e o)
theorem RQ.run' {P:Program} {ops:Array Oper} {st:List Bx} {K:(Nat→D)→Prop}:∀{l:List Oper} {e e':Nat→D} {l':List Oper},runQ P st l e=(e',l')→RQ P ops st l' e' K→RQ P ops st l e K
 | [],e,e',l',h,hr=>by injection h with h1 h2;subst h1;subst h2;exact hr
 | o::r,e,e',l',h,hr=>by
  rw [runQ] at h
  cases hv:evQ P st e o with
  | none=>rw [hv] at h;injection h with h1 h2;subst h1;subst h2;exact hr
  | some d=>rw [hv] at h;exact⟨d,.of (qc3 hv),RQ.run' h hr⟩
inductive Go2 where
 | q (d:D)
 | g (p:D×List Bx)
 | no
def ev2 (g:Option (Nat×Bool)):Option D→Option (D×List Bx)→Go2
 | some d,_=>.q d
 | none,some p=>(match g with|none=>.g p|some _=>.no)
 | none,none=>.no
def contS (P:Program) (k:(Nat→D)→List Bx→(Nat→D)×List Bx×List Oper) (o:Oper) (r:List Oper) (e:Nat→D) (st:List Bx):Go2→(Nat→D)×List Bx×List Oper
 | .q d=>k (putE e o.dst d) st
 | .g p=>k (putE e o.dst p.1) p.2
 | .no=>(e,st,o::r)
def runS (P:Program):List Oper→(Nat→D)→List Bx→(Nat→D)×List Bx×List Oper
 | [],e,st=>(e,st,[])
 | o::r,e,st=>contS P (runS P r) o r e st (ev2 o.guard (evQ P st e o) (evG P st e o))
theorem RS.run' {P:Program} {C:Cx P} {ops:Array Oper} {K:(Nat→D)→List Bx→Prop}:∀{l:List Oper} {e e':Nat→D} {st st':List Bx} {l':List Oper},runS P l e st=(e',st',l')→RS C ops l' e' st' K→RS C ops l e st K
 | [],e,e',st,st',l',h,hr=>by injection h with h1 h2;injection h2 with h2 h3;subst h1;subst h2;subst h3;exact hr
 | o::r,e,e',st,st',l',h,hr=>by
  rw [runS] at h
  cases hv:evQ P st e o with
  | some d=>rw [hv] at h;exact .inl ⟨d,st,.inr ⟨rfl,.of (qc3 hv)⟩,RS.run' h hr⟩
  | none =>
   rw [hv] at h
   cases hg:evG P st e o with
   | none=>rw [hg] at h;injection h with h1 h2;injection h2 with h2 h3;subst h1;subst h2;subst h3;exact hr
   | some p =>
    rw [hg] at h
    cases hgu:o.guard with
    | none=>rw [hgu] at h;exact .inl ⟨p.1,p.2,.inl ⟨hgu,qc4 hg⟩,RS.run' h hr⟩
    | some g=>rw [hgu] at h;injection h with h1 h2;injection h2 with h2 h3;subst h1;subst h2;subst h3;exact hr
section
variable {P:Program} {C:Cx P} {ops:Array Oper} {st:List Bx} {e:Nat→D} {r:List Oper} {dst:Option Nat} {ty:TypeId} {pos:String} {after:Array Edge} {guard:Option (Nat×Bool)} {ds:List D} {d:D}
theorem RS.call {K:(Nat→D)→List Bx→Prop} {f:FuncId} {xs:List Operand} {tys:Array TypeId} (hx:xs.map (evO e)=ds) (hc:ds.all clD=true) (hp:qaa P f ds d) (h:RS C ops r (putE e dst d) st K):RS C ops (⟨dst,.call ⟨.value (.func f),⟨xs⟩,tys⟩,ty,pos,after,guard⟩::r) e st K :=
 .inl ⟨d,st,.inr ⟨rfl,.of (.call rfl hx hc hp)⟩,h⟩
theorem RQ.call {K:(Nat→D)→Prop} {f:FuncId} {xs:List Operand} {tys:Array TypeId} (hx:xs.map (evO e)=ds) (hc:ds.all clD=true) (hp:qaa P f ds d) (h:RQ P ops st r (putE e dst d) K):RQ P ops st (⟨dst,.call ⟨.value (.func f),⟨xs⟩,tys⟩,ty,pos,after,guard⟩::r) e K :=
 ⟨d,.of (.call rfl hx hc hp),h⟩
theorem RS.callv {K:(Nat→D)→List Bx→Prop} {f:FuncId} {y:Operand} {caps:List A} {xs:List Operand} {tys:Array TypeId} (hy:evO e y=.a (.fn f caps)) (hx:xs.map (evO e)++caps.map D.a=ds) (hc:ds.all clD=true) (hp:qaa P f ds d) (h:RS C ops r (putE e dst d) st K):RS C ops (⟨dst,.call ⟨.value y,⟨xs⟩,tys⟩,ty,pos,after,guard⟩::r) e st K :=
 .inl ⟨d,st,.inr ⟨rfl,.of (.callv rfl hy hx hc hp)⟩,h⟩
end
section
variable {P:Program} {C:Cx P} {n:Nat} {Q:Exit→(Nat→D)→List Bx→Prop} {N:(Nat→D)→List Bx→Prop} {e e':Nat→D} {st:List Bx} {ops:Array Oper} {ks:List Nat}
theorem RS.fin (he:qa7 e ks=e') (h:Q .normal e' st):RS C ops [] e st fun e' st'=>Q .normal (qa7 e' ks) st':=by subst he;exact h
theorem WP.reg {id:Nat} {l:List Oper} (ks:List Nat) (hs:qfl ⟨l⟩ n=true) (hk:ksOk ⟨l⟩ ks=true) (h:RS C ⟨l⟩ l e st fun e' st'=>Q .normal (qa7 e' ks) st'):WP C n (.region id ⟨l⟩ false) Q e st:=WP.region ks hs hk h
theorem WP.drw {id:Nat} {l:List Oper} (m:Nat) (ks:List Nat) (hd:qhk ⟨l⟩ n m=true) (hms:decide (m≤l.length)=true) (hk:ksOk ⟨l⟩ ks=true) (hmix:P.follows .mixedOrders=true)
  (h:RQ P ⟨l⟩ st (l.take m) e fun e'=>RS C ⟨l⟩ (l.drop m) e' st fun e'' st''=>Q .normal (qa7 e'' ks) st''):WP C n (.region id ⟨l⟩ true) Q e st:=WP.draw m ks hd (of_decide_eq_true hms) hk hmix h
theorem WP.cond_t {c:Operand} {p q:Code} (hl:opLt n c=true) (hc:evO e c=.a (.v (.bool true))) (h:WP C n p Q e st):WP C n (.cond c p q) Q e st:=WP.cond hl hc (fun _=>h) fun h=>by cases h
theorem WP.cond_f {c:Operand} {p q:Code} (hl:opLt n c=true) (hc:evO e c=.a (.v (.bool false))) (h:WP C n q Q e st):WP C n (.cond c p q) Q e st:=WP.cond hl hc (fun h=>by cases h) fun _=>h
end
/-! ### What the reckoning turns to -/
section
variable {P:Program} {st:List Bx} {e:Nat→D} {dst:Option Nat} {ty:TypeId} {pos:String} {after:Array Edge} {guard:Option (Nat×Bool)} {x y c i:Operand} {T T':TypeId} {k:Nat} {d:D} {o:Oper} {r:List Oper}
@[go_sem] theorem evQ_move:evQ P st e ⟨dst,.move x,ty,pos,after,guard⟩=some (evO e x):=rfl
@[go_sem] theorem evQ_assign:evQ P st e ⟨dst,.assign x,ty,pos,after,guard⟩=some (evO e x):=rfl
@[go_sem] theorem evQ_pick:evQ P st e ⟨dst,.pick c x y,ty,pos,after,guard⟩=qkq (evO e c) (evO e x) (evO e y):=rfl
@[go_sem] theorem evQ_load:evQ P st e ⟨dst,.load T x,ty,pos,after,guard⟩=ldD st (ldk P T) (evO e x):=rfl
@[go_sem] theorem evQ_bin {op:BinOp}:evQ P st e ⟨dst,.binOp op T x y T',ty,pos,after,guard⟩=bin2 (qbq P T) (eqOk P T) op (evO e x) (evO e y):=rfl
@[go_sem] theorem evQ_un {op:UnOp}:evQ P st e ⟨dst,.unOp op T x,ty,pos,after,guard⟩=un1 op (evO e x):=rfl
@[go_sem] theorem evQ_fa:evQ P st e ⟨dst,.fieldAddr T x k,ty,pos,after,guard⟩=faD (fo P T k) (evO e x):=rfl
@[go_sem] theorem evQ_ix:evQ P st e ⟨dst,.indexAddr T x i,ty,pos,after,guard⟩=ixS st (es P T) (ar P T) (evO e x) (evO e i):=rfl
@[go_sem] theorem ixS_sl {n:Option Nat} {ar:Option (Nat×Nat)} {rows:List (List A)}:ixS st n ar (.a (.sl rows)) d=ixD n ar (.a (.sl rows)) d:=rfl
@[go_sem] theorem ixS_ptr {n:Option Nat} {ar:Option (Nat×Nat)} {j off:Nat}:ixS st n ar (.a (.ptr j off)) d=ixD n ar (.a (.ptr j off)) d:=rfl
@[go_sem] theorem ldD_ep {q:Option (Option Nat)} {j ver z off:Nat}:ldD st q (.a (.ep j ver z off))=(match st[j]? with|some (.arr ver' _ rows)=>if ver=ver' then (rows[z]?).bind fun row=>q.bind fun k=>qae k row off else none|_=>none):=rfl
theorem qjr {n m:Nat} {q2:Option (Nat×Nat)} {i ver:Nat} {rows:List (List A)} {q:IntKind} {z:Int} {j:Nat} (hs:st[i]? = some (.arr ver n rows)) (hz:z=j) (hj:j<rows.length) (hm:m=n):ixS st (some m) q2 (.a (.own i ver)) (.a (.v (.int q z)))=some (.a (.ep i ver j 0)):=by
 subst hz;subst hm
 simp only [ixS,hs,Int.toNat_natCast]
 rw [if_pos ⟨trivial,by omega,by omega,trivial⟩]
@[go_sem] theorem evQ_ex:evQ P st e ⟨dst,.extract x k,ty,pos,after,guard⟩=exD k (evO e x):=rfl
@[go_sem] theorem evQ_nc:evQ P st e ⟨dst,.nilCheck x,ty,pos,after,guard⟩=nilD (evO e x):=rfl
@[go_sem] theorem evQ_len:evQ P st e ⟨dst,.call ⟨.builtin .len,⟨[x]⟩,⟨[T]⟩⟩,ty,pos,after,guard⟩=lenS P st T (evO e x):=rfl
@[go_sem] theorem evQ_max {tys:Array TypeId}:evQ P st e ⟨dst,.call ⟨.builtin .max,⟨[x,y]⟩,tys⟩,ty,pos,after,guard⟩=mxD true (evO e x) (evO e y):=rfl
@[go_sem] theorem evQ_min {tys:Array TypeId}:evQ P st e ⟨dst,.call ⟨.builtin .min,⟨[x,y]⟩,tys⟩,ty,pos,after,guard⟩=mxD false (evO e x) (evO e y):=rfl
@[go_sem] theorem evQ_makeFunc {f:FuncId} {caps:List Operand}:evQ P st e ⟨dst,.makeFunc (.func f) ⟨[]⟩ ⟨caps⟩,ty,pos,after,guard⟩=(capD (caps.map (evO e))).map fun l=>.a (.fn f l):=rfl
@[go_sem] theorem evQ_build {parts:List (Nat×Operand)}:evQ P st e ⟨dst,.build T ⟨parts⟩,ty,pos,after,guard⟩=buD P T (parts.map fun p=>(p.1,evO e p.2)):=rfl
@[go_sem] theorem evQ_slice {lo hi:Option Operand}:evQ P st e ⟨dst,.slice T x lo hi none,ty,pos,after,guard⟩=slD P T e lo hi (evO e x):=rfl
@[go_sem] theorem mxD_t {q q':IntKind} {a b:Int}:mxD true (.a (.v (.int q a))) (.a (.v (.int q' b)))=some (.a (.v (.int q (max a b)))):=rfl
@[go_sem] theorem mxD_f {q q':IntKind} {a b:Int}:mxD false (.a (.v (.int q a))) (.a (.v (.int q' b)))=some (.a (.v (.int q (min a b)))):=rfl
@[go_sem] theorem capD_n:capD []=some []:=rfl
@[go_sem] theorem capD_c {z:A} {l:List D}:capD (.a z::l)=(capD l).map fun l=>z::l:=rfl
@[go_sem] theorem ixD_ptr {n:Option Nat} {len sz off j:Nat} {q:IntKind} {z:Int}:ixD n (some (len,sz)) (.a (.ptr j off)) (.a (.v (.int q z)))=if 0≤z∧z<len then some (.a (.ptr j (off+z.toNat*sz))) else none:=rfl
@[go_sem] theorem buD_t {parts:List (Nat×D)} (h:bOk P T=true):buD P T parts=(zrow P T).bind fun row=>(qhh P T row parts).map D.r:=if_pos h
@[go_sem] theorem fillD_n {row:List A}:qhh P T row []=some row:=rfl
@[go_sem] theorem fillD_c {row:List A} {j:Nat} {parts:List (Nat×D)}:qhh P T row ((j,d)::parts)=(match plc P T j,qba d with|some (off,n),some xs=>if xs.length=n∧off+n≤row.length then qhh P T (qah row off xs) parts else none|_,_=>none):=rfl
@[go_sem] theorem evQ_call {f:FuncId} {xs:List Operand} {tys:Array TypeId}:evQ P st e ⟨dst,.call ⟨.value x,⟨xs⟩,tys⟩,ty,pos,after,guard⟩=none:=rfl
@[go_sem] theorem evQ_box:evQ P st e ⟨dst,.box T x,ty,pos,after,guard⟩=none:=rfl
@[go_sem] theorem evQ_alloc:evQ P st e ⟨dst,.alloc T,ty,pos,after,guard⟩=none:=rfl
@[go_sem] theorem evQ_store:evQ P st e ⟨dst,.store T x y,ty,pos,after,guard⟩=none:=rfl
@[go_sem] theorem evG_box:evG P st e ⟨dst,.box T x,ty,pos,after,guard⟩=boxD st (qba (evO e x)):=rfl
@[go_sem] theorem evG_alloc:evG P st e ⟨dst,.alloc T,ty,pos,after,guard⟩=boxD st (qgl P T):=rfl
@[go_sem] theorem zrowA_t:qgl P T=bif isSl P T then nlz (zrow P T) else zrow P T:=rfl
@[go_sem] theorem nlz_s:nlz (some [.sl []])=some [.nl]:=rfl
@[go_sem] theorem evG_store:evG P st e ⟨dst,.store T x y,ty,pos,after,guard⟩=stoD st (szo P T) (evO e x) (qba (evO e y)):=rfl
@[go_sem] theorem evG_call {f:FuncId} {xs:List Operand} {tys:Array TypeId}:evG P st e ⟨dst,.call ⟨.value x,⟨xs⟩,tys⟩,ty,pos,after,guard⟩=none:=rfl
@[go_sem] theorem contQ_some {k:(Nat→D)→(Nat→D)×List Oper}:contQ P st k o r e (some d)=k (putE e o.dst d):=rfl
@[go_sem] theorem contQ_none {k:(Nat→D)→(Nat→D)×List Oper}:contQ P st k o r e none=(e,o::r):=rfl
@[go_sem] theorem runQ_nil:runQ P st [] e=(e,[]):=rfl
@[go_sem] theorem runQ_cons:runQ P st (o::r) e=contQ P st (runQ P st r) o r e (evQ P st e o):=rfl
@[go_sem] theorem ev2_q {g:Option (Nat×Bool)} {p:Option (D×List Bx)}:ev2 g (some d) p=.q d:=rfl
@[go_sem] theorem ev2_g {p:D×List Bx}:ev2 none none (some p)=.g p:=rfl
@[go_sem] theorem ev2_n {g:Option (Nat×Bool)}:ev2 g none none=.no:=rfl
@[go_sem] theorem contS_q {k:(Nat→D)→List Bx→(Nat→D)×List Bx×List Oper}:contS P k o r e st (.q d)=k (putE e o.dst d) st:=rfl
@[go_sem] theorem contS_g {k:(Nat→D)→List Bx→(Nat→D)×List Bx×List Oper} {st':List Bx}:contS P k o r e st (.g (d,st'))=k (putE e o.dst d) st':=rfl
@[go_sem] theorem contS_no {k:(Nat→D)→List Bx→(Nat→D)×List Bx×List Oper}:contS P k o r e st .no=(e,st,o::r):=rfl
@[go_sem] theorem runS_nil:runS P [] e st=(e,st,[]):=rfl
@[go_sem] theorem runS_cons:runS P (o::r) e st=contS P (runS P r) o r e st (ev2 o.guard (evQ P st e o) (evG P st e o)):=rfl
@[go_sem] theorem putE_s {t:Nat}:putE e (some t) d=upd e t d:=rfl
@[go_sem] theorem putE_n:putE e none d=e:=rfl
@[go_sem] theorem upd_eq {t:Nat}:upd e t d t=d:=if_pos rfl
@[go_sem] theorem upd_ne {t t':Nat} (h:t'≠t):upd e t d t'=e t':=if_neg h
@[go_sem] theorem evO_tmp {t:Nat}:evO e (.tmp t)=e t:=rfl
@[go_sem] theorem evO_int {q:IntKind} {z:Int}:evO e (.const (.int q z))=.a (.v (.int q z)):=rfl
@[go_sem] theorem evO_bool {z:Bool}:evO e (.const (.bool z))=.a (.v (.bool z)):=rfl
@[go_sem] theorem evO_str {z:ByteArray}:evO e (.const (.string z))=.a (.v (.string z)):=rfl
@[go_sem] theorem evO_nl:evO e (.const (.slice none 0 0))=.a .nl:=rfl
@[go_sem] theorem evO_agg {l:List Value}:evO e (.const (.agg ⟨l⟩))=aggD (l.mapM zA):=rfl
@[go_sem] theorem mapM_zn:List.mapM zA []=some []:=rfl
@[go_sem] theorem mapM_zc {v:Value} {l:List Value}:List.mapM zA (v::l)=(zA v).bind fun y=>(l.mapM zA).map fun r=>y::r:=by
 rw [List.mapM_cons]
 cases zA v with
 | none=>rfl
 | some y=>cases l.mapM zA<;>rfl
@[go_sem] theorem zA_i {k:IntKind} {z:Int}:zA (.int k z)=some (.v (.int k z)):=rfl
@[go_sem] theorem zA_b {z:Bool}:zA (.bool z)=some (.v (.bool z)):=rfl
@[go_sem] theorem zA_st {z:ByteArray}:zA (.string z)=some (.v (.string z)):=rfl
@[go_sem] theorem zA_sl:zA (.slice none 0 0)=some (.sl []):=rfl
@[go_sem] theorem aggD_s {r:List A}:aggD (some r)=.r r:=rfl
@[go_sem] theorem evO_fn {f:FuncId}:evO e (.func f)=.a (.fn f []):=rfl
@[go_sem] theorem pick3_b {a b c:Bool}:qkq (.a (.v (.bool a))) (.a (.v (.bool b))) (.a (.v (.bool c)))=some (.a (.v (.bool (bif a then b else c)))):=rfl
@[go_sem] theorem ldD_ref {k:Option Nat} {row:List A} {off:Nat}:ldD st (some k) (.a (.ref row off))=qae k row off:=rfl
@[go_sem] theorem ldD_ptr {q:Option (Option Nat)} {i off:Nat}:ldD st q (.a (.ptr i off))=(match st[i]? with|some (.cell row)=>q.bind fun k=>qae k row off|_=>none):=rfl
@[go_sem] theorem bin2_r {b:Bool} {ls:Option (List Nat)} {r1 r2:List A}:bin2 b ls .eql (.r r1) (.r r2)=eqR false ls r1 r2:=rfl
@[go_sem] theorem bin2_rn {b:Bool} {ls:Option (List Nat)} {r1 r2:List A}:bin2 b ls .neq (.r r1) (.r r2)=eqR true ls r1 r2:=rfl
@[go_sem] theorem bin2_v {b:Bool} {ls:Option (List Nat)} {op:BinOp} {u v:Value}:bin2 b ls op (.a (.v u)) (.a (.v v))=(qc5 b op u v).map fun z=>.a (.v z):=rfl
@[go_sem] theorem un1_v {op:UnOp} {u:Value}:un1 op (.a (.v u))=(evUn op u).map fun z=>.a (.v z):=rfl
@[go_sem] theorem faD_ref {q:Nat} {row:List A} {off:Nat}:faD (some q) (.a (.ref row off))=some (.a (.ref row (off+q))):=rfl
@[go_sem] theorem faD_ptr {q i off:Nat}:faD (some q) (.a (.ptr i off))=some (.a (.ptr i (off+q))):=rfl
theorem qbp {n:Nat} {row:List A} (h:row.length=n):qae (some n) row 0=some (.r row):=by
 show (if 0+n≤row.length then some (D.r ((row.drop 0).take n)) else none)=_
 rw [if_pos (by omega),List.drop_zero,List.take_of_length_le (by omega)]
theorem qbv {row xs:List A} (h:xs.length=row.length):qah row 0 xs=xs:=by
 unfold qah
 rw [List.take_zero,List.nil_append,Nat.zero_add,h,List.drop_length,List.append_nil]
theorem qaq {n:Nat} {rows:List (List A)} {row:List A} {q:IntKind} {z:Int} {j:Nat} (hz:z=j) (hr:rows[j]? = some row) (hn:row.length=n) {q2:Option (Nat×Nat)}:ixD (some n) q2 (.a (.sl rows)) (.a (.v (.int q z)))=some (.a (.ref row 0)):=by
 subst hz
 have hj:=(List.getElem?_eq_some_iff.1 hr).1
 have hd:rows.getD j []=row:=by rw [List.getD_eq_getElem?_getD,hr];rfl
 simp only [ixD,Int.toNat_natCast,hd,hn]
 rw [if_pos ⟨by omega,by omega,trivial⟩]
@[go_sem] theorem exD_t {ds:List D}:exD k (.t ds)=ds[k]?:=rfl
@[go_sem] theorem nilD_ref {row:List A} {off:Nat}:nilD (.a (.ref row off))=some (.a (.ref row off)):=rfl
@[go_sem] theorem nilD_ptr {j off:Nat}:nilD (.a (.ptr j off))=some (.a (.ptr j off)):=rfl
@[go_sem] theorem lenS_l {rows:List (List A)}:lenS P st T (.a (.sl rows))=if isSl P T=true then some (.a (.v (.int .i64 rows.length))) else none:=rfl
@[go_sem] theorem lenS_n:lenS P st T (.a .nl)=if isSl P T=true then some (.a (.v (.int .i64 ((0:Nat):Int)))) else none:=rfl
@[go_sem] theorem boxD_s {xs:List A}:boxD st (some xs)=some (.a (.ptr st.length 0),st++[.cell xs]):=rfl
@[go_sem] theorem dCells_v {z:Value}:qba (.a (.v z))=some [.v z]:=rfl
@[go_sem] theorem dCells_sl {z:List (List A)}:qba (.a (.sl z))=some [.sl z]:=rfl
@[go_sem] theorem dCells_ptr {i o:Nat}:qba (.a (.ptr i o))=some [.ptr i o]:=rfl
@[go_sem] theorem dCells_own {i o:Nat}:qba (.a (.own i o))=some [.own i o]:=rfl
@[go_sem] theorem dCells_fn {f:FuncId} {l:List A}:qba (.a (.fn f l))=some [.fn f l]:=rfl
@[go_sem] theorem dCells_r {row:List A}:qba (.r row)=some row:=rfl
@[go_sem] theorem stoD_p {q:Option Nat} {j off:Nat} {xs:List A}:stoD st q (.a (.ptr j off)) (some xs)=(match st[j]? with|some (.cell row)=>if q=some xs.length∧off+xs.length≤row.length then some (.undef,st.set j (.cell (qah row off xs))) else none|_=>none):=rfl
@[go_sem] theorem keepE_n:qa7 e []=fun _=>.junk:=rfl
@[go_sem] theorem keepE_c {t:Nat} {ks:List Nat}:qa7 e (t::ks)=upd (qa7 e ks) t (e t):=rfl
@[go_sem] theorem envL_n:envL []=fun _=>.junk:=rfl
@[go_sem] theorem envL_c {t:Nat} {l:List (Nat×D)}:envL ((t,d)::l)=upd (envL l) t d:=rfl
@[go_sem] theorem argsFrom_n {j:Nat}:qaj j []=fun _=>.undef:=rfl
@[go_sem] theorem argsFrom_c {j:Nat} {ds:List D}:qaj j (d::ds)=upd (qaj (j+1) ds) j d:=rfl
end
attribute [go_sem] ne_eq not_false_eq_true Int.toNat_natCast Int.natCast_nonneg Int.cast_ofNat_Int decide_true decide_false List.length_nil List.length_cons List.nil_append List.cons_append List.getElem?_cons_zero List.getElem?_cons_succ List.set_cons_zero List.set_cons_succ Option.map_some Option.map_none Option.bind_some if_true if_false Bool.cond_false Bool.cond_true Bool.cond_false_right Bool.cond_true_left Bool.not_true Bool.not_false List.length_map and_self and_true true_and Nat.zero_le Nat.le_refl and_false false_and List.map_cons List.map_nil
def owAt (o:Int×Int):List A:=[.v (.int .i64 o.1),.v (.int .i64 o.2)]
def qi5 (s:List UInt8):List A:=[.v (.string (bs s))]
structure Ty where
 kind:Int
 cls:List UInt8
 n:Int
 o0:Int×Int
 o1:Int×Int
 o2:Int×Int
 o3:Int×Int
 deriving DecidableEq
def Ty.at (s:Ty):List A:=[.v (.int .i64 s.kind),.v (.string (bs s.cls)),.v (.int .i64 s.n),.v (.int .i64 s.o0.1),.v (.int .i64 s.o0.2),.v (.int .i64 s.o1.1),.v (.int .i64 s.o1.2),.v (.int .i64 s.o2.1),.v (.int .i64 s.o2.2),.v (.int .i64 s.o3.1),.v (.int .i64 s.o3.2)]
section
variable (s:Ty)
@[go_sem] theorem Ty.len:(Ty.at s).length=11:=by obtain⟨kind,cls,n,o0,o1,o2,o3⟩:=s;rfl
@[go_sem] theorem Ty.cl:(Ty.at s).all clA=true:=by obtain⟨kind,cls,n,o0,o1,o2,o3⟩:=s;rfl
@[go_sem] theorem Ty.see (st:List Bx):(Ty.at s).map (seeA st)=Ty.at s:=by obtain⟨kind,cls,n,o0,o1,o2,o3⟩:=s;rfl
@[go_sem] theorem Ty.w:qae (some 11) (Ty.at s) 0=some (.r (Ty.at s)):=qbp (Ty.len s)
@[go_sem] theorem Ty.pw (t:Ty):qah (Ty.at s) 0 (Ty.at t)=Ty.at t:=qbv (by rw [Ty.len,Ty.len])
@[go_sem] theorem Ty.g0:qae none (Ty.at s) 0=some (.a (.v (.int .i64 s.kind))):=by obtain⟨kind,cls,n,o0,o1,o2,o3⟩:=s;rfl
@[go_sem] theorem Ty.g1:qae none (Ty.at s) 1=some (.a (.v (.string (bs s.cls)))):=by obtain⟨kind,cls,n,o0,o1,o2,o3⟩:=s;rfl
@[go_sem] theorem Ty.g2:qae none (Ty.at s) 2=some (.a (.v (.int .i64 s.n))):=by obtain⟨kind,cls,n,o0,o1,o2,o3⟩:=s;rfl
@[go_sem] theorem Ty.g3:qae none (Ty.at s) 3=some (.a (.v (.int .i64 s.o0.1))):=by obtain⟨kind,cls,n,o0,o1,o2,o3⟩:=s;rfl
@[go_sem] theorem Ty.p0_0 (z:Int):qah (Ty.at s) 0 [.v (.int .i64 z)]=Ty.at { s with kind:=z }:=by obtain⟨kind,cls,n,o0,o1,o2,o3⟩:=s;rfl
end
def Ty.zero:Ty:=⟨0,[],0,(0,0),(0,0),(0,0),(0,0)⟩
theorem Ty.eqLs (s t:Ty):okLs [1,2,1,1,1,1,1,1,1,1,1] ((qby (Ty.at s)).getD []) ((qby (Ty.at t)).getD [])=true∧eqLs ((qby (Ty.at s)).getD []) ((qby (Ty.at t)).getD [])=decide (s=t):=by
 obtain⟨k,cls,n,⟨a0,b0⟩,⟨a1,b1⟩,⟨a2,b2⟩,⟨a3,b3⟩⟩:=s
 obtain⟨k',cls',n',⟨a0',b0'⟩,⟨a1',b1'⟩,⟨a2',b2'⟩,⟨a3',b3'⟩⟩:=t
 refine⟨rfl,?_⟩
 show (k==k'&&((bs cls).toList==(bs cls').toList&&(n==n'&&(a0==a0'&&(b0==b0'&&(a1==a1'&&(b1==b1'&&(a2==a2'&&(b2==b2'&&(a3==a3'&&(b3==b3'&&true)))))))))))=_
 rw [qax,qax,Bool.eq_iff_iff]
 simp [and_assoc]
@[go_sem] theorem Ty_eqR (s t:Ty):eqR false (some [1,2,1,1,1,1,1,1,1,1,1]) (Ty.at s) (Ty.at t)=some (.a (.v (.bool (decide (s=t))))):=by
 have h:=Ty.eqLs s t
 have h1:qby (Ty.at s)=some ((qby (Ty.at s)).getD []):=by cases s;rfl
 have h2:qby (Ty.at t)=some ((qby (Ty.at t)).getD []):=by cases t;rfl
 unfold eqR;rw [h1,h2];simp only [h.1,h.2,if_true,cond_true,cond_false]
@[go_sem] theorem Ty_neR (s t:Ty):eqR true (some [1,2,1,1,1,1,1,1,1,1,1]) (Ty.at s) (Ty.at t)=some (.a (.v (.bool (!decide (s=t))))):=by
 have h:=Ty.eqLs s t
 have h1:qby (Ty.at s)=some ((qby (Ty.at s)).getD []):=by cases s;rfl
 have h2:qby (Ty.at t)=some ((qby (Ty.at t)).getD []):=by cases t;rfl
 unfold eqR;rw [h1,h2];simp only [h.1,h.2,if_true,cond_true,cond_false]
structure Ex where
 kind:Int
 num:Int
 name:List UInt8
 kids:List Ex
mutual
def Ex.at:Ex→List A
 | ⟨kind,num,name,kids⟩=>[.v (.int .i64 kind),.v (.int .i64 num),.v (.string (bs name)),.sl (Ex.ats kids)]
def Ex.ats:List Ex→List (List A)
 | []=>[]
 | e::r=>Ex.at e::Ex.ats r
end
theorem Ex.ats_map:∀l:List Ex,Ex.ats l=l.map Ex.at
 | []=>rfl
 | e::r=>by rw [Ex.ats,Ex.ats_map r];rfl
section
variable (s:Ex)
@[go_sem] theorem Ex.len:(Ex.at s).length=4:=by obtain⟨kind,num,name,kids⟩:=s;simp only [Ex.at,Ex.at,Ex.ats_map];rfl
@[go_sem] theorem Ex.cl:(Ex.at s).all clA=true:=by obtain⟨kind,num,name,kids⟩:=s;simp only [Ex.at,Ex.at,Ex.ats_map];rfl
@[go_sem] theorem Ex.w:qae (some 4) (Ex.at s) 0=some (.r (Ex.at s)):=qbp (Ex.len s)
@[go_sem] theorem Ex.pw (t:Ex):qah (Ex.at s) 0 (Ex.at t)=Ex.at t:=qbv (by rw [Ex.len,Ex.len])
@[go_sem] theorem Ex.g0:qae none (Ex.at s) 0=some (.a (.v (.int .i64 s.kind))):=by obtain⟨kind,num,name,kids⟩:=s;simp only [Ex.at,Ex.at,Ex.ats_map];rfl
@[go_sem] theorem Ex.g1:qae none (Ex.at s) 1=some (.a (.v (.int .i64 s.num))):=by obtain⟨kind,num,name,kids⟩:=s;simp only [Ex.at,Ex.at,Ex.ats_map];rfl
@[go_sem] theorem Ex.g2:qae none (Ex.at s) 2=some (.a (.v (.string (bs s.name)))):=by obtain⟨kind,num,name,kids⟩:=s;simp only [Ex.at,Ex.at,Ex.ats_map];rfl
@[go_sem] theorem Ex.g3:qae none (Ex.at s) 3=some (.a (.sl (s.kids.map Ex.at))):=by obtain⟨kind,num,name,kids⟩:=s;simp only [Ex.at,Ex.at,Ex.ats_map];rfl
end
def Ex.zero:Ex:=⟨0,0,[],[]⟩
structure St where
 kind:Int
 x:List UInt8
 y:List UInt8
 name:List UInt8
 ty:Ty
 e:Ex
 args:List Ex
 body:List St
 els:List St
 at_:Int
mutual
def St.at:St→List A
 | ⟨kind,x,y,name,ty,e,args,body,els,at_⟩=>[.v (.int .i64 kind),.v (.string (bs x)),.v (.string (bs y)),.v (.string (bs name))]++Ty.at ty++Ex.at e++[.sl (args.map Ex.at),.sl (St.ats body),.sl (St.ats els),.v (.int .i64 at_)]
def St.ats:List St→List (List A)
 | []=>[]
 | e::r=>St.at e::St.ats r
end
theorem St.ats_map:∀l:List St,St.ats l=l.map St.at
 | []=>rfl
 | e::r=>by rw [St.ats,St.ats_map r];rfl
section
variable (s:St)
@[go_sem] theorem St.len:(St.at s).length=23:=by obtain⟨kind,x,y,name,⟨qa6,ty_cls,ty_n,ty_o0,ty_o1,ty_o2,ty_o3⟩,⟨e_kind,e_num,e_name,e_kids⟩,args,body,els,at_⟩:=s;simp only [St.at,St.at,St.ats_map,Ex.at,Ex.ats_map];rfl
@[go_sem] theorem St.cl:(St.at s).all clA=true:=by obtain⟨kind,x,y,name,⟨qa6,ty_cls,ty_n,ty_o0,ty_o1,ty_o2,ty_o3⟩,⟨e_kind,e_num,e_name,e_kids⟩,args,body,els,at_⟩:=s;simp only [St.at,St.at,St.ats_map,Ex.at,Ex.ats_map];rfl
@[go_sem] theorem St.w:qae (some 23) (St.at s) 0=some (.r (St.at s)):=qbp (St.len s)
@[go_sem] theorem St.g0:qae none (St.at s) 0=some (.a (.v (.int .i64 s.kind))):=by obtain⟨kind,x,y,name,⟨qa6,ty_cls,ty_n,ty_o0,ty_o1,ty_o2,ty_o3⟩,⟨e_kind,e_num,e_name,e_kids⟩,args,body,els,at_⟩:=s;simp only [St.at,St.at,St.ats_map,Ex.at,Ex.ats_map];rfl
@[go_sem] theorem St.g1:qae none (St.at s) 1=some (.a (.v (.string (bs s.x)))):=by obtain⟨kind,x,y,name,⟨qa6,ty_cls,ty_n,ty_o0,ty_o1,ty_o2,ty_o3⟩,⟨e_kind,e_num,e_name,e_kids⟩,args,body,els,at_⟩:=s;simp only [St.at,St.at,St.ats_map,Ex.at,Ex.ats_map];rfl
@[go_sem] theorem St.g2:qae none (St.at s) 2=some (.a (.v (.string (bs s.y)))):=by obtain⟨kind,x,y,name,⟨qa6,ty_cls,ty_n,ty_o0,ty_o1,ty_o2,ty_o3⟩,⟨e_kind,e_num,e_name,e_kids⟩,args,body,els,at_⟩:=s;simp only [St.at,St.at,St.ats_map,Ex.at,Ex.ats_map];rfl
@[go_sem] theorem St.g3:qae none (St.at s) 3=some (.a (.v (.string (bs s.name)))):=by obtain⟨kind,x,y,name,⟨qa6,ty_cls,ty_n,ty_o0,ty_o1,ty_o2,ty_o3⟩,⟨e_kind,e_num,e_name,e_kids⟩,args,body,els,at_⟩:=s;simp only [St.at,St.at,St.ats_map,Ex.at,Ex.ats_map];rfl
@[go_sem] theorem St.g4:qae none (St.at s) 4=some (.a (.v (.int .i64 s.ty.kind))):=by obtain⟨kind,x,y,name,⟨qa6,ty_cls,ty_n,ty_o0,ty_o1,ty_o2,ty_o3⟩,⟨e_kind,e_num,e_name,e_kids⟩,args,body,els,at_⟩:=s;simp only [St.at,St.at,St.ats_map,Ex.at,Ex.ats_map];rfl
@[go_sem] theorem St.g15:qae none (St.at s) 15=some (.a (.v (.int .i64 s.e.kind))):=by obtain⟨kind,x,y,name,⟨qa6,ty_cls,ty_n,ty_o0,ty_o1,ty_o2,ty_o3⟩,⟨e_kind,e_num,e_name,e_kids⟩,args,body,els,at_⟩:=s;simp only [St.at,St.at,St.ats_map,Ex.at,Ex.ats_map];rfl
@[go_sem] theorem St.g19:qae none (St.at s) 19=some (.a (.sl (s.args.map Ex.at))):=by obtain⟨kind,x,y,name,⟨qa6,ty_cls,ty_n,ty_o0,ty_o1,ty_o2,ty_o3⟩,⟨e_kind,e_num,e_name,e_kids⟩,args,body,els,at_⟩:=s;simp only [St.at,St.at,St.ats_map,Ex.at,Ex.ats_map];rfl
@[go_sem] theorem St.g20:qae none (St.at s) 20=some (.a (.sl (s.body.map St.at))):=by obtain⟨kind,x,y,name,⟨qa6,ty_cls,ty_n,ty_o0,ty_o1,ty_o2,ty_o3⟩,⟨e_kind,e_num,e_name,e_kids⟩,args,body,els,at_⟩:=s;simp only [St.at,St.at,St.ats_map,Ex.at,Ex.ats_map];rfl
@[go_sem] theorem St.g21:qae none (St.at s) 21=some (.a (.sl (s.els.map St.at))):=by obtain⟨kind,x,y,name,⟨qa6,ty_cls,ty_n,ty_o0,ty_o1,ty_o2,ty_o3⟩,⟨e_kind,e_num,e_name,e_kids⟩,args,body,els,at_⟩:=s;simp only [St.at,St.at,St.ats_map,Ex.at,Ex.ats_map];rfl
@[go_sem] theorem St.s4:qae (some 11) (St.at s) 4=some (.r (Ty.at s.ty)):=by obtain⟨kind,x,y,name,⟨qa6,ty_cls,ty_n,ty_o0,ty_o1,ty_o2,ty_o3⟩,⟨e_kind,e_num,e_name,e_kids⟩,args,body,els,at_⟩:=s;simp only [St.at,St.at,St.ats_map,Ex.at,Ex.ats_map];rfl
@[go_sem] theorem St.s15:qae (some 4) (St.at s) 15=some (.r (Ex.at s.e)):=by obtain⟨kind,x,y,name,⟨qa6,ty_cls,ty_n,ty_o0,ty_o1,ty_o2,ty_o3⟩,⟨e_kind,e_num,e_name,e_kids⟩,args,body,els,at_⟩:=s;simp only [St.at,St.at,St.ats_map,Ex.at,Ex.ats_map];rfl
end
def St.zero:St:=⟨0,[],[],[],Ty.zero,Ex.zero,[],[],[],0⟩
structure Vr where
 name:List UInt8
 ty:Ty
 at_:Int
def Vr.at (s:Vr):List A:=[.v (.string (bs s.name))]++Ty.at s.ty++[.v (.int .i64 s.at_)]
section
variable (s:Vr)
@[go_sem] theorem Vr.len:(Vr.at s).length=13:=by obtain⟨name,⟨qa6,ty_cls,ty_n,ty_o0,ty_o1,ty_o2,ty_o3⟩,at_⟩:=s;rfl
@[go_sem] theorem Vr.cl:(Vr.at s).all clA=true:=by obtain⟨name,⟨qa6,ty_cls,ty_n,ty_o0,ty_o1,ty_o2,ty_o3⟩,at_⟩:=s;rfl
@[go_sem] theorem Vr.w:qae (some 13) (Vr.at s) 0=some (.r (Vr.at s)):=qbp (Vr.len s)
@[go_sem] theorem Vr.pw (t:Vr):qah (Vr.at s) 0 (Vr.at t)=Vr.at t:=qbv (by rw [Vr.len,Vr.len])
@[go_sem] theorem Vr.g0:qae none (Vr.at s) 0=some (.a (.v (.string (bs s.name)))):=by obtain⟨name,⟨qa6,ty_cls,ty_n,ty_o0,ty_o1,ty_o2,ty_o3⟩,at_⟩:=s;rfl
@[go_sem] theorem Vr.s1:qae (some 11) (Vr.at s) 1=some (.r (Ty.at s.ty)):=by obtain⟨name,⟨qa6,ty_cls,ty_n,ty_o0,ty_o1,ty_o2,ty_o3⟩,at_⟩:=s;rfl
end
def Vr.zero:Vr:=⟨[],Ty.zero,0⟩
structure Me where
 name:List UInt8
 pure_:Bool
 ret:Ty
 params:List Vr
 locals:List Vr
 body:List St
 at_:Int
def Me.at (s:Me):List A:=[.v (.string (bs s.name)),.v (.bool s.pure_)]++Ty.at s.ret++[.sl (s.params.map Vr.at),.sl (s.locals.map Vr.at),.sl (s.body.map St.at),.v (.int .i64 s.at_)]
section
variable (s:Me)
@[go_sem] theorem Me.len:(Me.at s).length=17:=by obtain⟨name,pure_,⟨ret_kind,ret_cls,ret_n,ret_o0,ret_o1,ret_o2,ret_o3⟩,params,locals,body,at_⟩:=s;rfl
@[go_sem] theorem Me.cl:(Me.at s).all clA=true:=by obtain⟨name,pure_,⟨ret_kind,ret_cls,ret_n,ret_o0,ret_o1,ret_o2,ret_o3⟩,params,locals,body,at_⟩:=s;rfl
@[go_sem] theorem Me.w:qae (some 17) (Me.at s) 0=some (.r (Me.at s)):=qbp (Me.len s)
@[go_sem] theorem Me.pw (t:Me):qah (Me.at s) 0 (Me.at t)=Me.at t:=qbv (by rw [Me.len,Me.len])
@[go_sem] theorem Me.g13:qae none (Me.at s) 13=some (.a (.sl (s.params.map Vr.at))):=by obtain⟨name,pure_,⟨ret_kind,ret_cls,ret_n,ret_o0,ret_o1,ret_o2,ret_o3⟩,params,locals,body,at_⟩:=s;rfl
@[go_sem] theorem Me.g14:qae none (Me.at s) 14=some (.a (.sl (s.locals.map Vr.at))):=by obtain⟨name,pure_,⟨ret_kind,ret_cls,ret_n,ret_o0,ret_o1,ret_o2,ret_o3⟩,params,locals,body,at_⟩:=s;rfl
end
def Me.zero:Me:=⟨[],false,Ty.zero,[],[],[],0⟩
structure Cs where
 name:List UInt8
 params:List (List UInt8)
 super:List UInt8
 above:List (Int×Int)
 fields:List Vr
 methods:List Me
 at_:Int
def Cs.at (s:Cs):List A:=[.v (.string (bs s.name)),.sl (s.params.map qi5),.v (.string (bs s.super)),.sl (s.above.map owAt),.sl (s.fields.map Vr.at),.sl (s.methods.map Me.at),.v (.int .i64 s.at_)]
section
variable (s:Cs)
@[go_sem] theorem Cs.len:(Cs.at s).length=7:=by obtain⟨name,params,super,above,fields,methods,at_⟩:=s;rfl
@[go_sem] theorem Cs.cl:(Cs.at s).all clA=true:=by obtain⟨name,params,super,above,fields,methods,at_⟩:=s;rfl
@[go_sem] theorem Cs.w:qae (some 7) (Cs.at s) 0=some (.r (Cs.at s)):=qbp (Cs.len s)
@[go_sem] theorem Cs.g0:qae none (Cs.at s) 0=some (.a (.v (.string (bs s.name)))):=by obtain⟨name,params,super,above,fields,methods,at_⟩:=s;rfl
@[go_sem] theorem Cs.g1:qae none (Cs.at s) 1=some (.a (.sl (s.params.map qi5))):=by obtain⟨name,params,super,above,fields,methods,at_⟩:=s;rfl
@[go_sem] theorem Cs.g2:qae none (Cs.at s) 2=some (.a (.v (.string (bs s.super)))):=by obtain⟨name,params,super,above,fields,methods,at_⟩:=s;rfl
@[go_sem] theorem Cs.g4:qae none (Cs.at s) 4=some (.a (.sl (s.fields.map Vr.at))):=by obtain⟨name,params,super,above,fields,methods,at_⟩:=s;rfl
@[go_sem] theorem Cs.g5:qae none (Cs.at s) 5=some (.a (.sl (s.methods.map Me.at))):=by obtain⟨name,params,super,above,fields,methods,at_⟩:=s;rfl
end
def Cs.zero:Cs:=⟨[],[],[],[],[],[],0⟩
@[go_sem] theorem owAt_len (o:Int×Int):(owAt o).length=2:=rfl
@[go_sem] theorem strAt_len (o:List UInt8):(qi5 o).length=1:=rfl
@[go_sem] theorem owAt_pw (o q:Int×Int):qah (owAt o) 0 (owAt q)=owAt q:=rfl
@[go_sem] theorem owAt_cl (o:Int×Int):(owAt o).all clA=true:=rfl
@[go_sem] theorem owAt_0 (o:Int×Int):qae none (owAt o) 0=some (.a (.v (.int .i64 o.1))):=rfl
@[go_sem] theorem owAt_1 (o:Int×Int):qae none (owAt o) 1=some (.a (.v (.int .i64 o.2))):=rfl
@[go_sem] theorem owAt_w (o:Int×Int):qae (some 2) (owAt o) 0=some (.r (owAt o)):=rfl
@[go_sem] theorem strAt_0 (o:List UInt8):qae none (qi5 o) 0=some (.a (.v (.string (bs o)))):=rfl
@[go_sem] theorem owAt_neR (o q:Int×Int):eqR true (some [1,1]) (owAt o) (owAt q)=some (.a (.v (.bool (!(o==q))))):=by
 show some (D.a (.v (.bool (bif true then !((o.1==q.1&&(o.2==q.2&&true))) else (o.1==q.1&&(o.2==q.2&&true))))))=_
 rw [Bool.and_true];rfl
theorem zrTy:Ty.at Ty.zero=[A.v (.int .i64 0),.v (.string (bs [])),.v (.int .i64 0),.v (.int .i64 0),.v (.int .i64 0),.v (.int .i64 0),.v (.int .i64 0),.v (.int .i64 0),.v (.int .i64 0),.v (.int .i64 0),.v (.int .i64 0)]:=by unfold Ty.zero;simp only [Ty.zero,Ex.zero,Ty.at,Ex.at,Ex.ats_map,St.at,St.ats_map,Vr.at,Me.at,Cs.at,List.map_nil]<;>rfl
theorem zrOw:owAt (0,0)=[A.v (.int .i64 0),.v (.int .i64 0)]:=rfl
end Go.Proofs.YthkojpnjdpbcgaaGreatDoor
