/- Maps of a function's own, on plain data. No program in sight. Conditions: none. -/
import Derived.Test.YthkojpnjdpbcgaaGreatDoorMl4
import Derived.Test.YthkojpnjdpbcgaaGreatDoorMl8
import Derived.Test.YthkojpnjdpbcgaaGreatDoorMl10
import Derived.Test.YthkojpnjdpbcgaaGreatDoorMl9
set_option linter.unusedVariables false
set_option maxRecDepth 100000
set_option maxHeartbeats 8000000
set_option linter.unusedSimpArgs false
namespace Go.Proofs.YthkojpnjdpbcgaaGreatDoor
open Go.RowKit
/-! ### Keys -/
/-! ### Entries -/
section
variable {P:Program} {w:World}
end
/-! ### Steps -/
section
variable {P:Program} {st:List Bx} {e:Nat→D} {o:Oper}
end
theorem run_lit0 {P:Program} {w:World} {t e:TypeId} {ie:TypeInfo} (hu:P.underlying t=some (.slice e)) (hie:P.info? e=some ie):(Instr.buildSlice t 0 #[]).run P w=.ok (.slice (some ⟨w.heap.size,0,none⟩) 0 0) (w.alloc (.cells #[] e)):=by
 simp [Instr.buildSlice,run_underlying hu,sizeOf,typeInfo,hie,newRow,Instr.fill]
 congr 2
 apply Array.eq_empty_of_size_eq_zero;simp
theorem qkj {P:Program} {w:World} {T el:TypeId} {a:Option Addr} {l c:Nat} (hu:P.underlying T=some (.slice el)) (d:Nat):(Op.equalIn (d+1) T (.slice a l c) (.slice none 0 0)).run P w=.ok a.isNone w:=by
 simp only [Op.equalIn,Sem.run_bind,run_underlying hu,Result.andThen_ok]
 cases a<;>rfl
theorem run_eqNil {P:Program} {w:World} {T el:TypeId} {a:Option Addr} {l c:Nat} (hu:P.underlying T=some (.slice el)) (q:Bool):(binOp (bif q then .neq else .eql) T (.slice a l c) (.slice none 0 0)).run P w=.ok (.bool (a.isNone != q)) w:=by
 have h:(Op.equal T (.slice a l c) (.slice none 0 0)).run P w=.ok a.isNone w:=qkj hu 9999
 cases q
 ·show (do pure (.bool (←Op.equal T (.slice a l c) (.slice none 0 0)):Value):Sem Value).run P w=_
  rw [Sem.run_bind,h,Result.andThen_ok,Sem.run_pure];cases a<;>rfl
 ·show (do pure (.bool (!(←Op.equal T (.slice a l c) (.slice none 0 0))):Value):Sem Value).run P w=_
  rw [Sem.run_bind,h,Result.andThen_ok,Sem.run_pure];cases a<;>rfl
theorem guard_nil {P:Program} {w:World} {T:TypeId} {a:Option Addr} {l c:Nat} (q:Bool) (x y:Operand):(eqGuard (bif q then .neq else .eql) T x y (.slice a l c) (.slice none 0 0)).run P w=.ok () w:=by cases q<;>rfl
section
variable {P:Program} {C:Cx P} {ops:Array Oper} {r:List Oper} {st:List Bx} {e:Nat→D} {o:Oper} {dst:Option Nat} {ty:TypeId} {pos:String} {after:Array Edge} {K:(Nat→D)→List Bx→Prop} {T T':TypeId} {n bs:Nat} {zr:List A}
theorem OpG.lit0 (ho:o.op=.buildSlice T 0 ⟨[]⟩) (hn:es P T=some n) (hn0:0<n) (hz:zrT P T=some zr) (hzl:zr.length=n) (hby:byt P T=some bs):OpG P st e o (.a (.own st.length 0)) (st++[.arr 0 n []]):=by
 intro ρ V hst hok hu
 subst hst
 obtain⟨el,inf,z,hel,hinfo,hzz,hsz,hzc,hbs,hzr⟩:=slT hn hz hzl hby
 have hexec:(execOp ρ o).run P V.w=((Instr.buildSlice T 0 #[]).run P V.w).andThen fun v w=>.ok (.value v) w:=by
  simp only [execOp,ho,Sem.run_bind,Sem.run_pure]
  congr 3
  apply Array.eq_empty_of_size_eq_zero;simp
 rw [hexec,run_lit0 hel hinfo,Result.andThen_ok]
 have hnewc:(V.w.alloc (.cells #[] el)).heap[V.w.heap.size]? = some (.cells #[] el (0,0)):=qbb _ _ _ rfl
 have hown:=qec (V:=V) hok.len #[] el n 0 [] hnewc (by simp) (Nat.le_refl 0)
 exact .val (Step.pushA hok #[] el n 0 [] ((Grw.refl V.w).alloc _) hnewc (by simp) hn0 (Nat.le_refl 0) (fun k row hk=>by simp at hk) (fun k row j y hk=>by simp at hk)) (.a _ _ hown)
theorem RS.lit0 {len:Nat} (hl:len=0) (hn:es P T=some n) (hn0:0<n) (hz:zrT P T=some zr) (hzl:zr.length=n) (hby:byt P T=some bs) (k:RS C ops r (putE e dst (.a (.own st.length 0))) (st++[.arr 0 n []]) K):RS C ops (⟨dst,.buildSlice T len ⟨[]⟩,ty,pos,after,none⟩::r) e st K:=by
 subst hl
 exact .inl ⟨_,_,.inl ⟨rfl,OpG.lit0 rfl hn hn0 hz hzl hby⟩,k⟩
theorem sl_inv {V:Vw} {rows:List (List A)} {u:Value} (h:RepD V (.a (.sl rows)) u):∃a l c,u=.slice a l c∧(0<rows.length→a.isNone=false):=by
 cases h with
 | a _ _ h=>cases h with
  | c _ _ h=>cases h with
   | sl0 a c=>exact⟨a,0,c,rfl,fun h=>by simp at h⟩
   | sl rows n b o c val _ _ _ _ _ _=>exact⟨_,_,_,rfl,fun _=>rfl⟩
theorem nl_inv {V:Vw} {u:Value} (h:RepD V (.a .nl) u):u=.slice none 0 0:=by
 cases h with
 | a _ _ h=>cases h with
  | c _ _ h=>cases h;rfl
theorem RS.eqNil {rows:List (List A)} {q:Bool} {op:BinOp} {x:Operand} {g:D} (hq:op=bif q then .neq else .eql) (hx:evO e x=.a (.sl rows)) (hT:isSl P T=true) (hg:e 1000000=g) (h:∀b,(0<rows.length→b=q)→RS C ops r (upd (putE e dst (.a (.v (.bool b)))) 1000000 g) st K) :
  RS C ops (⟨dst,.binOp op T x (.const (.slice none 0 0)) T',ty,pos,after,none⟩::r) e st K:=by
 refine .inr ⟨trivial,fun d st' g'=>st'=st∧g'=g∧∃b,(0<rows.length→b=q)∧d=.a (.v (.bool b)),?_,?_⟩
 ·intro ρ V Nx hst hok hsep hnx henv hu
  subst hst
  rw [hg] at henv
  have h1:=hu x (by simp [qad,Op.operands])
  rw [hx] at h1
  have h2:=hu (.const (.slice none 0 0)) (by simp [qad,Op.operands])
  have h2:ρ (.const (.slice none 0 0))=.slice none 0 0:=nl_inv h2
  obtain⟨a,l,c,ha,hne⟩:=sl_inv h1
  obtain⟨el,hel⟩:∃el,P.underlying T=some (.slice el):=by
   unfold isSl at hT
   split at hT
   ·exact⟨_,by assumption⟩
   ·cases hT
  have hrun:(execOp ρ ⟨dst,.binOp op T x (.const (.slice none 0 0)) T',ty,pos,after,none⟩).run P V.w=.ok (.value (.bool (a.isNone != q))) V.w:=by
   simp only [execOp,ha,h2,hq,Sem.run_bind,guard_nil,run_eqNil hel,Result.andThen_ok,Sem.run_pure]
  rw [hrun]
  exact⟨_,V.st,g,V.x,V.bl,⟨rfl,rfl,_,fun h=>by rw [hne h];cases q<;>rfl,rfl⟩,.refl hok,henv,.v rfl⟩
 ·rintro d st' g' ⟨rfl,rfl,b,hb,rfl⟩
  exact h b hb
/-! ### Maps -/
variable {m kx x i:Operand} {j:Nat} {k:KS} {wd:Bool} {es2:List (Value×List A)} {kv:Value} {z row:List A} {ok:Bool}
@[go_sem] theorem evG_bin {op:BinOp} {guard:Option (Nat×Bool)} {x y:Operand}:evG P st e ⟨dst,.binOp op T x y T',ty,pos,after,guard⟩=none:=rfl
@[go_sem] theorem bin2_nl {b:Bool} {ls:Option (List Nat)} {op:BinOp} {rows:List (List A)}:bin2 b ls op (.a (.sl rows)) (.a .nl)=none:=rfl
end
/-! ### What the reckoning turns to -/
theorem un_cl {σ:List Nat} {row:List A} (h:row.all clA=true):row.map (unA σ)=row:=by
 rw [List.all_eq_true] at h
 conv=>rhs;rw [←List.map_id row]
 refine List.map_congr_left fun y hy=>?_
 have:=h y hy
 cases y<;>first|rfl|(cases this;done)|skip
 rename_i f l;cases l with
 | nil=>rfl
 | cons=>cases this
theorem rn_cl {σ:List Nat} {row:List A} (h:row.all clA=true):row.map (rnA σ)=row:=by
 rw [List.all_eq_true] at h
 conv=>rhs;rw [←List.map_id row]
 refine List.map_congr_left fun y hy=>?_
 have:=h y hy
 cases y<;>first|rfl|(cases this;done)|skip
 rename_i f l;cases l with
 | nil=>rfl
 | cons=>cases this
theorem in_cl {σ:List Nat} {row:List A} (h:row.all clA=true):row.all (inA σ)=true:=by
 rw [List.all_eq_true] at h ⊢
 intro y hy
 have:=h y hy
 cases y<;>first|rfl|(cases this;done)|skip
 rename_i f l;cases l with
 | nil=>rfl
 | cons=>cases this
theorem nr_clr {m:Nat} {row:List A} (h:row.all clA=true):row.all (nrA m)=true:=qda h
attribute [go_sem] un_cl rn_cl in_cl nr_clr
section
variable {σ:List Nat} {i k n m o:Nat} {x:A} {l r:List A} {d:D} {ds:List D} {b:Bx} {bs:List Bx} {st:List Bx} {es:List (Value×List A)} {wd:Bool} {q:KS}
@[go_sem] theorem unA_v {z:Value}:unA σ (.v z)=.v z:=rfl
@[go_sem] theorem unA_nl:unA σ .nl=.nl:=rfl
@[go_sem] theorem unA_sl {z:List (List A)}:unA σ (.sl z)=.sl z:=rfl
@[go_sem] theorem unA_ptr:unA σ (.ptr i o)=.ptr (σ.idxOf i) o:=rfl
@[go_sem] theorem unA_fn {f:FuncId}:unA σ (.fn f l)=.fn f (unA.unL σ l):=rfl
@[go_sem] theorem unL_n:unA.unL σ []=[]:=rfl
@[go_sem] theorem unL_c:unA.unL σ (x::l)=unA σ x::unA.unL σ l:=rfl
@[go_sem] theorem inA_v {z:Value}:inA σ (.v z)=true:=rfl
@[go_sem] theorem inA_nl:inA σ .nl=true:=rfl
@[go_sem] theorem inA_sl {z:List (List A)}:inA σ (.sl z)=true:=rfl
@[go_sem] theorem inA_ptr:inA σ (.ptr i o)=σ.contains i:=rfl
@[go_sem] theorem inA_fn {f:FuncId}:inA σ (.fn f l)=inA.inL σ l:=rfl
@[go_sem] theorem inL_n:inA.inL σ []=true:=rfl
@[go_sem] theorem inL_c:inA.inL σ (x::l)=(inA σ x&&inA.inL σ l):=rfl
@[go_sem] theorem unD_a:unD σ (.a x)=.a (unA σ x):=rfl
@[go_sem] theorem unD_r:unD σ (.r l)=.r (l.map (unA σ)):=rfl
@[go_sem] theorem inD_a:inD σ (.a x)=inA σ x:=rfl
@[go_sem] theorem inD_r:inD σ (.r l)=l.all (inA σ):=rfl
@[go_sem] theorem unB_cell:unB σ (.cell l)=.cell (l.map (unA σ)):=rfl
@[go_sem] theorem inB_cell:inB σ (.cell l)=l.all (inA σ):=rfl
@[go_sem] theorem lendOk_e {vs:List D}:qbz σ bs vs=(decide σ.Nodup&&bs.all (inB σ)&&vs.all (inD σ)):=rfl
@[go_sem] theorem rnA_v {z:Value}:rnA σ (.v z)=.v z:=rfl
@[go_sem] theorem rnA_sl {z:List (List A)}:rnA σ (.sl z)=.sl z:=rfl
@[go_sem] theorem rnA_ref {z:List A}:rnA σ (.ref z o)=.ref z o:=rfl
@[go_sem] theorem rnA_ptr:rnA σ (.ptr i o)=.ptr (σ.getD i 0) o:=rfl
@[go_sem] theorem rnA_own:rnA σ (.own i o)=.own (σ.getD i 0) o:=rfl
@[go_sem] theorem rnA_fn {f:FuncId}:rnA σ (.fn f l)=.fn f (rnA.rnL σ l):=rfl
@[go_sem] theorem rnL_n:rnA.rnL σ []=[]:=rfl
@[go_sem] theorem rnL_c:rnA.rnL σ (x::l)=rnA σ x::rnA.rnL σ l:=rfl
@[go_sem] theorem rnD_a:rnD σ (.a x)=.a (rnA σ x):=rfl
@[go_sem] theorem rnD_r:rnD σ (.r l)=.r (l.map (rnA σ)):=rfl
@[go_sem] theorem rnD_t:rnD σ (.t ds)=.t (rnD.rnDs σ ds):=rfl
@[go_sem] theorem rnDs_n:rnD.rnDs σ []=[]:=rfl
@[go_sem] theorem rnDs_c:rnD.rnDs σ (d::ds)=rnD σ d::rnD.rnDs σ ds:=rfl
@[go_sem] theorem rnB_cell:rnB σ (.cell l)=.cell (l.map (rnA σ)):=rfl
@[go_sem] theorem rnB_arr {v:Nat} {z:List (List A)}:rnB σ (.arr v n z)=.arr v n z:=rfl
@[go_sem] theorem mrg_n {α:Type} {l m:List α}:mrg [] l m=l++m:=rfl
@[go_sem] theorem mrg_c {α:Type} {l m:List α} {x:α}:mrg (i::σ) l (x::m)=mrg σ (l.set i x) m:=rfl
@[go_sem] theorem rnX_0:rnX σ k 0=σ:=by simp [rnX]
@[go_sem] theorem rnX_1:rnX σ k 1=σ++[k]:=rfl
@[go_sem] theorem rnX_2:rnX σ k 2=σ++[k,k+1]:=rfl
@[go_sem] theorem rnX_3:rnX σ k 3=σ++[k,k+1,k+2]:=rfl
@[go_sem] theorem nrM_a:nrM m (.a x)=nrA m x:=rfl
@[go_sem] theorem nrM_r:nrM m (.r l)=l.all (nrA m):=rfl
@[go_sem] theorem nrM_t:nrM m (.t ds)=nrM.nrMs m ds:=rfl
@[go_sem] theorem nrMs_n:nrM.nrMs m []=true:=rfl
@[go_sem] theorem nrMs_c:nrM.nrMs m (d::ds)=(nrM m d&&nrM.nrMs m ds):=rfl
@[go_sem] theorem nrA_fnc {f:FuncId}:nrA m (.fn f (x::l))=nrA.nrL m (x::l):=rfl
@[go_sem] theorem nrL_n:nrA.nrL m []=true:=rfl
@[go_sem] theorem nrL_c:nrA.nrL m (x::l)=(nrA m x&&nrA.nrL m l):=rfl
@[go_sem] theorem seeD1_own {v:Nat}:qc9 st (.a (.own i v))=.a (match st[i]? with|some (.arr ver' _ rows)=>if v=ver' then .sl rows else .own i v|_=>.own i v):=rfl
end
theorem qfz {α:Type} {f:α→List A} {n:Nat} (h:∀x,(f x).length=n) (l:List α):qay n (l.map f)=true:=by simp [qay,h]
@[go_sem] theorem allLen_n {n:Nat}:qay n []=true:=rfl
@[go_sem] theorem allLen_c {n:Nat} {r:List A} {l:List (List A)}:qay n (r::l)=((r.length==n)&&qay n l):=rfl
@[go_sem] theorem allLen_ow {l:List (Int×Int)}:qay 2 (l.map owAt)=true:=qfz (f:=owAt) (fun _=>rfl) l
@[go_sem] theorem allLen_Vr {l:List Vr}:qay 13 (l.map Vr.at)=true:=qfz (fun x=>Vr.len x) l
attribute [go_sem] List.getD_cons_zero List.getD_cons_succ List.length_append List.length_singleton List.length_replicate List.append_nil
/-! ### Short rules -/
section
variable {P:Program} {C:Cx P} {ops:Array Oper} {r:List Oper} {st st':List Bx} {e:Nat→D} {dst:Option Nat} {ty:TypeId} {pos:String} {after:Array Edge} {K:(Nat→D)→List Bx→Prop} {T T':TypeId} {n bs i ver:Nat} {zr:List A} {rows rows2 rows':List (List A)} {s x y:Operand} {f:FuncId} {xs:List Operand} {tys:Array TypeId} {d d' g:D} {ds vs:List D} {st0 st1 bs':List Bx} {m kx ix:Operand} {j:Nat} {k:KS} {wd:Bool} {es2 es3:List (Value×List A)} {kv:Value} {z row:List A} {ok:Bool}
theorem RS.aO (k:RS C ops r (putE e dst (.a (.own i (ver+1)))) (st.set i (.arr (ver+1) n rows')) K) (hs:evO e s=.a (.own i ver):=by (simp only [go_sem,simprocAttr,fx])<;>rfl) (ha:st[i]? = some (.arr ver n rows):=by (simp only [go_sem,simprocAttr,fx])<;>rfl) (hx:qb2 st (evO e x)=some rows2:=by (simp only [go_sem,simprocAttr,fx])<;>rfl) (hn:es P T=some n:=by (simp only [go_sem])<;>rfl) (hz:zrT P T=some zr:=by (simp only [go_sem])<;>rfl) (hzl:zr.length=n:=by (simp only [go_sem])<;>rfl) (hby:byt P T=some bs:=by (simp only [go_sem])<;>rfl) (hl2:qay n rows2=true:=by (simp only [go_sem,simprocAttr,fx])<;>rfl)
  (hb1:(rows.length+rows2.length)*bs≤140737488355328:=by (try simp only [go_sem]);omega) (hb2:rows.length+rows2.length≤4611686018427387904:=by (try simp only [go_sem]);omega) (hr:rows++rows2=rows':=by (try simp only [go_sem,simprocAttr,fx])<;>rfl):RS C ops (⟨dst,.call ⟨.builtin .append,⟨[s,x]⟩,⟨[T,T]⟩⟩,ty,pos,after,none⟩::r) e st K:=RS.appO hs ha hx hn hz hzl hby hl2 hb1 hb2 hr k
theorem RS.aN (k:RS C ops r (putE e dst (.a (.own st.length 0))) (st++[.arr 0 n rows2]) K) (hs:evO e s=.a .nl:=by (simp only [go_sem,simprocAttr,fx])<;>rfl) (hx:qb2 st (evO e x)=some rows2:=by (simp only [go_sem,simprocAttr,fx])<;>rfl) (hn:es P T=some n:=by (simp only [go_sem])<;>rfl) (hn0:0<n:=by decide) (hz:zrT P T=some zr:=by (simp only [go_sem])<;>rfl) (hzl:zr.length=n:=by (simp only [go_sem])<;>rfl) (hby:byt P T=some bs:=by (simp only [go_sem])<;>rfl) (hl2:qay n rows2=true:=by (simp only [go_sem,simprocAttr,fx])<;>rfl) (hne:0<rows2.length:=by (try simp only [go_sem]);omega)
  (hb1:rows2.length*bs≤140737488355328:=by (try simp only [go_sem]);omega) (hb2:rows2.length≤4611686018427387904:=by (try simp only [go_sem]);omega):RS C ops (⟨dst,.call ⟨.builtin .append,⟨[s,x]⟩,⟨[T,T]⟩⟩,ty,pos,after,none⟩::r) e st K:=RS.appN hs hx hn hn0 hz hzl hby hl2 hne hb1 hb2 k
theorem RS.mS {len:Nat} {kl kc:IntKind} (k:RS C ops r (putE e dst (.a (.own st.length 0))) (st++[.arr 0 n (List.replicate len zr)]) K) (hx:evO e x=.a (.v (.int kl (len:Nat))):=by (simp only [go_sem,simprocAttr,fx])<;>rfl) (hy:evO e y=.a (.v (.int kc (len:Nat))):=by (simp only [go_sem,simprocAttr,fx])<;>rfl) (hn:es P T=some n:=by (simp only [go_sem])<;>rfl) (hn0:0<n:=by decide) (hz:zrT P T=some zr:=by (simp only [go_sem])<;>rfl) (hzl:zr.length=n:=by (simp only [go_sem])<;>rfl) (hcl:zr.all clA=true:=by (simp only [go_sem])<;>rfl) (hby:byt P T=some bs:=by (simp only [go_sem])<;>rfl)
  (hb1:len*bs≤281474976710656:=by (try simp only [go_sem]);omega) (hb2:len≤4611686018427387904:=by (try simp only [go_sem]);omega):RS C ops (⟨dst,.makeSlice T x y,ty,pos,after,none⟩::r) e st K:=RS.mk hx hy hn hn0 hz hzl hcl hby hb1 hb2 k
theorem RS.l0 {len:Nat} (k:RS C ops r (putE e dst (.a (.own st.length 0))) (st++[.arr 0 n []]) K) (hl:len=0:=by rfl) (hn:es P T=some n:=by (simp only [go_sem])<;>rfl) (hn0:0<n:=by decide) (hz:zrT P T=some zr:=by (simp only [go_sem])<;>rfl) (hzl:zr.length=n:=by (simp only [go_sem])<;>rfl) (hby:byt P T=some bs:=by (simp only [go_sem])<;>rfl):RS C ops (⟨dst,.buildSlice T len ⟨[]⟩,ty,pos,after,none⟩::r) e st K:=RS.lit0 hl hn hn0 hz hzl hby k
theorem RS.li {len:Nat} {parts:List (Nat×Operand)} (k:RS C ops r (putE e dst (.a (.own st.length 0))) (st++[.arr 0 n rows]) K) (hn:es P T=some n:=by (simp only [go_sem])<;>rfl) (hn0:0<n:=by decide) (hlen:0<len:=by decide) (hz:zrT P T=some zr:=by (simp only [go_sem])<;>rfl) (hzl:zr.length=n:=by (simp only [go_sem])<;>rfl) (hcl:zr.all clA=true:=by (simp only [go_sem])<;>rfl) (hby:byt P T=some bs:=by (simp only [go_sem])<;>rfl) (hsm:len*n≤16777216:=by decide)
  (hp:qb7 n (List.replicate len zr) (parts.map fun p=>(p.1,evO e p.2))=some rows:=by (simp only [go_sem,simprocAttr,List.replicate_succ,List.replicate_zero,fx])<;>rfl):RS C ops (⟨dst,.buildSlice T len ⟨parts⟩,ty,pos,after,none⟩::r) e st K:=RS.lit hn hn0 hlen hz hzl hcl hby hsm hp k
theorem RS.sE {z off:Nat} {row xs:List A} (k:RS C ops r (putE e dst .undef) (st.set i (.arr ver n rows')) K) (hx:evO e x=.a (.ep i ver z off):=by (simp only [go_sem,simprocAttr,fx])<;>rfl) (ha:st[i]? = some (.arr ver n rows):=by (simp only [go_sem,simprocAttr,fx])<;>rfl) (hz:rows[z]? = some row:=by (simp only [go_sem,simprocAttr,fx])<;>rfl) (hy:qba (evO e y)=some xs:=by (simp only [go_sem,simprocAttr,fx])<;>rfl) (hc:xs.all clA=true:=by (simp only [go_sem,simprocAttr,fx])<;>rfl) (hT:szo P T=some xs.length:=by (simp only [go_sem,simprocAttr,fx])<;>rfl) (hle:off+xs.length≤row.length:=by simp only [go_sem,simprocAttr,fx])
  (hr:rows.set z (qah row off xs)=rows':=by (simp only [go_sem,simprocAttr,fx])<;>rfl):RS C ops (⟨dst,.store T x y,ty,pos,after,none⟩::r) e st K:=RS.stoE hx ha hz hy hc hT hle hr k
theorem RS.eN (h:∀b,(0<rows.length→b=false)→RS C ops r (upd (putE e dst (.a (.v (.bool b)))) 1000000 g) st K) (hx:evO e x=.a (.sl rows):=by (simp only [go_sem,simprocAttr,fx])<;>rfl) (hT:isSl P T=true:=by simp only [go_sem]) (hg:e 1000000=g:=by (simp only [go_sem,simprocAttr])<;>rfl):RS C ops (⟨dst,.binOp .eql T x (.const (.slice none 0 0)) T',ty,pos,after,none⟩::r) e st K:=RS.eqNil (q:=false) rfl hx hT hg h
theorem RS.cM (σ:List Nat) (hx:xs.map (evO e)=vs:=by (simp only [go_sem,simprocAttr,fx])<;>rfl) (hs:σ.map (fun i=>st.getD i .gone)=bs':=by (simp only [go_sem,simprocAttr,fx])<;>rfl) (hin:qbz σ bs' vs=true:=by (simp only [go_sem,simprocAttr,fx])<;>rfl) (hu:vs.map (unD σ)=ds:=by (simp only [go_sem,simprocAttr,fx])<;>rfl) (hv:bs'.map (unB σ)=st0:=by (simp only [go_sem,simprocAttr,fx])<;>rfl) (hg:e 1000000=g:=by (simp only [go_sem,simprocAttr])<;>rfl) (hp:DM P f ds st0 d st1) (hne:0<st1.length:=by exact Nat.zero_lt_succ _) (hd:rnD (rnX σ st.length (st1.length-σ.length)) d=d':=by (simp only [go_sem,simprocAttr,fx])<;>rfl)
  (hst:mrg σ st (st1.map (rnB (rnX σ st.length (st1.length-σ.length))))=st':=by (simp only [go_sem,simprocAttr,fx])<;>rfl) (h:RS C ops r (upd (putE e dst d') 1000000 g) st' K):RS C ops (⟨dst,.call ⟨.value (.func f),⟨xs⟩,tys⟩,ty,pos,after,none⟩::r) e st K:=RS.callM σ hx hs hin hu hv hg hp hne hd hst h
end
/-! ### How such a one ends -/
section
variable {P:Program} {n t:Nat} {O:D→List Bx→D→Prop} {e:Nat→D} {st:List Bx} {rs:List ResultVar} {d:D} {ds:List D}
theorem retM0 (h:O (.t []) st (e 1000000)):retM P n [] O .ret e st:=⟨.t [],⟨[],rfl,rfl⟩,h⟩
theorem retM0n (h:O (.t []) st (e 1000000)):retM P n [] O .normal e st:=⟨.t [],⟨[],rfl,rfl⟩,h⟩
theorem qar (h:O d st (e 1000000)) (he:e t=d:=by (simp only [go_sem,simprocAttr,fx])<;>rfl) (ht:decide (t<n)=true:=by rfl):retM P n [.tmp t] O .ret e st:=⟨d,by simp only [resM,qhx];rw [if_pos (of_decide_eq_true ht),he],h⟩
end
theorem qaa.goV {P:Program} {f:FuncId} {fn:Func} {c:Code} {n:Nat} {rs:List ResultVar} {ds:List D} {d:D} (hf:P.funcs[f]? = some fn) (hb:fn.body=some c) (hn:fn.ntmps=n) (hr:fn.results=⟨rs⟩) (hnm:(fn.name == "runtime.NumGoroutine")=false) (hl:(decide (ds.length≤n)&&decide (n≤1000000))=true)
  (h:∀C:Cx P,C.ro=none→C.V0.st=[]→WP C n c (retN P n rs d) (qaj 0 ds) []):qaa P f ds d:=by
 rw [Bool.and_eq_true,decide_eq_true_iff,decide_eq_true_iff] at hl
 refine⟨qbt hf hb hnm,fun w x vs hx hgd hvl hrr=>?_⟩
 have hsat:Sat (Cx.pure P w x) (Cx.pure P w x).V0 { tmps:=vs.toArray++Array.replicate (fn.ntmps-vs.toArray.size) Go.undef,defers:=[] } n (qaj 0 ds):=by
  refine⟨[],⟨rfl,by simp,fun D hD=>by simp at hD⟩,⟨by simp;omega,fun t _=>qcg (by omega) hvl hrr t,.out hx hgd,.refl _,.refl _ _,fun b hb=>by have hb:b∈([]:List Nat):=hb;simp at hb,fun b hb=>by have hb:b∈([]:List Nat):=hb;simp at hb,fun _ h=>h,fun h=>h.elim,fun _ h=>.inl h,fun _ h=>h.elim,fun _ h=>h.elim⟩,?_⟩
  rw [qem (by omega)];trivial
 refine qeg (C:=Cx.pure P w x) (RQ:=fun e st=>resL P n e st fn.results.toList d) hf hb rfl hsat ((h _ rfl rfl).mono fun ex e st hq=>?_) ?_
 ·have:fn.results.toList=rs:=by rw [hr]
  cases ex with
  | normal=>show resL P n e st fn.results.toList d;rw [this];exact hq
  | ret=>show resL P n e st fn.results.toList d;rw [this];exact hq
  | _=>exact hq
 ·intro tm V' e' hm _ hq
  obtain⟨v,h1,h2⟩:=qeo hm hq
  exact⟨v,h1,v,rfl,hm.fr.grw,h2.lessOut hm.x0⟩
theorem DG.introV {P:Program} {E:Env P} {f:FuncId} {fn:Func} {c:Code} {n:Nat} {rs:List ResultVar} {ds:List D} {st0:List Bx} {g:D} {O:D→List Bx→D→Prop} (hf:P.funcs[f]? = some fn) (hb:fn.body=some c) (hn:fn.ntmps=n) (hr:fn.results=⟨rs⟩) (hnm:(fn.name == "runtime.NumGoroutine")=false) (hl:(decide (ds.length≤n)&&decide (n≤1000000))=true)
  (h:∀(C:Cx P),C.ro=none→C.E=E→C.on→C.V0.st=st0→WP C n c (retM P n rs O) (upd (qaj 0 ds) 1000000 g) st0):DG E f ds st0 g O:=by
 rw [Bool.and_eq_true,decide_eq_true_iff,decide_eq_true_iff] at hl
 refine⟨qbt hf hb hnm,fun V Nx vs hst hok hsep hnx henv hvl hrr=>?_⟩
 subst hst
 have hsat:Sat (⟨V,fun b=>b∈V.bl∨(V.x b∧¬Nx b),True,none,E,Nx⟩:Cx P) V { tmps:=vs.toArray++Array.replicate (fn.ntmps-vs.toArray.size) Go.undef,defers:=[] } n (upd (qaj 0 ds) 1000000 g):=by
  refine⟨[],⟨rfl,by simp,fun D hD=>by simp at hD⟩,⟨by simp;omega,fun t ht=>?_,hok,.refl _,.refl _ _,fun b hb=>.inl (.inl hb),hsep,fun _ h=>h,fun _ b h h'=>.inl (.inr ⟨h,h'⟩),fun _ h=>.inl h,hnx,fun b hb=>(hnx b hb).1⟩,?_⟩
  ·have:upd (qaj 0 ds) 1000000 g t=qaj 0 ds t:=if_neg (by omega)
   rw [this]
   exact qcg (by omega) hvl hrr t
  ·have:upd (qaj 0 ds) 1000000 g 1000000=g:=if_pos rfl
   rw [this]
   exact henv.less fun b (hb:Nx b∨b∈([]:List Nat))=>hb.elim id fun h=>by simp at h
 refine qeg (C:=(⟨V,fun b=>b∈V.bl∨(V.x b∧¬Nx b),True,none,E,Nx⟩:Cx P)) (RQ:=fun e st=>∃d,resM P n e st rs d∧O d st (e 1000000)) hf hb rfl hsat ((h _ rfl rfl trivial rfl).mono fun ex e st hq=>?_) ?_
 ·cases ex with
  | normal=>exact hq
  | ret=>exact hq
  | _=>exact hq
 ·rintro tm V' e' hm henv' ⟨d,hres,hO⟩
  have hres':resM P n e' V'.st fn.results.toList d:=by rw [hr];exact hres
  obtain⟨v,h1,h2⟩:=qdv hm hres'
  refine⟨v,h1,v,rfl,d,V'.st,e' 1000000,V'.x,V'.bl,hO,⟨hm.le,hm.ok,⟨hm.fr.os,hm.fr.tape,hm.fr.output,hm.fr.size,fun b hb hn=>hm.fr.block b hb fun h=>hn (h.imp id fun h=>⟨trivial,h.1,h.2⟩)⟩,fun b hb=>?_,fun _=>hm.sep,hm.x0,hm.xg⟩,henv',h2⟩
  rcases hm.low b hb with (h|h)|h
  ·exact .inl h
  ·exact absurd (hm.x0 b h.1) (hm.sep b hb)
  ·exact .inr h
section
variable {P:Program} {C:Cx P} {ops:Array Oper} {r:List Oper} {st:List Bx} {e:Nat→D} {dst:Option Nat} {o:Oper} {K:(Nat→D)→List Bx→Prop}
theorem OpJ.pickB {st:List Bx} {c x y:Operand} {b:Bool} (ho:o.op=.pick c x y) (hc:evO e c=.a (.v (.bool b))):OpJ P st e o (bif b then evO e x else evO e y):=by
 intro ρ V _ _ hu
 rw [ho] at hu
 have h1:=hu c (by simp only [qad];split<;>simp)
 rw [hc] at h1
 obtain⟨h1,_⟩:=h1.v_inv
 simp only [execOp,ho,h1,asBool]
 cases b
 ·have h2:=hu y (by simp [qad,h1])
  exact .val h2
 ·have h2:=hu x (by simp [qad,h1])
  exact .val h2
theorem RS.pk {c x y:Operand} {b:Bool} {d:D} {ty:TypeId} {pos:String} {after:Array Edge} {guard:Option (Nat×Bool)} (h:RS C ops r (putE e dst d) st K) (hc:evO e c=.a (.v (.bool b)):=by (simp only [go_sem,simprocAttr,fx])<;>rfl) (hd:(bif b then evO e x else evO e y)=d:=by (simp only [go_sem,simprocAttr,fx])<;>rfl):RS C ops (⟨dst,.pick c x y,ty,pos,after,guard⟩::r) e st K:=by
 subst hd
 exact .inl ⟨_,st,.inr ⟨rfl,.of (.pickB rfl hc)⟩,h⟩
theorem RS.gF {j:Nat} {b x:Bool} (h:RS C ops r (putE e o.dst .junk) st K) (hg:o.guard=some (j,b):=by rfl) (hx:(qbr ops j).map e=some (.a (.v (.bool x))):=by (simp only [go_sem,simprocAttr,qbr,fx])<;>rfl) (hb:(x != b)=true:=by rfl):RS C ops (o::r) e st K:=by
 refine .inl ⟨.junk,st,.inr ⟨rfl,?_⟩,h⟩
 unfold qa8
 rw [hg]
 simp only [hx]
 intro h2
 subst h2
 simp at hb
@[go_sem] theorem lend0_own {i v:Nat}:lend0 st (.own i v)=(match st[i]? with|some (.arr ver' _ rows)=>if v=ver' then .sl rows else .own i v|_=>.own i v):=rfl
@[go_sem] theorem lendA_own {i v:Nat}:qlv st (.own i v)=lend0 st (.own i v):=rfl
@[go_sem] theorem ldOk_own {i v:Nat}:ldOk st (.own i v)=(match st[i]? with|some (.arr ver' _ _)=>v==ver'|_=>false):=rfl
@[go_sem] theorem un1_j {op:UnOp}:un1 op .junk=none:=rfl
@[go_sem] theorem pick3_j1 {c y:D}:qkq c .junk y=none:=by unfold qkq;split<;>simp_all
@[go_sem] theorem pick3_j2 {c x:D}:qkq c x .junk=none:=by unfold qkq;split<;>simp_all
@[go_sem] theorem bin2_j1 {b:Bool} {ls:Option (List Nat)} {op:BinOp} {y:D}:bin2 b ls op .junk y=none:=by unfold bin2;split<;>simp_all
@[go_sem] theorem ixD_j1 {n:Option Nat} {ar:Option (Nat×Nat)} {y:D}:ixD n ar .junk y=none:=by unfold ixD;split<;>simp_all
section
variable {P:Program} {st:List Bx} {e:Nat→D} {dst:Option Nat} {ty T T':TypeId} {pos:String} {after:Array Edge} {guard:Option (Nat×Bool)} {x y c i:Operand}
@[go_sem] theorem evG_pick:evG P st e ⟨dst,.pick c x y,ty,pos,after,guard⟩=none:=rfl
@[go_sem] theorem evG_un {op:UnOp}:evG P st e ⟨dst,.unOp op T x,ty,pos,after,guard⟩=none:=rfl
@[go_sem] theorem evG_load:evG P st e ⟨dst,.load T x,ty,pos,after,guard⟩=none:=rfl
@[go_sem] theorem evG_faddr {k:Nat}:evG P st e ⟨dst,.fieldAddr T x k,ty,pos,after,guard⟩=none:=rfl
@[go_sem] theorem evG_iaddr:evG P st e ⟨dst,.indexAddr T x i,ty,pos,after,guard⟩=none:=rfl
@[go_sem] theorem evG_extract {k:Nat}:evG P st e ⟨dst,.extract x k,ty,pos,after,guard⟩=none:=rfl
@[go_sem] theorem evG_nil:evG P st e ⟨dst,.nilCheck x,ty,pos,after,guard⟩=none:=rfl
end
end
section
variable {P:Program} {ops:Array Oper} {r:List Oper} {e:Nat→D} {st:List Bx} {dst:Option Nat} {ty T:TypeId} {pos:String} {after:Array Edge} {x ix:Operand} {ok wd:Bool} {j:Nat} {k:KS} {es2:List (Value×List A)} {kv:Value} {z:List A} {K:(Nat→D)→Prop} {d:D} {guard:Option (Nat×Bool)}
end
@[go_sem] theorem putRow_z {l:List A}:qah l 0 []=l:=by simp [qah]
@[go_sem] theorem putRow_c {a x:A} {l xs:List A}:qah (a::l) 0 (x::xs)=x::qah l 0 xs:=by simp [qah]
@[go_sem] theorem putRow_s {a:A} {l xs:List A} {n:Nat}:qah (a::l) (n+1) xs=a::qah l n xs:=by simp [qah,Nat.add_right_comm]
@[go_sem] theorem ldRow_w0 {a:A} {l:List A} {n:Nat}:qae (some (n+1)) (a::l) 0=if n≤l.length then some (.r (a::l.take n)) else none:=by
 simp only [qae,List.length_cons,List.drop_zero,List.take_succ_cons,Nat.zero_add]
 congr 1
 exact propext (by omega)
@[go_sem] theorem seeA_vv {st:List Bx} {z:Value}:seeA st (.v z)=.v z:=rfl
attribute [go_sem] List.take_succ_cons List.take_zero List.drop_succ_cons List.drop_zero List.drop_nil List.take_nil List.cons_append List.nil_append List.length_cons List.length_nil
section
variable {P:Program} {C:Cx P} {ops:Array Oper} {r:List Oper} {e:Nat→D} {st:List Bx} {dst:Option Nat} {ty T:TypeId} {pos:String} {after:Array Edge} {K:(Nat→D)→List Bx→Prop} {guard:Option (Nat×Bool)} {n bs:Nat} {zr:List A} {rows:List (List A)}
@[go_sem] theorem evQ_litG {len:Nat} {q:Array (Nat×Operand)}:evQ P st e ⟨dst,.buildSlice T len q,ty,pos,after,guard⟩=none:=rfl
@[go_sem] theorem evG_litG {len:Nat} {q:Array (Nat×Operand)}:evG P st e ⟨dst,.buildSlice T len q,ty,pos,after,guard⟩=none:=rfl
theorem RS.ls {len:Nat} {parts:List (Nat×Operand)} (k:RS C ops r (putE e dst (.a (.sl rows))) st K) (hn:es P T=some n:=by (simp only [go_sem])<;>rfl) (hn0:0<n:=by decide) (hlen:0<len:=by decide) (hz:zrT P T=some zr:=by (simp only [go_sem])<;>rfl) (hzl:zr.length=n:=by (simp only [go_sem])<;>rfl) (hcl:zr.all clA=true:=by (simp only [go_sem])<;>rfl) (hby:byt P T=some bs:=by (simp only [go_sem])<;>rfl) (hsm:len*n≤16777216:=by decide)
  (hp:qb7 n (List.replicate len zr) (parts.map fun p=>(p.1,evO e p.2))=some rows:=by (simp only [go_sem,simprocAttr,List.replicate_succ,List.replicate_zero,fx])<;>rfl):RS C ops (⟨dst,.buildSlice T len ⟨parts⟩,ty,pos,after,guard⟩::r) e st K:=RS.litS hn hn0 hlen hz hzl hcl hby hsm hp k
end
end Go.Proofs.YthkojpnjdpbcgaaGreatDoor
