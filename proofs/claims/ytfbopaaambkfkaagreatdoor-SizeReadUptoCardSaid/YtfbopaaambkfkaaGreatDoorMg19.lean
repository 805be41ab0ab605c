/- Maps of a function's own, on plain data. No program in sight. Conditions: none. -/
import Derived.Test.YtfbopaaambkfkaaGreatDoorMg5
import Derived.Test.YtfbopaaambkfkaaGreatDoorMg18
import Derived.Test.YtfbopaaambkfkaaGreatDoorMg7
set_option linter.unusedVariables false
set_option maxRecDepth 100000
set_option maxHeartbeats 8000000
set_option linter.unusedSimpArgs false
namespace Go.Proofs.YtfbopaaambkfkaaGreatDoor
open Go.RowKit
/-! ### Keys -/
/-! ### Entries -/
section
variable {P:Program} {w:World}
end
/-! ### Steps -/
section
variable {P:Program} {st:List Bx} {e:Nat→D} {o:Oper}
end
theorem run_lit0 {P:Program} {w:World} {t e:TypeId} {ie:TypeInfo} (hu:P.underlying t=some (.slice e)) (hie:P.info? e=some ie):(Instr.buildSlice t 0 #[]).run P w=.ok (.slice (some ⟨w.heap.size,0,none⟩) 0 0) (w.alloc (.cells #[] e)):=by
 simp [Instr.buildSlice,run_underlying hu,sizeOf,typeInfo,hie,newRow,Instr.fill]
 congr 2
 apply Array.eq_empty_of_size_eq_zero;simp
theorem qje {P:Program} {w:World} {T el:TypeId} {a:Option Addr} {l c:Nat} (hu:P.underlying T=some (.slice el)) (d:Nat):(Op.equalIn (d+1) T (.slice a l c) (.slice none 0 0)).run P w=.ok a.isNone w:=by
 simp only [Op.equalIn,Sem.run_bind,run_underlying hu,Result.andThen_ok]
 cases a<;>rfl
theorem run_eqNil {P:Program} {w:World} {T el:TypeId} {a:Option Addr} {l c:Nat} (hu:P.underlying T=some (.slice el)) (q:Bool):(binOp (bif q then .neq else .eql) T (.slice a l c) (.slice none 0 0)).run P w=.ok (.bool (a.isNone != q)) w:=by
 have h:(Op.equal T (.slice a l c) (.slice none 0 0)).run P w=.ok a.isNone w:=qje hu 9999
 cases q
 ·show (do pure (.bool (←Op.equal T (.slice a l c) (.slice none 0 0)):Value):Sem Value).run P w=_
  rw [Sem.run_bind,h,Result.andThen_ok,Sem.run_pure];cases a<;>rfl
 ·show (do pure (.bool (!(←Op.equal T (.slice a l c) (.slice none 0 0))):Value):Sem Value).run P w=_
  rw [Sem.run_bind,h,Result.andThen_ok,Sem.run_pure];cases a<;>rfl
theorem guard_nil {P:Program} {w:World} {T:TypeId} {a:Option Addr} {l c:Nat} (q:Bool) (x y:Operand):(eqGuard (bif q then .neq else .eql) T x y (.slice a l c) (.slice none 0 0)).run P w=.ok () w:=by cases q<;>rfl
section
variable {P:Program} {C:Cx P} {ops:Array Oper} {r:List Oper} {st:List Bx} {e:Nat→D} {o:Oper} {dst:Option Nat} {ty:TypeId} {pos:String} {after:Array Edge} {K:(Nat→D)→List Bx→Prop} {T T':TypeId} {n bs:Nat} {zr:List A}
theorem OpG.lit0 (ho:o.op=.buildSlice T 0 ⟨[]⟩) (hn:es P T=some n) (hn0:0<n) (hz:zrT P T=some zr) (hzl:zr.length=n) (hby:byt P T=some bs):OpG P st e o (.a (.own st.length 0)) (st++[.arr 0 n []]):=by
 intro ρ V hst hok hu
 subst hst
 obtain⟨el,inf,z,hel,hinfo,hzz,hsz,hzc,hbs,hzr⟩:=slT hn hz hzl hby
 have hexec:(execOp ρ o).run P V.w=((Instr.buildSlice T 0 #[]).run P V.w).andThen fun v w=>.ok (.value v) w:=by
  simp only [execOp,ho,Sem.run_bind,Sem.run_pure]
  congr 3
  apply Array.eq_empty_of_size_eq_zero;simp
 rw [hexec,run_lit0 hel hinfo,Result.andThen_ok]
 have hnewc:(V.w.alloc (.cells #[] el)).heap[V.w.heap.size]? = some (.cells #[] el (0,0)):=qb3 _ _ _ rfl
 have hown:=qga (V:=V) hok.len #[] el n 0 [] hnewc (by simp) (Nat.le_refl 0)
 exact .val (Step.pushA hok #[] el n 0 [] ((Grw.refl V.w).alloc _) hnewc (by simp) hn0 (Nat.le_refl 0) (fun k row hk=>by simp at hk) (fun k row j y hk=>by simp at hk)) (.a _ _ hown)
theorem RS.lit0 {len:Nat} (hl:len=0) (hn:es P T=some n) (hn0:0<n) (hz:zrT P T=some zr) (hzl:zr.length=n) (hby:byt P T=some bs) (k:RS C ops r (putE e dst (.a (.own st.length 0))) (st++[.arr 0 n []]) K):RS C ops (⟨dst,.buildSlice T len ⟨[]⟩,ty,pos,after,none⟩::r) e st K:=by
 subst hl
 exact .inl ⟨_,_,.inl ⟨rfl,OpG.lit0 rfl hn hn0 hz hzl hby⟩,k⟩
theorem sl_inv {V:Vw} {rows:List (List A)} {u:Value} (h:RepD V (.a (.sl rows)) u):∃a l c,u=.slice a l c∧(0<rows.length→a.isNone=false):=by
 cases h with
 | a _ _ h=>cases h with
  | c _ _ h=>cases h with
   | sl0 a c=>exact⟨a,0,c,rfl,fun h=>by simp at h⟩
   | sl rows n b o c val _ _ _ _ _ _=>exact⟨_,_,_,rfl,fun _=>rfl⟩
theorem nl_inv {V:Vw} {u:Value} (h:RepD V (.a .nl) u):u=.slice none 0 0:=by
 cases h with
 | a _ _ h=>cases h with
  | c _ _ h=>cases h;rfl
theorem RS.eqNil {rows:List (List A)} {q:Bool} {op:BinOp} {x:Operand} {g:D} (hq:op=bif q then .neq else .eql) (hx:evO e x=.a (.sl rows)) (hT:isSl P T=true) (hg:e 1000000=g) (h:∀b,(0<rows.length→b=q)→RS C ops r (upd (putE e dst (.a (.v (.bool b)))) 1000000 g) st K) :
  RS C ops (⟨dst,.binOp op T x (.const (.slice none 0 0)) T',ty,pos,after,none⟩::r) e st K:=by
 refine .inr ⟨trivial,fun d st' g'=>st'=st∧g'=g∧∃b,(0<rows.length→b=q)∧d=.a (.v (.bool b)),?_,?_⟩
 ·intro ρ V Nx hst hok hsep hnx henv hu
  subst hst
  rw [hg] at henv
  have h1:=hu x (by simp [qaq,Op.operands])
  rw [hx] at h1
  have h2:=hu (.const (.slice none 0 0)) (by simp [qaq,Op.operands])
  have h2:ρ (.const (.slice none 0 0))=.slice none 0 0:=nl_inv h2
  obtain⟨a,l,c,ha,hne⟩:=sl_inv h1
  obtain⟨el,hel⟩:∃el,P.underlying T=some (.slice el):=by
   unfold isSl at hT
   split at hT
   ·exact⟨_,by assumption⟩
   ·cases hT
  have hrun:(execOp ρ ⟨dst,.binOp op T x (.const (.slice none 0 0)) T',ty,pos,after,none⟩).run P V.w=.ok (.value (.bool (a.isNone != q))) V.w:=by
   simp only [execOp,ha,h2,hq,Sem.run_bind,guard_nil,run_eqNil hel,Result.andThen_ok,Sem.run_pure]
  rw [hrun]
  exact⟨_,V.st,g,V.x,V.bl,⟨rfl,rfl,_,fun h=>by rw [hne h];cases q<;>rfl,rfl⟩,.refl hok,henv,.v rfl⟩
 ·rintro d st' g' ⟨rfl,rfl,b,hb,rfl⟩
  exact h b hb
/-! ### Maps -/
variable {m kx x i:Operand} {j:Nat} {k:KS} {wd:Bool} {es2:List (Value×List A)} {kv:Value} {z row:List A} {ok:Bool}
@[go_sem] theorem evG_bin {op:BinOp} {guard:Option (Nat×Bool)} {x y:Operand}:evG P st e ⟨dst,.binOp op T x y T',ty,pos,after,guard⟩=none:=rfl
@[go_sem] theorem bin2_nl {b:Bool} {ls:Option (List Nat)} {op:BinOp} {rows:List (List A)}:bin2 b ls op (.a (.sl rows)) (.a .nl)=none:=rfl
end
/-! ### What the reckoning turns to -/
theorem un_cl {σ:List Nat} {row:List A} (h:row.all clA=true):row.map (unA σ)=row:=by
 rw [List.all_eq_true] at h
 conv=>rhs;rw [←List.map_id row]
 refine List.map_congr_left fun y hy=>?_
 have:=h y hy
 cases y<;>first|rfl|(cases this;done)|skip
 rename_i f l;cases l with
 | nil=>rfl
 | cons=>cases this
theorem rn_cl {σ:List Nat} {row:List A} (h:row.all clA=true):row.map (rnA σ)=row:=by
 rw [List.all_eq_true] at h
 conv=>rhs;rw [←List.map_id row]
 refine List.map_congr_left fun y hy=>?_
 have:=h y hy
 cases y<;>first|rfl|(cases this;done)|skip
 rename_i f l;cases l with
 | nil=>rfl
 | cons=>cases this
theorem in_cl {σ:List Nat} {row:List A} (h:row.all clA=true):row.all (inA σ)=true:=by
 rw [List.all_eq_true] at h ⊢
 intro y hy
 have:=h y hy
 cases y<;>first|rfl|(cases this;done)|skip
 rename_i f l;cases l with
 | nil=>rfl
 | cons=>cases this
theorem nr_clr {m:Nat} {row:List A} (h:row.all clA=true):row.all (nrA m)=true:=qim h
attribute [go_sem] un_cl rn_cl in_cl nr_clr
section
variable {σ:List Nat} {i k n m o:Nat} {x:A} {l r:List A} {d:D} {ds:List D} {b:Bx} {bs:List Bx} {st:List Bx} {es:List (Value×List A)} {wd:Bool} {q:KS}
@[go_sem] theorem unA_v {z:Value}:unA σ (.v z)=.v z:=rfl
@[go_sem] theorem unA_sl {z:List (List A)}:unA σ (.sl z)=.sl z:=rfl
@[go_sem] theorem unA_ptr:unA σ (.ptr i o)=.ptr (σ.idxOf i) o:=rfl
@[go_sem] theorem inA_v {z:Value}:inA σ (.v z)=true:=rfl
@[go_sem] theorem inA_sl {z:List (List A)}:inA σ (.sl z)=true:=rfl
@[go_sem] theorem inA_ptr:inA σ (.ptr i o)=σ.contains i:=rfl
@[go_sem] theorem unD_a:unD σ (.a x)=.a (unA σ x):=rfl
@[go_sem] theorem inD_a:inD σ (.a x)=inA σ x:=rfl
@[go_sem] theorem unB_cell:unB σ (.cell l)=.cell (l.map (unA σ)):=rfl
@[go_sem] theorem inB_cell:inB σ (.cell l)=l.all (inA σ):=rfl
@[go_sem] theorem lendOk_e {vs:List D}:qd8 σ bs vs=(decide σ.Nodup&&bs.all (inB σ)&&vs.all (inD σ)):=rfl
@[go_sem] theorem rnA_v {z:Value}:rnA σ (.v z)=.v z:=rfl
@[go_sem] theorem rnD_a:rnD σ (.a x)=.a (rnA σ x):=rfl
@[go_sem] theorem rnD_t:rnD σ (.t ds)=.t (rnD.rnDs σ ds):=rfl
@[go_sem] theorem rnDs_n:rnD.rnDs σ []=[]:=rfl
@[go_sem] theorem rnB_cell:rnB σ (.cell l)=.cell (l.map (rnA σ)):=rfl
@[go_sem] theorem mrg_n {α:Type} {l m:List α}:mrg [] l m=l++m:=rfl
@[go_sem] theorem mrg_c {α:Type} {l m:List α} {x:α}:mrg (i::σ) l (x::m)=mrg σ (l.set i x) m:=rfl
@[go_sem] theorem rnX_0:rnX σ k 0=σ:=by simp [rnX]
@[go_sem] theorem nrM_a:nrM m (.a x)=nrA m x:=rfl
@[go_sem] theorem nrM_t:nrM m (.t ds)=nrM.nrMs m ds:=rfl
@[go_sem] theorem nrMs_n:nrM.nrMs m []=true:=rfl
@[go_sem] theorem nrA_fn0 {f:FuncId}:nrA m (.fn f [])=true:=rfl
@[go_sem] theorem seeD1_own {v:Nat}:qd3 st (.a (.own i v))=.a (match st[i]? with|some (.arr ver' _ rows)=>if v=ver' then .sl rows else .own i v|_=>.own i v):=rfl
@[go_sem] theorem nrA_nl:nrA m .nl=true:=rfl
end
theorem qh4 {α:Type} {f:α→List A} {n:Nat} (h:∀x,(f x).length=n) (l:List α):qc1 n (l.map f)=true:=by simp [qc1,h]
@[go_sem] theorem allLen_str {l:List (List UInt8)}:qc1 1 (l.map qaj)=true:=qh4 (f:=qaj) (fun _=>rfl) l
@[go_sem] theorem allLen_ow {l:List (Int×Int)}:qc1 2 (l.map owAt)=true:=qh4 (f:=owAt) (fun _=>rfl) l
attribute [go_sem] List.getD_cons_zero List.getD_cons_succ List.length_append List.length_singleton List.length_replicate List.append_nil
/-! ### Short rules -/
section
variable {P:Program} {C:Cx P} {ops:Array Oper} {r:List Oper} {st st':List Bx} {e:Nat→D} {dst:Option Nat} {ty:TypeId} {pos:String} {after:Array Edge} {K:(Nat→D)→List Bx→Prop} {T T':TypeId} {n bs i ver:Nat} {zr:List A} {rows rows2 rows':List (List A)} {s x y:Operand} {f:FuncId} {xs:List Operand} {tys:Array TypeId} {d d' g:D} {ds vs:List D} {st0 st1 bs':List Bx} {m kx ix:Operand} {j:Nat} {k:KS} {wd:Bool} {es2 es3:List (Value×List A)} {kv:Value} {z row:List A} {ok:Bool}
theorem RS.aO (k:RS C ops r (putE e dst (.a (.own i (ver+1)))) (st.set i (.arr (ver+1) n rows')) K) (hs:evO e s=.a (.own i ver):=by (simp only [go_sem,simprocAttr,fx])<;>rfl) (ha:st[i]? = some (.arr ver n rows):=by (simp only [go_sem,simprocAttr,fx])<;>rfl) (hx:qf2 st (evO e x)=some rows2:=by (simp only [go_sem,simprocAttr,fx])<;>rfl) (hn:es P T=some n:=by (simp only [go_sem])<;>rfl) (hz:zrT P T=some zr:=by (simp only [go_sem])<;>rfl) (hzl:zr.length=n:=by (simp only [go_sem])<;>rfl) (hby:byt P T=some bs:=by (simp only [go_sem])<;>rfl) (hl2:qc1 n rows2=true:=by (simp only [go_sem,simprocAttr,fx])<;>rfl)
  (hb1:(rows.length+rows2.length)*bs≤140737488355328:=by (try simp only [go_sem]);omega) (hb2:rows.length+rows2.length≤4611686018427387904:=by (try simp only [go_sem]);omega) (hr:rows++rows2=rows':=by (try simp only [go_sem,simprocAttr,fx])<;>rfl):RS C ops (⟨dst,.call ⟨.builtin .append,⟨[s,x]⟩,⟨[T,T]⟩⟩,ty,pos,after,none⟩::r) e st K:=RS.appO hs ha hx hn hz hzl hby hl2 hb1 hb2 hr k
theorem RS.mS {len:Nat} {kl kc:IntKind} (k:RS C ops r (putE e dst (.a (.own st.length 0))) (st++[.arr 0 n (List.replicate len zr)]) K) (hx:evO e x=.a (.v (.int kl (len:Nat))):=by (simp only [go_sem,simprocAttr,fx])<;>rfl) (hy:evO e y=.a (.v (.int kc (len:Nat))):=by (simp only [go_sem,simprocAttr,fx])<;>rfl) (hn:es P T=some n:=by (simp only [go_sem])<;>rfl) (hn0:0<n:=by decide) (hz:zrT P T=some zr:=by (simp only [go_sem])<;>rfl) (hzl:zr.length=n:=by (simp only [go_sem])<;>rfl) (hcl:zr.all clA=true:=by (simp only [go_sem])<;>rfl) (hby:byt P T=some bs:=by (simp only [go_sem])<;>rfl)
  (hb1:len*bs≤281474976710656:=by (try simp only [go_sem]);omega) (hb2:len≤4611686018427387904:=by (try simp only [go_sem]);omega):RS C ops (⟨dst,.makeSlice T x y,ty,pos,after,none⟩::r) e st K:=RS.mk hx hy hn hn0 hz hzl hcl hby hb1 hb2 k
theorem RS.l0 {len:Nat} (k:RS C ops r (putE e dst (.a (.own st.length 0))) (st++[.arr 0 n []]) K) (hl:len=0:=by rfl) (hn:es P T=some n:=by (simp only [go_sem])<;>rfl) (hn0:0<n:=by decide) (hz:zrT P T=some zr:=by (simp only [go_sem])<;>rfl) (hzl:zr.length=n:=by (simp only [go_sem])<;>rfl) (hby:byt P T=some bs:=by (simp only [go_sem])<;>rfl):RS C ops (⟨dst,.buildSlice T len ⟨[]⟩,ty,pos,after,none⟩::r) e st K:=RS.lit0 hl hn hn0 hz hzl hby k
theorem RS.sE {z off:Nat} {row xs:List A} (k:RS C ops r (putE e dst .undef) (st.set i (.arr ver n rows')) K) (hx:evO e x=.a (.ep i ver z off):=by (simp only [go_sem,simprocAttr,fx])<;>rfl) (ha:st[i]? = some (.arr ver n rows):=by (simp only [go_sem,simprocAttr,fx])<;>rfl) (hz:rows[z]? = some row:=by (simp only [go_sem,simprocAttr,fx])<;>rfl) (hy:qbn (evO e y)=some xs:=by (simp only [go_sem,simprocAttr,fx])<;>rfl) (hc:xs.all clA=true:=by (simp only [go_sem,simprocAttr,fx])<;>rfl) (hT:szo P T=some xs.length:=by (simp only [go_sem,simprocAttr,fx])<;>rfl) (hle:off+xs.length≤row.length:=by simp only [go_sem,simprocAttr,fx])
  (hr:rows.set z (qak row off xs)=rows':=by (simp only [go_sem,simprocAttr,fx])<;>rfl):RS C ops (⟨dst,.store T x y,ty,pos,after,none⟩::r) e st K:=RS.stoE hx ha hz hy hc hT hle hr k
theorem RS.eN (h:∀b,(0<rows.length→b=false)→RS C ops r (upd (putE e dst (.a (.v (.bool b)))) 1000000 g) st K) (hx:evO e x=.a (.sl rows):=by (simp only [go_sem,simprocAttr,fx])<;>rfl) (hT:isSl P T=true:=by simp only [go_sem]) (hg:e 1000000=g:=by (simp only [go_sem,simprocAttr])<;>rfl):RS C ops (⟨dst,.binOp .eql T x (.const (.slice none 0 0)) T',ty,pos,after,none⟩::r) e st K:=RS.eqNil (q:=false) rfl hx hT hg h
theorem RS.cM (σ:List Nat) (hx:xs.map (evO e)=vs:=by (simp only [go_sem,simprocAttr,fx])<;>rfl) (hs:σ.map (fun i=>st.getD i .gone)=bs':=by (simp only [go_sem,simprocAttr,fx])<;>rfl) (hin:qd8 σ bs' vs=true:=by (simp only [go_sem,simprocAttr,fx])<;>rfl) (hu:vs.map (unD σ)=ds:=by (simp only [go_sem,simprocAttr,fx])<;>rfl) (hv:bs'.map (unB σ)=st0:=by (simp only [go_sem,simprocAttr,fx])<;>rfl) (hg:e 1000000=g:=by (simp only [go_sem,simprocAttr])<;>rfl) (hp:DM P f ds st0 d st1) (hne:0<st1.length:=by exact Nat.zero_lt_succ _) (hd:rnD (rnX σ st.length (st1.length-σ.length)) d=d':=by (simp only [go_sem,simprocAttr,fx])<;>rfl)
  (hst:mrg σ st (st1.map (rnB (rnX σ st.length (st1.length-σ.length))))=st':=by (simp only [go_sem,simprocAttr,fx])<;>rfl) (h:RS C ops r (upd (putE e dst d') 1000000 g) st' K):RS C ops (⟨dst,.call ⟨.value (.func f),⟨xs⟩,tys⟩,ty,pos,after,none⟩::r) e st K:=RS.callM σ hx hs hin hu hv hg hp hne hd hst h
end
/-! ### How such a one ends -/
section
variable {P:Program} {n t:Nat} {O:D→List Bx→D→Prop} {e:Nat→D} {st:List Bx} {rs:List ResultVar} {d:D} {ds:List D}
theorem qln (h:O (.t []) st (e 1000000)):retM P n [] O .normal e st:=⟨.t [],⟨[],rfl,rfl⟩,h⟩
theorem retM1 (h:O d st (e 1000000)) (he:e t=d:=by (simp only [go_sem,simprocAttr,fx])<;>rfl) (ht:decide (t<n)=true:=by rfl):retM P n [.tmp t] O .ret e st:=⟨d,by simp only [resM,qie];rw [if_pos (of_decide_eq_true ht),he],h⟩
end
end Go.Proofs.YtfbopaaambkfkaaGreatDoor
