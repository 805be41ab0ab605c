/- Maps of a function's own, on plain data. No program in sight. Conditions: none. -/
import Derived.Test.YtibdalkdgjghoaaGreatDoorMg4
import Derived.Test.YtibdalkdgjghoaaGreatDoorMg8
import Derived.Test.YtibdalkdgjghoaaGreatDoorMg9
set_option linter.unusedVariables false
set_option maxRecDepth 100000
set_option maxHeartbeats 8000000
set_option linter.unusedSimpArgs false
namespace Go.Proofs.YtibdalkdgjghoaaGreatDoor
open Go.RowKit
/-! ### Keys -/
def kEq:Value→Value→Bool
 | .string a,.string b=>a.toList==b.toList
 | .int _ a,.int _ b=>a==b
 | _,_=>false
/-! ### Entries -/
def mhas (es:List (Value×List A)) (kv:Value):Bool:=es.any fun p=>kEq kv p.1
def mval (es:List (Value×List A)) (kv:Value) (z:List A):List A:=((es.find? fun p=>kEq kv p.1).map (·.2)).getD z
section
variable {P:Program} {w:World}
end
def elD:Bool→List A→D
 | true,row=>.r row
 | false,[x]=>.a x
 | false,_=>.junk
def elA (wd:Bool):D→Option (List A)
 | .a .nl=>if wd=false then some [.sl []] else none
 | .a x=>if wd=false then some [x] else none
 | .r row=>if wd=true then some row else none
 | _=>none
/-! ### Steps -/
section
variable {P:Program} {st:List Bx} {e:Nat→D} {o:Oper}
def lkD (ok wd:Bool) (es:List (Value×List A)) (kv:Value) (z:List A):D :=
 if ok then .t [elD wd (mval es kv z),.a (.v (.bool (mhas es kv)))] else elD wd (mval es kv z)
end
theorem run_lit0 {P:Program} {w:World} {t e:TypeId} {ie:TypeInfo} (hu:P.underlying t=some (.slice e)) (hie:P.info? e=some ie):(Instr.buildSlice t 0 #[]).run P w=.ok (.slice (some ⟨w.heap.size,0,none⟩) 0 0) (w.alloc (.cells #[] e)):=by
 simp [Instr.buildSlice,run_underlying hu,sizeOf,typeInfo,hie,newRow,Instr.fill]
 congr 2
 apply Array.eq_empty_of_size_eq_zero;simp
section
variable {P:Program} {C:Cx P} {ops:Array Oper} {r:List Oper} {st:List Bx} {e:Nat→D} {o:Oper} {dst:Option Nat} {ty:TypeId} {pos:String} {after:Array Edge} {K:(Nat→D)→List Bx→Prop} {T T':TypeId} {n bs:Nat} {zr:List A}
theorem OpG.lit0 (ho:o.op=.buildSlice T 0 ⟨[]⟩) (hn:es P T=some n) (hn0:0<n) (hz:zrT P T=some zr) (hzl:zr.length=n) (hby:byt P T=some bs):OpG P st e o (.a (.own st.length 0)) (st++[.arr 0 n []]):=by
 intro ρ V hst hok hu
 subst hst
 obtain⟨el,inf,z,hel,hinfo,hzz,hsz,hzc,hbs,hzr⟩:=slT hn hz hzl hby
 have hexec:(execOp ρ o).run P V.w=((Instr.buildSlice T 0 #[]).run P V.w).andThen fun v w=>.ok (.value v) w:=by
  simp only [execOp,ho,Sem.run_bind,Sem.run_pure]
  congr 3
  apply Array.eq_empty_of_size_eq_zero;simp
 rw [hexec,run_lit0 hel hinfo,Result.andThen_ok]
 have hnewc:(V.w.alloc (.cells #[] el)).heap[V.w.heap.size]? = some (.cells #[] el (0,0)):=block_alloc _ _ _ rfl
 have hown:=own_push (V:=V) hok.len #[] el n 0 [] hnewc (by simp) (Nat.le_refl 0)
 exact .val (Step.pushA hok #[] el n 0 [] ((Grw.refl V.w).alloc _) hnewc (by simp) hn0 (Nat.le_refl 0) (fun k row hk=>by simp at hk) (fun k row j y hk=>by simp at hk)) (.a _ _ hown)
/-! ### Maps -/
variable {m kx x i:Operand} {j:Nat} {k:KS} {wd:Bool} {es2:List (Value×List A)} {kv:Value} {z row:List A} {ok:Bool}
@[go_sem] theorem evQ_mapEntry {guard:Option (Nat×Bool)}:evQ P st e ⟨dst,.mapEntry T m kx,ty,pos,after,guard⟩=none:=rfl
@[go_sem] theorem evG_mapEntry {guard:Option (Nat×Bool)}:evG P st e ⟨dst,.mapEntry T m kx,ty,pos,after,guard⟩=none:=rfl
@[go_sem] theorem evQ_entryStore {guard:Option (Nat×Bool)}:evQ P st e ⟨dst,.entryStore T m kx x,ty,pos,after,guard⟩=none:=rfl
@[go_sem] theorem evG_entryStore {guard:Option (Nat×Bool)}:evG P st e ⟨dst,.entryStore T m kx x,ty,pos,after,guard⟩=none:=rfl
@[go_sem] theorem evQ_mapUpdate {guard:Option (Nat×Bool)}:evQ P st e ⟨dst,.mapUpdate T m kx x,ty,pos,after,guard⟩=none:=rfl
@[go_sem] theorem evG_mapUpdate {guard:Option (Nat×Bool)}:evG P st e ⟨dst,.mapUpdate T m kx x,ty,pos,after,guard⟩=none:=rfl
@[go_sem] theorem evQ_lookup {guard:Option (Nat×Bool)}:evQ P st e ⟨dst,.lookup T m kx ok,ty,pos,after,guard⟩=none:=rfl
@[go_sem] theorem evG_lookup {guard:Option (Nat×Bool)}:evG P st e ⟨dst,.lookup T m kx ok,ty,pos,after,guard⟩=none:=rfl
@[go_sem] theorem evQ_makeMap {guard:Option (Nat×Bool)} {h:Option Operand}:evQ P st e ⟨dst,.makeMap T h,ty,pos,after,guard⟩=none:=rfl
@[go_sem] theorem evG_makeMap {guard:Option (Nat×Bool)} {h:Option Operand}:evG P st e ⟨dst,.makeMap T h,ty,pos,after,guard⟩=none:=rfl
@[go_sem] theorem evG_bin {op:BinOp} {guard:Option (Nat×Bool)} {x y:Operand}:evG P st e ⟨dst,.binOp op T x y T',ty,pos,after,guard⟩=none:=rfl
@[go_sem] theorem bin2_nl {b:Bool} {ls:Option (List Nat)} {op:BinOp} {rows:List (List A)}:bin2 b ls op (.a (.sl rows)) (.a .nl)=none:=rfl
end
/-! ### What the reckoning turns to -/
theorem un_cl {σ:List Nat} {row:List A} (h:row.all clA=true):row.map (unA σ)=row:=by
 rw [List.all_eq_true] at h
 conv=>rhs;rw [←List.map_id row]
 refine List.map_congr_left fun y hy=>?_
 have:=h y hy
 cases y<;>first|rfl|(cases this;done)|skip
 rename_i f l;cases l with
 | nil=>rfl
 | cons=>cases this
theorem rn_cl {σ:List Nat} {row:List A} (h:row.all clA=true):row.map (rnA σ)=row:=by
 rw [List.all_eq_true] at h
 conv=>rhs;rw [←List.map_id row]
 refine List.map_congr_left fun y hy=>?_
 have:=h y hy
 cases y<;>first|rfl|(cases this;done)|skip
 rename_i f l;cases l with
 | nil=>rfl
 | cons=>cases this
theorem in_cl {σ:List Nat} {row:List A} (h:row.all clA=true):row.all (inA σ)=true:=by
 rw [List.all_eq_true] at h ⊢
 intro y hy
 have:=h y hy
 cases y<;>first|rfl|(cases this;done)|skip
 rename_i f l;cases l with
 | nil=>rfl
 | cons=>cases this
theorem nr_clr {m:Nat} {row:List A} (h:row.all clA=true):row.all (nrA m)=true:=nr_of_cl h
attribute [go_sem] un_cl rn_cl in_cl nr_clr
section
variable {σ:List Nat} {i k n m o:Nat} {x:A} {l r:List A} {d:D} {ds:List D} {b:Bx} {bs:List Bx} {st:List Bx} {es:List (Value×List A)} {wd:Bool} {q:KS}
@[go_sem] theorem unA_v {z:Value}:unA σ (.v z)=.v z:=rfl
@[go_sem] theorem unA_nl:unA σ .nl=.nl:=rfl
@[go_sem] theorem unA_sl {z:List (List A)}:unA σ (.sl z)=.sl z:=rfl
@[go_sem] theorem unA_ref {z:List A}:unA σ (.ref z o)=.ref z o:=rfl
@[go_sem] theorem unA_ptr:unA σ (.ptr i o)=.ptr (σ.idxOf i) o:=rfl
@[go_sem] theorem unA_own:unA σ (.own i o)=.own (σ.idxOf i) o:=rfl
@[go_sem] theorem unA_ep {z:Nat}:unA σ (.ep i z o m)=.ep (σ.idxOf i) z o m:=rfl
@[go_sem] theorem unA_mp:unA σ (.mp i)=.mp (σ.idxOf i):=rfl
@[go_sem] theorem unA_fn {f:FuncId}:unA σ (.fn f l)=.fn f (unA.unL σ l):=rfl
@[go_sem] theorem unL_n:unA.unL σ []=[]:=rfl
@[go_sem] theorem unL_c:unA.unL σ (x::l)=unA σ x::unA.unL σ l:=rfl
@[go_sem] theorem inA_v {z:Value}:inA σ (.v z)=true:=rfl
@[go_sem] theorem inA_nl:inA σ .nl=true:=rfl
@[go_sem] theorem inA_sl {z:List (List A)}:inA σ (.sl z)=true:=rfl
@[go_sem] theorem inA_ref {z:List A}:inA σ (.ref z o)=true:=rfl
@[go_sem] theorem inA_ptr:inA σ (.ptr i o)=σ.contains i:=rfl
@[go_sem] theorem inA_own:inA σ (.own i o)=σ.contains i:=rfl
@[go_sem] theorem inA_ep {z:Nat}:inA σ (.ep i z o m)=σ.contains i:=rfl
@[go_sem] theorem inA_mp:inA σ (.mp i)=σ.contains i:=rfl
@[go_sem] theorem inA_fn {f:FuncId}:inA σ (.fn f l)=inA.inL σ l:=rfl
@[go_sem] theorem inL_n:inA.inL σ []=true:=rfl
@[go_sem] theorem inL_c:inA.inL σ (x::l)=(inA σ x&&inA.inL σ l):=rfl
@[go_sem] theorem unD_a:unD σ (.a x)=.a (unA σ x):=rfl
@[go_sem] theorem unD_r:unD σ (.r l)=.r (l.map (unA σ)):=rfl
@[go_sem] theorem inD_a:inD σ (.a x)=inA σ x:=rfl
@[go_sem] theorem inD_r:inD σ (.r l)=l.all (inA σ):=rfl
@[go_sem] theorem unB_cell:unB σ (.cell l)=.cell (l.map (unA σ)):=rfl
@[go_sem] theorem unB_arr {v:Nat} {z:List (List A)}:unB σ (.arr v n z)=.arr v n z:=rfl
@[go_sem] theorem inB_cell:inB σ (.cell l)=l.all (inA σ):=rfl
@[go_sem] theorem inB_arr {v:Nat} {z:List (List A)}:inB σ (.arr v n z)=true:=rfl
@[go_sem] theorem lendOk_e {vs:List D}:lendOk σ bs vs=(decide σ.Nodup&&bs.all (inB σ)&&vs.all (inD σ)):=rfl
@[go_sem] theorem rnA_v {z:Value}:rnA σ (.v z)=.v z:=rfl
@[go_sem] theorem rnA_nl:rnA σ .nl=.nl:=rfl
@[go_sem] theorem rnA_sl {z:List (List A)}:rnA σ (.sl z)=.sl z:=rfl
@[go_sem] theorem rnA_ref {z:List A}:rnA σ (.ref z o)=.ref z o:=rfl
@[go_sem] theorem rnA_ptr:rnA σ (.ptr i o)=.ptr (σ.getD i 0) o:=rfl
@[go_sem] theorem rnA_own:rnA σ (.own i o)=.own (σ.getD i 0) o:=rfl
@[go_sem] theorem rnA_ep {z:Nat}:rnA σ (.ep i z o m)=.ep (σ.getD i 0) z o m:=rfl
@[go_sem] theorem rnA_mp:rnA σ (.mp i)=.mp (σ.getD i 0):=rfl
@[go_sem] theorem rnA_fn {f:FuncId}:rnA σ (.fn f l)=.fn f (rnA.rnL σ l):=rfl
@[go_sem] theorem rnL_n:rnA.rnL σ []=[]:=rfl
@[go_sem] theorem rnL_c:rnA.rnL σ (x::l)=rnA σ x::rnA.rnL σ l:=rfl
@[go_sem] theorem rnD_a:rnD σ (.a x)=.a (rnA σ x):=rfl
@[go_sem] theorem rnD_r:rnD σ (.r l)=.r (l.map (rnA σ)):=rfl
@[go_sem] theorem rnD_t:rnD σ (.t ds)=.t (rnD.rnDs σ ds):=rfl
@[go_sem] theorem rnDs_n:rnD.rnDs σ []=[]:=rfl
@[go_sem] theorem rnDs_c:rnD.rnDs σ (d::ds)=rnD σ d::rnD.rnDs σ ds:=rfl
@[go_sem] theorem rnB_cell:rnB σ (.cell l)=.cell (l.map (rnA σ)):=rfl
@[go_sem] theorem rnB_arr {v:Nat} {z:List (List A)}:rnB σ (.arr v n z)=.arr v n z:=rfl
@[go_sem] theorem rnB_gone:rnB σ .gone=.gone:=rfl
@[go_sem] theorem mrg_n {α:Type} {l m:List α}:mrg [] l m=l++m:=rfl
@[go_sem] theorem mrg_c {α:Type} {l m:List α} {x:α}:mrg (i::σ) l (x::m)=mrg σ (l.set i x) m:=rfl
@[go_sem] theorem rnX_0:rnX σ k 0=σ:=by simp [rnX]
@[go_sem] theorem rnX_1:rnX σ k 1=σ++[k]:=rfl
@[go_sem] theorem rnX_2:rnX σ k 2=σ++[k,k+1]:=rfl
@[go_sem] theorem rnX_3:rnX σ k 3=σ++[k,k+1,k+2]:=rfl
@[go_sem] theorem nrM_a:nrM m (.a x)=nrA m x:=rfl
@[go_sem] theorem nrM_r:nrM m (.r l)=l.all (nrA m):=rfl
@[go_sem] theorem nrM_t:nrM m (.t ds)=nrM.nrMs m ds:=rfl
@[go_sem] theorem nrMs_n:nrM.nrMs m []=true:=rfl
@[go_sem] theorem nrMs_c:nrM.nrMs m (d::ds)=(nrM m d&&nrM.nrMs m ds):=rfl
@[go_sem] theorem nrA_fn0 {f:FuncId}:nrA m (.fn f [])=true:=rfl
@[go_sem] theorem nrA_fnc {f:FuncId}:nrA m (.fn f (x::l))=nrA.nrL m (x::l):=rfl
@[go_sem] theorem nrL_n:nrA.nrL m []=true:=rfl
@[go_sem] theorem nrL_c:nrA.nrL m (x::l)=(nrA m x&&nrA.nrL m l):=rfl
@[go_sem] theorem seeA_own {v:Nat}:seeA st (.own i v)=(match st[i]? with|some (.arr ver' _ rows)=>if v=ver' then .sl rows else .own i v|_=>.own i v):=rfl
@[go_sem] theorem seeD1_own {v:Nat}:seeD1 st (.a (.own i v))=.a (match st[i]? with|some (.arr ver' _ rows)=>if v=ver' then .sl rows else .own i v|_=>.own i v):=rfl
@[go_sem] theorem nrA_nl:nrA m .nl=true:=rfl
@[go_sem] theorem nrA_mp1:nrA m (.mp i)=decide (i<m):=rfl
@[go_sem] theorem nrA_ep1 {z:Nat}:nrA m (.ep i z o n)=decide (i<m):=rfl
@[go_sem] theorem nrS_m:nrS m (.map q wd es::bs)=((es.all fun e=>e.2.all (nrA m))&&nrS m bs):=rfl
@[go_sem] theorem lkD_t {kv:Value} {z:List A}:lkD true wd es kv z=.t [elD wd (mval es kv z),.a (.v (.bool (mhas es kv)))]:=rfl
@[go_sem] theorem lkD_f {kv:Value} {z:List A}:lkD false wd es kv z=elD wd (mval es kv z):=rfl
@[go_sem] theorem elD_t:elD true l=.r l:=rfl
@[go_sem] theorem elD_1:elD false [x]=.a x:=rfl
@[go_sem] theorem elA_v {z:Value}:elA false (.a (.v z))=some [.v z]:=rfl
@[go_sem] theorem elA_sl {z:List (List A)}:elA false (.a (.sl z))=some [.sl z]:=rfl
@[go_sem] theorem elA_ptr:elA false (.a (.ptr i o))=some [.ptr i o]:=rfl
@[go_sem] theorem elA_own:elA false (.a (.own i o))=some [.own i o]:=rfl
@[go_sem] theorem elA_r:elA true (.r l)=some l:=rfl
@[go_sem] theorem ksS {s:ByteArray}:KS.ok .str (.string s)=true:=rfl
@[go_sem] theorem ksI {p:IntKind} {z:Int}:KS.ok (.int p) (.int p z)=true:=by simp [KS.ok]
end
theorem allLen_map {α:Type} {f:α→List A} {n:Nat} (h:∀x,(f x).length=n) (l:List α):allLen n (l.map f)=true:=by simp [allLen,h]
@[go_sem] theorem allLen_n {n:Nat}:allLen n []=true:=rfl
@[go_sem] theorem allLen_c {n:Nat} {r:List A} {l:List (List A)}:allLen n (r::l)=((r.length==n)&&allLen n l):=rfl
@[go_sem] theorem allLen_app {n:Nat} {k l:List (List A)}:allLen n (k++l)=(allLen n k&&allLen n l):=by simp [allLen]
@[go_sem] theorem strLen {s:List UInt8}:(strAt s).length=1:=rfl
@[go_sem] theorem allLen_str {l:List (List UInt8)}:allLen 1 (l.map strAt)=true:=allLen_map (f:=strAt) (fun _=>rfl) l
@[go_sem] theorem allLen_ow {l:List (Int×Int)}:allLen 2 (l.map owAt)=true:=allLen_map (f:=owAt) (fun _=>rfl) l
@[go_sem] theorem allLen_Vr {l:List Vr}:allLen 13 (l.map Vr.at)=true:=allLen_map (fun x=>Vr.len x) l
@[go_sem] theorem allLen_Ex {l:List Ex}:allLen 4 (l.map Ex.at)=true:=allLen_map (fun x=>Ex.len x) l
@[go_sem] theorem allLen_St {l:List St}:allLen 23 (l.map St.at)=true:=allLen_map (fun x=>St.len x) l
@[go_sem] theorem allLen_Me {l:List Me}:allLen 17 (l.map Me.at)=true:=allLen_map (fun x=>Me.len x) l
@[go_sem] theorem allLen_Cs {l:List Cs}:allLen 7 (l.map Cs.at)=true:=allLen_map (fun x=>Cs.len x) l
@[go_sem] theorem allLen_Ty {l:List Ty}:allLen 11 (l.map Ty.at)=true:=allLen_map (fun x=>Ty.len x) l
attribute [go_sem] List.getD_cons_zero List.getD_cons_succ List.length_append List.length_singleton List.length_replicate List.append_nil
/-! ### Short rules -/
section
variable {P:Program} {C:Cx P} {ops:Array Oper} {r:List Oper} {st st':List Bx} {e:Nat→D} {dst:Option Nat} {ty:TypeId} {pos:String} {after:Array Edge} {K:(Nat→D)→List Bx→Prop} {T T':TypeId} {n bs i ver:Nat} {zr:List A} {rows rows2 rows':List (List A)} {s x y:Operand} {f:FuncId} {xs:List Operand} {tys:Array TypeId} {d d' g:D} {ds vs:List D} {st0 st1 bs':List Bx} {m kx ix:Operand} {j:Nat} {k:KS} {wd:Bool} {es2 es3:List (Value×List A)} {kv:Value} {z row:List A} {ok:Bool}
theorem RS.aO (k:RS C ops r (putE e dst (.a (.own i (ver+1)))) (st.set i (.arr (ver+1) n rows')) K) (hs:evO e s=.a (.own i ver):=by (simp only [go_sem,simprocAttr,fx])<;>rfl) (ha:st[i]? = some (.arr ver n rows):=by (simp only [go_sem,simprocAttr,fx])<;>rfl) (hx:rowsOf st (evO e x)=some rows2:=by (simp only [go_sem,simprocAttr,fx])<;>rfl) (hn:es P T=some n:=by (simp only [go_sem])<;>rfl) (hz:zrT P T=some zr:=by (simp only [go_sem])<;>rfl) (hzl:zr.length=n:=by (simp only [go_sem])<;>rfl) (hby:byt P T=some bs:=by (simp only [go_sem])<;>rfl) (hl2:allLen n rows2=true:=by (simp only [go_sem,simprocAttr,fx])<;>rfl)
  (hb1:(rows.length+rows2.length)*bs≤140737488355328:=by (try simp only [go_sem]);omega) (hb2:rows.length+rows2.length≤4611686018427387904:=by (try simp only [go_sem]);omega) (hr:rows++rows2=rows':=by (try simp only [go_sem,simprocAttr,fx])<;>rfl):RS C ops (⟨dst,.call ⟨.builtin .append,⟨[s,x]⟩,⟨[T,T]⟩⟩,ty,pos,after,none⟩::r) e st K:=RS.appO hs ha hx hn hz hzl hby hl2 hb1 hb2 hr k
theorem RS.aN (k:RS C ops r (putE e dst (.a (.own st.length 0))) (st++[.arr 0 n rows2]) K) (hs:evO e s=.a .nl:=by (simp only [go_sem,simprocAttr,fx])<;>rfl) (hx:rowsOf st (evO e x)=some rows2:=by (simp only [go_sem,simprocAttr,fx])<;>rfl) (hn:es P T=some n:=by (simp only [go_sem])<;>rfl) (hn0:0<n:=by decide) (hz:zrT P T=some zr:=by (simp only [go_sem])<;>rfl) (hzl:zr.length=n:=by (simp only [go_sem])<;>rfl) (hby:byt P T=some bs:=by (simp only [go_sem])<;>rfl) (hl2:allLen n rows2=true:=by (simp only [go_sem,simprocAttr,fx])<;>rfl) (hne:0<rows2.length:=by (try simp only [go_sem]);omega)
  (hb1:rows2.length*bs≤140737488355328:=by (try simp only [go_sem]);omega) (hb2:rows2.length≤4611686018427387904:=by (try simp only [go_sem]);omega):RS C ops (⟨dst,.call ⟨.builtin .append,⟨[s,x]⟩,⟨[T,T]⟩⟩,ty,pos,after,none⟩::r) e st K:=RS.appN hs hx hn hn0 hz hzl hby hl2 hne hb1 hb2 k
theorem RS.mS {len:Nat} {kl kc:IntKind} (k:RS C ops r (putE e dst (.a (.own st.length 0))) (st++[.arr 0 n (List.replicate len zr)]) K) (hx:evO e x=.a (.v (.int kl (len:Nat))):=by (simp only [go_sem,simprocAttr,fx])<;>rfl) (hy:evO e y=.a (.v (.int kc (len:Nat))):=by (simp only [go_sem,simprocAttr,fx])<;>rfl) (hn:es P T=some n:=by (simp only [go_sem])<;>rfl) (hn0:0<n:=by decide) (hz:zrT P T=some zr:=by (simp only [go_sem])<;>rfl) (hzl:zr.length=n:=by (simp only [go_sem])<;>rfl) (hcl:zr.all clA=true:=by (simp only [go_sem])<;>rfl) (hby:byt P T=some bs:=by (simp only [go_sem])<;>rfl)
  (hb1:len*bs≤281474976710656:=by (try simp only [go_sem]);omega) (hb2:len≤4611686018427387904:=by (try simp only [go_sem]);omega):RS C ops (⟨dst,.makeSlice T x y,ty,pos,after,none⟩::r) e st K:=RS.mk hx hy hn hn0 hz hzl hcl hby hb1 hb2 k
theorem RS.li {len:Nat} {parts:List (Nat×Operand)} (k:RS C ops r (putE e dst (.a (.own st.length 0))) (st++[.arr 0 n rows]) K) (hn:es P T=some n:=by (simp only [go_sem])<;>rfl) (hn0:0<n:=by decide) (hlen:0<len:=by decide) (hz:zrT P T=some zr:=by (simp only [go_sem])<;>rfl) (hzl:zr.length=n:=by (simp only [go_sem])<;>rfl) (hcl:zr.all clA=true:=by (simp only [go_sem])<;>rfl) (hby:byt P T=some bs:=by (simp only [go_sem])<;>rfl) (hsm:len*n≤16777216:=by decide)
  (hp:partsA n (List.replicate len zr) (parts.map fun p=>(p.1,evO e p.2))=some rows:=by (simp only [go_sem,simprocAttr,List.replicate_succ,List.replicate_zero,fx])<;>rfl):RS C ops (⟨dst,.buildSlice T len ⟨parts⟩,ty,pos,after,none⟩::r) e st K:=RS.lit hn hn0 hlen hz hzl hcl hby hsm hp k
theorem RS.sE {z off:Nat} {row xs:List A} (k:RS C ops r (putE e dst .undef) (st.set i (.arr ver n rows')) K) (hx:evO e x=.a (.ep i ver z off):=by (simp only [go_sem,simprocAttr,fx])<;>rfl) (ha:st[i]? = some (.arr ver n rows):=by (simp only [go_sem,simprocAttr,fx])<;>rfl) (hz:rows[z]? = some row:=by (simp only [go_sem,simprocAttr,fx])<;>rfl) (hy:dCells (evO e y)=some xs:=by (simp only [go_sem,simprocAttr,fx])<;>rfl) (hc:xs.all clA=true:=by (simp only [go_sem,simprocAttr,fx])<;>rfl) (hT:szo P T=some xs.length:=by (simp only [go_sem,simprocAttr,fx])<;>rfl) (hle:off+xs.length≤row.length:=by simp only [go_sem,simprocAttr,fx])
  (hr:rows.set z (putRow row off xs)=rows':=by (simp only [go_sem,simprocAttr,fx])<;>rfl):RS C ops (⟨dst,.store T x y,ty,pos,after,none⟩::r) e st K:=RS.stoE hx ha hz hy hc hT hle hr k
theorem RS.cM (σ:List Nat) (hx:xs.map (evO e)=vs:=by (simp only [go_sem,simprocAttr,fx])<;>rfl) (hs:σ.map (fun i=>st.getD i .gone)=bs':=by (simp only [go_sem,simprocAttr,fx])<;>rfl) (hin:lendOk σ bs' vs=true:=by (simp only [go_sem,simprocAttr,fx])<;>rfl) (hu:vs.map (unD σ)=ds:=by (simp only [go_sem,simprocAttr,fx])<;>rfl) (hv:bs'.map (unB σ)=st0:=by (simp only [go_sem,simprocAttr,fx])<;>rfl) (hg:e 1000000=g:=by (simp only [go_sem,simprocAttr])<;>rfl) (hp:DM P f ds st0 d st1) (hne:0<st1.length:=by exact Nat.zero_lt_succ _) (hd:rnD (rnX σ st.length (st1.length-σ.length)) d=d':=by (simp only [go_sem,simprocAttr,fx])<;>rfl)
  (hst:mrg σ st (st1.map (rnB (rnX σ st.length (st1.length-σ.length))))=st':=by (simp only [go_sem,simprocAttr,fx])<;>rfl) (h:RS C ops r (upd (putE e dst d') 1000000 g) st' K):RS C ops (⟨dst,.call ⟨.value (.func f),⟨xs⟩,tys⟩,ty,pos,after,none⟩::r) e st K:=RS.callM σ hx hs hin hu hv hg hp hne hd hst h
end
/-! ### How such a one ends -/
section
variable {P:Program} {n t:Nat} {O:D→List Bx→D→Prop} {e:Nat→D} {st:List Bx} {rs:List ResultVar} {d:D} {ds:List D}
theorem retM0 (h:O (.t []) st (e 1000000)):retM P n [] O .ret e st:=⟨.t [],⟨[],rfl,rfl⟩,h⟩
theorem retM0n (h:O (.t []) st (e 1000000)):retM P n [] O .normal e st:=⟨.t [],⟨[],rfl,rfl⟩,h⟩
theorem retM1 (h:O d st (e 1000000)) (he:e t=d:=by (simp only [go_sem,simprocAttr,fx])<;>rfl) (ht:decide (t<n)=true:=by rfl):retM P n [.tmp t] O .ret e st:=⟨d,by simp only [resM,resM1];rw [if_pos (of_decide_eq_true ht),he],h⟩
end
end Go.Proofs.YtibdalkdgjghoaaGreatDoor
