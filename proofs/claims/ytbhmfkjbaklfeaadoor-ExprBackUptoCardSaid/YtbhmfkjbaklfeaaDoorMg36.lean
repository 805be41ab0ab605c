/- What every law's row wants: each argument reads behind the call as it read before; slices of strings opened. No condition. -/
import Derived.Test.YtbhmfkjbaklfeaaDoorRows
import Derived.WalkKit
import Derived.ProofKit
import Derived.SizedLaws
import Derived.OpenShut
import Derived.Lib.SmallJoins
import Derived.Test.YtbhmfkjbaklfeaaDoorMg0
import Derived.Test.YtbhmfkjbaklfeaaDoorMg3
import Derived.Test.YtbhmfkjbaklfeaaDoorCards
import Derived.Test.YtbhmfkjbaklfeaaDoorTie
import Derived.Deep.DeepHandedRow
import Derived.Lib.LaidTab
import Derived.Deep.Strs
import Derived.Test.YtbhmfkjbaklfeaaDoorMg34
import Derived.Test.YtbhmfkjbaklfeaaDoorMg35
set_option linter.unusedVariables false
set_option maxRecDepth 100000
set_option maxHeartbeats 8000000
set_option linter.unusedSimpArgs false
namespace Go.Proofs.YtbhmfkjbaklfeaaDoor
open Go.ChangeShapes Go.WideShapes Go.ChangeAt Go.RowKit
theorem own:ownKnob Tryd.prog.godebug=none:=by kernel_rfl
theorem laidOut:laidOutB Tryd.prog=true:=by kernel_rfl
theorem trodAll_below {H:Type} {enc:TypeId×Value→H} {P:Program} (hl:laidOutB P=true) {W W':World} (hb:Below W.heap.size W W'):∀{ts:List TypeId} {vs:List Value} {ds:List (DataW H)} {ps:List MemPlace},
  ts.all (fun t=>P.readableRec t&&decide (t<P.types.size))=true→DataW.TrodAll enc P W 0 (fun _=>true) true ts vs ds ps→(∀x∈ps,x.block<W.heap.size)→DataW.TrodAll enc P W' 0 (fun b=>decide (b<W.heap.size)) true ts vs ds ps
 | [],[],[],_,_,h,_=>h
 | t::ts,v::vs,d::ds,ps,hr,h,hlt=>by
  obtain⟨p,q,h1,h2,rfl⟩:=h
  simp only [List.all_cons,Bool.and_eq_true,decide_eq_true_eq] at hr
  exact⟨p,q,Below.trod hl hr.1.1 hr.1.2 h1 hb (fun x hx=>hlt x (by simp [hx])),trodAll_below hl hb (by simpa using hr.2) h2 (fun x hx=>hlt x (by simp [hx])),rfl⟩
theorem law_end {H:Type} {enc:TypeId×Value→H} {P:Program} {f:Func} {s:ChangeSpec} {W W':World} {args:Array Value} {ds:List (DataW H)} {before:List MemPlace} {tb:TypeId} (hl:laidOutB P=true)
  (hr:f.params.toList.all (fun t=>P.readableRec t&&decide (t<P.types.size))=true) (hW:DataW.Whole enc P f.params.toList s.vars false W args.toList ds [] before) (hv:s.vars=[]) (ht:f.resultTypes = #[tb]) (hb:P.underlying tb=some .bool)
  (he:s.fn H (ds++[])={ results:=[.lit (.bool true)],args:=ds }) (hB:Below W.heap.size W W'):s.post enc P f false true false false W args (.bool true) W':=by
 have hW':=hW
 obtain⟨p,q,hA,hV,rfl,_,_⟩:=hW
 rw [hv] at hV
 have hq:q=[]:=hV
 subst hq
 refine⟨ds,[],p++[],[],p,[],hW',?_,?_,by rw [hv,he];rfl,hB.frame _,fun h=>by cases h⟩
 ·rw [he,ht];exact trodAll_mk1 (shut_bool hb true)
 ·rw [he];exact trodAll_below hl hB hr hA (fun x hx=>by simpa using hW'.lt x (by simpa using hx))
open Go.ChangeShapes Go.WideShapes Go.ChangeAt Go.RowKit
theorem cells_of_strTab {H:Type} {enc:TypeId×Value→H} {P:Program} {w:World} {base:Nat} {sp:Nat→Bool} {held:Bool} {fuel:Nat} {t e:TypeId} {n:Nat} {cs:List Value} {ss:List (List UInt8)} {p:List MemPlace}
  (ht:P.underlying t=some (.array n e)) (he:P.underlying e=some .string) (hce:P.cellsOf e=1) (hct:P.cellsOf t=n)
  (h:DataW.trod enc P w base sp held fuel t cs=some (.agg (ss.map fun s=>.lit (.string s)),p)):cs=ss.map fun s=>Value.string (bs s):=by
 cases fuel with
 | zero=>simp [DataW.trod] at h
 | succ fuel =>
  simp only [DataW.trod,ht,hce,hct,Nat.mul_one] at h
  split at h
  ·obtain⟨xs,hm,hx⟩:=Option.map_eq_some_iff.1 h
   have hxs:xs.map (·.1)=ss.map fun s=>(DataW.lit (.string s):DataW H):=by
    have:=congrArg Prod.fst hx
    simpa using this
   have hxl:xs.length=n:=by simpa using Lib.mapM_length hm
   have hzl:ss.length=n:=by
    have:=congrArg List.length hxs
    simp at this
    omega
   apply List.ext_getElem?
   intro i
   by_cases hi:i<n
   ·obtain⟨b,hb,hf⟩:=Lib.mapM_at hm i i (by simp [hi])
    obtain⟨z,hc,rfl,_⟩:=DataW.trod_string he hf
    have h1:cs[i]? = some (.string z):=by
     have:=congrArg (·[0]?) hc
     simpa [List.getElem?_take,List.getElem?_drop] using this
    have h2:(xs.map (·.1))[i]? = some (DataW.lit (.string z.data.toList):DataW H):=by simp [hb]
    rw [hxs] at h2
    simp only [List.getElem?_map,Option.map_eq_some_iff,DataW.lit.injEq,Lit.string.injEq] at h2
    obtain⟨z',hz',hzz⟩:=h2
    simp [h1,hz',hzz,bs_of]
   ·rw [List.getElem?_eq_none (by omega),List.getElem?_eq_none (by simp;omega)]
  ·cases h
theorem var_cells {P:Program} {W:World} {name:String} {g:Nat} {cs:Array Value} (hg:P.globalNamed name=some g) (hv:W.var? P name=some cs) (j:Nat) (x:Value) (hx:cs[j]? = some x):W.cell? ⟨g,j,none⟩=some x:=by
 rw [←hx];exact World.var?_cell hg hv j
theorem gWords:Tryd.prog.globalNamed "demesne/word.words" = some 1:=by kernel_rfl
theorem gWordsType:(Tryd.prog.globals[1]?).map (·.type)=some 92:=by kernel_rfl
theorem cellsW:Tryd.prog.cellsOf 92=23:=by kernel_rfl
theorem cellsS:Tryd.prog.cellsOf 9=1:=by kernel_rfl
theorem gBinds:Tryd.prog.globalNamed "demesne/expr.binds" = some 0:=by kernel_rfl
theorem gBindsType:(Tryd.prog.globals[0]?).map (·.type)=some 81:=by kernel_rfl
theorem cellsB:Tryd.prog.cellsOf 81=18:=by kernel_rfl
theorem cellsB1:Tryd.prog.cellsOf 62=3:=by kernel_rfl
theorem cellsI:Tryd.prog.cellsOf 3=1:=by kernel_rfl
theorem cells_of_recTab {H:Type} {enc:TypeId×Value→H} {P:Program} {w:World} {base:Nat} {sp:Nat→Bool} {held:Bool} {fuel:Nat} {t e ts ti:TypeId} {n:Nat} {f0 f1 f2:Field} {cs:List Value} {l:List (List UInt8×Int×Int)} {p:List MemPlace}
  (ht:P.underlying t=some (.array n e)) (he:P.underlying e=some (.struct #[f0,f1,f2])) (hce:P.cellsOf e=3) (hct:P.cellsOf t=3*n) (k0:f0.type=ts∧f0.offset=0) (k1:f1.type=ti∧f1.offset=1) (k2:f2.type=ti∧f2.offset=2) (hs:P.underlying ts=some .string) (hi:P.underlying ti=some (.int .i64)) (hcs:P.cellsOf ts=1) (hci:P.cellsOf ti=1)
  (h:DataW.trod enc P w base sp held fuel t cs=some (.agg (l.map fun b=>.agg [.lit (.string b.1),.lit (.int .i64 b.2.1),.lit (.int .i64 b.2.2)]),p)):cs=l.flatMap fun b=>[Value.string (bs b.1),.int .i64 b.2.1,.int .i64 b.2.2]:=by
 obtain⟨xs,m,_,hx,hl,hxl,hf⟩:=DataW.trod_array ht h
 have hx1:(l.map fun b=>(DataW.agg [.lit (.string b.1),.lit (.int .i64 b.2.1),.lit (.int .i64 b.2.2)]:DataW H))=xs.map (·.1):=by
  have:=congrArg Prod.fst hx
  simpa using this
 have hln:l.length=n:=by have:=congrArg List.length hx1;simp at this;omega
 have key:∀(i:Nat) (b:List UInt8×Int×Int),l[i]? = some b→(cs.drop (i*3)).take 3=[Value.string (bs b.1),.int .i64 b.2.1,.int .i64 b.2.2]:=by
  intro i b hb
  have hin:i<n:=by have:=(List.getElem?_eq_some_iff.1 hb).1;omega
  have h1:=hf i hin
  rw [hce] at h1
  obtain⟨y,hy⟩:∃y,xs[i]? = some y:=⟨_,List.getElem?_eq_getElem (by omega)⟩
  rw [hy] at h1
  have hy1:y.1=.agg [.lit (.string b.1),.lit (.int .i64 b.2.1),.lit (.int .i64 b.2.2)]:=by
   have:=congrArg (·[i]?) hx1
   simp only [List.getElem?_map,hb,hy,Option.map_some,Option.some.injEq] at this
   exact this.symm
  obtain⟨y0,y1,y2,m2,hyy,hl3,g0,g1,g2⟩:=Go.Deep.trod_struct3 he h1
  rw [hce] at hl3
  rw [k0.1,k0.2,hcs] at g0
  rw [k1.1,k1.2,hci] at g1
  rw [k2.1,k2.2,hci] at g2
  generalize (cs.drop (i*3)).take 3=c at hl3 g0 g1 g2 ⊢
  match c,hl3 with
  | [c0,c1,c2],_ =>
   obtain⟨z0,e0,d0,_⟩:=DataW.trod_string hs g0
   obtain⟨z1,e1,d1,_⟩:=DataW.trod_int hi g1
   obtain⟨z2,e2,d2,_⟩:=DataW.trod_int hi g2
   rw [hyy] at hy1
   simp only [d0,d1,d2,DataW.agg.injEq,List.cons.injEq,DataW.lit.injEq,Lit.string.injEq,Lit.int.injEq,true_and,and_true] at hy1
   obtain⟨q0,q1,q2⟩:=hy1
   simp at e0 e1 e2
   rw [e0,e1,e2,←q0,←q1,←q2,bs_of]
 have all:∀(l:List (List UInt8×Int×Int)) (cs:List Value),cs.length=3*l.length→(∀(i:Nat) (b:List UInt8×Int×Int),l[i]? = some b→(cs.drop (i*3)).take 3=[Value.string (bs b.1),.int .i64 b.2.1,.int .i64 b.2.2])→cs=l.flatMap fun b=>[Value.string (bs b.1),.int .i64 b.2.1,.int .i64 b.2.2]:=by
  intro l
  induction l with
  | nil=>intro cs h _;exact List.eq_nil_of_length_eq_zero (by simpa using h)
  | cons b r ih =>
   intro cs h hk
   have h0:=hk 0 b rfl
   rw [Nat.zero_mul,List.drop_zero] at h0
   have h1:=ih (cs.drop 3) (by rw [List.length_drop,h,List.length_cons];omega) fun i b' hb=>by
    have:=hk (i+1) b' (by simpa using hb)
    rw [List.drop_drop,show 3+i*3=(i+1)*3 by omega];exact this
   rw [List.flatMap_cons,←h1,←h0,List.take_append_drop]
 exact all l cs (by rw [hl,hct,hln]) key
abbrev LAID:List (String×DataW Unit):=[("demesne/word.words",Rows.laid_demesne_word_words),("demesne/expr.binds",Rows.laid_demesne_expr_binds)]
theorem gdW_of {W:World} (h:laidMetH Tryd.prog LAID W):Gd W:=by
 obtain⟨ps,⟨g',t',cs,fuel,p,q,hg',ht',hvar,hd,hrest,_⟩,_⟩:=(show laidMet Tryd.prog LAID W from h)
 obtain rfl:=Option.some.inj (gWords.symm.trans hg')
 obtain rfl:=Option.some.inj (gWordsType.symm.trans ht')
 have hcs:=cells_of_strTab (ss:=wordsL) Tryd.underlying92 Tryd.underlying9 cellsS cellsW hd
 obtain⟨g2,t2,cs2,fuel2,p2,q2,hg2,ht2,hvar2,hd2,_,_⟩:=hrest
 obtain rfl:=Option.some.inj (gBinds.symm.trans hg2)
 obtain rfl:=Option.some.inj (gBindsType.symm.trans ht2)
 have hcs2:=cells_of_recTab (l:=[([38,38],1,11),([60],2,9),([61,61],2,10),([43],3,6),([45],3,7),([42],4,8)]) Tryd.underlying81 Tryd.underlying62 cellsB1 cellsB ⟨rfl,rfl⟩ ⟨rfl,rfl⟩ ⟨rfl,rfl⟩ Tryd.underlying9 Tryd.underlying3 cellsS cellsI hd2
 intro g j x hx
 have hx0:=hx
 unfold glV at hx
 split at hx
 ·refine var_cells gWords hvar j x ?_
  rw [←Array.getElem?_toList,hcs];exact hx
 ·refine var_cells gBinds hvar2 j x ?_
  rw [←Array.getElem?_toList,hcs2];exact hx
 ·simp at hx
theorem Gd.keep {W W':World} (h:Gd W) (hb:∀b,b<W.heap.size→isC W b→W'.heap[b]? = W.heap[b]?):Gd W':=fun g j x hx=>by
 have hc:=h g j x hx
 have hC:isC W g:=cellsK hc
 exact (World.cell?_of_block (a:=⟨g,j,none⟩) (hb g hC.lt hC)).trans hc
noncomputable def laidWorld (os:Os):World :=
 { World.holding Tryd.prog os ⟨#[],#[],[]⟩ with heap:=(World.holding Tryd.prog os ⟨#[],#[],[]⟩).heap.mapIdx fun i o=>match o with
   | .cells c t frozen=>.cells (match glV i with|[]=>c|l=>l.toArray) t frozen
   | o=>o }
open Go.ChangeShapes Go.WideShapes Go.ChangeAt Go.RowKit Go.Joins
theorem exprBack_contract (H:Type) (enc:TypeId×Value→H) (W:World) (base:Nat) (args:Array Value) (ds gs:List (DataW H)) (before:List MemPlace)
  (hval0:∀(j:Nat) t v,Tryd.f3.params[j]? = some t→args[j]? = some v→Value.okWide Tryd.prog W .any base t v)
  (hW:DataW.Whole enc Tryd.prog Tryd.f3.params.toList Rows.exprBackSpec.vars false W args.toList ds gs before) (hL:laidMetH Tryd.prog Rows.exprBackRow.laid W) (hk:Rows.uptoBulkAll ds≤1048576) :
  Calls Tryd.prog 3 args W fun e W'=>∃v,e=.returned v∧Rows.exprBackSpec.post enc Tryd.prog Tryd.f3 false true false false W args v W':=by
 have hw:=gdW_of hL
 have hval:=hval0
 have hW':=hW
 obtain⟨p,q,hA0,hV,rfl,_,_⟩:=hW
 have hA:DataW.TrodAll enc Tryd.prog W 0 (fun _=>true) true Tryd.f3.params.toList args.toList ds p:=hA0
 rw [Tryd.params3] at hA hval
 obtain⟨v0,v1,d0,d1,p0,p1,rfl,rfl,rfl,⟨u0,h0⟩,⟨u1,h1⟩⟩:=trodAll_two hA
 obtain⟨rfl,rfl⟩:=trodVars_none hV
 obtain⟨l0,hr0,hz0⟩:=openEx u0 _ _ h0
 obtain⟨s1,rfl,rfl,rfl,hs1⟩:=Go.ChangeMaps.open_string Tryd.underlying9 (hval 1 9 v1 rfl rfl) ⟨u1,h1⟩
 simp only [Rows.uptoBulkAll,Rows.uptoBulk] at hk
 simp only [Rows.uptoBulkAll] at hz0
 obtain⟨w0,rfl,hw0⟩:=okWide_struct Tryd.underlying24 (hval 0 24 v0 rfl rfl)
 have hlaw:=(pLawB l0 s1.data.toList (by omega)).2 W (fun _=>False) [.agg w0,.string s1] (fun _ h=>h.elim) (fun w' hs hb=>?_) rfl (fun i d' hd=>?_)
 ·refine hlaw.mono fun e W' ⟨v,he,hg,hv⟩=>?_
  obtain⟨rfl,_⟩:=hv.v_inv
  subst he
  exact⟨_,rfl,law_end laidOut (by kernel_rfl) hW' rfl (by kernel_rfl) Tryd.underlying4 rfl hg.below⟩
 ·exact hw.keep fun b hlt hC=>hb b hlt (fun h=>h) hC
 ·match i with
  | 0=>simp at hd;subst hd;have hx:=hr0;rw [show (Value.agg w0).cells=w0 from rfl] at hx;have:=RepD.r (V:=out W fun _=>False) _ w0.toList hx.1 fun k y hy=>(hx.2 k y hy).toOut;rwa [Array.toArray_toList] at this
  | 1=>simp at hd;subst hd;exact .a _ _ (.c _ _ (.v _ rfl))
  | i+2=>simp at hd
end Go.Proofs.YtbhmfkjbaklfeaaDoor
