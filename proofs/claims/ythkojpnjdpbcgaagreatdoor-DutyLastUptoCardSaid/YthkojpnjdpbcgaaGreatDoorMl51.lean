/- What every law's row wants: each argument reads behind the call as it read before; slices of strings opened. No condition. -/
import Derived.Test.YthkojpnjdpbcgaaGreatDoorRows
import Derived.WalkKit
import Derived.ProofKit
import Derived.SizedLaws
import Derived.OpenShut
import Derived.Lib.SmallJoins
import Derived.Test.YthkojpnjdpbcgaaGreatDoorMl0
import Derived.Test.YthkojpnjdpbcgaaGreatDoorMl3
import Derived.Test.YthkojpnjdpbcgaaGreatDoorCards
import Derived.Test.YthkojpnjdpbcgaaGreatDoorTie
import Derived.Deep.DeepHandedRow
import Derived.Lib.LaidTab
import Derived.Deep.Strs
import Derived.Test.YthkojpnjdpbcgaaGreatDoorMl49
import Derived.Test.YthkojpnjdpbcgaaGreatDoorMl50
set_option linter.unusedVariables false
set_option maxRecDepth 100000
set_option maxHeartbeats 8000000
set_option linter.unusedSimpArgs false
namespace Go.Proofs.YthkojpnjdpbcgaaGreatDoor
open Go.ChangeShapes Go.WideShapes Go.ChangeAt Go.RowKit
theorem own:ownKnob Tryz.prog.godebug=none:=by kernel_rfl
theorem laidOut:laidOutB Tryz.prog=true:=by kernel_rfl
theorem qe3 {H:Type} {enc:TypeId×Value→H} {P:Program} (hl:laidOutB P=true) {W W':World} (hb:Below W.heap.size W W'):∀{ts:List TypeId} {vs:List Value} {ds:List (DataW H)} {ps:List MemPlace},
  ts.all (fun t=>P.readableRec t&&decide (t<P.types.size))=true→DataW.TrodAll enc P W 0 (fun _=>true) true ts vs ds ps→(∀x∈ps,x.block<W.heap.size)→DataW.TrodAll enc P W' 0 (fun b=>decide (b<W.heap.size)) true ts vs ds ps
 | [],[],[],_,_,h,_=>h
 | t::ts,v::vs,d::ds,ps,hr,h,hlt=>by
  obtain⟨p,q,h1,h2,rfl⟩:=h
  simp only [List.all_cons,Bool.and_eq_true,decide_eq_true_eq] at hr
  exact⟨p,q,Below.trod hl hr.1.1 hr.1.2 h1 hb (fun x hx=>hlt x (by simp [hx])),qe3 hl hb (by simpa using hr.2) h2 (fun x hx=>hlt x (by simp [hx])),rfl⟩
theorem law_end {H:Type} {enc:TypeId×Value→H} {P:Program} {f:Func} {s:ChangeSpec} {W W':World} {args:Array Value} {ds:List (DataW H)} {before:List MemPlace} {tb:TypeId} (hl:laidOutB P=true)
  (hr:f.params.toList.all (fun t=>P.readableRec t&&decide (t<P.types.size))=true) (hW:DataW.Whole enc P f.params.toList s.vars false W args.toList ds [] before) (hv:s.vars=[]) (ht:f.resultTypes = #[tb]) (hb:P.underlying tb=some .bool)
  (he:s.fn H (ds++[])={ results:=[.lit (.bool true)],args:=ds }) (hB:Below W.heap.size W W'):s.post enc P f false true false false W args (.bool true) W':=by
 have hW':=hW
 obtain⟨p,q,hA,hV,rfl,_,_⟩:=hW
 rw [hv] at hV
 have hq:q=[]:=hV
 subst hq
 refine⟨ds,[],p++[],[],p,[],hW',?_,?_,by rw [hv,he];rfl,hB.frame _,fun h=>by cases h⟩
 ·rw [he,ht];exact trodAll_mk1 (shut_bool hb true)
 ·rw [he];exact qe3 hl hB hr hA (fun x hx=>by simpa using hW'.lt x (by simpa using hx))
open Go.ChangeShapes Go.WideShapes Go.ChangeAt Go.RowKit
theorem qho {H:Type} {enc:TypeId×Value→H} {P:Program} {w:World} {base:Nat} {sp:Nat→Bool} {held:Bool} {fuel:Nat} {t e:TypeId} {n:Nat} {cs:List Value} {ss:List (List UInt8)} {p:List MemPlace}
  (ht:P.underlying t=some (.array n e)) (he:P.underlying e=some .string) (hce:P.cellsOf e=1) (hct:P.cellsOf t=n)
  (h:DataW.trod enc P w base sp held fuel t cs=some (.agg (ss.map fun s=>.lit (.string s)),p)):cs=ss.map fun s=>Value.string (bs s):=by
 cases fuel with
 | zero=>simp [DataW.trod] at h
 | succ fuel =>
  simp only [DataW.trod,ht,hce,hct,Nat.mul_one] at h
  split at h
  ·obtain⟨xs,hm,hx⟩:=Option.map_eq_some_iff.1 h
   have hxs:xs.map (·.1)=ss.map fun s=>(DataW.lit (.string s):DataW H):=by
    have:=congrArg Prod.fst hx
    simpa using this
   have hxl:xs.length=n:=by simpa using Lib.mapM_length hm
   have hzl:ss.length=n:=by
    have:=congrArg List.length hxs
    simp at this
    omega
   apply List.ext_getElem?
   intro i
   by_cases hi:i<n
   ·obtain⟨b,hb,hf⟩:=Lib.mapM_at hm i i (by simp [hi])
    obtain⟨z,hc,rfl,_⟩:=DataW.trod_string he hf
    have h1:cs[i]? = some (.string z):=by
     have:=congrArg (·[0]?) hc
     simpa [List.getElem?_take,List.getElem?_drop] using this
    have h2:(xs.map (·.1))[i]? = some (DataW.lit (.string z.data.toList):DataW H):=by simp [hb]
    rw [hxs] at h2
    simp only [List.getElem?_map,Option.map_eq_some_iff,DataW.lit.injEq,Lit.string.injEq] at h2
    obtain⟨z',hz',hzz⟩:=h2
    simp [h1,hz',hzz,bs_of]
   ·rw [List.getElem?_eq_none (by omega),List.getElem?_eq_none (by simp;omega)]
  ·cases h
theorem var_cells {P:Program} {W:World} {name:String} {g:Nat} {cs:Array Value} (hg:P.globalNamed name=some g) (hv:W.var? P name=some cs) (j:Nat) (x:Value) (hx:cs[j]? = some x):W.cell? ⟨g,j,none⟩=some x:=by
 rw [←hx];exact World.var?_cell hg hv j
theorem gWords:Tryz.prog.globalNamed "demesne/word.words" = some 0:=by kernel_rfl
theorem qn5:(Tryz.prog.globals[0]?).map (·.type)=some 267:=by kernel_rfl
theorem cellsW:Tryz.prog.cellsOf 267=23:=by kernel_rfl
theorem cellsS:Tryz.prog.cellsOf 9=1:=by kernel_rfl
abbrev LAID:List (String×DataW Unit):=[("demesne/word.words",Rows.laid_demesne_word_words)]
theorem gdW_of {W:World} (h:laidMetH Tryz.prog LAID W):Gd W:=by
 obtain⟨ps,⟨g',t',cs,fuel,p,q,hg',ht',hvar,hd,hrest,_⟩,_⟩:=(show laidMet Tryz.prog LAID W from h)
 obtain rfl:=Option.some.inj (gWords.symm.trans hg')
 obtain rfl:=Option.some.inj (qn5.symm.trans ht')
 have hcs:=qho (ss:=qez) Tryz.underlying267 Tryz.underlying9 cellsS cellsW hd
 intro g j x hx
 have hx0:=hx
 unfold glV at hx
 split at hx
 ·refine var_cells gWords hvar j x ?_
  rw [←Array.getElem?_toList,hcs];exact hx
 ·simp at hx
theorem Gd.keep {W W':World} (h:Gd W) (hb:∀b,b<W.heap.size→isC W b→W'.heap[b]? = W.heap[b]?):Gd W':=fun g j x hx=>by
 have hc:=h g j x hx
 have hC:isC W g:=qla hc
 exact (World.cell?_of_block (a:=⟨g,j,none⟩) (hb g hC.lt hC)).trans hc
noncomputable def qhc (os:Os):World :=
 { World.holding Tryz.prog os ⟨#[],#[],[]⟩ with heap:=(World.holding Tryz.prog os ⟨#[],#[],[]⟩).heap.mapIdx fun i o=>match o with
   | .cells c t frozen=>.cells (match glV i with|[]=>c|l=>l.toArray) t frozen
   | o=>o }
open Go.ChangeShapes Go.WideShapes Go.ChangeAt Go.RowKit Go.Joins
theorem qfv (H:Type) (enc:TypeId×Value→H) (W:World) (base:Nat) (args:Array Value) (ds gs:List (DataW H)) (before:List MemPlace)
  (hval0:∀(j:Nat) t v,Tryz.f4.params[j]? = some t→args[j]? = some v→Value.okWide Tryz.prog W .any base t v)
  (hW:DataW.Whole enc Tryz.prog Tryz.f4.params.toList Rows.dutyLastSpec.vars false W args.toList ds gs before) (hL:laidMetH Tryz.prog Rows.dutyLastRow.laid W) (hk:Rows.uptoBulkAll ds≤1048576) :
  Calls Tryz.prog 4 args W fun e W'=>∃v,e=.returned v∧Rows.dutyLastSpec.post enc Tryz.prog Tryz.f4 false true false false W args v W':=by
 have hw:=gdW_of hL
 have hval:=hval0
 have hW':=hW
 obtain⟨p,q,hA0,hV,rfl,_,_⟩:=hW
 have hA:DataW.TrodAll enc Tryz.prog W 0 (fun _=>true) true Tryz.f4.params.toList args.toList ds p:=hA0
 rw [Tryz.params4] at hA hval
 obtain⟨v0,d0,rfl,rfl,⟨u0,h0⟩⟩:=trodAll_one hA
 obtain⟨rfl,rfl⟩:=trodVars_none hV
 obtain⟨l0,hr0,hz0⟩:=openPr u0 _ _ h0
 simp only [Rows.uptoBulkAll,Rows.uptoBulk] at hk
 simp only [Rows.uptoBulkAll] at hz0
 obtain⟨a0,n0,c0,rfl⟩:=okWide_slice Tryz.underlying22 (hval 0 22 v0 rfl rfl)
 have r0:RepC W (fun _=>False) (.sl (l0.map Cs.at)) (.slice a0 n0 c0):=hr0.2 0 _ rfl
 have hlaw:=(qn1 l0 (by omega)).2 W (fun _=>False) [.slice a0 n0 c0] (fun _ h=>h.elim) (fun w' hs hb=>?_) rfl (fun i d' hd=>?_)
 ·refine hlaw.mono fun e W' ⟨v,he,hg,hv⟩=>?_
  obtain⟨rfl,_⟩:=hv.v_inv
  subst he
  exact⟨_,rfl,law_end laidOut (by kernel_rfl) hW' rfl (by kernel_rfl) Tryz.underlying4 rfl hg.below⟩
 ·exact hw.keep fun b hlt hC=>hb b hlt (fun h=>h) hC
 ·match i with
  | 0=>simp at hd;subst hd;exact .a _ _ r0.toOut
  | i+1=>simp at hd
end Go.Proofs.YthkojpnjdpbcgaaGreatDoor
