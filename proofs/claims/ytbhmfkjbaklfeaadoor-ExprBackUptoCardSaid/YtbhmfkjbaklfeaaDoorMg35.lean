/- What a law is handed, opened as plain data: the parts. No condition. -/
import Derived.Test.YtbhmfkjbaklfeaaDoorMg11
import Derived.Test.YtbhmfkjbaklfeaaDoorRows
import Derived.Lib.LaidTab
import Derived.Test.YtbhmfkjbaklfeaaDoorMg8
import Derived.OpenShut
set_option linter.unusedVariables false
set_option maxRecDepth 100000
set_option maxHeartbeats 8000000
set_option linter.unusedSimpArgs false
namespace Go.Proofs.YtbhmfkjbaklfeaaDoor
open Go.RowKit
theorem qlist_of {α:Type} (Q:Nat→α→Prop):∀n,(∀i,i<n→∃x,Q i x)→∃l:List α,l.length=n∧∀i x,l[i]? = some x→Q i x
 | 0,_=>⟨[],rfl,fun i x h=>by simp at h⟩
 | n+1,h=>by
  obtain⟨l,hl,hq⟩:=qlist_of Q n (fun i hi=>h i (by omega))
  obtain⟨x,hx⟩:=h n (by omega)
  refine⟨l++[x],by simp [hl],fun i y hy=>?_⟩
  rcases Nat.lt_or_ge i n with hlt|hge
  ·rw [List.getElem?_append_left (by omega)] at hy;exact hq i y hy
  ·rw [List.getElem?_append_right (by omega)] at hy
   have hi:i-l.length=0:=by
    rcases Nat.eq_zero_or_pos (i-l.length) with h|h
    ·exact h
    ·rw [List.getElem?_eq_none (by simp;omega)] at hy;cases hy
   rw [hi] at hy
   simp at hy
   subst hy
   obtain rfl:i=n:=by omega
   exact hx
theorem qadd_none (b o n:Nat):(⟨b,o,none⟩:Addr).add n=⟨b,o+n,none⟩:=by
 unfold Addr.add
 split
 ·rename_i h;subst h;simp
 ·simp
def Reps (W:World) (row:List A) (cs:List Value):Prop:=cs.length=row.length∧∀(j:Nat) (a:A),row[j]? = some a→RepC W (fun _=>False) a (cs.getD j Go.undef)
theorem Reps.app {W:World} {r1 r2:List A} {c1 c2:List Value} (h1:Reps W r1 c1) (h2:Reps W r2 c2):Reps W (r1++r2) (c1++c2):=by
 refine⟨by rw [List.length_append,List.length_append,h1.1,h2.1],fun j a hj=>?_⟩
 rw [List.getD_eq_getElem?_getD]
 rcases Nat.lt_or_ge j r1.length with hlt|hge
 ·rw [List.getElem?_append_left hlt] at hj
  rw [List.getElem?_append_left (by rw [h1.1];exact hlt),←List.getD_eq_getElem?_getD]
  exact h1.2 j a hj
 ·rw [List.getElem?_append_right hge] at hj
  rw [List.getElem?_append_right (by rw [h1.1];exact hge),h1.1,←List.getD_eq_getElem?_getD]
  exact h2.2 _ a hj
section
variable {H:Type} {enc:TypeId×Value→H} {P:Program} {W:World}
def Opn (enc:TypeId×Value→H) (P:Program) (W:World) (fuel:Nat) (t:TypeId) {α:Type} (f:α→List A) (sz:α→Nat):Prop :=
 ∀(cs:List Value) (y:DataW H×List MemPlace),DataW.trod enc P W 0 (fun _=>true) true fuel t cs=some y→∃x:α,Reps W (f x) cs∧sz x≤Rows.uptoBulk y.1
theorem reps1 {a:A} {v:Value} (h:RepC W (fun _=>False) a v):Reps W [a] [v]:=⟨rfl,fun j x hj=>by
 cases j with
 | zero=>simp at hj;subst hj;exact h
 | succ j=>simp at hj⟩
theorem Opn.int {fuel:Nat} {t:TypeId} (ht:P.underlying t=some (.int .i64)):Opn enc P W fuel t (fun z:Int=>[.v (.int .i64 z)]) fun _=>1:=by
 intro cs y h
 obtain⟨n,rfl,rfl,_⟩:=DataW.trod_int ht h
 exact⟨n,reps1 (.v _ rfl),Nat.le_refl _⟩
theorem Opn.str {fuel:Nat} {t:TypeId} (ht:P.underlying t=some .string):Opn enc P W fuel t (fun s:List UInt8=>[.v (.string (bs s))]) fun s=>s.length+1:=by
 intro cs y h
 obtain⟨s,rfl,rfl,_⟩:=DataW.trod_string ht h
 refine⟨s.data.toList,reps1 ?_,?_⟩
 ·have:bs s.data.toList=s:=by cases s;rfl
  rw [this];exact .v _ rfl
 ·simp [Rows.uptoBulk]
theorem sum_bulk {α:Type} (sz:α→Nat):∀(l:List α) (m:List (DataW H)),l.length=m.length→(∀(i:Nat) (x:α) (y:DataW H),l[i]? = some x→m[i]? = some y→sz x≤Rows.uptoBulk y)→sumOf sz l≤Rows.uptoBulkAll m
 | [],m,_,_=>Nat.zero_le _
 | x::l,[],h,_=>by simp at h
 | x::l,y::m,h,hq=>by
  have h1:=hq 0 x y rfl rfl
  have h2:=sum_bulk sz l m (by simpa using h) fun i a b ha hb=>hq (i+1) a b (by simpa using ha) (by simpa using hb)
  rw [sumOf,Rows.uptoBulkAll];omega
theorem Opn.slice {α:Type} {f:α→List A} {sz:α→Nat} {fuel:Nat} {t e:TypeId} (ht:P.underlying t=some (.slice e)) (hpos:0<P.cellsOf e) (hlen:∀x,(f x).length=P.cellsOf e) (he:∀n,n<fuel→Opn enc P W n e f sz):Opn enc P W fuel t (fun l:List α=>[.sl (l.map f)]) fun l=>sumOf sz l+1:=by
 intro cs y h
 rcases DataW.trod_slice ht h with ⟨rfl,rfl⟩|⟨a,len,cap,elems,rest,n,rfl,rfl,rfl,_,hl,hm,hel,hall,_,_⟩
 ·exact⟨[],reps1 (.sl0 none 0),by simp [sumOf,Rows.uptoBulk]⟩
 ·have hq:∀i,i<len→∃x:α,∃cs' y',W.cells? 0 (a.add (i*P.cellsOf e)) (P.cellsOf e)=some cs'∧elems[i]? = some y'∧Reps W (f x) cs'∧sz x≤Rows.uptoBulk y'.1:=fun i hi=>by
   have h1:=hall i hi
   rw [List.getElem?_eq_getElem (by omega)] at h1
   obtain⟨cs',hcs,hy⟩:=Option.bind_eq_some_iff.1 h1
   obtain⟨x,hx1,hx2⟩:=he n (by omega) cs' _ hy
   exact⟨x,cs',_,hcs,List.getElem?_eq_getElem (by omega),hx1,hx2⟩
  obtain⟨l,hll,hl2⟩:=qlist_of _ len hq
  refine⟨l,reps1 ?_,?_⟩
  ·by_cases hnil:l=[]
   ·subst hnil
    simp at hll
    subst hll
    exact .sl0 _ _
   ·obtain⟨b,off,spot⟩:=a
    have cell:∀(i:Nat) (x:α),l[i]? = some x→∃cs',Reps W (f x) cs'∧∀j,j<P.cellsOf e→W.cell? ((⟨b,off,spot⟩:Addr).add (i*P.cellsOf e) |>.add j)=some (cs'.getD j Go.undef):=fun i x hx=>by
     obtain⟨cs',y',h1,_,h2,_⟩:=hl2 i x hx
     refine⟨cs',h2,fun j hj=>?_⟩
     have h3:=(World.cells?_some h1).2.2 j hj
     have h4:cs'[j]? = some (cs'.getD j Go.undef):=by
      rw [List.getD_eq_getElem?_getD,List.getElem?_eq_getElem (by rw [h2.1,hlen];exact hj)];rfl
     rw [h4] at h3
     exact h3
    have hspot:spot=none:=by
     obtain⟨cs',_,h3⟩:=cell 0 _ (List.getElem?_eq_getElem (List.length_pos_iff.2 hnil))
     have:=World.cell?_spot (h3 0 hpos)
     simpa [Addr.add] using this
    subst hspot
    have cell2:∀(i:Nat) (x:α) (j:Nat) (y:A),l[i]? = some x→(f x)[j]? = some y→∃v,W.cell? ⟨b,off+i*P.cellsOf e+j,none⟩=some v∧RepC W (fun _=>False) y v:=fun i x j y hx hy=>by
     obtain⟨cs',h2,h3⟩:=cell i x hx
     have hj:j<P.cellsOf e:=by rw [←hlen x];exact (List.getElem?_eq_some_iff.1 hy).1
     have h4:=h3 j hj
     rw [qadd_none,qadd_none] at h4
     exact⟨_,h4,h2.2 j y hy⟩
    obtain⟨x0,hx0⟩:∃x0,l[0]? = some x0:=⟨_,List.getElem?_eq_getElem (List.length_pos_iff.2 hnil)⟩
    obtain⟨y0,hy0⟩:∃y0,(f x0)[0]? = some y0:=⟨_,List.getElem?_eq_getElem (by rw [hlen];exact hpos)⟩
    obtain⟨v0,hv0,_⟩:=cell2 0 x0 0 y0 hx0 hy0
    have key:=RepC.sl (w:=W) (mu:=fun _=>False) (l.map f) (P.cellsOf e) b off cap (fun i j=>(W.cell? ⟨b,off+i*P.cellsOf e+j,none⟩).getD Go.undef) (cellsK hv0) (fun h=>h) (by rw [List.length_map];omega) (fun i row hi=>?_) (fun i row j y hi hj=>?_) fun i row j y hi hj=>?_
    ·rw [List.length_map,hll] at key;exact key
    ·rw [List.getElem?_map,Option.map_eq_some_iff] at hi
     obtain⟨x,_,rfl⟩:=hi
     exact hlen x
    ·rw [List.getElem?_map,Option.map_eq_some_iff] at hi
     obtain⟨x,hx,rfl⟩:=hi
     obtain⟨v,hv,_⟩:=cell2 i x j y hx hj
     rw [hv];rfl
    ·rw [List.getElem?_map,Option.map_eq_some_iff] at hi
     obtain⟨x,hx,rfl⟩:=hi
     obtain⟨v,hv,hr⟩:=cell2 i x j y hx hj
     rw [hv];exact hr
  ·show sumOf sz l+1≤Rows.uptoBulkAll (elems.map (·.1))+Rows.uptoBulkAll (rest.map (·.1))+1
   have:=sum_bulk sz l (elems.map (·.1)) (by simp;omega) fun i x y hx hy=>by
    obtain⟨cs',y',_,h1,_,h2⟩:=hl2 i x hx
    rw [List.getElem?_map,h1] at hy
    simp at hy
    subst hy
    exact h2
   omega
end
theorem reps_fld {W:World} {r rest:List A} {cs:List Value} {off n off':Nat} (h:Reps W r ((cs.drop off).take n)) (hr:Reps W rest (cs.drop off')) (ho:off+n=off'):Reps W (r++rest) (cs.drop off):=by
 subst ho
 have:=h.app hr
 rwa [←List.drop_drop,List.take_append_drop] at this
theorem reps_end {W:World} {cs:List Value} {off:Nat} (h:cs.length=off):Reps W [] (cs.drop off):=by
 subst h
 rw [List.drop_length]
 exact⟨rfl,fun j a hj=>by simp at hj⟩
section
variable {H:Type} {enc:TypeId×Value→H} {W:World}
theorem Ex.szs_sumOf (l:List Ex):Ex.szs l=sumOf Ex.sz l:=by
 induction l with
 | nil=>rfl
 | cons e r ih=>rw [Ex.szs,sumOf,ih]
theorem openEx:∀fuel:Nat,Opn enc Tryd.prog W fuel 24 Ex.at Ex.sz:=by
 intro fuel
 induction fuel using Nat.strongRecOn with
 | _ fuel IH =>
 intro cs y h
 obtain⟨xs,n,rfl,rfl,hl,hlen,hf⟩:=DataW.trod_struct Tryd.underlying24 h
 rw [show Tryd.prog.cellsOf 24=4 by kernel_rfl] at hl
 match xs,hlen with
 | [y0,y1,y2,y3],_ =>
  have g0:=hf 0 _ rfl
  have g1:=hf 1 _ rfl
  have g2:=hf 2 _ rfl
  have g3:=hf 3 _ rfl
  simp only [List.getElem?_cons_zero,List.getElem?_cons_succ,List.getElem_toArray,List.getElem_cons_zero,List.getElem_cons_succ] at g0 g1 g2 g3
  rw [show Tryd.prog.cellsOf 3=1 by kernel_rfl] at g0 g1
  rw [show Tryd.prog.cellsOf 9=1 by kernel_rfl] at g2
  rw [show Tryd.prog.cellsOf 22=1 by kernel_rfl] at g3
  obtain⟨k,h0,_⟩:=Opn.int (P:=Tryd.prog) (W:=W) Tryd.underlying3 _ _ g0
  obtain⟨m,h1,_⟩:=Opn.int (P:=Tryd.prog) (W:=W) Tryd.underlying3 _ _ g1
  obtain⟨s,h2,hs⟩:=Opn.str (P:=Tryd.prog) (W:=W) Tryd.underlying9 _ _ g2
  obtain⟨l,h3,hk⟩:=Opn.slice (P:=Tryd.prog) (W:=W) (f:=Ex.at) (sz:=Ex.sz) Tryd.underlying22 (by rw [show Tryd.prog.cellsOf 24=4 by kernel_rfl];decide) (fun x=>by rw [show Tryd.prog.cellsOf 24=4 by kernel_rfl];exact Ex.len x) (fun i hi=>IH i (by omega)) _ _ g3
  have q3:=reps_fld h3 (reps_end hl) rfl
  have q2:=reps_fld h2 q3 rfl
  have q1:=reps_fld h1 q2 rfl
  have q0:=reps_fld h0 q1 rfl
  refine⟨⟨k,m,s,l⟩,?_,?_⟩
  ·have:Ex.at ⟨k,m,s,l⟩=[.v (.int .i64 k)]++([.v (.int .i64 m)]++([.v (.string (bs s))]++([.sl (l.map Ex.at)]++[]))):=by simp only [Ex.at,Ex.ats_map];rfl
   rw [this];exact q0
  ·rw [Ex.sz_eq]
   simp only [List.map_cons,List.map_nil,Rows.uptoBulk,Rows.uptoBulkAll,Ex.szs_sumOf] at hs hk ⊢
   omega
end
section
variable {H:Type} {enc:TypeId×Value→H} {W:World}
end
end Go.Proofs.YtbhmfkjbaklfeaaDoor
