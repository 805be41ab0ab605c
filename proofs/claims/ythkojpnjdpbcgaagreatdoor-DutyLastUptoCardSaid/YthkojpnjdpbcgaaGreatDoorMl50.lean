/- What a law is handed, opened as plain data: the parts. No condition. -/
import Derived.Test.YthkojpnjdpbcgaaGreatDoorMl26
import Derived.Test.YthkojpnjdpbcgaaGreatDoorRows
import Derived.Lib.LaidTab
import Derived.Test.YthkojpnjdpbcgaaGreatDoorMl13
import Derived.OpenShut
set_option linter.unusedVariables false
set_option maxRecDepth 100000
set_option maxHeartbeats 8000000
set_option linter.unusedSimpArgs false
namespace Go.Proofs.YthkojpnjdpbcgaaGreatDoor
open Go.RowKit
theorem qmx {α:Type} (Q:Nat→α→Prop):∀n,(∀i,i<n→∃x,Q i x)→∃l:List α,l.length=n∧∀i x,l[i]? = some x→Q i x
 | 0,_=>⟨[],rfl,fun i x h=>by simp at h⟩
 | n+1,h=>by
  obtain⟨l,hl,hq⟩:=qmx Q n (fun i hi=>h i (by omega))
  obtain⟨x,hx⟩:=h n (by omega)
  refine⟨l++[x],by simp [hl],fun i y hy=>?_⟩
  rcases Nat.lt_or_ge i n with hlt|hge
  ·rw [List.getElem?_append_left (by omega)] at hy;exact hq i y hy
  ·rw [List.getElem?_append_right (by omega)] at hy
   have hi:i-l.length=0:=by
    rcases Nat.eq_zero_or_pos (i-l.length) with h|h
    ·exact h
    ·rw [List.getElem?_eq_none (by simp;omega)] at hy;cases hy
   rw [hi] at hy
   simp at hy
   subst hy
   obtain rfl:i=n:=by omega
   exact hx
theorem qko (b o n:Nat):(⟨b,o,none⟩:Addr).add n=⟨b,o+n,none⟩:=by
 unfold Addr.add
 split
 ·rename_i h;subst h;simp
 ·simp
def Reps (W:World) (row:List A) (cs:List Value):Prop:=cs.length=row.length∧∀(j:Nat) (a:A),row[j]? = some a→RepC W (fun _=>False) a (cs.getD j Go.undef)
theorem Reps.app {W:World} {r1 r2:List A} {c1 c2:List Value} (h1:Reps W r1 c1) (h2:Reps W r2 c2):Reps W (r1++r2) (c1++c2):=by
 refine⟨by rw [List.length_append,List.length_append,h1.1,h2.1],fun j a hj=>?_⟩
 rw [List.getD_eq_getElem?_getD]
 rcases Nat.lt_or_ge j r1.length with hlt|hge
 ·rw [List.getElem?_append_left hlt] at hj
  rw [List.getElem?_append_left (by rw [h1.1];exact hlt),←List.getD_eq_getElem?_getD]
  exact h1.2 j a hj
 ·rw [List.getElem?_append_right hge] at hj
  rw [List.getElem?_append_right (by rw [h1.1];exact hge),h1.1,←List.getD_eq_getElem?_getD]
  exact h2.2 _ a hj
section
variable {H:Type} {enc:TypeId×Value→H} {P:Program} {W:World}
def Opn (enc:TypeId×Value→H) (P:Program) (W:World) (fuel:Nat) (t:TypeId) {α:Type} (f:α→List A) (sz:α→Nat):Prop :=
 ∀(cs:List Value) (y:DataW H×List MemPlace),DataW.trod enc P W 0 (fun _=>true) true fuel t cs=some y→∃x:α,Reps W (f x) cs∧sz x≤Rows.uptoBulk y.1
theorem reps1 {a:A} {v:Value} (h:RepC W (fun _=>False) a v):Reps W [a] [v]:=⟨rfl,fun j x hj=>by
 cases j with
 | zero=>simp at hj;subst hj;exact h
 | succ j=>simp at hj⟩
theorem Opn.int {fuel:Nat} {t:TypeId} (ht:P.underlying t=some (.int .i64)):Opn enc P W fuel t (fun z:Int=>[.v (.int .i64 z)]) fun _=>1:=by
 intro cs y h
 obtain⟨n,rfl,rfl,_⟩:=DataW.trod_int ht h
 exact⟨n,reps1 (.v _ rfl),Nat.le_refl _⟩
theorem Opn.bool {fuel:Nat} {t:TypeId} (ht:P.underlying t=some .bool):Opn enc P W fuel t (fun z:Bool=>[.v (.bool z)]) fun _=>1:=by
 intro cs y h
 obtain⟨n,rfl,rfl⟩:=DataW.trod_bool ht h
 exact⟨n,reps1 (.v _ rfl),Nat.le_refl _⟩
theorem Opn.str {fuel:Nat} {t:TypeId} (ht:P.underlying t=some .string):Opn enc P W fuel t (fun s:List UInt8=>[.v (.string (bs s))]) fun s=>s.length+1:=by
 intro cs y h
 obtain⟨s,rfl,rfl,_⟩:=DataW.trod_string ht h
 refine⟨s.data.toList,reps1 ?_,?_⟩
 ·have:bs s.data.toList=s:=by cases s;rfl
  rw [this];exact .v _ rfl
 ·simp [Rows.uptoBulk]
theorem qmt {α:Type} (sz:α→Nat):∀(l:List α) (m:List (DataW H)),l.length=m.length→(∀(i:Nat) (x:α) (y:DataW H),l[i]? = some x→m[i]? = some y→sz x≤Rows.uptoBulk y)→qaf sz l≤Rows.uptoBulkAll m
 | [],m,_,_=>Nat.zero_le _
 | x::l,[],h,_=>by simp at h
 | x::l,y::m,h,hq=>by
  have h1:=hq 0 x y rfl rfl
  have h2:=qmt sz l m (by simpa using h) fun i a b ha hb=>hq (i+1) a b (by simpa using ha) (by simpa using hb)
  rw [qaf,Rows.uptoBulkAll];omega
theorem Opn.slice {α:Type} {f:α→List A} {sz:α→Nat} {fuel:Nat} {t e:TypeId} (ht:P.underlying t=some (.slice e)) (hpos:0<P.cellsOf e) (hlen:∀x,(f x).length=P.cellsOf e) (he:∀n,n<fuel→Opn enc P W n e f sz):Opn enc P W fuel t (fun l:List α=>[.sl (l.map f)]) fun l=>qaf sz l+1:=by
 intro cs y h
 rcases DataW.trod_slice ht h with ⟨rfl,rfl⟩|⟨a,len,cap,elems,rest,n,rfl,rfl,rfl,_,hl,hm,hel,hall,_,_⟩
 ·exact⟨[],reps1 (.sl0 none 0),by simp [qaf,Rows.uptoBulk]⟩
 ·have hq:∀i,i<len→∃x:α,∃cs' y',W.cells? 0 (a.add (i*P.cellsOf e)) (P.cellsOf e)=some cs'∧elems[i]? = some y'∧Reps W (f x) cs'∧sz x≤Rows.uptoBulk y'.1:=fun i hi=>by
   have h1:=hall i hi
   rw [List.getElem?_eq_getElem (by omega)] at h1
   obtain⟨cs',hcs,hy⟩:=Option.bind_eq_some_iff.1 h1
   obtain⟨x,hx1,hx2⟩:=he n (by omega) cs' _ hy
   exact⟨x,cs',_,hcs,List.getElem?_eq_getElem (by omega),hx1,hx2⟩
  obtain⟨l,hll,hl2⟩:=qmx _ len hq
  refine⟨l,reps1 ?_,?_⟩
  ·by_cases hnil:l=[]
   ·subst hnil
    simp at hll
    subst hll
    exact .sl0 _ _
   ·obtain⟨b,off,spot⟩:=a
    have cell:∀(i:Nat) (x:α),l[i]? = some x→∃cs',Reps W (f x) cs'∧∀j,j<P.cellsOf e→W.cell? ((⟨b,off,spot⟩:Addr).add (i*P.cellsOf e) |>.add j)=some (cs'.getD j Go.undef):=fun i x hx=>by
     obtain⟨cs',y',h1,_,h2,_⟩:=hl2 i x hx
     refine⟨cs',h2,fun j hj=>?_⟩
     have h3:=(World.cells?_some h1).2.2 j hj
     have h4:cs'[j]? = some (cs'.getD j Go.undef):=by
      rw [List.getD_eq_getElem?_getD,List.getElem?_eq_getElem (by rw [h2.1,hlen];exact hj)];rfl
     rw [h4] at h3
     exact h3
    have hspot:spot=none:=by
     obtain⟨cs',_,h3⟩:=cell 0 _ (List.getElem?_eq_getElem (List.length_pos_iff.2 hnil))
     have:=World.cell?_spot (h3 0 hpos)
     simpa [Addr.add] using this
    subst hspot
    have cell2:∀(i:Nat) (x:α) (j:Nat) (y:A),l[i]? = some x→(f x)[j]? = some y→∃v,W.cell? ⟨b,off+i*P.cellsOf e+j,none⟩=some v∧RepC W (fun _=>False) y v:=fun i x j y hx hy=>by
     obtain⟨cs',h2,h3⟩:=cell i x hx
     have hj:j<P.cellsOf e:=by rw [←hlen x];exact (List.getElem?_eq_some_iff.1 hy).1
     have h4:=h3 j hj
     rw [qko,qko] at h4
     exact⟨_,h4,h2.2 j y hy⟩
    obtain⟨x0,hx0⟩:∃x0,l[0]? = some x0:=⟨_,List.getElem?_eq_getElem (List.length_pos_iff.2 hnil)⟩
    obtain⟨y0,hy0⟩:∃y0,(f x0)[0]? = some y0:=⟨_,List.getElem?_eq_getElem (by rw [hlen];exact hpos)⟩
    obtain⟨v0,hv0,_⟩:=cell2 0 x0 0 y0 hx0 hy0
    have key:=RepC.sl (w:=W) (mu:=fun _=>False) (l.map f) (P.cellsOf e) b off cap (fun i j=>(W.cell? ⟨b,off+i*P.cellsOf e+j,none⟩).getD Go.undef) (qla hv0) (fun h=>h) (by rw [List.length_map];omega) (fun i row hi=>?_) (fun i row j y hi hj=>?_) fun i row j y hi hj=>?_
    ·rw [List.length_map,hll] at key;exact key
    ·rw [List.getElem?_map,Option.map_eq_some_iff] at hi
     obtain⟨x,_,rfl⟩:=hi
     exact hlen x
    ·rw [List.getElem?_map,Option.map_eq_some_iff] at hi
     obtain⟨x,hx,rfl⟩:=hi
     obtain⟨v,hv,_⟩:=cell2 i x j y hx hj
     rw [hv];rfl
    ·rw [List.getElem?_map,Option.map_eq_some_iff] at hi
     obtain⟨x,hx,rfl⟩:=hi
     obtain⟨v,hv,hr⟩:=cell2 i x j y hx hj
     rw [hv];exact hr
  ·show qaf sz l+1≤Rows.uptoBulkAll (elems.map (·.1))+Rows.uptoBulkAll (rest.map (·.1))+1
   have:=qmt sz l (elems.map (·.1)) (by simp;omega) fun i x y hx hy=>by
    obtain⟨cs',y',_,h1,_,h2⟩:=hl2 i x hx
    rw [List.getElem?_map,h1] at hy
    simp at hy
    subst hy
    exact h2
   omega
end
theorem qag {W:World} {r rest:List A} {cs:List Value} {off n off':Nat} (h:Reps W r ((cs.drop off).take n)) (hr:Reps W rest (cs.drop off')) (ho:off+n=off'):Reps W (r++rest) (cs.drop off):=by
 subst ho
 have:=h.app hr
 rwa [←List.drop_drop,List.take_append_drop] at this
theorem qcv {W:World} {cs:List Value} {off:Nat} (h:cs.length=off):Reps W [] (cs.drop off):=by
 subst h
 rw [List.drop_length]
 exact⟨rfl,fun j a hj=>by simp at hj⟩
section
variable {H:Type} {enc:TypeId×Value→H} {W:World}
theorem qd1 (fuel:Nat):Opn enc Tryz.prog W fuel 34 owAt fun _=>1:=by
 intro cs y h
 obtain⟨xs,n,rfl,rfl,hl,hlen,hf⟩:=DataW.trod_struct Tryz.underlying34 h
 rw [show Tryz.prog.cellsOf 34=2 by kernel_rfl] at hl
 match xs,hlen with
 | [y0,y1],_ =>
  have g0:=hf 0 _ rfl
  have g1:=hf 1 _ rfl
  simp only [List.getElem?_cons_zero,List.getElem?_cons_succ,List.getElem_toArray,List.getElem_cons_zero,List.getElem_cons_succ] at g0 g1
  rw [show Tryz.prog.cellsOf 3=1 by kernel_rfl] at g0 g1
  obtain⟨a,ha,_⟩:=Opn.int (P:=Tryz.prog) (W:=W) Tryz.underlying3 _ _ g0
  obtain⟨b,hb,_⟩:=Opn.int (P:=Tryz.prog) (W:=W) Tryz.underlying3 _ _ g1
  have h2:=qag hb (qcv hl) rfl
  have h1:=qag ha h2 rfl
  exact⟨(a,b),h1,by simp [Rows.uptoBulk]⟩
theorem openOwn4 (fuel:Nat):Opn enc Tryz.prog W fuel 35 (fun q:(Int×Int)×(Int×Int)×(Int×Int)×(Int×Int)=>owAt q.1++(owAt q.2.1++(owAt q.2.2.1++(owAt q.2.2.2++[])))) fun _=>1:=by
 intro cs y h
 obtain⟨xs,n,rfl,rfl,hl,hlen,hf⟩:=DataW.trod_array Tryz.underlying35 h
 rw [show Tryz.prog.cellsOf 35=8 by kernel_rfl] at hl
 rw [show Tryz.prog.cellsOf 34=2 by kernel_rfl] at hf
 match xs,hlen with
 | [y0,y1,y2,y3],_ =>
  have g0:=hf 0 (by decide)
  have g1:=hf 1 (by decide)
  have g2:=hf 2 (by decide)
  have g3:=hf 3 (by decide)
  simp only [List.getElem?_cons_zero,List.getElem?_cons_succ] at g0 g1 g2 g3
  obtain⟨a,ha,_⟩:=qd1 _ _ _ g0
  obtain⟨b,hb,_⟩:=qd1 _ _ _ g1
  obtain⟨c,hc,_⟩:=qd1 _ _ _ g2
  obtain⟨d,hd,_⟩:=qd1 _ _ _ g3
  have h4:=qag hd (qcv hl) rfl
  have h3:=qag hc h4 rfl
  have h2:=qag hb h3 rfl
  have h1:=qag ha h2 rfl
  exact⟨(a,b,c,d),h1,by simp [Rows.uptoBulk]⟩
theorem openTy (fuel:Nat):Opn enc Tryz.prog W fuel 37 Ty.at fun t=>t.cls.length+1:=by
 intro cs y h
 obtain⟨xs,n,rfl,rfl,hl,hlen,hf⟩:=DataW.trod_struct Tryz.underlying37 h
 rw [show Tryz.prog.cellsOf 37=11 by kernel_rfl] at hl
 match xs,hlen with
 | [y0,y1,y2,y3],_ =>
  have g0:=hf 0 _ rfl
  have g1:=hf 1 _ rfl
  have g2:=hf 2 _ rfl
  have g3:=hf 3 _ rfl
  simp only [List.getElem?_cons_zero,List.getElem?_cons_succ,List.getElem_toArray,List.getElem_cons_zero,List.getElem_cons_succ] at g0 g1 g2 g3
  rw [show Tryz.prog.cellsOf 3=1 by kernel_rfl] at g0 g2
  rw [show Tryz.prog.cellsOf 9=1 by kernel_rfl] at g1
  rw [show Tryz.prog.cellsOf 35=8 by kernel_rfl] at g3
  obtain⟨k,h0,_⟩:=Opn.int (P:=Tryz.prog) (W:=W) Tryz.underlying3 _ _ g0
  obtain⟨s,h1,hs⟩:=Opn.str (P:=Tryz.prog) (W:=W) Tryz.underlying9 _ _ g1
  obtain⟨m,h2,_⟩:=Opn.int (P:=Tryz.prog) (W:=W) Tryz.underlying3 _ _ g2
  obtain⟨q,h3,_⟩:=openOwn4 _ _ _ g3
  have q3:=qag h3 (qcv hl) rfl
  have q2:=qag h2 q3 rfl
  have q1:=qag h1 q2 rfl
  have q0:=qag h0 q1 rfl
  refine⟨⟨k,s,m,q.1,q.2.1,q.2.2.1,q.2.2.2⟩,q0,?_⟩
  simp only [List.map_cons,List.map_nil,Rows.uptoBulk,Rows.uptoBulkAll] at hs ⊢
  omega
theorem openVr (fuel:Nat):Opn enc Tryz.prog W fuel 74 Vr.at Vr.sz:=by
 intro cs y h
 obtain⟨xs,n,rfl,rfl,hl,hlen,hf⟩:=DataW.trod_struct Tryz.underlying74 h
 rw [show Tryz.prog.cellsOf 74=13 by kernel_rfl] at hl
 match xs,hlen with
 | [y0,y1,y2],_ =>
  have g0:=hf 0 _ rfl
  have g1:=hf 1 _ rfl
  have g2:=hf 2 _ rfl
  simp only [List.getElem?_cons_zero,List.getElem?_cons_succ,List.getElem_toArray,List.getElem_cons_zero,List.getElem_cons_succ] at g0 g1 g2
  rw [show Tryz.prog.cellsOf 3=1 by kernel_rfl] at g2
  rw [show Tryz.prog.cellsOf 9=1 by kernel_rfl] at g0
  rw [show Tryz.prog.cellsOf 37=11 by kernel_rfl] at g1
  obtain⟨s,h0,hs⟩:=Opn.str (P:=Tryz.prog) (W:=W) Tryz.underlying9 _ _ g0
  obtain⟨t,h1,ht⟩:=openTy _ _ _ g1
  obtain⟨m,h2,_⟩:=Opn.int (P:=Tryz.prog) (W:=W) Tryz.underlying3 _ _ g2
  have q2:=qag h2 (qcv hl) rfl
  have q1:=qag h1 q2 rfl
  have q0:=qag h0 q1 rfl
  refine⟨⟨s,t,m⟩,?_,?_⟩
  ·have:Vr.at ⟨s,t,m⟩=[.v (.string (bs s))]++(Ty.at t++([.v (.int .i64 m)]++[])):=by rw [Vr.at,List.append_assoc];rfl
   rw [this];exact q0
  ·simp only [List.map_cons,List.map_nil,Rows.uptoBulk,Rows.uptoBulkAll,Vr.sz] at hs ht ⊢
   omega
theorem Ex.szs_sumOf (l:List Ex):Ex.szs l=qaf Ex.sz l:=by
 induction l with
 | nil=>rfl
 | cons e r ih=>rw [Ex.szs,qaf,ih]
theorem openEx:∀fuel:Nat,Opn enc Tryz.prog W fuel 46 Ex.at Ex.sz:=by
 intro fuel
 induction fuel using Nat.strongRecOn with
 | _ fuel IH =>
 intro cs y h
 obtain⟨xs,n,rfl,rfl,hl,hlen,hf⟩:=DataW.trod_struct Tryz.underlying46 h
 rw [show Tryz.prog.cellsOf 46=4 by kernel_rfl] at hl
 match xs,hlen with
 | [y0,y1,y2,y3],_ =>
  have g0:=hf 0 _ rfl
  have g1:=hf 1 _ rfl
  have g2:=hf 2 _ rfl
  have g3:=hf 3 _ rfl
  simp only [List.getElem?_cons_zero,List.getElem?_cons_succ,List.getElem_toArray,List.getElem_cons_zero,List.getElem_cons_succ] at g0 g1 g2 g3
  rw [show Tryz.prog.cellsOf 3=1 by kernel_rfl] at g0 g1
  rw [show Tryz.prog.cellsOf 9=1 by kernel_rfl] at g2
  rw [show Tryz.prog.cellsOf 44=1 by kernel_rfl] at g3
  obtain⟨k,h0,_⟩:=Opn.int (P:=Tryz.prog) (W:=W) Tryz.underlying3 _ _ g0
  obtain⟨m,h1,_⟩:=Opn.int (P:=Tryz.prog) (W:=W) Tryz.underlying3 _ _ g1
  obtain⟨s,h2,hs⟩:=Opn.str (P:=Tryz.prog) (W:=W) Tryz.underlying9 _ _ g2
  obtain⟨l,h3,hk⟩:=Opn.slice (P:=Tryz.prog) (W:=W) (f:=Ex.at) (sz:=Ex.sz) Tryz.underlying44 (by rw [show Tryz.prog.cellsOf 46=4 by kernel_rfl];decide) (fun x=>by rw [show Tryz.prog.cellsOf 46=4 by kernel_rfl];exact Ex.len x) (fun i hi=>IH i (by omega)) _ _ g3
  have q3:=qag h3 (qcv hl) rfl
  have q2:=qag h2 q3 rfl
  have q1:=qag h1 q2 rfl
  have q0:=qag h0 q1 rfl
  refine⟨⟨k,m,s,l⟩,?_,?_⟩
  ·have:Ex.at ⟨k,m,s,l⟩=[.v (.int .i64 k)]++([.v (.int .i64 m)]++([.v (.string (bs s))]++([.sl (l.map Ex.at)]++[]))):=by simp only [Ex.at,Ex.ats_map];rfl
   rw [this];exact q0
  ·rw [Ex.sz_eq]
   simp only [List.map_cons,List.map_nil,Rows.uptoBulk,Rows.uptoBulkAll,Ex.szs_sumOf] at hs hk ⊢
   omega
end
section
variable {H:Type} {enc:TypeId×Value→H} {W:World}
theorem openSt:∀fuel:Nat,Opn enc Tryz.prog W fuel 48 St.at St.sz:=by
 intro fuel
 induction fuel using Nat.strongRecOn with
 | _ fuel IH =>
 intro cs y h
 obtain⟨xs,n,rfl,rfl,hl,hlen,hf⟩:=DataW.trod_struct Tryz.underlying48 h
 rw [show Tryz.prog.cellsOf 48=23 by kernel_rfl] at hl
 match xs,hlen with
 | [y0,y1,y2,y3,y4,y5,y6,y7,y8,y9],_ =>
  have g0:=hf 0 _ rfl
  have g1:=hf 1 _ rfl
  have g2:=hf 2 _ rfl
  have g3:=hf 3 _ rfl
  have g4:=hf 4 _ rfl
  have g5:=hf 5 _ rfl
  have g6:=hf 6 _ rfl
  have g7:=hf 7 _ rfl
  have g8:=hf 8 _ rfl
  have g9:=hf 9 _ rfl
  simp only [List.getElem?_cons_zero,List.getElem?_cons_succ,List.getElem_toArray,List.getElem_cons_zero,List.getElem_cons_succ] at g0 g1 g2 g3 g4 g5 g6 g7 g8 g9
  rw [show Tryz.prog.cellsOf 46=4 by kernel_rfl] at g5
  rw [show Tryz.prog.cellsOf 44=1 by kernel_rfl] at g6
  rw [show Tryz.prog.cellsOf 38=1 by kernel_rfl] at g7 g8
  rw [show Tryz.prog.cellsOf 37=11 by kernel_rfl] at g4
  rw [show Tryz.prog.cellsOf 3=1 by kernel_rfl] at g0 g9
  rw [show Tryz.prog.cellsOf 9=1 by kernel_rfl] at g1 g2 g3
  obtain⟨v0,h0,b0⟩:=Opn.int (P:=Tryz.prog) (W:=W) Tryz.underlying3 _ _ g0
  obtain⟨v1,h1,b1⟩:=Opn.str (P:=Tryz.prog) (W:=W) Tryz.underlying9 _ _ g1
  obtain⟨v2,h2,b2⟩:=Opn.str (P:=Tryz.prog) (W:=W) Tryz.underlying9 _ _ g2
  obtain⟨v3,h3,b3⟩:=Opn.str (P:=Tryz.prog) (W:=W) Tryz.underlying9 _ _ g3
  obtain⟨v4,h4,b4⟩:=openTy _ _ _ g4
  obtain⟨v5,h5,b5⟩:=openEx _ _ _ g5
  obtain⟨v6,h6,b6⟩:=Opn.slice (P:=Tryz.prog) (W:=W) (f:=Ex.at) (sz:=Ex.sz) Tryz.underlying44 (by rw [show Tryz.prog.cellsOf 46=4 by kernel_rfl];decide) (fun x=>by rw [show Tryz.prog.cellsOf 46=4 by kernel_rfl];exact Ex.len x) (fun i hi=>openEx i) _ _ g6
  obtain⟨v7,h7,b7⟩:=Opn.slice (P:=Tryz.prog) (W:=W) (f:=St.at) (sz:=St.sz) Tryz.underlying38 (by rw [show Tryz.prog.cellsOf 48=23 by kernel_rfl];decide) (fun x=>by rw [show Tryz.prog.cellsOf 48=23 by kernel_rfl];exact St.len x) (fun i hi=>IH i (by omega)) _ _ g7
  obtain⟨v8,h8,b8⟩:=Opn.slice (P:=Tryz.prog) (W:=W) (f:=St.at) (sz:=St.sz) Tryz.underlying38 (by rw [show Tryz.prog.cellsOf 48=23 by kernel_rfl];decide) (fun x=>by rw [show Tryz.prog.cellsOf 48=23 by kernel_rfl];exact St.len x) (fun i hi=>IH i (by omega)) _ _ g8
  obtain⟨v9,h9,b9⟩:=Opn.int (P:=Tryz.prog) (W:=W) Tryz.underlying3 _ _ g9
  have q9:=qag h9 (qcv hl) rfl
  have q8:=qag h8 q9 rfl
  have q7:=qag h7 q8 rfl
  have q6:=qag h6 q7 rfl
  have q5:=qag h5 q6 rfl
  have q4:=qag h4 q5 rfl
  have q3:=qag h3 q4 rfl
  have q2:=qag h2 q3 rfl
  have q1:=qag h1 q2 rfl
  have q0:=qag h0 q1 rfl
  refine⟨⟨v0,v1,v2,v3,v4,v5,v6,v7,v8,v9⟩,?_,?_⟩
  ·have:St.at ⟨v0,v1,v2,v3,v4,v5,v6,v7,v8,v9⟩=[.v (.int .i64 v0)]++([.v (.string (bs v1))]++([.v (.string (bs v2))]++([.v (.string (bs v3))]++(Ty.at v4++(Ex.at v5++([.sl (v6.map Ex.at)]++([.sl (v7.map St.at)]++([.sl (v8.map St.at)]++([.v (.int .i64 v9)]++[]))))))))):=by simp only [St.at,St.ats_map,List.append_assoc,List.cons_append,List.nil_append,List.append_nil]
   rw [this];exact q0
  ·rw [St.sz_eq]
   simp only [List.map_cons,List.map_nil,Rows.uptoBulk,Rows.uptoBulkAll,Ex.szs_sumOf,qb6] at b0 b1 b2 b3 b4 b5 b6 b7 b8 b9 ⊢
   omega
theorem openMe (fuel:Nat):Opn enc Tryz.prog W fuel 40 Me.at Me.sz:=by
 intro cs y h
 obtain⟨xs,n,rfl,rfl,hl,hlen,hf⟩:=DataW.trod_struct Tryz.underlying40 h
 rw [show Tryz.prog.cellsOf 40=17 by kernel_rfl] at hl
 match xs,hlen with
 | [y0,y1,y2,y3,y4,y5,y6],_ =>
  have g0:=hf 0 _ rfl
  have g1:=hf 1 _ rfl
  have g2:=hf 2 _ rfl
  have g3:=hf 3 _ rfl
  have g4:=hf 4 _ rfl
  have g5:=hf 5 _ rfl
  have g6:=hf 6 _ rfl
  simp only [List.getElem?_cons_zero,List.getElem?_cons_succ,List.getElem_toArray,List.getElem_cons_zero,List.getElem_cons_succ] at g0 g1 g2 g3 g4 g5 g6
  rw [show Tryz.prog.cellsOf 38=1 by kernel_rfl] at g5
  rw [show Tryz.prog.cellsOf 37=11 by kernel_rfl] at g2
  rw [show Tryz.prog.cellsOf 29=1 by kernel_rfl] at g3 g4
  rw [show Tryz.prog.cellsOf 4=1 by kernel_rfl] at g1
  rw [show Tryz.prog.cellsOf 3=1 by kernel_rfl] at g6
  rw [show Tryz.prog.cellsOf 9=1 by kernel_rfl] at g0
  obtain⟨v0,h0,b0⟩:=Opn.str (P:=Tryz.prog) (W:=W) Tryz.underlying9 _ _ g0
  obtain⟨v1,h1,b1⟩:=Opn.bool (P:=Tryz.prog) (W:=W) Tryz.underlying4 _ _ g1
  obtain⟨v2,h2,b2⟩:=openTy _ _ _ g2
  obtain⟨v3,h3,b3⟩:=Opn.slice (P:=Tryz.prog) (W:=W) (f:=Vr.at) (sz:=Vr.sz) Tryz.underlying29 (by rw [show Tryz.prog.cellsOf 74=13 by kernel_rfl];decide) (fun x=>by rw [show Tryz.prog.cellsOf 74=13 by kernel_rfl];exact Vr.len x) (fun i hi=>openVr i) _ _ g3
  obtain⟨v4,h4,b4⟩:=Opn.slice (P:=Tryz.prog) (W:=W) (f:=Vr.at) (sz:=Vr.sz) Tryz.underlying29 (by rw [show Tryz.prog.cellsOf 74=13 by kernel_rfl];decide) (fun x=>by rw [show Tryz.prog.cellsOf 74=13 by kernel_rfl];exact Vr.len x) (fun i hi=>openVr i) _ _ g4
  obtain⟨v5,h5,b5⟩:=Opn.slice (P:=Tryz.prog) (W:=W) (f:=St.at) (sz:=St.sz) Tryz.underlying38 (by rw [show Tryz.prog.cellsOf 48=23 by kernel_rfl];decide) (fun x=>by rw [show Tryz.prog.cellsOf 48=23 by kernel_rfl];exact St.len x) (fun i hi=>openSt i) _ _ g5
  obtain⟨v6,h6,b6⟩:=Opn.int (P:=Tryz.prog) (W:=W) Tryz.underlying3 _ _ g6
  have q6:=qag h6 (qcv hl) rfl
  have q5:=qag h5 q6 rfl
  have q4:=qag h4 q5 rfl
  have q3:=qag h3 q4 rfl
  have q2:=qag h2 q3 rfl
  have q1:=qag h1 q2 rfl
  have q0:=qag h0 q1 rfl
  refine⟨⟨v0,v1,v2,v3,v4,v5,v6⟩,?_,?_⟩
  ·have:Me.at ⟨v0,v1,v2,v3,v4,v5,v6⟩=[.v (.string (bs v0))]++([.v (.bool v1)]++(Ty.at v2++([.sl (v3.map Vr.at)]++([.sl (v4.map Vr.at)]++([.sl (v5.map St.at)]++([.v (.int .i64 v6)]++[])))))):=by simp only [Me.at,List.append_assoc,List.cons_append,List.nil_append,List.append_nil]
   rw [this];exact q0
  ·unfold Me.sz
   simp only [List.map_cons,List.map_nil,Rows.uptoBulk,Rows.uptoBulkAll,qb6] at b0 b1 b2 b3 b4 b5 b6 ⊢
   omega
theorem openCs (fuel:Nat):Opn enc Tryz.prog W fuel 32 Cs.at Cs.sz:=by
 intro cs y h
 obtain⟨xs,n,rfl,rfl,hl,hlen,hf⟩:=DataW.trod_struct Tryz.underlying32 h
 rw [show Tryz.prog.cellsOf 32=7 by kernel_rfl] at hl
 match xs,hlen with
 | [y0,y1,y2,y3,y4,y5,y6],_ =>
  have g0:=hf 0 _ rfl
  have g1:=hf 1 _ rfl
  have g2:=hf 2 _ rfl
  have g3:=hf 3 _ rfl
  have g4:=hf 4 _ rfl
  have g5:=hf 5 _ rfl
  have g6:=hf 6 _ rfl
  simp only [List.getElem?_cons_zero,List.getElem?_cons_succ,List.getElem_toArray,List.getElem_cons_zero,List.getElem_cons_succ] at g0 g1 g2 g3 g4 g5 g6
  rw [show Tryz.prog.cellsOf 30=1 by kernel_rfl] at g5
  rw [show Tryz.prog.cellsOf 28=1 by kernel_rfl] at g3
  rw [show Tryz.prog.cellsOf 29=1 by kernel_rfl] at g4
  rw [show Tryz.prog.cellsOf 3=1 by kernel_rfl] at g6
  rw [show Tryz.prog.cellsOf 9=1 by kernel_rfl] at g0 g2
  rw [show Tryz.prog.cellsOf 27=1 by kernel_rfl] at g1
  obtain⟨v0,h0,b0⟩:=Opn.str (P:=Tryz.prog) (W:=W) Tryz.underlying9 _ _ g0
  obtain⟨v1,h1,b1⟩:=Opn.slice (P:=Tryz.prog) (W:=W) (f:=qi5) (sz:=(fun s:List UInt8=>s.length+1)) Tryz.underlying27 (by rw [show Tryz.prog.cellsOf 9=1 by kernel_rfl];decide) (fun x=>by rw [show Tryz.prog.cellsOf 9=1 by kernel_rfl];exact rfl) (fun i hi=>Opn.str (P:=Tryz.prog) (W:=W) Tryz.underlying9) _ _ g1
  obtain⟨v2,h2,b2⟩:=Opn.str (P:=Tryz.prog) (W:=W) Tryz.underlying9 _ _ g2
  obtain⟨v3,h3,b3⟩:=Opn.slice (P:=Tryz.prog) (W:=W) (f:=owAt) (sz:=(fun _=>1)) Tryz.underlying28 (by rw [show Tryz.prog.cellsOf 34=2 by kernel_rfl];decide) (fun x=>by rw [show Tryz.prog.cellsOf 34=2 by kernel_rfl];exact rfl) (fun i hi=>qd1 i) _ _ g3
  obtain⟨v4,h4,b4⟩:=Opn.slice (P:=Tryz.prog) (W:=W) (f:=Vr.at) (sz:=Vr.sz) Tryz.underlying29 (by rw [show Tryz.prog.cellsOf 74=13 by kernel_rfl];decide) (fun x=>by rw [show Tryz.prog.cellsOf 74=13 by kernel_rfl];exact Vr.len x) (fun i hi=>openVr i) _ _ g4
  obtain⟨v5,h5,b5⟩:=Opn.slice (P:=Tryz.prog) (W:=W) (f:=Me.at) (sz:=Me.sz) Tryz.underlying30 (by rw [show Tryz.prog.cellsOf 40=17 by kernel_rfl];decide) (fun x=>by rw [show Tryz.prog.cellsOf 40=17 by kernel_rfl];exact Me.len x) (fun i hi=>openMe i) _ _ g5
  obtain⟨v6,h6,b6⟩:=Opn.int (P:=Tryz.prog) (W:=W) Tryz.underlying3 _ _ g6
  have q6:=qag h6 (qcv hl) rfl
  have q5:=qag h5 q6 rfl
  have q4:=qag h4 q5 rfl
  have q3:=qag h3 q4 rfl
  have q2:=qag h2 q3 rfl
  have q1:=qag h1 q2 rfl
  have q0:=qag h0 q1 rfl
  refine⟨⟨v0,v1,v2,v3,v4,v5,v6⟩,?_,?_⟩
  ·have:Cs.at ⟨v0,v1,v2,v3,v4,v5,v6⟩=[.v (.string (bs v0))]++([.sl (v1.map qi5)]++([.v (.string (bs v2))]++([.sl (v3.map owAt)]++([.sl (v4.map Vr.at)]++([.sl (v5.map Me.at)]++([.v (.int .i64 v6)]++[])))))):=by simp only [Cs.at,List.append_assoc,List.cons_append,List.nil_append,List.append_nil]
   rw [this];exact q0
  ·unfold Cs.sz
   have b3':v3.length≤qaf (fun _:Int×Int=>1) v3:=qav (fun _=>Nat.one_pos) v3
   simp only [List.map_cons,List.map_nil,Rows.uptoBulk,Rows.uptoBulkAll,qb6] at b0 b1 b2 b3 b4 b5 b6 ⊢
   omega
theorem openPr (fuel:Nat):Opn enc Tryz.prog W fuel 22 (fun l:List Cs=>[.sl (l.map Cs.at)]) fun l=>qaf Cs.sz l+1 :=
 Opn.slice Tryz.underlying22 (by rw [show Tryz.prog.cellsOf 32=7 by kernel_rfl];decide) (fun x=>by rw [show Tryz.prog.cellsOf 32=7 by kernel_rfl];exact Cs.len x) fun i _=>openCs i
end
end Go.Proofs.YthkojpnjdpbcgaaGreatDoor
