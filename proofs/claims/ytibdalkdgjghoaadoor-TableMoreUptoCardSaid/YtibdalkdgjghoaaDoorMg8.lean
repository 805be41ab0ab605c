/- A call that is handed one of the caller's own cells and may write it, on plain data. No program in sight. Conditions: none. -/
import Derived.Test.YtibdalkdgjghoaaDoorMg7
set_option linter.unusedVariables false
set_option maxRecDepth 100000
set_option maxHeartbeats 8000000
set_option linter.unusedSimpArgs false
namespace Go.Proofs.YtibdalkdgjghoaaDoor
open Go.RowKit
theorem RepC.same {w:World} {m m':Nat→Prop} (hm:∀b,m' b→m b) {x:A} {u:Value} (h:RepC w m x u):RepC w m' x u :=
 h.mono (Nat.le_refl _) fun b _ hb=>⟨fun _=>rfl,fun h=>hb (hm b h)⟩
def turnV (V:Vw) (b:Nat) (row:List A):Vw:=⟨V.w,fun c=>V.x c∨(V.mine c∧c≠b),[b],[.cell row]⟩
theorem turnV_mut {V:Vw} {b:Nat} {row:List A} (hb:V.mine b) (c:Nat):(turnV V b row).mut c↔V.mut c:=by
 constructor
 ·rintro (h|⟨j,y,h1,h2,h3⟩)
  ·exact h.imp id fun h=>h.1
  ·have:=List.mem_of_getElem? h1
   simp [turnV] at this
   subst this
   exact .inr hb
 ·rintro (h|h)
  ·exact .inl (.inl h)
  ·by_cases hc:c=b
   ·subst hc;exact .inr ⟨0,.cell row,rfl,rfl,rfl⟩
   ·exact .inl (.inr ⟨h,hc⟩)
theorem turn_get {st:List Bx} {i j:Nat} {row row':List A} {y:Bx} (hi:st[i]? = some (.cell row)) (h:(st.set i (.cell row'))[j]? = some y):(j=i∧y=.cell row')∨(j≠i∧st[j]? = some y):=by
 rw [List.getElem?_set] at h
 split at h
 ·rename_i hij
  split at h
  ·injection h with h;exact .inl ⟨hij.symm,h.symm⟩
  ·cases h
 ·rename_i hij
  exact .inr ⟨fun e=>hij e.symm,h⟩
theorem turn_mine {w w':World} {x x':Nat→Prop} {bl:List Nat} {st:List Bx} {i:Nat} {row row':List A} (hi:st[i]? = some (.cell row)) (b:Nat) (h:(⟨w',x',bl,st.set i (.cell row')⟩:Vw).mine b):(⟨w,x,bl,st⟩:Vw).mine b:=by
 obtain⟨j,y,h1,h2,h3⟩:=h
 rcases turn_get hi h2 with ⟨rfl,rfl⟩|⟨_,h2⟩
 ·exact⟨j,.cell row,h1,hi,rfl⟩
 ·exact⟨j,y,h1,h2,h3⟩
theorem turn_ok {V:Vw} (hok:Ok V) {i b:Nat} {row:List A} (hi:V.st[i]? = some (.cell row)) (hb:V.bl[i]? = some b) (hcl:row.all clA=true):Ok (turnV V b row):=by
 have hmine:V.mine b:=⟨i,_,hb,hi,rfl⟩
 have at0:∀{j c:Nat},([b]:List Nat)[j]? = some c→j=0∧c=b:=fun {j c} h=>by
  cases j with
  | zero=>simp at h;exact⟨rfl,h.symm⟩
  | succ j=>simp at h
 refine⟨rfl,fun j c h=>?_,fun c h=>?_,fun w' hs hw=>hok.gd w' hs fun c hlt h1 h2 hic=>hw c hlt (fun h=>?_) (fun h=>?_) hic,fun j c h=>?_,fun j k c y z h1 h2 _ _ _ _=>?_,fun j r c h1 h2=>?_,fun j ver n rows c h1 h2=>?_,fun j kk wd es c h1 h2=>?_⟩
 ·obtain⟨_,rfl⟩:=at0 h;exact hok.lt i _ hb
 ·rcases h with h|⟨⟨j,y,h,_⟩,_⟩
  ·exact hok.xlt c h
  ·exact hok.lt j c h
 ·simp [turnV] at h;subst h;exact h1 (List.mem_of_getElem? hb)
 ·rcases h with h|h
  ·exact h2 h
  ·exact h1 (Vw.mine_mem h.1)
 ·obtain⟨_,rfl⟩:=at0 h;exact hok.isc i _ hb
 ·rw [(at0 h1).1,(at0 h2).1]
 ·obtain⟨rfl,rfl⟩:=at0 h2
  have h1:some (Bx.cell row)=some (.cell r):=h1
  injection h1 with h1;injection h1 with h1;subst h1
  obtain⟨cs,T,k1,k2,k3⟩:=hok.cell i row c hi hb
  exact⟨cs,T,k1,k2,fun j x hj=>.c _ _ (((k3 j x hj).cl (List.all_eq_true.1 hcl x (List.mem_of_getElem? hj))).same fun c h=>(turnV_mut hmine c).1 h)⟩
 ·obtain⟨rfl,rfl⟩:=at0 h2
  cases h1
 ·obtain⟨rfl,rfl⟩:=at0 h2
  cases h1
theorem turn_back {V:Vw} (hok:Ok V) {on:Prop} {Nx:Nat→Prop} {i b:Nat} {row row':List A} {w':World} {x':Nat→Prop} {bl':List Nat} {ex:List Bx} (hi:V.st[i]? = some (.cell row)) (hb:V.bl[i]? = some b) (hcl:row'.all clA=true)
  (hX:StepX True (turnV V b row).x (turnV V b row) ⟨w',x',bl',.cell row'::ex⟩):StepX on Nx V ⟨w',V.x,V.bl,V.st.set i (.cell row')⟩:=by
 have hmine:V.mine b:=⟨i,_,hb,hi,rfl⟩
 have hbl0:bl'[0]? = some b:=by
  have:=(hX.le.cell 0 row' (by show 0<1;omega) rfl).2
  exact this
 have hsz:V.w.heap.size≤w'.heap.size:=hX.fr.size
 have same:∀c,c<V.w.heap.size→c≠b→w'.heap[c]? = V.w.heap[c]?:=fun c hc hne=>hX.fr.block c hc fun h=>by
  rcases h with h|⟨_,h,h'⟩
  ·simp [turnV] at h;exact hne h
  ·exact h' h
 have hmut':∀c,V.mut c→(⟨w',x',bl',.cell row'::ex⟩:Vw).mut c:=fun c hc=>by
  rcases (turnV_mut (row:=row) hmine c).2 hc with h|⟨j,y,h1,h2,h3⟩
  ·exact .inl (hX.xs c h)
  ·have:=List.mem_of_getElem? h1
   simp [turnV] at this
   subst this
   exact .inr ⟨0,.cell row',hbl0,rfl,rfl⟩
 have hmV:∀c,(⟨w',V.x,V.bl,V.st.set i (.cell row')⟩:Vw).mut c→V.mut c:=fun c hc=>by
  rcases hc with h|h
  ·exact .inl h
  ·exact .inr (turn_mine (w:=V.w) (x:=V.x) hi c h)
 have hother:∀(j c:Nat) (y:Bx),j≠i→V.st[j]? = some y→y.live=true→V.bl[j]? = some c→c≠b:=fun j c y hj hy hl hc h=>by
  subst h
  exact hj (hok.inj j i c y _ hc hb hy hi hl rfl)
 have hle:V.Le ⟨w',V.x,V.bl,V.st.set i (.cell row')⟩:=by
  refine⟨by simp,hsz,fun c hc hm=>⟨fun _=>same c hc fun h=>hm (h▸.inr hmine),fun h=>hm (hmV c h)⟩,fun j r _ h=>?_,fun j ver n rows _ h=>?_,fun j kk wd es _ h=>?_⟩
  ·rcases turn_get hi h with ⟨rfl,_⟩|⟨_,h⟩
   ·exact⟨⟨row,hi⟩,rfl⟩
   ·exact⟨⟨r,h⟩,rfl⟩
  ·rcases turn_get hi h with ⟨_,h⟩|⟨hj,h⟩
   ·cases h
   ·exact⟨ver,n,rows,h,.inr ⟨rfl,rfl,rfl,rfl,fun c cs T hc hh=>⟨cs,(same c (hok.lt j c hc) (hother j c _ hj h rfl hc)).trans hh,rfl⟩⟩⟩
  ·rcases turn_get hi h with ⟨_,h⟩|⟨hj,h⟩
   ·cases h
   ·exact⟨⟨kk,wd,es,h⟩,rfl⟩
 refine⟨hle,⟨by simp [hok.len],fun j c h=>by have:=hok.lt j c h;simp only;omega,fun c h=>by have:=hok.xlt c h;simp only;omega,fun w'' hs hw=>hok.gd w'' (by simp only at hs;omega) fun c hlt h1 h2 hic=>?_,fun j c h=>?_,fun j k c y z h1 h2 h3 h4 h5 h6=>?_,fun j r c h1 h2=>?_,fun j ver n rows c h1 h2=>?_,fun j kk wd es c h1 h2=>?_⟩,⟨hX.fr.os,hX.fr.tape,hX.fr.output,hsz,fun c hc hn=>same c hc fun h=>hn (.inl (h▸List.mem_of_getElem? hb))⟩,fun c hc=>.inl hc,fun hs=>hs,fun _ h=>h,fun _ h=>.inl h⟩
 ·have hne:c≠b:=fun h=>h1 (h▸List.mem_of_getElem? hb)
  have hsame:=same c hlt hne
  obtain⟨q,q1,q2⟩:=hic
  exact (hw c (by simp only;omega) h1 h2 ⟨q,hsame.trans q1,q2⟩).trans hsame
 ·by_cases hcb:c=b
  ·subst hcb;exact hX.ok.isc 0 c hbl0
  ·obtain⟨q,q1,q2⟩:=hok.isc j c h
   exact⟨q,(same c (hok.lt j c h) hcb).trans q1,q2⟩
 ·have old:∀{j:Nat} {y:Bx},(V.st.set i (.cell row'))[j]? = some y→y.live=true→∃y',V.st[j]? = some y'∧y'.live=true:=fun {j y} h hl=>by
   rcases turn_get hi h with ⟨rfl,_⟩|⟨_,h⟩
   ·exact⟨_,hi,rfl⟩
   ·exact⟨y,h,hl⟩
  obtain⟨y',p1,p2⟩:=old h3 h5
  obtain⟨z',p3,p4⟩:=old h4 h6
  exact hok.inj j k c y' z' h1 h2 p1 p3 p2 p4
 ·rcases turn_get hi h1 with ⟨rfl,h9⟩|⟨hj,h1⟩
  ·obtain rfl:r=row':=by injection h9
   have hcb:c=b:=by have h2:V.bl[j]? = some c:=h2;rw [hb] at h2;exact (Option.some.inj h2).symm
   subst hcb
   obtain⟨cs,T,k1,k2,k3⟩:=hX.ok.cell 0 r c rfl hbl0
   exact⟨cs,T,k1,k2,fun j x hj=>.c _ _ (((k3 j x hj).cl (List.all_eq_true.1 hcl x (List.mem_of_getElem? hj))).same fun d hd=>hmut' d (hmV d hd))⟩
  ·obtain⟨cs,T,k1,k2,k3⟩:=hok.cell j r c h1 h2
   exact⟨cs,T,(same c (hok.lt j c h2) (hother j c _ hj h1 rfl h2)).trans k1,k2,fun j x hj=>(k3 j x hj).mono hle⟩
 ·rcases turn_get hi h1 with ⟨_,h9⟩|⟨hj,h1⟩
  ·cases h9
  ·obtain⟨cs,T,cc,k1,k2,k3,k4,k5,k6⟩:=hok.arr j ver n rows c h1 h2
   exact⟨cs,T,cc,(same c (hok.lt j c h2) (hother j c _ hj h1 rfl h2)).trans k1,k2,k3,k4,k5,fun k row j x hk hj=>(k6 k row j x hk hj).mono hle.size hle.blk⟩
 ·rcases turn_get hi h1 with ⟨_,h9⟩|⟨hj,h1⟩
  ·cases h9
  ·obtain⟨ms,k1,k2,k3⟩:=hok.map j kk wd es c h1 h2
   exact⟨ms,(same c (hok.lt j c h2) (hother j c _ hj h1 rfl h2)).trans k1,k2,fun q y row hj=>by obtain⟨q1,v,q2,q3⟩:=k3 q y row hj;exact⟨q1,v,q2,q3.mono hle⟩⟩
theorem ptr_inv {V:Vw} {i off:Nat} {u:Value} {row:List A} {b:Nat} (h:RepD V (.a (.ptr i off)) u) (hi:V.st[i]? = some (.cell row)) (hb:V.bl[i]? = some b):u=.pointer (some ⟨b,off,none⟩):=by
 cases h with
 | a _ _ h=>cases h with
  | c _ _ h=>cases h
  | ptr _ _ c hlt hr =>
   have:=hr row hi
   rw [hb] at this;injection this with this;rw [this]
def DT (P:Program) (f:FuncId) (off:Nat) (rest:List D) (row:List A) (d:D) (row':List A):Prop :=
 DG (.none P) f (.a (.ptr 0 off)::rest) [.cell row] .junk fun d1 st1 _=>d1=d∧∃ex,st1=.cell row'::ex
section
variable {P:Program} {C:Cx P} {ops:Array Oper} {r:List Oper} {e:Nat→D} {st:List Bx} {dst:Option Nat} {ty:TypeId} {pos:String} {after:Array Edge} {K:(Nat→D)→List Bx→Prop}
def WS (C:Cx P) (g:D) (st:List Bx) (e:Nat→D) (o:Oper) (d:D) (st':List Bx):Prop:=o.guard=none∧e 1000000=g∧OpX C st e o fun d1 st1 g1=>d1=d∧st1=st'∧g1=g
theorem WS.callT {f:FuncId} {y:Operand} {ys:List Operand} {tys:Array TypeId} {i off:Nat} {row row':List A} {rest:List D} {d:D} {st':List Bx} {g:D} (hy:evO e y=.a (.ptr i off)) (hi:st[i]? = some (.cell row)) (hx:ys.map (evO e)=rest) (hcr:row.all clA=true) (hc:rest.all clD=true) (hg:e 1000000=g)
  (hp:DT P f off rest row d row') (hcr':row'.all clA=true) (hsc:scal d=true) (hst:st.set i (.cell row')=st'):WS C g st e ⟨dst,.call ⟨.value (.func f),⟨y::ys⟩,tys⟩,ty,pos,after,none⟩ d st':=by
 subst hst
 refine⟨rfl,hg,?_⟩
 intro ρ V Nx hVs hok hsep hnx henv hu
 subst hVs
 have hf:ρ (.func f)=.func (.func f) #[] #[]:=fn_inv (hu (.func f) (by simp [usedO,Op.operands,Call.operands]))
 have hrun:(execOp ρ ⟨dst,.call ⟨.value (.func f),⟨y::ys⟩,tys⟩,ty,pos,after,none⟩).run P V.w=.ok (.enter f ((⟨y::ys⟩:Array Operand).map ρ)) V.w:=by
  simp only [execOp,resolve,hf,Deferred.ofValue,Sem.run_bind,Sem.run_pure,Result.andThen_ok,invoke,Array.empty_append,Array.append_empty,hp.1]
 rw [hrun]
 refine⟨rfl,?_⟩
 obtain⟨b,hb⟩:∃b,V.bl[i]? = some b:=⟨_,List.getElem?_eq_getElem (by have:=(List.getElem?_eq_some_iff.1 hi).1;rw [hok.len];exact this)⟩
 have hmine:V.mine b:=⟨i,_,hb,hi,rfl⟩
 have harr:((y::ys).map ρ).toArray=(⟨y::ys⟩:Array Operand).map ρ:=by apply Array.ext';simp
 have okc:=turn_ok hok hi hb hcr
 have hyr:=hu y (by simp [usedO,Op.operands,Call.operands])
 rw [hy] at hyr
 have hpy:=ptr_inv hyr hi hb
 have hcall:=hp.2 (turnV V b row) (turnV V b row).x ((y::ys).map ρ) rfl okc (fun c hc hx=>?_) (fun c hc=>⟨okc.xlt c hc,.inl hc⟩) trivial (by rw [←hx];simp) fun k d' hd=>?_
 ·rw [harr] at hcall
  refine hcall.mono ?_
  rintro en w'' ⟨v,rfl,d1,st1,g1,x1,bl1,⟨rfl,ex,rfl⟩,hX,_,hrep⟩
  have hX2:=turn_back (on:=C.on) (Nx:=Nx) hok hi hb hcr' hX
  refine⟨v,rfl,d1,V.st.set i (.cell row'),g,V.x,V.bl,⟨rfl,rfl,rfl⟩,hX2,?_,hrep.scal hsc⟩
  rw [hg] at henv
  refine henv.frm ⟨hX2.fr.os,hX2.fr.tape,hX2.fr.output,hX2.fr.size,fun c hlt hn=>?_⟩ (fun c hc=>.inl (turn_mine hi c hc)) fun _ h=>h
  refine hX.fr.block c hlt fun h=>?_
  rcases h with h|⟨_,h,h'⟩
  ·simp [turnV] at h;subst h;exact hn (.inl hmine)
  ·exact h' h
 ·simp [turnV] at hc
  subst hc
  rcases hx with h|h
  ·exact hsep c (List.mem_of_getElem? hb) h
  ·exact h.2 rfl
 ·cases k with
  | zero =>
   simp at hd
   subst hd
   have:((y::ys).map ρ).getD 0 Go.undef=ρ y:=rfl
   rw [this,hpy]
   exact .a _ _ (.ptr 0 off b (by show 0<1;omega) fun _ _=>rfl)
  | succ k =>
   rw [List.getElem?_cons_succ] at hd
   have hcd:=List.all_eq_true.1 hc d' (List.mem_of_getElem? hd)
   rw [←hx,List.getElem?_map,Option.map_eq_some_iff] at hd
   obtain⟨z,hz,rfl⟩:=hd
   have hzr:=hu z (by have:=List.mem_of_getElem? hz;simp [usedO,Op.operands,Call.operands];right;right;simpa using this)
   have hget:((y::ys).map ρ).getD (k+1) Go.undef=ρ z:=by
    rw [List.map_cons,List.getD_eq_getElem?_getD,List.getElem?_cons_succ,List.getElem?_map,hz];rfl
   rw [hget]
   exact RepD.ofOut (V:=turnV V b row) (w:=V.w) ((hzr.toOut hcd).lessOut fun c hc=>(turnV_mut hmine c).1 hc)
theorem RS.callT {f:FuncId} {y:Operand} {ys:List Operand} {tys:Array TypeId} {i off:Nat} {row row':List A} {rest:List D} {d:D} {st':List Bx} {g:D} (hy:evO e y=.a (.ptr i off)) (hi:st[i]? = some (.cell row)) (hx:ys.map (evO e)=rest) (hcr:row.all clA=true) (hc:rest.all clD=true) (hg:e 1000000=g)
  (hp:DT P f off rest row d row') (hcr':row'.all clA=true) (hsc:scal d=true) (hst:st.set i (.cell row')=st') (h:RS C ops r (upd (putE e dst d) 1000000 g) st' K):RS C ops (⟨dst,.call ⟨.value (.func f),⟨y::ys⟩,tys⟩,ty,pos,after,none⟩::r) e st K :=
 .inr ⟨trivial,_,(WS.callT hy hi hx hcr hc hg hp hcr' hsc hst).2.2,fun d1 st1 g1 ⟨h1,h2,h3⟩=>by subst h1;subst h2;subst h3;exact h⟩
end
end Go.Proofs.YtibdalkdgjghoaaDoor
