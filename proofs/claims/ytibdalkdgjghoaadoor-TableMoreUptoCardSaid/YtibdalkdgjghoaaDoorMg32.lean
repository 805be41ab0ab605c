/- Chapter 10's example, on plain data. Conditions: at most 2^20 of anything. -/
import Derived.Test.YtibdalkdgjghoaaDoorMg30
import Derived.Test.YtibdalkdgjghoaaDoorMg31
import Derived.Test.YtibdalkdgjghoaaDoorMg17
set_option linter.unusedVariables false
set_option maxRecDepth 100000
set_option maxHeartbeats 8000000
set_option linter.unusedSimpArgs false
namespace Go.Proofs.YtibdalkdgjghoaaDoor
open Go.RowKit
theorem cz0:Cs.at Cs.zero=[.v (.string (bs [])),.sl [],.v (.string (bs [])),.sl [],.sl [],.sl [],.v (.int .i64 0)]:=rfl
def arityI (p:List Cs) (s:List UInt8):Int:=if findI p s<0 then -1 else ((p[(findI p s).toNat]?).map fun c=>(c.params.length:Int)).getD 0
theorem arityI_no {p:List Cs} {s:List UInt8} (h:findI p s = -1):arityI p s = -1:=by unfold arityI;rw [h];rfl
theorem arityI_yes {p:List Cs} {s:List UInt8} {j:Nat} {z:Cs} (h:findI p s=(j:Int)) (hz:p[j]? = some z):arityI p s=(z.params.length:Int):=by
 unfold arityI;rw [h,if_neg (by omega),Int.toNat_natCast,hz];rfl
theorem ptArity (p:List Cs) (s:List UInt8) (hn:p.length≤2097152):DPure Tryd.prog 9 [.a (.sl (p.map Cs.at)),.a (.v (.string (bs s)))] (.a (.v (.int .i64 (arityI p s)))):=by
 rcases findI_get p s with hf|⟨j,z,hz,hzn,hf⟩
 ·rw [arityI_no hf]
  refine DPure.go Tryd.func9 rfl Tryd.ntmps9 rfl rfl rfl (fun C hro=>?_)
  have fx:=trivial
  replace fx:=And.intro hf trivial
  repeat' (first|refine stp [0,1,4,5,10] ?_|(refine RS.lC ?_;refine rnx ?_)|(refine RS.xC ?_;refine rnx ?_)|(refine stc (r1:=by exact ptFind p s hn) (r2:=?_);refine rnx ?_)|refine WP.cn (fun hc=>?_) (fun hc=>?_)|fail)
  all_goals rfl
 ·rw [arityI_yes hf hz]
  have hj0:decide ((j:Int)<0)=false:=decide_eq_false (by omega)
  have hjx:∀q2,ixD (some 7) q2 (.a (.sl (p.map Cs.at))) (.a (.v (.int .i64 (j:Int))))=some (.a (.ref (Cs.at z) 0)):=fun q2=>ixD_at rfl (by rw [List.getElem?_map,hz];rfl) (by simp only [go_sem])
  refine DPure.go Tryd.func9 rfl Tryd.ntmps9 rfl rfl rfl (fun C hro=>?_)
  have fx:=trivial
  replace fx:=And.intro hf (And.intro hj0 (And.intro hjx trivial))
  repeat' (first|refine stp [0,1,4,5,10] ?_|(refine RS.lC ?_;refine rnx ?_)|(refine RS.xC ?_;refine rnx ?_)|(refine stc (r1:=by exact ptFind p s hn) (r2:=?_);refine rnx ?_)|refine WP.cn (fun hc=>?_) (fun hc=>?_)|fail)
  all_goals first|rfl|simp only [List.length_map]
def csN (c:UInt8):Cs:=⟨[c],[],[],[],[],[],0⟩
theorem eqF:eqR false (some [1,1]) [.v (.int .i64 8),.v (.int .i64 0)] [.v (.int .i64 8),.v (.int .i64 0)]=some (.a (.v (.bool true))):=by simp [eqR,plainR,okLs,eqLs,okC,eqV]
theorem ptFindA:DPure Tryd.prog 8 [.a (.sl ([csN 65,csN 66].map Cs.at)),.a (.v (.string (bs [66])))] (.a (.v (.int .i64 1))):=ptFind [csN 65,csN 66] [66] (by decide)
theorem pAwake13:DPure Tryd.prog 7 [] (.a (.v (.bool true))):=by
 refine DPure.go Tryd.func7 rfl Tryd.ntmps7 rfl rfl rfl (fun C hro=>?_)
 have fx:=trivial
 have hcz:=cz0
 have heq:=eqF
 replace fx:=And.intro hcz (And.intro heq trivial)
 repeat' (first|refine WP.seq ?_|(refine WP.rg [0] ?_;simp only [RSr_mk])|refine RS.fnT ?_|(refine RS.fn ?_;try simp only [thenQ_n,blockQ_n])|(refine RS.ls ?_;refine RS.rn ?_;simp only [RSr_mk])|(refine RS.cl (hp:=by first|exact ptCheckA|exact ptFindA) (h:=?_);refine RS.rn ?_;simp only [RSr_mk])|(refine WP.ret ?_;(try simp only [thenQ_r,blockQ_r]);refine ret3 ?_))
 all_goals rfl
def mpS (L:List (List UInt8×Int)):List (Value×List A):=L.map fun p=>(.string (bs p.1),[.v (.int .i64 p.2)])
theorem mpS_nr (m:Nat) (L:List (List UInt8×Int)):((mpS L).all fun e=>e.2.all (nrA m))=true:=by
 unfold mpS;rw [List.all_map,List.all_eq_true];intro p _;rfl
attribute [go_sem] mpS_nr
@[go_sem] theorem mpS_unB {σ:List Nat} {L:List (List UInt8×Int)}:unB σ (.map .str false (mpS L))=.map .str false (mpS L):=by
 unfold mpS unB
 dsimp only
 rw [List.map_map];rfl
@[go_sem] theorem mpS_rnB {σ:List Nat} {L:List (List UInt8×Int)}:rnB σ (.map .str false (mpS L))=.map .str false (mpS L):=by
 unfold mpS rnB
 dsimp only
 rw [List.map_map];rfl
@[go_sem] theorem mpS_inB {σ:List Nat} {L:List (List UInt8×Int)}:inB σ (.map .str false (mpS L))=true:=by
 unfold mpS inB
 dsimp only
 rw [List.all_map,List.all_eq_true];intro p _;rfl
theorem kEq_bs (s t:List UInt8):kEq (.string (bs s)) (.string (bs t))=(t==s):=by
 simp only [kEq,bs_toList]
 rw [Bool.eq_iff_iff,beq_iff_eq,beq_iff_eq];exact eq_comm
def hasI (L:List (List UInt8×Int)) (s:List UInt8):Bool:=L.any fun p=>p.1==s
def lkI (L:List (List UInt8×Int)) (s:List UInt8):Int:=((L.find? fun p=>p.1==s).map (·.2)).getD 0
def putI:List (List UInt8×Int)→List UInt8→Int→List (List UInt8×Int)
 | [],s,v=>[(s,v)]
 | p::r,s,v=>if (p.1==s)=true then (p.1,v)::r else p::putI r s v
theorem mpS_has (L:List (List UInt8×Int)) (s:List UInt8):mhas (mpS L) (.string (bs s))=hasI L s:=by
 unfold mhas mpS hasI
 rw [List.any_map];congr 1;funext p;exact kEq_bs s p.1
theorem mpS_val (L:List (List UInt8×Int)) (s:List UInt8):mval (mpS L) (.string (bs s)) [.v (.int .i64 0)]=[.v (.int .i64 (lkI L s))]:=by
 unfold mval lkI
 induction L with
 | nil=>rfl
 | cons p r ih =>
  unfold mpS at ih ⊢
  rw [List.map_cons,List.find?_cons,List.find?_cons]
  dsimp only
  rw [kEq_bs]
  cases p.1==s with
  | true=>rfl
  | false=>exact ih
theorem mput_c (p:Value×List A) (es:List (Value×List A)) (kv:Value) (row:List A):mput (p::es) kv row=if kEq kv p.1=true then (p.1,row)::es else p::mput es kv row:=by
 unfold mput ment mix mhas
 rw [List.any_cons,List.findIdx_cons]
 cases kEq kv p.1 with
 | true=>rfl
 | false =>
  rw [Bool.false_or,if_neg Bool.false_ne_true]
  dsimp only [cond_false]
  split<;>rfl
theorem mpS_put (L:List (List UInt8×Int)) (s:List UInt8) (v:Int):mput (mpS L) (.string (bs s)) [.v (.int .i64 v)]=mpS (putI L s v):=by
 induction L with
 | nil=>rfl
 | cons p r ih =>
  show mput ((.string (bs p.1),[.v (.int .i64 p.2)])::mpS r) _ _=_
  rw [mput_c,ih,putI]
  dsimp only
  rw [kEq_bs]
  split<;>rfl
def ones (l:List (List UInt8)):List (List UInt8×Int):=l.map fun s=>(s,1)
theorem lk_ones (l:List (List UInt8)) (s:List UInt8):lkI (ones l) s=if (l.any fun x=>x==s)=true then 1 else 0:=by
 unfold lkI ones
 induction l with
 | nil=>rfl
 | cons x r ih =>
  rw [List.map_cons,List.find?_cons,List.any_cons]
  cases hx:x==s with
  | true=>rw [Bool.true_or,if_pos rfl];rfl
  | false=>rw [Bool.false_or];exact ih
theorem put_ones {l:List (List UInt8)} {s:List UInt8} (h:(l.any fun x=>x==s)=false):putI (ones l) s 1=ones (l++[s]):=by
 unfold ones
 induction l with
 | nil=>rfl
 | cons x r ih =>
  rw [List.any_cons,Bool.or_eq_false_iff] at h
  rw [List.map_cons,putI,h.1,if_neg Bool.false_ne_true,ih h.2];rfl
def fdup (seen:List (List UInt8)):List (List UInt8)→Nat→Int
 | [],_=>-1
 | x::r,k=>if (seen.any fun y=>y==x)=true then (k:Int) else fdup (seen++[x]) r (k+1)
def dupB (l:List (List UInt8)):Bool:=decide (fdup [] l 0≥0)
theorem ptOnce (L:List (List UInt8×Int)) (s:List UInt8) (v:Int) (hw:IntKind.i64.wrap (lkI L s+1)=v):DM Tryd.prog 31 [.a (.mp 0),.a (.v (.string (bs s)))] [.map .str false (mpS L)] (.a (.v (.bool (v==1)))) [.map .str false (mpS (putI L s v))]:=by
 have hv:=mpS_val L s
 have hp:=mpS_put L s v
 have hnr:=mpS_nr 1 (putI L s v)
 have hv2:mval (mpS (putI L s v)) (.string (bs s)) [.v (.int .i64 0)]=[.v (.int .i64 v)]:=by
  rw [mpS_val]
  have:lkI (putI L s v) s=v:=by
   clear hv hp hw hnr
   unfold lkI
   induction L with
   | nil=>rw [putI,List.find?_cons];simp
   | cons p r ih =>
    rw [putI]
    split
    ·rename_i h;rw [List.find?_cons];dsimp only;rw [h];rfl
    ·rename_i h;rw [List.find?_cons]
     simp only [Bool.not_eq_true] at h
     rw [h];exact ih
  rw [this]
 refine DM.intro Tryd.func31 rfl Tryd.ntmps31 rfl rfl rfl (by simp only [go_sem,simprocAttr,hnr]) (fun V0 Kb Nx=>?_)
 have fx:=trivial
 replace fx:=And.intro hv (And.intro hp (And.intro hv2 (And.intro hw trivial)))
 repeat' (first|refine stp [0,1,4] ?_|(refine RS.mU ?_;refine rnx ?_)|(refine RS.lk ?_;refine rnx ?_)|fail)
 exact retM1 ⟨rfl,[],rfl⟩
structure Nt where
 c:Int
 m:Int
 v:Int
 t:Ty
 a:Int
def Nt.at:Nt→List A
 | ⟨c,m,v,t,a⟩=>[.v (.int .i64 c),.v (.int .i64 m),.v (.int .i64 v)]++Ty.at t++[.v (.int .i64 a)]
section
variable (s:Nt)
theorem Nt.row:Nt.at s=[.v (.int .i64 s.c),.v (.int .i64 s.m),.v (.int .i64 s.v),.v (.int .i64 s.t.kind),.v (.string (bs s.t.cls)),.v (.int .i64 s.t.n),.v (.int .i64 s.t.o0.1),.v (.int .i64 s.t.o0.2),.v (.int .i64 s.t.o1.1),.v (.int .i64 s.t.o1.2),.v (.int .i64 s.t.o2.1),.v (.int .i64 s.t.o2.2),.v (.int .i64 s.t.o3.1),.v (.int .i64 s.t.o3.2),.v (.int .i64 s.a)]:=by obtain⟨c,m,v,⟨t_kind,t_cls,t_n,t_o0,t_o1,t_o2,t_o3⟩,a⟩:=s;simp only [Nt.at,Ty.at];rfl
@[go_sem] theorem Nt.len:(Nt.at s).length=15:=by rw [Nt.row];rfl
@[go_sem] theorem Nt.cl:(Nt.at s).all clA=true:=by rw [Nt.row];rfl
@[go_sem] theorem Nt.see (st:List Bx):(Nt.at s).map (seeA st)=Nt.at s:=by rw [Nt.row];rfl
@[go_sem] theorem Nt.nr (m:Nat):(Nt.at s).all (nrA m)=true:=by rw [Nt.row];rfl
@[go_sem] theorem Nt.w:ldRow (some 15) (Nt.at s) 0=some (.r (Nt.at s)):=ldRow_all (Nt.len s)
@[go_sem] theorem Nt.pw (t:Nt):putRow (Nt.at s) 0 (Nt.at t)=Nt.at t:=putRow_all (by rw [Nt.len,Nt.len])
@[go_sem] theorem Nt.g0:ldRow none (Nt.at s) 0=some (.a (.v (.int .i64 s.c))):=by rw [Nt.row];rfl
@[go_sem] theorem Nt.g1:ldRow none (Nt.at s) 1=some (.a (.v (.int .i64 s.m))):=by rw [Nt.row];rfl
@[go_sem] theorem Nt.g2:ldRow none (Nt.at s) 2=some (.a (.v (.int .i64 s.v))):=by rw [Nt.row];rfl
@[go_sem] theorem Nt.g3:ldRow none (Nt.at s) 3=some (.a (.v (.int .i64 s.t.kind))):=by rw [Nt.row];rfl
@[go_sem] theorem Nt.g4:ldRow none (Nt.at s) 4=some (.a (.v (.string (bs s.t.cls)))):=by rw [Nt.row];rfl
@[go_sem] theorem Nt.g5:ldRow none (Nt.at s) 5=some (.a (.v (.int .i64 s.t.n))):=by rw [Nt.row];rfl
@[go_sem] theorem Nt.g6:ldRow none (Nt.at s) 6=some (.a (.v (.int .i64 s.t.o0.1))):=by rw [Nt.row];rfl
@[go_sem] theorem Nt.g7:ldRow none (Nt.at s) 7=some (.a (.v (.int .i64 s.t.o0.2))):=by rw [Nt.row];rfl
@[go_sem] theorem Nt.g8:ldRow none (Nt.at s) 8=some (.a (.v (.int .i64 s.t.o1.1))):=by rw [Nt.row];rfl
@[go_sem] theorem Nt.g9:ldRow none (Nt.at s) 9=some (.a (.v (.int .i64 s.t.o1.2))):=by rw [Nt.row];rfl
@[go_sem] theorem Nt.g10:ldRow none (Nt.at s) 10=some (.a (.v (.int .i64 s.t.o2.1))):=by rw [Nt.row];rfl
@[go_sem] theorem Nt.g11:ldRow none (Nt.at s) 11=some (.a (.v (.int .i64 s.t.o2.2))):=by rw [Nt.row];rfl
@[go_sem] theorem Nt.g12:ldRow none (Nt.at s) 12=some (.a (.v (.int .i64 s.t.o3.1))):=by rw [Nt.row];rfl
@[go_sem] theorem Nt.g13:ldRow none (Nt.at s) 13=some (.a (.v (.int .i64 s.t.o3.2))):=by rw [Nt.row];rfl
@[go_sem] theorem Nt.g14:ldRow none (Nt.at s) 14=some (.a (.v (.int .i64 s.a))):=by rw [Nt.row];rfl
@[go_sem] theorem Nt.s3:ldRow (some 11) (Nt.at s) 3=some (.r (Ty.at s.t)):=by obtain⟨c,m,v,⟨t_kind,t_cls,t_n,t_o0,t_o1,t_o2,t_o3⟩,a⟩:=s;simp only [Nt.at,Ty.at];rfl
@[go_sem] theorem Nt.p_c (z:Int):putRow (Nt.at s) 0 ([.v (.int .i64 z)])=Nt.at { s with c:=z }:=by obtain⟨c,m,v,⟨t_kind,t_cls,t_n,t_o0,t_o1,t_o2,t_o3⟩,a⟩:=s;simp only [Nt.at,Ty.at];rfl
@[go_sem] theorem Nt.p_m (z:Int):putRow (Nt.at s) 1 ([.v (.int .i64 z)])=Nt.at { s with m:=z }:=by obtain⟨c,m,v,⟨t_kind,t_cls,t_n,t_o0,t_o1,t_o2,t_o3⟩,a⟩:=s;simp only [Nt.at,Ty.at];rfl
@[go_sem] theorem Nt.p_v (z:Int):putRow (Nt.at s) 2 ([.v (.int .i64 z)])=Nt.at { s with v:=z }:=by obtain⟨c,m,v,⟨t_kind,t_cls,t_n,t_o0,t_o1,t_o2,t_o3⟩,a⟩:=s;simp only [Nt.at,Ty.at];rfl
@[go_sem] theorem Nt.p_t (z:Ty):putRow (Nt.at s) 3 (Ty.at z)=Nt.at { s with t:=z }:=by obtain⟨z_kind,z_cls,z_n,z_o0,z_o1,z_o2,z_o3⟩:=z;obtain⟨c,m,v,⟨t_kind,t_cls,t_n,t_o0,t_o1,t_o2,t_o3⟩,a⟩:=s;simp only [Nt.at,Ty.at];rfl
@[go_sem] theorem Nt.p_a (z:Int):putRow (Nt.at s) 14 ([.v (.int .i64 z)])=Nt.at { s with a:=z }:=by obtain⟨c,m,v,⟨t_kind,t_cls,t_n,t_o0,t_o1,t_o2,t_o3⟩,a⟩:=s;simp only [Nt.at,Ty.at];rfl
end
def Nt.zero:Nt:=⟨0,0,0,Ty.zero,0⟩
theorem Nt.z0:[A.v (.int .i64 0),.v (.int .i64 0),.v (.int .i64 0),.v (.int .i64 0),.v (.string ⟨#[]⟩),.v (.int .i64 0),.v (.int .i64 0),.v (.int .i64 0),.v (.int .i64 0),.v (.int .i64 0),.v (.int .i64 0),.v (.int .i64 0),.v (.int .i64 0),.v (.int .i64 0),.v (.int .i64 0)]=Nt.at Nt.zero:=by unfold Nt.zero;simp only [Nt.at,Ty.zero,Ty.at];rfl
structure Ln where
 c:Int
 m:Int
 d:Int
 s:St
def Ln.at:Ln→List A
 | ⟨c,m,d,s⟩=>[.v (.int .i64 c),.v (.int .i64 m),.v (.int .i64 d)]++St.at s
section
variable (s:Ln)
theorem Ln.row:Ln.at s=[.v (.int .i64 s.c),.v (.int .i64 s.m),.v (.int .i64 s.d),.v (.int .i64 s.s.kind),.v (.string (bs s.s.x)),.v (.string (bs s.s.y)),.v (.string (bs s.s.name)),.v (.int .i64 s.s.ty.kind),.v (.string (bs s.s.ty.cls)),.v (.int .i64 s.s.ty.n),.v (.int .i64 s.s.ty.o0.1),.v (.int .i64 s.s.ty.o0.2),.v (.int .i64 s.s.ty.o1.1),.v (.int .i64 s.s.ty.o1.2),.v (.int .i64 s.s.ty.o2.1),.v (.int .i64 s.s.ty.o2.2),.v (.int .i64 s.s.ty.o3.1),.v (.int .i64 s.s.ty.o3.2),.v (.int .i64 s.s.e.kind),.v (.int .i64 s.s.e.num),.v (.string (bs s.s.e.name)),.sl (s.s.e.kids.map Ex.at),.sl (s.s.args.map Ex.at),.sl (s.s.body.map St.at),.sl (s.s.els.map St.at),.v (.int .i64 s.s.at_)]:=by obtain⟨c,m,d,⟨s_kind,s_x,s_y,s_name,⟨s_ty_kind,s_ty_cls,s_ty_n,s_ty_o0,s_ty_o1,s_ty_o2,s_ty_o3⟩,⟨s_e_kind,s_e_num,s_e_name,s_e_kids⟩,s_args,s_body,s_els,s_at_⟩⟩:=s;simp only [Ln.at,St.at,Ty.at,Ex.at,St.ats_map,Ex.ats_map];rfl
@[go_sem] theorem Ln.len:(Ln.at s).length=26:=by rw [Ln.row];rfl
@[go_sem] theorem Ln.cl:(Ln.at s).all clA=true:=by rw [Ln.row];rfl
@[go_sem] theorem Ln.see (st:List Bx):(Ln.at s).map (seeA st)=Ln.at s:=by rw [Ln.row];rfl
@[go_sem] theorem Ln.nr (m:Nat):(Ln.at s).all (nrA m)=true:=by rw [Ln.row];rfl
@[go_sem] theorem Ln.w:ldRow (some 26) (Ln.at s) 0=some (.r (Ln.at s)):=ldRow_all (Ln.len s)
@[go_sem] theorem Ln.pw (t:Ln):putRow (Ln.at s) 0 (Ln.at t)=Ln.at t:=putRow_all (by rw [Ln.len,Ln.len])
@[go_sem] theorem Ln.g0:ldRow none (Ln.at s) 0=some (.a (.v (.int .i64 s.c))):=by rw [Ln.row];rfl
@[go_sem] theorem Ln.g1:ldRow none (Ln.at s) 1=some (.a (.v (.int .i64 s.m))):=by rw [Ln.row];rfl
@[go_sem] theorem Ln.g2:ldRow none (Ln.at s) 2=some (.a (.v (.int .i64 s.d))):=by rw [Ln.row];rfl
@[go_sem] theorem Ln.g3:ldRow none (Ln.at s) 3=some (.a (.v (.int .i64 s.s.kind))):=by rw [Ln.row];rfl
@[go_sem] theorem Ln.g4:ldRow none (Ln.at s) 4=some (.a (.v (.string (bs s.s.x)))):=by rw [Ln.row];rfl
@[go_sem] theorem Ln.g5:ldRow none (Ln.at s) 5=some (.a (.v (.string (bs s.s.y)))):=by rw [Ln.row];rfl
@[go_sem] theorem Ln.g6:ldRow none (Ln.at s) 6=some (.a (.v (.string (bs s.s.name)))):=by rw [Ln.row];rfl
@[go_sem] theorem Ln.g7:ldRow none (Ln.at s) 7=some (.a (.v (.int .i64 s.s.ty.kind))):=by rw [Ln.row];rfl
@[go_sem] theorem Ln.g8:ldRow none (Ln.at s) 8=some (.a (.v (.string (bs s.s.ty.cls)))):=by rw [Ln.row];rfl
@[go_sem] theorem Ln.g9:ldRow none (Ln.at s) 9=some (.a (.v (.int .i64 s.s.ty.n))):=by rw [Ln.row];rfl
@[go_sem] theorem Ln.g10:ldRow none (Ln.at s) 10=some (.a (.v (.int .i64 s.s.ty.o0.1))):=by rw [Ln.row];rfl
@[go_sem] theorem Ln.g11:ldRow none (Ln.at s) 11=some (.a (.v (.int .i64 s.s.ty.o0.2))):=by rw [Ln.row];rfl
@[go_sem] theorem Ln.g12:ldRow none (Ln.at s) 12=some (.a (.v (.int .i64 s.s.ty.o1.1))):=by rw [Ln.row];rfl
@[go_sem] theorem Ln.g13:ldRow none (Ln.at s) 13=some (.a (.v (.int .i64 s.s.ty.o1.2))):=by rw [Ln.row];rfl
@[go_sem] theorem Ln.g14:ldRow none (Ln.at s) 14=some (.a (.v (.int .i64 s.s.ty.o2.1))):=by rw [Ln.row];rfl
@[go_sem] theorem Ln.g15:ldRow none (Ln.at s) 15=some (.a (.v (.int .i64 s.s.ty.o2.2))):=by rw [Ln.row];rfl
@[go_sem] theorem Ln.g16:ldRow none (Ln.at s) 16=some (.a (.v (.int .i64 s.s.ty.o3.1))):=by rw [Ln.row];rfl
@[go_sem] theorem Ln.g17:ldRow none (Ln.at s) 17=some (.a (.v (.int .i64 s.s.ty.o3.2))):=by rw [Ln.row];rfl
@[go_sem] theorem Ln.g18:ldRow none (Ln.at s) 18=some (.a (.v (.int .i64 s.s.e.kind))):=by rw [Ln.row];rfl
@[go_sem] theorem Ln.g19:ldRow none (Ln.at s) 19=some (.a (.v (.int .i64 s.s.e.num))):=by rw [Ln.row];rfl
@[go_sem] theorem Ln.g20:ldRow none (Ln.at s) 20=some (.a (.v (.string (bs s.s.e.name)))):=by rw [Ln.row];rfl
@[go_sem] theorem Ln.g21:ldRow none (Ln.at s) 21=some (.a (.sl (s.s.e.kids.map Ex.at))):=by rw [Ln.row];rfl
@[go_sem] theorem Ln.g22:ldRow none (Ln.at s) 22=some (.a (.sl (s.s.args.map Ex.at))):=by rw [Ln.row];rfl
@[go_sem] theorem Ln.g23:ldRow none (Ln.at s) 23=some (.a (.sl (s.s.body.map St.at))):=by rw [Ln.row];rfl
@[go_sem] theorem Ln.g24:ldRow none (Ln.at s) 24=some (.a (.sl (s.s.els.map St.at))):=by rw [Ln.row];rfl
@[go_sem] theorem Ln.g25:ldRow none (Ln.at s) 25=some (.a (.v (.int .i64 s.s.at_))):=by rw [Ln.row];rfl
@[go_sem] theorem Ln.s3:ldRow (some 23) (Ln.at s) 3=some (.r (St.at s.s)):=by obtain⟨c,m,d,⟨s_kind,s_x,s_y,s_name,⟨s_ty_kind,s_ty_cls,s_ty_n,s_ty_o0,s_ty_o1,s_ty_o2,s_ty_o3⟩,⟨s_e_kind,s_e_num,s_e_name,s_e_kids⟩,s_args,s_body,s_els,s_at_⟩⟩:=s;simp only [Ln.at,St.at,Ty.at,Ex.at,St.ats_map,Ex.ats_map];rfl
@[go_sem] theorem Ln.s7:ldRow (some 11) (Ln.at s) 7=some (.r (Ty.at s.s.ty)):=by obtain⟨c,m,d,⟨s_kind,s_x,s_y,s_name,⟨s_ty_kind,s_ty_cls,s_ty_n,s_ty_o0,s_ty_o1,s_ty_o2,s_ty_o3⟩,⟨s_e_kind,s_e_num,s_e_name,s_e_kids⟩,s_args,s_body,s_els,s_at_⟩⟩:=s;simp only [Ln.at,St.at,Ty.at,Ex.at,St.ats_map,Ex.ats_map];rfl
@[go_sem] theorem Ln.s18:ldRow (some 4) (Ln.at s) 18=some (.r (Ex.at s.s.e)):=by obtain⟨c,m,d,⟨s_kind,s_x,s_y,s_name,⟨s_ty_kind,s_ty_cls,s_ty_n,s_ty_o0,s_ty_o1,s_ty_o2,s_ty_o3⟩,⟨s_e_kind,s_e_num,s_e_name,s_e_kids⟩,s_args,s_body,s_els,s_at_⟩⟩:=s;simp only [Ln.at,St.at,Ty.at,Ex.at,St.ats_map,Ex.ats_map];rfl
@[go_sem] theorem Ln.p_d (z:Int):putRow (Ln.at s) 2 ([.v (.int .i64 z)])=Ln.at { s with d:=z }:=by obtain⟨c,m,d,⟨s_kind,s_x,s_y,s_name,⟨s_ty_kind,s_ty_cls,s_ty_n,s_ty_o0,s_ty_o1,s_ty_o2,s_ty_o3⟩,⟨s_e_kind,s_e_num,s_e_name,s_e_kids⟩,s_args,s_body,s_els,s_at_⟩⟩:=s;simp only [Ln.at,St.at,Ty.at,Ex.at,St.ats_map,Ex.ats_map];rfl
@[go_sem] theorem Ln.p_s (z:St):putRow (Ln.at s) 3 (St.at z)=Ln.at { s with s:=z }:=by obtain⟨z_kind,z_x,z_y,z_name,⟨z_ty_kind,z_ty_cls,z_ty_n,z_ty_o0,z_ty_o1,z_ty_o2,z_ty_o3⟩,⟨z_e_kind,z_e_num,z_e_name,z_e_kids⟩,z_args,z_body,z_els,z_at_⟩:=z;obtain⟨c,m,d,⟨s_kind,s_x,s_y,s_name,⟨s_ty_kind,s_ty_cls,s_ty_n,s_ty_o0,s_ty_o1,s_ty_o2,s_ty_o3⟩,⟨s_e_kind,s_e_num,s_e_name,s_e_kids⟩,s_args,s_body,s_els,s_at_⟩⟩:=s;simp only [Ln.at,St.at,Ty.at,Ex.at,St.ats_map,Ex.ats_map];rfl
end
mutual
def St.ln (d:Int):St→List (Int×St)
 | ⟨kind,x,y,name,ty,e,args,body,els,at_⟩=>(d,⟨kind,x,y,name,ty,e,args,body,els,at_⟩)::(St.lns (d+1) body++St.lns (d+1) els)
def St.lns (d:Int):List St→List (Int×St)
 | []=>[]
 | s::r=>St.ln d s++St.lns d r
end
theorem St.ln_eq (d:Int) (s:St):s.ln d=(d,s)::(St.lns (d+1) s.body++St.lns (d+1) s.els):=by cases s;rfl
theorem St.lns_cons (d:Int) (s:St) (r:List St):St.lns d (s::r)=((d,s)::(St.lns (d+1) s.body++St.lns (d+1) s.els))++St.lns d r:=by rw [St.lns,St.ln_eq]
theorem St.lns_app (d:Int) (l m:List St):St.lns d (l++m)=St.lns d l++St.lns d m:=by
 induction l with
 | nil=>rfl
 | cons x l ih=>rw [List.cons_append,St.lns,St.lns,ih,List.append_assoc]
theorem St.lns_len:∀(n:Nat) (l:List St) (d:Int),St.szs l≤n→(St.lns d l).length≤St.szs l
 | n,[],d,_=>Nat.zero_le _
 | n,s::r,d,h=>by
  have hz:s.sz+St.szs r=St.szs (s::r):=by rw [St.szs]
  have hb:=St.sz_eq s
  rw [St.lns_cons,List.length_append,List.length_cons,List.length_append]
  cases n with
  | zero=>have:=St.sz_pos s;omega
  | succ n =>
   have h1:=St.lns_len n s.body (d+1) (by omega)
   have h2:=St.lns_len n s.els (d+1) (by omega)
   have h3:=St.lns_len (n+1-s.sz) r d (by omega)
   omega
 termination_by n l=>(n,l.length)
structure Sp where
 row:List A
 off:Nat
 t:Ty
 b:Bool
 n:Nt
def Sp.ok (s:Sp):Prop:=ldRow (some 11) s.row s.off=some (.r (Ty.at s.t))∧s.n.t=Ty.zero∧s.row.all clA=true
def Sp.at (s:Sp):List A:=[.ref s.row s.off,.v (.bool s.b)]++Nt.at s.n
def Sp.nt (s:Sp):Nt:={ s.n with t:=s.t }
def spV (n:Nt) (k:Int):List Vr→List Sp
 | []=>[]
 | v::r=>⟨Vr.at v,1,v.ty,false,{ n with v:=k,a:=v.at_ }⟩::spV n (k+1) r
def spB (n:Nt) (l:List (Int×St)):List Sp:=(l.filter fun s=>s.2.ty.kind==2).map fun s=>⟨St.at s.2,4,s.2.ty,true,{ n with v:=-1,a:=s.2.at_ }⟩
def spM (n:Nt) (m:Me):List Sp:=⟨Me.at m,2,m.ret,false,{ n with v:=-1,a:=m.at_ }⟩::(spV n 0 m.params++(spV n (m.params.length:Int) m.locals++spB n (St.lns 0 m.body)))
def spMs (i k:Int):List Me→List Sp
 | []=>[]
 | m::r=>spM ⟨i,k,0,Ty.zero,0⟩ m++spMs i (k+1) r
def spC (i:Int) (c:Cs):List Sp:=spV ⟨i,-1,0,Ty.zero,0⟩ 0 c.fields++spMs i 0 c.methods
def spCs (i:Int):List Cs→List Sp
 | []=>[]
 | c::r=>spC i c++spCs (i+1) r
def typesL (p:List Cs):List Nt:=(spCs 0 p).map Sp.nt
/-! What is wrong with names. The numbers: no class, other number of parameters, twice. -/
def twV (seen:List (List UInt8)):List Vr→Option Int
 | []=>none
 | v::r=>if (seen.any fun y=>y==v.name)=true then some v.at_ else twV (seen++[v.name]) r
def eTwice:Int:=7
def eClass:Int:=8
def eArity:Int:=10
def varsF (l:List Vr):Option (Int×Int):=(twV [] l).map fun a=>(eTwice,a)
def methF (met:List (List UInt8)):List Me→Option (Int×Int)
 | []=>none
 | m::r=>if (met.any fun y=>y==m.name)=true then some (eTwice,m.at_) else match varsF (m.params++m.locals) with
  | some f=>some f
  | none=>methF (met++[m.name]) r
def typF (p:List Cs):List Nt→Option (Int×Int)
 | []=>none
 | t::r=>if (t.t.kind==2)=false then typF p r else if arityI p t.t.cls<0 then some (eClass,t.a) else if (t.t.n != 0&&t.t.n != arityI p t.t.cls)=true then some (eArity,t.a) else typF p r
def headF (p:List Cs) (met:List (List UInt8)) (c:Cs):Option (Int×Int) :=
 if dupB c.params=true then some (eTwice,c.at_) else if (met.any fun y=>y==c.name)=true then some (eTwice,c.at_) else if (c.super==[])=true then none
 else if arityI p c.super<0 then some (eClass,c.at_) else if (arityI p c.super != (c.above.length:Int))=true then some (eArity,c.at_) else none
def classF (p:List Cs) (met:List (List UInt8)) (c:Cs):Option (Int×Int) :=
 match headF p met c with
 | some f=>some f
 | none=>match typF p (typesL [c]) with
  | some f=>some f
  | none=>match varsF c.fields with
   | some f=>some f
   | none=>methF [] c.methods
def goF (p:List Cs) (met:List (List UInt8)):List Cs→Int×Int
 | []=>(0,0)
 | c::r=>match classF p met c with
  | some f=>f
  | none=>goF p (met++[c.name]) r
def checkF (p:List Cs):Int×Int:=if rightB p=true then goF p [] p else (28,0)
end Go.Proofs.YtibdalkdgjghoaaDoor
