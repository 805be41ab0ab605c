/- arena's functions that call back: statements one behind the other; types where they stand. Conditions: at most 2^20 of anything. -/
import Derived.Test.YtibdalkdgjghoaaDoorMg32
import Derived.Test.YtibdalkdgjghoaaDoorMg34
set_option linter.unusedVariables false
set_option maxRecDepth 100000
set_option maxHeartbeats 8000000
set_option linter.unusedSimpArgs false
namespace Go.Proofs.YtibdalkdgjghoaaDoor
open Go.RowKit
def TlAt (tl:List (List D)) (k:Nat) (L:List (List D)):Prop:=∀(i:Nat) (x:List D),L[i]? = some x→tl[k+i]? = some x
theorem TlAt.appL {tl:List (List D)} {k:Nat} {A B:List (List D)} (h:TlAt tl k (A++B)):TlAt tl k A:=fun i x hx=>h i x (by rw [List.getElem?_append_left (List.getElem?_eq_some_iff.1 hx).1];exact hx)
theorem TlAt.appR {tl:List (List D)} {k:Nat} {A B:List (List D)} (h:TlAt tl k (A++B)):TlAt tl (k+A.length) B:=fun i x hx=>by
 have:=h (A.length+i) x (by rw [List.getElem?_append_right (by omega),Nat.add_sub_cancel_left];exact hx)
 rwa [←Nat.add_assoc] at this
theorem TlAt.head {tl:List (List D)} {k:Nat} {y:List D} {B:List (List D)} (h:TlAt tl k (y::B)):tl[k]? = some y:=h 0 y rfl
theorem TlAt.tail {tl:List (List D)} {k:Nat} {y:List D} {B:List (List D)} (h:TlAt tl k (y::B)):TlAt tl (k+1) B:=fun i x hx=>by
 have:=h (i+1) x (by simpa using hx)
 rwa [show k+(i+1)=k+1+i by omega] at this
def OKs (k:Nat) (d:D) (_:List Bx) (g:D):Prop:=(d=.a (.v (.bool true))∧g=.a (.v (.int .i64 (k:Nat))))∨(d=.a (.v (.bool false))∧g=.a (.v (.bool true)))
theorem OKs.scal {k:Nat} {d g:D} {st:List Bx} (h:OKs k d st g):scal d=true:=by
 rcases h with ⟨rfl,_⟩|⟨rfl,_⟩<;>rfl
def lnD (L:List (Int×St)):List (List D):=L.map fun x=>[.a (.v (.int .i64 x.1)),.a (.ref (St.at x.2) 0)]
theorem lnD_app (A B:List (Int×St)):lnD (A++B)=lnD A++lnD B:=List.map_append
theorem lnD_len (A:List (Int×St)):(lnD A).length=A.length:=List.length_map _
theorem paInner:∀(n:Nat) (l:List St) (d:Int) (E:Env Tryd.prog) (k:Nat),St.szs l≤n→n≤2097152→0≤d→d+n≤4194304→TlAt E.tl k (lnD (St.lns d l))→DG E 73 [.a (.sl (l.map St.at)),.a (.v (.int .i64 d)),yv E.l] [] (.a (.v (.int .i64 (k:Nat)))) (OKs (k+(St.lns d l).length)):=by
 intro n
 induction n with
 | zero =>
  intro l d E k hz hn hd hdn htl
  have:l=[]:=by cases l with
   | nil=>rfl
   | cons s r=>have:=St.sz_pos s;rw [St.szs] at hz;omega
  subst this
  refine DG.introV Tryd.func73 rfl Tryd.ntmps73 rfl rfl rfl (fun C hro hCE hon hCV=>?_)
  subst hCE
  have fx:=trivial
  repeat' (first|refine stp (1000000::[0,1,2,6,7,9,10,11,43]) ?_|(refine RS.pk ?_;refine rnx ?_)|(refine RS.gF ?_;refine rnx ?_)|(refine RS.lC ?_;refine rnx ?_)|(refine RS.xC ?_;refine rnx ?_)|refine WP.cn (fun hc=>?_) (fun hc=>?_)|fail)
  refine WP.loop_in ?_
  refine WPIn.unroll ?_
  repeat' (first|refine stp (1000000::[0,1,2,6,7,9,10,11,43]) ?_|(refine RS.pk ?_;refine rnx ?_)|(refine RS.gF ?_;refine rnx ?_)|(refine RS.lC ?_;refine rnx ?_)|(refine RS.xC ?_;refine rnx ?_)|refine WP.cn (fun hc=>?_) (fun hc=>?_)|fail)
  refine retM1 ?_
  exact .inl ⟨rfl,rfl⟩
 | succ n ih =>
  intro l d E k hz hn hd hdn htl
  refine DG.introV Tryd.func73 rfl Tryd.ntmps73 rfl rfl rfl (fun C hro hCE hon hCV=>?_)
  subst hCE
  have fx:=trivial
  have hll:l.length≤2097152:=by rw [sumOf_szs] at hz;have:=sumOf_len St.sz_pos l;omega
  have hwd:IntKind.i64.wrap (d+1)=d+1:=wrap64 (by omega) (by omega)
  repeat' (first|refine stp (1000000::[0,1,2,6,7,9,10,11,43]) ?_|(refine RS.pk ?_;refine rnx ?_)|(refine RS.gF ?_;refine rnx ?_)|(refine RS.lC ?_;refine rnx ?_)|(refine RS.xC ?_;refine rnx ?_)|refine WP.cn (fun hc=>?_) (fun hc=>?_)|fail)
  refine WP.each l St.at 23 (fun j=>[(0,.a (.sl (l.map St.at))),(1,.a (.v (.int .i64 d))),(2,yv C.E.l),(9,.a (.v (.int .i64 (l.length:Nat)))),(10,.a (.v (.int .i64 (j:Nat)))),(1000000,.a (.v (.int .i64 ((k+(St.lns d (l.take j)).length:Nat):Int))))]) (fun _=>[]) (fun _=>True) (by simp only [Agree,go_sem,simprocAttr];first|done|rfl) rfl trivial (by omega) (fun z=>St.len z) ?_ ?_
  ·intro j z hz1 hdr htk hlt _ hlt2 hix hwu
   have hzs:z.sz≤n+1:=by rw [sumOf_szs] at hz;have:=sumOf_mem (f:=St.sz) (List.mem_of_getElem? hz1);omega
   have hzk:=St.sz_eq z
   have happ:St.lns d l=St.lns d (l.take j)++(((d,z)::(St.lns (d+1) z.body++St.lns (d+1) z.els))++St.lns d (l.drop (j+1))):=by
    rw [←St.lns_cons,←hdr,←St.lns_app,List.take_append_drop]
   have hnx:(St.lns d (l.take (j+1))).length=(St.lns d (l.take j)).length+1+(St.lns (d+1) z.body).length+(St.lns (d+1) z.els).length:=by
    rw [htk,St.lns_app,St.lns_cons,List.length_append,List.length_append,List.length_cons,List.length_append]
    show _+((_+_+1)+0)=_
    omega
   rw [happ,lnD_app,lnD_app] at htl
   have ht1:=htl.appR.appL
   rw [lnD_len] at ht1
   obtain⟨q,hq⟩:∃q,q=(St.lns d (l.take j)).length:=⟨_,rfl⟩
   rw [←hq] at ht1 hnx ⊢
   have hy:C.E.tl[k+q]? = some [.a (.v (.int .i64 d)),.a (.ref (St.at z) 0)]:=ht1.head
   have ht2:=ht1.tail
   have ht3:TlAt C.E.tl (k+q+1) (lnD (St.lns (d+1) z.body)++lnD (St.lns (d+1) z.els)):=by rw [←lnD_app];exact ht2
   have ht4:=ht3.appR
   rw [lnD_len] at ht4
   have hb:=ih z.body (d+1) C.E (k+q+1) (by omega) (by omega) (by omega) (by omega) ht3.appL
   have hl:=ih z.els (d+1) C.E (k+q+1+(St.lns (d+1) z.body).length) (by omega) (by omega) (by omega) (by omega) ht4
   replace fx:=And.intro hlt2 (And.intro hix (And.intro hwu (And.intro hwd trivial)))
   repeat' (first|refine stp (1000000::[0,1,2,6,7,9,10,11,43]) ?_|(refine RS.pk ?_;refine rnx ?_)|(refine RS.gF ?_;refine rnx ?_)|(refine RS.lC ?_;refine rnx ?_)|(refine RS.xC ?_;refine rnx ?_)|refine WP.cn (fun hc=>?_) (fun hc=>?_)|fail)
   refine RS.yield (k:=k+q) (by simp only [go_sem,simprocAttr,fx];first|done|rfl) (by simp only [go_sem,simprocAttr,fx];first|done|rfl) (by simp only [go_sem,simprocAttr,fx];first|done|rfl) (by simp only [go_sem,simprocAttr,List.all_cons,List.all_nil,Bool.and_true,fx];first|done|rfl) hy ?_ ?_ (hgd:=by first|exact trivial|exact⟨rfl,trivial⟩)<;>refine RS.run2 (by simp only [go_sem,simprocAttr,fx];first|done|rfl) ?_;simp only [RSr_mk]
   ·replace fx:=And.intro hlt2 (And.intro hix (And.intro hwu (And.intro hwd trivial)))
    repeat' (first|refine stp (1000000::[0,1,2,6,7,9,10,11,43]) ?_|(refine RS.pk ?_;refine rnx ?_)|(refine RS.gF ?_;refine rnx ?_)|(refine RS.lC ?_;refine rnx ?_)|(refine RS.xC ?_;refine rnx ?_)|refine WP.cn (fun hc=>?_) (fun hc=>?_)|fail)
    refine RS.callG (by simp only [go_sem,simprocAttr,fx];first|done|rfl) (by simp only [go_sem,simprocAttr,List.all_cons,List.all_nil,Bool.and_true,yv,fx];first|done|rfl) (by simp only [go_sem,simprocAttr,fx];first|done|rfl) hon hb (fun d st g hO=>OKs.scal hO) ?_ (by first|exact trivial|exact⟨rfl,trivial⟩)
    rintro d1 _ g1 (⟨rfl,rfl⟩|⟨rfl,rfl⟩)<;>refine RS.run2 (by simp only [go_sem,simprocAttr,fx];first|done|rfl) ?_;simp only [RSr_mk]
    ·replace fx:=And.intro hlt2 (And.intro hix (And.intro hwu (And.intro hwd trivial)))
     repeat' (first|refine stp (1000000::[0,1,2,6,7,9,10,11,43]) ?_|(refine RS.pk ?_;refine rnx ?_)|(refine RS.gF ?_;refine rnx ?_)|(refine RS.lC ?_;refine rnx ?_)|(refine RS.xC ?_;refine rnx ?_)|refine WP.cn (fun hc=>?_) (fun hc=>?_)|fail)
     refine RS.callG (by simp only [go_sem,simprocAttr,fx];first|done|rfl) (by simp only [go_sem,simprocAttr,List.all_cons,List.all_nil,Bool.and_true,yv,fx];first|done|rfl) (by simp only [go_sem,simprocAttr,fx];first|done|rfl) hon hl (fun d st g hO=>OKs.scal hO) ?_ (by first|exact trivial|exact⟨rfl,trivial⟩)
     rintro d1 _ g1 (⟨rfl,rfl⟩|⟨rfl,rfl⟩)<;>refine RS.run2 (by simp only [go_sem,simprocAttr,fx];first|done|rfl) ?_;simp only [RSr_mk]
     ·replace fx:=And.intro hlt2 (And.intro hix (And.intro hwu (And.intro hwd trivial)))
      repeat' (first|refine stp (1000000::[0,1,2,6,7,9,10,11,43]) ?_|(refine RS.pk ?_;refine rnx ?_)|(refine RS.gF ?_;refine rnx ?_)|(refine RS.lC ?_;refine rnx ?_)|(refine RS.xC ?_;refine rnx ?_)|refine WP.cn (fun hc=>?_) (fun hc=>?_)|fail)
      refine⟨trivial,[],?_,rfl,rfl,rfl⟩
      simp only [Agree,go_sem,simprocAttr]
      rw [hnx]
      first|done|(simp only [Nat.add_assoc];done)|trace_state
     ·replace fx:=And.intro hlt2 (And.intro hix (And.intro hwu (And.intro hwd trivial)))
      repeat' (first|refine stp (1000000::[0,1,2,6,7,9,10,11,43]) ?_|(refine RS.pk ?_;refine rnx ?_)|(refine RS.gF ?_;refine rnx ?_)|(refine RS.lC ?_;refine rnx ?_)|(refine RS.xC ?_;refine rnx ?_)|refine WP.cn (fun hc=>?_) (fun hc=>?_)|fail)
      refine retM1 ?_
      exact .inr ⟨rfl,by simp only [go_sem,simprocAttr]⟩
    ·replace fx:=And.intro hlt2 (And.intro hix (And.intro hwu (And.intro hwd trivial)))
     repeat' (first|refine stp (1000000::[0,1,2,6,7,9,10,11,43]) ?_|(refine RS.pk ?_;refine rnx ?_)|(refine RS.gF ?_;refine rnx ?_)|(refine RS.lC ?_;refine rnx ?_)|(refine RS.xC ?_;refine rnx ?_)|refine WP.cn (fun hc=>?_) (fun hc=>?_)|fail)
     refine retM1 ?_
     exact .inr ⟨rfl,by simp only [go_sem,simprocAttr]⟩
   ·replace fx:=And.intro hlt2 (And.intro hix (And.intro hwu (And.intro hwd trivial)))
    repeat' (first|refine stp (1000000::[0,1,2,6,7,9,10,11,43]) ?_|(refine RS.pk ?_;refine rnx ?_)|(refine RS.gF ?_;refine rnx ?_)|(refine RS.lC ?_;refine rnx ?_)|(refine RS.xC ?_;refine rnx ?_)|refine WP.cn (fun hc=>?_) (fun hc=>?_)|fail)
    refine retM1 ?_
    exact .inr ⟨rfl,by simp only [go_sem,simprocAttr]⟩
  ·intro _ hlt2
   replace fx:=And.intro hlt2 trivial
   repeat' (first|refine stp (1000000::[0,1,2,6,7,9,10,11,43]) ?_|(refine RS.pk ?_;refine rnx ?_)|(refine RS.gF ?_;refine rnx ?_)|(refine RS.lC ?_;refine rnx ?_)|(refine RS.xC ?_;refine rnx ?_)|refine WP.cn (fun hc=>?_) (fun hc=>?_)|fail)
   refine retM1 ?_
   refine .inl ⟨rfl,?_⟩
   simp only [go_sem,simprocAttr,List.take_length]
theorem paBody (m:Me):DPure Tryd.prog 67 [.r (Me.at m)] (.a (.fn 72 [.ref (Me.at m) 0])):=by
 refine DPure.go Tryd.func67 rfl Tryd.ntmps67 rfl rfl rfl (fun C hro=>?_)
 have fx:=trivial
 repeat' (first|refine WP.seq ?_|(refine WP.reg [0,1,2] (by kernel_rfl) (by kernel_rfl) ?_;refine RS.run2 (by simp only [go_sem,simprocAttr,thenQ_n];first|done|rfl) ?_;simp only [RSr_mk])|(first|refine RS.finT (by simp only [go_sem,simprocAttr];first|done|rfl) ?_|refine RS.fin (by simp only [go_sem,simprocAttr];first|done|rfl) ?_;(try simp only [thenQ_n,blockQ_n])))
 refine WP.freeze 0 (Me.at m) [(2,.a (.fn 72 [.ref (Me.at m) 0]))] rfl (Me.cl m) ?_ ?_
 ·simp only [Agree,go_sem,simprocAttr]
 refine WP.ret ?_;(try simp only [thenQ_r,blockQ_r]);refine ret1 rfl (by simp only [go_sem,simprocAttr,thenQ_n];first|done|rfl) (by simp only [go_sem,thenQ_n]) ?_
 rfl
theorem paBody1 (m:Me) (hz:St.szs m.body≤2097152):DIt Tryd.prog 72 [.ref (Me.at m) 0] (lnD (St.lns 0 m.body)):=by
 intro E hE
 refine DG.introV Tryd.func72 rfl Tryd.ntmps72 rfl rfl rfl (fun C hro hCE hon hCV=>?_)
 subst hCE
 have fx:=trivial
 have hi:=paInner 2097152 m.body 0 C.E 0 hz (Nat.le_refl _) (Int.le_refl _) (by omega) (by rw [hE];intro i x hx;rw [Nat.zero_add];exact hx)
 have hlen:=lnD_len (St.lns 0 m.body)
 repeat' (first|refine stp (1000000::[0,1]) ?_|fail)
 refine RS.callG (by simp only [go_sem,simprocAttr,fx];first|done|rfl) (by simp only [go_sem,simprocAttr,List.all_cons,List.all_nil,Bool.and_true,yv,fx];first|done|rfl) (by simp only [go_sem,simprocAttr,fx];first|done|rfl) hon hi (fun d st g hO=>OKs.scal hO) ?_ (by first|exact trivial|exact⟨rfl,trivial⟩)
 rintro d1 _ g1 (⟨rfl,rfl⟩|⟨rfl,rfl⟩)<;>refine RS.run2 (by simp only [go_sem,simprocAttr,fx];first|done|rfl) ?_;simp only [RSr_mk]
 ·repeat' (first|refine stp (1000000::[0,1]) ?_|fail)
  refine retM0n (.inl ?_)
  simp only [go_sem,simprocAttr,hlen,Nat.zero_add]
 ·repeat' (first|refine stp (1000000::[0,1]) ?_|fail)
  exact retM0n (.inr (by simp only [go_sem,simprocAttr]))
def zSl:List A:=[.v (.pointer none),.v (.bool false),.v (.int .i64 0),.v (.int .i64 0),.v (.int .i64 0),.v (.int .i64 0),.v (.string ⟨#[]⟩),.v (.int .i64 0),.v (.int .i64 0),.v (.int .i64 0),.v (.int .i64 0),.v (.int .i64 0),.v (.int .i64 0),.v (.int .i64 0),.v (.int .i64 0),.v (.int .i64 0),.v (.int .i64 0)]
@[go_sem] theorem tb_zSlot:zrow Tryd.prog 96=some zSl:=by kernel_rfl
@[go_sem] theorem zSl_len:zSl.length=17:=rfl
@[go_sem] theorem zSl_len1 {x:A}:(putRow zSl 0 [x]).length=17:=rfl
@[go_sem] theorem zSl_len2 {x y:A}:(putRow (putRow zSl 0 [x]) 1 [y]).length=17:=rfl
def slAt (row:List A) (off:Nat) (b:Bool) (n:Nt):List A:=[.ref row off,.v (.bool b)]++Nt.at n
@[go_sem] theorem zSl_put {row:List A} {off:Nat} {b:Bool} {n:Nt}:putRow (putRow (putRow zSl 0 [.ref row off]) 1 [.v (.bool b)]) 2 (Nt.at n)=slAt row off b n:=by
 unfold slAt;rw [Nt.row];rfl
@[go_sem] theorem slAt_cl {row:List A} {off:Nat} {b:Bool} {n:Nt}:(slAt row off b n).all clA=true:=by unfold slAt;rw [Nt.row];rfl
@[go_sem] theorem slAt_cl1 {row:List A} {off:Nat} {b:Bool} {n:Nt}:clD1 (.r (slAt row off b n))=true:=slAt_cl
def spD (L:List Sp):List (List D):=L.map fun s=>[.r (slAt s.row s.off s.b s.n)]
theorem spD_app (A B:List Sp):spD (A++B)=spD A++spD B:=List.map_append
theorem spD_len (A:List Sp):(spD A).length=A.length:=List.length_map _
theorem spV_len (n:Nt):∀(k:Int) (l:List Vr),(spV n k l).length=l.length
 | _,[]=>rfl
 | k,v::r=>by rw [spV,List.length_cons,spV_len n _ r,List.length_cons]
theorem spV_app (n:Nt):∀(k:Int) (l m:List Vr),spV n k (l++m)=spV n k l++spV n (k+l.length) m
 | k,[],m=>by simp [spV]
 | k,v::r,m=>by
  rw [List.cons_append,spV,spV,spV_app n _ r m,List.cons_append,List.length_cons]
  congr 3
  push_cast
  omega
def ntK (n:Nt) (first:Int) (l:List Vr):Nat→Nt
 | 0=>n
 | j+1=>{ n with v:=first+j,a:=((l[j]?).map Vr.at_).getD 0 }
theorem ntK_set (n:Nt) (first:Int) (l:List Vr) (j:Nat) (z:Vr) (hz:l[j]? = some z):({ ({ ntK n first l j with v:=first+j }:Nt) with a:=z.at_ }:Nt)=ntK n first l (j+1):=by
 cases j<;>(rw [ntK];simp [ntK,hz])
theorem ntK_set2 (n:Nt) (first:Int) (l:List Vr) (j:Nat) (z:Vr) (hz:l[j]? = some z):({ n with v:=first+j,a:=z.at_ }:Nt)=ntK n first l (j+1):=by
 rw [ntK,hz];rfl
theorem paVars (l:List Vr) (n:Nt) (first:Int) (E:Env Tryd.prog) (k:Nat) (hl:l.length≤2097152) (h0:0≤first) (h1:first≤2097152) (htl:TlAt E.tl k (spD (spV n first l))):DG E 55 [.a (.sl (l.map Vr.at)),.r (Nt.at n),.a (.v (.int .i64 first)),yv E.l] [] (.a (.v (.int .i64 (k:Nat)))) (OKs (k+l.length)):=by
 refine DG.introV Tryd.func55 rfl Tryd.ntmps55 rfl rfl rfl (fun C hro hCE hon hCV=>?_)
 subst hCE
 have fx:=trivial
 repeat' (first|(refine RWL.fin ?_;try simp only [thenQ_n,blockQ_n])|refine stp (1000000::[0,1,2,3,5,8,9,11,12,13,33]) ?_|(refine RS.sE ?_;refine rnx ?_)|(refine RS.lC ?_;refine rnx ?_)|(refine RS.xC ?_;refine rnx ?_)|refine RWL.fr ?_|refine RWL.wt ?_|(refine' WP.dl (id:=4) [0,0,3,0,0,24,56,120,7,263,1023,2047] (1000000::[0,1,2,3,5,8,9,11,12,13,33]) [9,11] [(9,_),(11,_)] ?_)|refine RWL.re ?_ ?_|refine RdO.oz|refine RdO.oa ?_|refine RdO.oe ?_|refine RdO.on|refine WP.cn (fun hc=>?_) (fun hc=>?_)|((first|refine WP.dw (id:=5) 7 (1000000::[0,1,2,3,5,8,9,11,12,13,33]) ?_);simp only [RQr_mk,List.drop_succ_cons,List.drop_zero,List.drop_nil])|fail)
 refine WP.each l Vr.at 13 (fun j=>[(0,.a (.sl (l.map Vr.at))),(2,.a (.v (.int .i64 first))),(3,yv C.E.l),(5,.a (.ptr 0 0)),(11,.a (.v (.int .i64 (l.length:Nat)))),(12,.a (.v (.int .i64 (j:Nat)))),(1000000,.a (.v (.int .i64 ((k+j:Nat):Int))))]) (fun j=>[.cell (Nt.at (ntK n first l j))]) (fun _=>True) (by simp only [Agree,go_sem,simprocAttr];first|done|rfl) rfl trivial (by omega) (fun z=>Vr.len z) ?_ ?_
 ·intro j z hz1 hdr htk hlt _ hlt2 hix hwu
  have hwf:IntKind.i64.wrap (first+j)=first+j:=wrap64 (by omega) (by omega)
  have hset:=ntK_set n first l j z hz1
  have hy:C.E.tl[k+j]? = some [.r (slAt (Vr.at z) 1 false (ntK n first l (j+1)))]:=by
   have h9:spV n first l=spV n first (l.take j)++(⟨Vr.at z,1,z.ty,false,ntK n first l (j+1)⟩::spV n (first+j+1) (l.drop (j+1))):=by
    conv=>lhs;rw [←List.take_append_drop j l,spV_app,hdr,spV]
    rw [List.length_take,Nat.min_eq_left (by omega),ntK_set2 n first l j z hz1]
   rw [h9,spD_app] at htl
   have:=htl.appR.head
   rwa [spD_len,spV_len,List.length_take,Nat.min_eq_left (by omega)] at this
  replace fx:=And.intro hlt2 (And.intro hix (And.intro hwu (And.intro hwf (And.intro hset trivial))))
  repeat' (first|(refine RWL.fin ?_;try simp only [thenQ_n,blockQ_n])|refine stp (1000000::[0,1,2,3,5,8,9,11,12,13,33]) ?_|(refine RS.sE ?_;refine rnx ?_)|(refine RS.lC ?_;refine rnx ?_)|(refine RS.xC ?_;refine rnx ?_)|refine RWL.fr ?_|refine RWL.wt ?_|(refine' WP.dl (id:=4) [0,0,3,0,0,24,56,120,7,263,1023,2047] (1000000::[0,1,2,3,5,8,9,11,12,13,33]) [9,11] [(9,_),(11,_)] ?_)|refine RWL.re ?_ ?_|refine RdO.oz|refine RdO.oa ?_|refine RdO.oe ?_|refine RdO.on|refine WP.cn (fun hc=>?_) (fun hc=>?_)|((first|refine WP.dw (id:=5) 7 (1000000::[0,1,2,3,5,8,9,11,12,13,33]) ?_);simp only [RQr_mk,List.drop_succ_cons,List.drop_zero,List.drop_nil])|fail)

  refine RS.yield (k:=k+j) (by simp only [go_sem,simprocAttr,fx];first|done|rfl) (by simp only [go_sem,simprocAttr,fx];first|done|rfl) (by simp only [go_sem,simprocAttr,fx];first|done|rfl) (by simp only [go_sem,simprocAttr,List.all_cons,List.all_nil,Bool.and_true,fx];first|done|rfl) hy ?_ ?_ (hgd:=by first|exact trivial|exact⟨rfl,trivial⟩)<;>refine RS.run2 (by simp only [go_sem,simprocAttr,fx];first|done|rfl) ?_;simp only [RSr_mk]
  ·replace fx:=And.intro hlt2 (And.intro hix (And.intro hwu (And.intro hwf trivial)))
   repeat' (first|(refine RWL.fin ?_;try simp only [thenQ_n,blockQ_n])|refine stp (1000000::[0,1,2,3,5,8,9,11,12,13,33]) ?_|(refine RS.sE ?_;refine rnx ?_)|(refine RS.lC ?_;refine rnx ?_)|(refine RS.xC ?_;refine rnx ?_)|refine RWL.fr ?_|refine RWL.wt ?_|(refine' WP.dl (id:=4) [0,0,3,0,0,24,56,120,7,263,1023,2047] (1000000::[0,1,2,3,5,8,9,11,12,13,33]) [9,11] [(9,_),(11,_)] ?_)|refine RWL.re ?_ ?_|refine RdO.oz|refine RdO.oa ?_|refine RdO.oe ?_|refine RdO.on|refine WP.cn (fun hc=>?_) (fun hc=>?_)|((first|refine WP.dw (id:=5) 7 (1000000::[0,1,2,3,5,8,9,11,12,13,33]) ?_);simp only [RQr_mk,List.drop_succ_cons,List.drop_zero,List.drop_nil])|fail)
   exact⟨trivial,[],by simp only [Agree,go_sem,simprocAttr,Nat.add_assoc],rfl,rfl,by simp only [go_sem,simprocAttr]⟩
  ·replace fx:=And.intro hlt2 (And.intro hix (And.intro hwu (And.intro hwf trivial)))
   repeat' (first|(refine RWL.fin ?_;try simp only [thenQ_n,blockQ_n])|refine stp (1000000::[0,1,2,3,5,8,9,11,12,13,33]) ?_|(refine RS.sE ?_;refine rnx ?_)|(refine RS.lC ?_;refine rnx ?_)|(refine RS.xC ?_;refine rnx ?_)|refine RWL.fr ?_|refine RWL.wt ?_|(refine' WP.dl (id:=4) [0,0,3,0,0,24,56,120,7,263,1023,2047] (1000000::[0,1,2,3,5,8,9,11,12,13,33]) [9,11] [(9,_),(11,_)] ?_)|refine RWL.re ?_ ?_|refine RdO.oz|refine RdO.oa ?_|refine RdO.oe ?_|refine RdO.on|refine WP.cn (fun hc=>?_) (fun hc=>?_)|((first|refine WP.dw (id:=5) 7 (1000000::[0,1,2,3,5,8,9,11,12,13,33]) ?_);simp only [RQr_mk,List.drop_succ_cons,List.drop_zero,List.drop_nil])|fail)
   refine retM1 ?_
   exact .inr ⟨rfl,by simp only [go_sem,simprocAttr]⟩
 ·intro _ hlt2
  replace fx:=And.intro hlt2 trivial
  repeat' (first|(refine RWL.fin ?_;try simp only [thenQ_n,blockQ_n])|refine stp (1000000::[0,1,2,3,5,8,9,11,12,13,33]) ?_|(refine RS.sE ?_;refine rnx ?_)|(refine RS.lC ?_;refine rnx ?_)|(refine RS.xC ?_;refine rnx ?_)|refine RWL.fr ?_|refine RWL.wt ?_|(refine' WP.dl (id:=4) [0,0,3,0,0,24,56,120,7,263,1023,2047] (1000000::[0,1,2,3,5,8,9,11,12,13,33]) [9,11] [(9,_),(11,_)] ?_)|refine RWL.re ?_ ?_|refine RdO.oz|refine RdO.oa ?_|refine RdO.oe ?_|refine RdO.on|refine WP.cn (fun hc=>?_) (fun hc=>?_)|((first|refine WP.dw (id:=5) 7 (1000000::[0,1,2,3,5,8,9,11,12,13,33]) ?_);simp only [RQr_mk,List.drop_succ_cons,List.drop_zero,List.drop_nil])|fail)
  refine retM1 ?_
  exact .inl ⟨rfl,by simp only [go_sem,simprocAttr]⟩
theorem Nt.mk2 (c m:Int):[A.v (.int .i64 c),.v (.int .i64 m),.v (.int .i64 0),.v (.int .i64 0),.v (.string ⟨#[]⟩),.v (.int .i64 0),.v (.int .i64 0),.v (.int .i64 0),.v (.int .i64 0),.v (.int .i64 0),.v (.int .i64 0),.v (.int .i64 0),.v (.int .i64 0),.v (.int .i64 0),.v (.int .i64 0)]=Nt.at ⟨c,m,0,Ty.zero,0⟩:=rfl
def ntB (n:Nt) (a:Int) (l:List (Int×St)):Nat→Nt
 | 0=>{ n with v:=-1,a:=a }
 | j+1=>{ n with v:=-1,a:=((l[j]?).map fun s=>s.2.at_).getD 0 }
theorem ntB_set (n:Nt) (a:Int) (l:List (Int×St)) (j:Nat) (z:Int×St) (hz:l[j]? = some z):({ ntB n a l j with a:=z.2.at_ }:Nt)=ntB n a l (j+1):=by
 cases j<;>(rw [ntB];simp [ntB,hz])
theorem spB_app (n:Nt) (A B:List (Int×St)):spB n (A++B)=spB n A++spB n B:=by unfold spB;rw [List.filter_append,List.map_append]
theorem paMeth (m:Me) (n:Nt) (E:Env Tryd.prog) (k:Nat) (hz:m.sz≤2097152) (htl:TlAt E.tl k (spD (spM n m))):DG E 56 [.a (.ref (Me.at m) 0),.r (Nt.at n),yv E.l] [] (.a (.v (.int .i64 (k:Nat)))) (OKs (k+(spM n m).length)):=by
 obtain⟨_,_,y3,y4,y5,y6⟩:=Me.szH hz
 refine DG.introV Tryd.func56 rfl Tryd.ntmps56 rfl rfl rfl (fun C hro hCE hon hCV=>?_)
 have fx:=trivial
 have hset:({ ({ n with v:=-1 }:Nt) with a:=m.at_ }:Nt)=ntB n m.at_ (St.lns 0 m.body) 0:=rfl
 have hnB:({ n with v:=-1,a:=m.at_ }:Nt)=ntB n m.at_ (St.lns 0 m.body) 0:=rfl
 unfold spM at htl
 rw [hnB] at htl
 have hy0:E.tl[k]? = some [.r (slAt (Me.at m) 2 false (ntB n m.at_ (St.lns 0 m.body) 0))]:=htl.head
 have ht1:TlAt E.tl (k+1) (spD (spV n 0 m.params)++(spD (spV n (m.params.length:Int) m.locals)++spD (spB n (St.lns 0 m.body)))):=by rw [←spD_app,←spD_app];exact htl.tail
 have ht2:=ht1.appR
 have ht3:=ht2.appR
 rw [spD_len,spV_len] at ht2 ht3
 rw [spD_len,spV_len] at ht3
 have hsv:∀(a:Int) (l:List Vr),spV (ntB n m.at_ (St.lns 0 m.body) 0) a l=spV n a l:=fun a l=>by
  induction l generalizing a with
  | nil=>rfl
  | cons v r ih=>rw [spV,spV,ih];rfl
 have c1:=paVars m.params (ntB n m.at_ (St.lns 0 m.body) 0) 0 E (k+1) (by omega) (Int.le_refl _) (by omega) (by rw [hsv];exact ht1.appL)
 have c2:=paVars m.locals (ntB n m.at_ (St.lns 0 m.body) 0) (m.params.length:Int) E (k+1+m.params.length) (by omega) (by omega) (by omega) (by rw [hsv];exact ht2.appL)
 have hlen:(spM n m).length=1+m.params.length+m.locals.length+(spB n (St.lns 0 m.body)).length:=by
  unfold spM
  rw [List.length_cons,List.length_append,List.length_append,spV_len,spV_len];omega
 rw [hlen]
 have hb0:=paBody m
 have hyv:yv E.l=.a (.v (.func (.yield E.l) #[] #[])):=rfl
 have hb1:=paBody1 m y5
 generalize St.lns 0 m.body=L at *
 replace fx:=And.intro hset (And.intro hCE (And.intro hyv trivial))
 repeat' (first|(refine RWL.fin ?_;try simp only [thenQ_n,blockQ_n])|refine stp (1000000::[0,1,2,4,5,6,8,47,51,52,53,74]) ?_|(refine RS.sE ?_;refine rnx ?_)|(refine RS.pk ?_;refine rnx ?_)|(refine RS.gF ?_;refine rnx ?_)|(refine RS.lC ?_;refine rnx ?_)|refine RWL.fr ?_|refine RWL.wt ?_|(refine stc (r1:=by exact hb0) (r2:=?_);refine rnx ?_)|(refine' WP.dl (id:=1) [0,1,3,7,0,16,63,127] (1000000::[0,1,2,4,5,6,8,47,51,52,53,74]) [5,7] [(5,_),(7,_)] ?_)|refine RWL.re ?_ ?_|refine RdO.oz|refine RdO.oa ?_|refine RdO.oe ?_|refine RdO.on|refine WP.cn (fun hc=>?_) (fun hc=>?_)|((first|refine WP.dw (id:=7) 13 (1000000::[0,1,2,4,5,6,8,47,51,52,53,74]) ?_);simp only [RQr_mk,List.drop_succ_cons,List.drop_zero,List.drop_nil])|((first|refine WP.dgr (id:=2) 6 [8,14] (1000000::[0,1,2,4,5,6,8,47,51,52,53,74]) ?_|refine RG.q ?_|refine RG.z ?_);simp only [RQr_mk,RSr_mk,List.drop_succ_cons,List.drop_zero,List.drop_nil,List.take_succ_cons,List.take_zero,List.take_nil])|refine RS.nx ?_|(refine RQ.pk ?_;refine rnx ?_)|(refine RQ.gF ?_;refine rnx ?_)|fail)

 refine RS.yield (k:=k) (by simp only [go_sem,simprocAttr,fx];first|done|rfl) (by simp only [go_sem,simprocAttr,fx];first|done|rfl) (by simp only [go_sem,simprocAttr,fx];first|done|rfl) (by simp only [go_sem,simprocAttr,List.all_cons,List.all_nil,Bool.and_true,fx];first|done|rfl) (by rw [hCE];exact hy0) ?_ ?_ (hgd:=by first|exact trivial|exact⟨rfl,trivial⟩)<;>refine RS.run2 (by simp only [go_sem,simprocAttr,fx];first|done|rfl) ?_;simp only [RSr_mk]
 ·replace fx:=And.intro hset (And.intro hCE (And.intro hyv trivial))
  repeat' (first|(refine RWL.fin ?_;try simp only [thenQ_n,blockQ_n])|refine stp (1000000::[0,1,2,4,5,6,8,47,51,52,53,74]) ?_|(refine RS.sE ?_;refine rnx ?_)|(refine RS.pk ?_;refine rnx ?_)|(refine RS.gF ?_;refine rnx ?_)|(refine RS.lC ?_;refine rnx ?_)|refine RWL.fr ?_|refine RWL.wt ?_|(refine stc (r1:=by exact hb0) (r2:=?_);refine rnx ?_)|(refine' WP.dl (id:=1) [0,1,3,7,0,16,63,127] (1000000::[0,1,2,4,5,6,8,47,51,52,53,74]) [5,7] [(5,_),(7,_)] ?_)|refine RWL.re ?_ ?_|refine RdO.oz|refine RdO.oa ?_|refine RdO.oe ?_|refine RdO.on|refine WP.cn (fun hc=>?_) (fun hc=>?_)|((first|refine WP.dw (id:=7) 13 (1000000::[0,1,2,4,5,6,8,47,51,52,53,74]) ?_);simp only [RQr_mk,List.drop_succ_cons,List.drop_zero,List.drop_nil])|((first|refine WP.dgr (id:=2) 6 [8,14] (1000000::[0,1,2,4,5,6,8,47,51,52,53,74]) ?_|refine RG.q ?_|refine RG.z ?_);simp only [RQr_mk,RSr_mk,List.drop_succ_cons,List.drop_zero,List.drop_nil,List.take_succ_cons,List.take_zero,List.take_nil])|refine RS.nx ?_|(refine RQ.pk ?_;refine rnx ?_)|(refine RQ.gF ?_;refine rnx ?_)|fail)
  refine RS.callG (by simp only [go_sem,simprocAttr,fx];first|done|rfl) (by simp only [go_sem,simprocAttr,List.all_cons,List.all_nil,Bool.and_true,yv,fx];first|done|rfl) (by simp only [go_sem,simprocAttr,fx];first|done|rfl) hon (by rw [hCE];exact c1) (fun d st g hO=>OKs.scal hO) ?_ (by first|exact trivial|exact⟨rfl,trivial⟩)
  rintro d1 _ g1 (⟨rfl,rfl⟩|⟨rfl,rfl⟩)<;>refine RS.run2 (by simp only [go_sem,simprocAttr,fx];first|done|rfl) ?_;simp only [RSr_mk]
  ·replace fx:=And.intro hset (And.intro hCE (And.intro hyv trivial))
   repeat' (first|(refine RWL.fin ?_;try simp only [thenQ_n,blockQ_n])|refine stp (1000000::[0,1,2,4,5,6,8,47,51,52,53,74]) ?_|(refine RS.sE ?_;refine rnx ?_)|(refine RS.pk ?_;refine rnx ?_)|(refine RS.gF ?_;refine rnx ?_)|(refine RS.lC ?_;refine rnx ?_)|refine RWL.fr ?_|refine RWL.wt ?_|(refine stc (r1:=by exact hb0) (r2:=?_);refine rnx ?_)|(refine' WP.dl (id:=1) [0,1,3,7,0,16,63,127] (1000000::[0,1,2,4,5,6,8,47,51,52,53,74]) [5,7] [(5,_),(7,_)] ?_)|refine RWL.re ?_ ?_|refine RdO.oz|refine RdO.oa ?_|refine RdO.oe ?_|refine RdO.on|refine WP.cn (fun hc=>?_) (fun hc=>?_)|((first|refine WP.dw (id:=7) 13 (1000000::[0,1,2,4,5,6,8,47,51,52,53,74]) ?_);simp only [RQr_mk,List.drop_succ_cons,List.drop_zero,List.drop_nil])|((first|refine WP.dgr (id:=2) 6 [8,14] (1000000::[0,1,2,4,5,6,8,47,51,52,53,74]) ?_|refine RG.q ?_|refine RG.z ?_);simp only [RQr_mk,RSr_mk,List.drop_succ_cons,List.drop_zero,List.drop_nil,List.take_succ_cons,List.take_zero,List.take_nil])|refine RS.nx ?_|(refine RQ.pk ?_;refine rnx ?_)|(refine RQ.gF ?_;refine rnx ?_)|fail)
   refine RS.callG (by simp only [go_sem,simprocAttr,fx];first|done|rfl) (by simp only [go_sem,simprocAttr,List.all_cons,List.all_nil,Bool.and_true,yv,fx];first|done|rfl) (by simp only [go_sem,simprocAttr,fx];first|done|rfl) hon (by rw [hCE];exact c2) (fun d st g hO=>OKs.scal hO) ?_ (by first|exact trivial|exact⟨rfl,trivial⟩)
   rintro d1 _ g1 (⟨rfl,rfl⟩|⟨rfl,rfl⟩)<;>refine RS.run2 (by simp only [go_sem,simprocAttr,fx];first|done|rfl) ?_;simp only [RSr_mk]
   ·replace fx:=And.intro hset (And.intro hCE (And.intro hyv trivial))
    repeat' (first|(refine RWL.fin ?_;try simp only [thenQ_n,blockQ_n])|refine stp (1000000::[0,1,2,4,5,6,8,47,51,52,53,74]) ?_|(refine RS.sE ?_;refine rnx ?_)|(refine RS.pk ?_;refine rnx ?_)|(refine RS.gF ?_;refine rnx ?_)|(refine RS.lC ?_;refine rnx ?_)|refine RWL.fr ?_|refine RWL.wt ?_|(refine stc (r1:=by exact hb0) (r2:=?_);refine rnx ?_)|(refine' WP.dl (id:=1) [0,1,3,7,0,16,63,127] (1000000::[0,1,2,4,5,6,8,47,51,52,53,74]) [5,7] [(5,_),(7,_)] ?_)|refine RWL.re ?_ ?_|refine RdO.oz|refine RdO.oa ?_|refine RdO.oe ?_|refine RdO.on|refine WP.cn (fun hc=>?_) (fun hc=>?_)|((first|refine WP.dw (id:=7) 13 (1000000::[0,1,2,4,5,6,8,47,51,52,53,74]) ?_);simp only [RQr_mk,List.drop_succ_cons,List.drop_zero,List.drop_nil])|((first|refine WP.dgr (id:=2) 6 [8,14] (1000000::[0,1,2,4,5,6,8,47,51,52,53,74]) ?_|refine RG.q ?_|refine RG.z ?_);simp only [RQr_mk,RSr_mk,List.drop_succ_cons,List.drop_zero,List.drop_nil,List.take_succ_cons,List.take_zero,List.take_nil])|refine RS.nx ?_|(refine RQ.pk ?_;refine rnx ?_)|(refine RQ.gF ?_;refine rnx ?_)|fail)
    obtain⟨q,hq⟩:∃q,q=k+1+m.params.length+m.locals.length:=⟨_,rfl⟩
    rw [←hq] at ht3 ⊢
    refine WP.range2 [(4,.a (.ptr 0 0)),(5,.a (.ptr 1 0)),(6,.a (.ptr 2 0))] (fun j=>[.cell (Nt.at (ntB n m.at_ L j)),.cell [.v (.func (.yield E.l) #[] #[])],.cell [.v (.bool false)]]) [] (lnD L) (fun j=>.a (.v (.int .i64 ((q+(spB n (L.take j)).length:Nat):Int)))) (fun _=>True) trivial hro (by simp only [go_sem,simprocAttr];rfl) rfl ?_ rfl (.inl rfl) (.inl rfl) rfl rfl (by rw [hCV];exact Nat.zero_le _) (fun _=>Nat.le_refl _) (fun j=>by simp only [go_sem,simprocAttr];try rfl) rfl (by simp only [go_sem,simprocAttr]<;>rfl) rfl rfl hb1.toM (.inl rfl) rfl (fun j xs hx=>?_) (fun C1 j xs hC1 hon1 hx _=>?_) (fun _=>?_)
    ·simp only [Agree,go_sem,simprocAttr]
    ·unfold lnD at hx
     rw [List.getElem?_map,Option.map_eq_some_iff] at hx
     obtain⟨z,_,rfl⟩:=hx;rfl
    ·unfold lnD at hx
     rw [List.getElem?_map,Option.map_eq_some_iff] at hx
     obtain⟨z,hzL,rfl⟩:=hx
     have hsj:=ntB_set n m.at_ L j z hzL
     have hspl:spB n L=spB n (L.take j)++(spB n [z]++spB n (L.drop (j+1))):=by
      rw [←spB_app,←spB_app]
      congr 1
      have h9:=(List.getElem?_eq_some_iff.1 hzL)
      obtain⟨hjl,hje⟩:=h9
      rw [List.singleton_append,←hje,←List.drop_eq_getElem_cons hjl,List.take_append_drop]
     have htk:spB n (L.take (j+1))=spB n (L.take j)++spB n [z]:=by rw [take_snocA hzL,spB_app]
     rw [hspl,spD_app,spD_app] at ht3
     have ht4:=ht3.appR.appL
     rw [spD_len] at ht4
     simp only [htk,List.length_append]
     generalize (spB n (L.take j)).length=w at ht4 ⊢
     simp only [bindE_2]
     replace fx:=And.intro hset (And.intro hyv trivial)
     repeat' (first|(refine RWL.fin ?_;try simp only [thenQ_n,blockQ_n])|refine stp (1000000::[0,1,2,4,5,6,8,47,51,52,53,74]) ?_|(refine RS.sE ?_;refine rnx ?_)|(refine RS.pk ?_;refine rnx ?_)|(refine RS.gF ?_;refine rnx ?_)|(refine RS.lC ?_;refine rnx ?_)|refine RWL.fr ?_|refine RWL.wt ?_|(refine' WP.dl (id:=1) [0,1,3,7,0,16,63,127] (1000000::[0,1,2,4,5,6,8,47,51,52,53,74]) [5,7] [(5,_),(7,_)] ?_)|refine RWL.re ?_ ?_|refine RdO.oz|refine RdO.oa ?_|refine RdO.oe ?_|refine RdO.on|refine WP.cn (fun hc=>?_) (fun hc=>?_)|((first|refine WP.dw (id:=7) 13 (1000000::[0,1,2,4,5,6,8,47,51,52,53,74]) ?_);simp only [RQr_mk,List.drop_succ_cons,List.drop_zero,List.drop_nil])|((first|refine WP.dgr (id:=2) 6 [8,14] (1000000::[0,1,2,4,5,6,8,47,51,52,53,74]) ?_|refine RG.q ?_|refine RG.z ?_);simp only [RQr_mk,RSr_mk,List.drop_succ_cons,List.drop_zero,List.drop_nil,List.take_succ_cons,List.take_zero,List.take_nil])|refine RS.nx ?_|(refine RQ.pk ?_;refine rnx ?_)|(refine RQ.gF ?_;refine rnx ?_)|fail)
     intro C2 hC2 hon2
     have hCE2:C2.E=E:=hC2.trans hCE
     cases hk2:z.2.ty.kind==2 with
     | true =>
      have hb2:spB n [z]=[⟨St.at z.2,4,z.2.ty,true,ntB n m.at_ L (j+1)⟩]:=by unfold spB;rw [List.filter_cons_of_pos (by exact hk2),ntB,hzL];rfl
      rw [hb2] at ht4 ⊢
      have hyy:E.tl[q+w]? = some [.r (slAt (St.at z.2) 4 true (ntB n m.at_ L (j+1)))]:=ht4.head
      replace fx:=And.intro hsj (And.intro hyv (And.intro hCE2 (And.intro hk2 trivial)))
      repeat' (first|(refine RWL.fin ?_;try simp only [thenQ_n,blockQ_n])|refine stp (1000000::[0,1,2,4,5,6,8,47,51,52,53,74]) ?_|(refine RS.sE ?_;refine rnx ?_)|(refine RS.pk ?_;refine rnx ?_)|(refine RS.gF ?_;refine rnx ?_)|(refine RS.lC ?_;refine rnx ?_)|refine RWL.fr ?_|refine RWL.wt ?_|(refine' WP.dl (id:=1) [0,1,3,7,0,16,63,127] (1000000::[0,1,2,4,5,6,8,47,51,52,53,74]) [5,7] [(5,_),(7,_)] ?_)|refine RWL.re ?_ ?_|refine RdO.oz|refine RdO.oa ?_|refine RdO.oe ?_|refine RdO.on|refine WP.cn (fun hc=>?_) (fun hc=>?_)|((first|refine WP.dw (id:=7) 13 (1000000::[0,1,2,4,5,6,8,47,51,52,53,74]) ?_);simp only [RQr_mk,List.drop_succ_cons,List.drop_zero,List.drop_nil])|((first|refine WP.dgr (id:=2) 6 [8,14] (1000000::[0,1,2,4,5,6,8,47,51,52,53,74]) ?_|refine RG.q ?_|refine RG.z ?_);simp only [RQr_mk,RSr_mk,List.drop_succ_cons,List.drop_zero,List.drop_nil,List.take_succ_cons,List.take_zero,List.take_nil])|refine RS.nx ?_|(refine RQ.pk ?_;refine rnx ?_)|(refine RQ.gF ?_;refine rnx ?_)|fail)
      refine RS.yield (k:=q+w) (by simp only [go_sem,simprocAttr,fx];first|done|rfl) (by simp only [go_sem,simprocAttr,fx];first|done|rfl) (by simp only [go_sem,simprocAttr,fx];first|done|rfl) (by simp only [go_sem,simprocAttr,List.all_cons,List.all_nil,Bool.and_true,fx];first|done|rfl) (by rw [hCE2];exact hyy) ?_ ?_ (hgd:=by first|exact trivial|exact⟨rfl,trivial⟩)<;>refine RS.run2 (by simp only [go_sem,simprocAttr,fx];first|done|rfl) ?_;simp only [RSr_mk]
      ·replace fx:=And.intro hsj (And.intro hyv (And.intro hCE2 (And.intro hk2 trivial)))
       repeat' (first|(refine RWL.fin ?_;try simp only [thenQ_n,blockQ_n])|refine stp (1000000::[0,1,2,4,5,6,8,47,51,52,53,74]) ?_|(refine RS.sE ?_;refine rnx ?_)|(refine RS.pk ?_;refine rnx ?_)|(refine RS.gF ?_;refine rnx ?_)|(refine RS.lC ?_;refine rnx ?_)|refine RWL.fr ?_|refine RWL.wt ?_|(refine' WP.dl (id:=1) [0,1,3,7,0,16,63,127] (1000000::[0,1,2,4,5,6,8,47,51,52,53,74]) [5,7] [(5,_),(7,_)] ?_)|refine RWL.re ?_ ?_|refine RdO.oz|refine RdO.oa ?_|refine RdO.oe ?_|refine RdO.on|refine WP.cn (fun hc=>?_) (fun hc=>?_)|((first|refine WP.dw (id:=7) 13 (1000000::[0,1,2,4,5,6,8,47,51,52,53,74]) ?_);simp only [RQr_mk,List.drop_succ_cons,List.drop_zero,List.drop_nil])|((first|refine WP.dgr (id:=2) 6 [8,14] (1000000::[0,1,2,4,5,6,8,47,51,52,53,74]) ?_|refine RG.q ?_|refine RG.z ?_);simp only [RQr_mk,RSr_mk,List.drop_succ_cons,List.drop_zero,List.drop_nil,List.take_succ_cons,List.take_zero,List.take_nil])|refine RS.nx ?_|(refine RQ.pk ?_;refine rnx ?_)|(refine RQ.gF ?_;refine rnx ?_)|fail)
       exact⟨trivial,by simp only [go_sem,simprocAttr,List.length_cons,List.length_nil,Nat.add_assoc,Nat.zero_add],[],rfl⟩
      ·replace fx:=And.intro hsj (And.intro hyv (And.intro hCE2 (And.intro hk2 trivial)))
       repeat' (first|(refine RWL.fin ?_;try simp only [thenQ_n,blockQ_n])|refine stp (1000000::[0,1,2,4,5,6,8,47,51,52,53,74]) ?_|(refine RS.sE ?_;refine rnx ?_)|(refine RS.pk ?_;refine rnx ?_)|(refine RS.gF ?_;refine rnx ?_)|(refine RS.lC ?_;refine rnx ?_)|refine RWL.fr ?_|refine RWL.wt ?_|(refine' WP.dl (id:=1) [0,1,3,7,0,16,63,127] (1000000::[0,1,2,4,5,6,8,47,51,52,53,74]) [5,7] [(5,_),(7,_)] ?_)|refine RWL.re ?_ ?_|refine RdO.oz|refine RdO.oa ?_|refine RdO.oe ?_|refine RdO.on|refine WP.cn (fun hc=>?_) (fun hc=>?_)|((first|refine WP.dw (id:=7) 13 (1000000::[0,1,2,4,5,6,8,47,51,52,53,74]) ?_);simp only [RQr_mk,List.drop_succ_cons,List.drop_zero,List.drop_nil])|((first|refine WP.dgr (id:=2) 6 [8,14] (1000000::[0,1,2,4,5,6,8,47,51,52,53,74]) ?_|refine RG.q ?_|refine RG.z ?_);simp only [RQr_mk,RSr_mk,List.drop_succ_cons,List.drop_zero,List.drop_nil,List.take_succ_cons,List.take_zero,List.take_nil])|refine RS.nx ?_|(refine RQ.pk ?_;refine rnx ?_)|(refine RQ.gF ?_;refine rnx ?_)|fail)
       dsimp only [rngQ2,blockQ,thenQ]
       refine retMC ?_
       exact .inr ⟨rfl,by simp only [go_sem,simprocAttr]⟩
     | false =>
      have hb2:spB n [z]=[]:=by unfold spB;rw [List.filter_cons_of_neg (by simpa using hk2)];rfl
      rw [hb2]
      replace fx:=And.intro hsj (And.intro hyv (And.intro hCE2 (And.intro hk2 trivial)))
      repeat' (first|(refine RWL.fin ?_;try simp only [thenQ_n,blockQ_n])|refine stp (1000000::[0,1,2,4,5,6,8,47,51,52,53,74]) ?_|(refine RS.sE ?_;refine rnx ?_)|(refine RS.pk ?_;refine rnx ?_)|(refine RS.gF ?_;refine rnx ?_)|(refine RS.lC ?_;refine rnx ?_)|refine RWL.fr ?_|refine RWL.wt ?_|(refine' WP.dl (id:=1) [0,1,3,7,0,16,63,127] (1000000::[0,1,2,4,5,6,8,47,51,52,53,74]) [5,7] [(5,_),(7,_)] ?_)|refine RWL.re ?_ ?_|refine RdO.oz|refine RdO.oa ?_|refine RdO.oe ?_|refine RdO.on|refine WP.cn (fun hc=>?_) (fun hc=>?_)|((first|refine WP.dw (id:=7) 13 (1000000::[0,1,2,4,5,6,8,47,51,52,53,74]) ?_);simp only [RQr_mk,List.drop_succ_cons,List.drop_zero,List.drop_nil])|((first|refine WP.dgr (id:=2) 6 [8,14] (1000000::[0,1,2,4,5,6,8,47,51,52,53,74]) ?_|refine RG.q ?_|refine RG.z ?_);simp only [RQr_mk,RSr_mk,List.drop_succ_cons,List.drop_zero,List.drop_nil,List.take_succ_cons,List.take_zero,List.take_nil])|refine RS.nx ?_|(refine RQ.pk ?_;refine rnx ?_)|(refine RQ.gF ?_;refine rnx ?_)|fail)
      exact⟨trivial,by simp only [go_sem,simprocAttr,List.length_nil,Nat.add_zero],[],rfl⟩
    ·have hlL:(lnD L).length=L.length:=lnD_len L
     rw [hlL,List.take_length]
     replace fx:=And.intro hset (And.intro hyv trivial)
     repeat' (first|(refine RWL.fin ?_;try simp only [thenQ_n,blockQ_n])|refine stp (1000000::[0,1,2,4,5,6,8,47,51,52,53,74]) ?_|(refine RS.sE ?_;refine rnx ?_)|(refine RS.pk ?_;refine rnx ?_)|(refine RS.gF ?_;refine rnx ?_)|(refine RS.lC ?_;refine rnx ?_)|refine RWL.fr ?_|refine RWL.wt ?_|(refine' WP.dl (id:=1) [0,1,3,7,0,16,63,127] (1000000::[0,1,2,4,5,6,8,47,51,52,53,74]) [5,7] [(5,_),(7,_)] ?_)|refine RWL.re ?_ ?_|refine RdO.oz|refine RdO.oa ?_|refine RdO.oe ?_|refine RdO.on|refine WP.cn (fun hc=>?_) (fun hc=>?_)|((first|refine WP.dw (id:=7) 13 (1000000::[0,1,2,4,5,6,8,47,51,52,53,74]) ?_);simp only [RQr_mk,List.drop_succ_cons,List.drop_zero,List.drop_nil])|((first|refine WP.dgr (id:=2) 6 [8,14] (1000000::[0,1,2,4,5,6,8,47,51,52,53,74]) ?_|refine RG.q ?_|refine RG.z ?_);simp only [RQr_mk,RSr_mk,List.drop_succ_cons,List.drop_zero,List.drop_nil,List.take_succ_cons,List.take_zero,List.take_nil])|refine RS.nx ?_|(refine RQ.pk ?_;refine rnx ?_)|(refine RQ.gF ?_;refine rnx ?_)|fail)
     refine retMC ?_
     refine .inl ⟨rfl,?_⟩
     simp only [go_sem,simprocAttr,hq,Nat.add_assoc]
   ·replace fx:=And.intro hset (And.intro hCE (And.intro hyv trivial))
    repeat' (first|(refine RWL.fin ?_;try simp only [thenQ_n,blockQ_n])|refine stp (1000000::[0,1,2,4,5,6,8,47,51,52,53,74]) ?_|(refine RS.sE ?_;refine rnx ?_)|(refine RS.pk ?_;refine rnx ?_)|(refine RS.gF ?_;refine rnx ?_)|(refine RS.lC ?_;refine rnx ?_)|refine RWL.fr ?_|refine RWL.wt ?_|(refine stc (r1:=by exact hb0) (r2:=?_);refine rnx ?_)|(refine' WP.dl (id:=1) [0,1,3,7,0,16,63,127] (1000000::[0,1,2,4,5,6,8,47,51,52,53,74]) [5,7] [(5,_),(7,_)] ?_)|refine RWL.re ?_ ?_|refine RdO.oz|refine RdO.oa ?_|refine RdO.oe ?_|refine RdO.on|refine WP.cn (fun hc=>?_) (fun hc=>?_)|((first|refine WP.dw (id:=7) 13 (1000000::[0,1,2,4,5,6,8,47,51,52,53,74]) ?_);simp only [RQr_mk,List.drop_succ_cons,List.drop_zero,List.drop_nil])|((first|refine WP.dgr (id:=2) 6 [8,14] (1000000::[0,1,2,4,5,6,8,47,51,52,53,74]) ?_|refine RG.q ?_|refine RG.z ?_);simp only [RQr_mk,RSr_mk,List.drop_succ_cons,List.drop_zero,List.drop_nil,List.take_succ_cons,List.take_zero,List.take_nil])|refine RS.nx ?_|(refine RQ.pk ?_;refine rnx ?_)|(refine RQ.gF ?_;refine rnx ?_)|fail)
    refine retMC ?_
    exact .inr ⟨rfl,by simp only [go_sem,simprocAttr]⟩
  ·replace fx:=And.intro hset (And.intro hCE (And.intro hyv trivial))
   repeat' (first|(refine RWL.fin ?_;try simp only [thenQ_n,blockQ_n])|refine stp (1000000::[0,1,2,4,5,6,8,47,51,52,53,74]) ?_|(refine RS.sE ?_;refine rnx ?_)|(refine RS.pk ?_;refine rnx ?_)|(refine RS.gF ?_;refine rnx ?_)|(refine RS.lC ?_;refine rnx ?_)|refine RWL.fr ?_|refine RWL.wt ?_|(refine stc (r1:=by exact hb0) (r2:=?_);refine rnx ?_)|(refine' WP.dl (id:=1) [0,1,3,7,0,16,63,127] (1000000::[0,1,2,4,5,6,8,47,51,52,53,74]) [5,7] [(5,_),(7,_)] ?_)|refine RWL.re ?_ ?_|refine RdO.oz|refine RdO.oa ?_|refine RdO.oe ?_|refine RdO.on|refine WP.cn (fun hc=>?_) (fun hc=>?_)|((first|refine WP.dw (id:=7) 13 (1000000::[0,1,2,4,5,6,8,47,51,52,53,74]) ?_);simp only [RQr_mk,List.drop_succ_cons,List.drop_zero,List.drop_nil])|((first|refine WP.dgr (id:=2) 6 [8,14] (1000000::[0,1,2,4,5,6,8,47,51,52,53,74]) ?_|refine RG.q ?_|refine RG.z ?_);simp only [RQr_mk,RSr_mk,List.drop_succ_cons,List.drop_zero,List.drop_nil,List.take_succ_cons,List.take_zero,List.take_nil])|refine RS.nx ?_|(refine RQ.pk ?_;refine rnx ?_)|(refine RQ.gF ?_;refine rnx ?_)|fail)
   refine retMC ?_
   exact .inr ⟨rfl,by simp only [go_sem,simprocAttr]⟩
 ·replace fx:=And.intro hset (And.intro hCE (And.intro hyv trivial))
  repeat' (first|(refine RWL.fin ?_;try simp only [thenQ_n,blockQ_n])|refine stp (1000000::[0,1,2,4,5,6,8,47,51,52,53,74]) ?_|(refine RS.sE ?_;refine rnx ?_)|(refine RS.pk ?_;refine rnx ?_)|(refine RS.gF ?_;refine rnx ?_)|(refine RS.lC ?_;refine rnx ?_)|refine RWL.fr ?_|refine RWL.wt ?_|(refine stc (r1:=by exact hb0) (r2:=?_);refine rnx ?_)|(refine' WP.dl (id:=1) [0,1,3,7,0,16,63,127] (1000000::[0,1,2,4,5,6,8,47,51,52,53,74]) [5,7] [(5,_),(7,_)] ?_)|refine RWL.re ?_ ?_|refine RdO.oz|refine RdO.oa ?_|refine RdO.oe ?_|refine RdO.on|refine WP.cn (fun hc=>?_) (fun hc=>?_)|((first|refine WP.dw (id:=7) 13 (1000000::[0,1,2,4,5,6,8,47,51,52,53,74]) ?_);simp only [RQr_mk,List.drop_succ_cons,List.drop_zero,List.drop_nil])|((first|refine WP.dgr (id:=2) 6 [8,14] (1000000::[0,1,2,4,5,6,8,47,51,52,53,74]) ?_|refine RG.q ?_|refine RG.z ?_);simp only [RQr_mk,RSr_mk,List.drop_succ_cons,List.drop_zero,List.drop_nil,List.take_succ_cons,List.take_zero,List.take_nil])|refine RS.nx ?_|(refine RQ.pk ?_;refine rnx ?_)|(refine RQ.gF ?_;refine rnx ?_)|fail)
  refine retMC ?_
  exact .inr ⟨rfl,by simp only [go_sem,simprocAttr]⟩
theorem paSlots (p:List Cs):DPure Tryd.prog 43 [.a (.sl (p.map Cs.at))] (.a (.fn 54 [.ref [.sl (p.map Cs.at)] 0])):=by
 refine DPure.go Tryd.func43 rfl Tryd.ntmps43 rfl rfl rfl (fun C hro=>?_)
 have fx:=trivial
 repeat' (first|refine WP.seq ?_|(refine WP.reg [0,1,2] (by kernel_rfl) (by kernel_rfl) ?_;refine RS.run2 (by simp only [go_sem,simprocAttr,thenQ_n];first|done|rfl) ?_;simp only [RSr_mk])|(first|refine RS.finT (by simp only [go_sem,simprocAttr];first|done|rfl) ?_|refine RS.fin (by simp only [go_sem,simprocAttr];first|done|rfl) ?_;(try simp only [thenQ_n,blockQ_n])))
 refine WP.freeze 0 [.sl (p.map Cs.at)] [(2,.a (.fn 54 [.ref [.sl (p.map Cs.at)] 0]))] rfl rfl ?_ ?_
 ·simp only [Agree,go_sem,simprocAttr]
 refine WP.ret ?_;(try simp only [thenQ_r,blockQ_r]);refine ret1 rfl (by simp only [go_sem,simprocAttr,thenQ_n];first|done|rfl) (by simp only [go_sem,thenQ_n]) ?_
 rfl
theorem spMs_app (i:Int):∀(k:Int) (l m:List Me),spMs i k (l++m)=spMs i k l++spMs i (k+l.length) m
 | k,[],m=>by simp [spMs]
 | k,v::r,m=>by
  rw [List.cons_append,spMs,spMs,spMs_app i _ r m,List.append_assoc,List.length_cons]
  congr 3
  push_cast
  omega
theorem spCs_app:∀(i:Int) (l m:List Cs),spCs i (l++m)=spCs i l++spCs (i+l.length) m
 | i,[],m=>by simp [spCs]
 | i,v::r,m=>by
  rw [List.cons_append,spCs,spCs,spCs_app _ r m,List.append_assoc,List.length_cons]
  congr 3
  push_cast
  omega
theorem paSlots1 (p:List Cs) (hz:sumOf Cs.sz p≤2097152):DIt Tryd.prog 54 [.ref [.sl (p.map Cs.at)] 0] (spD (spCs 0 p)):=by
 intro E hE
 have hpl:p.length≤2097152:=Nat.le_trans (sumOf_len Cs.sz_pos p) hz
 refine DG.introV Tryd.func54 rfl Tryd.ntmps54 rfl rfl rfl (fun C hro hCE hon hCV=>?_)
 have fx:=trivial
 replace fx:=And.intro hCE trivial
 repeat' (first|refine stp (1000000::[0,1,3,4,6,7,8,19,25,26,27,41]) ?_|(refine RS.lC ?_;refine rnx ?_)|(refine RS.xC ?_;refine rnx ?_)|refine WP.cn (fun hc=>?_) (fun hc=>?_)|fail)
 refine WP.each p Cs.at 7 (fun i=>[(0,yv E.l),(1,.a (.ref [.sl (p.map Cs.at)] 0)),(6,.a (.v (.int .i64 (p.length:Nat)))),(7,.a (.v (.int .i64 (i:Nat)))),(1000000,.a (.v (.int .i64 (((spCs 0 (p.take i)).length:Nat):Int))))]) (fun _=>[]) (fun _=>True) (by simp only [Agree,go_sem,simprocAttr,hCE];first|done|rfl) rfl trivial (by omega) (fun z=>Cs.len z) ?_ ?_
 ·intro i c hc hdr htk hlt _ hlt2 hix hwu
  have hcz:c.sz≤2097152:=by have:=sumOf_mem (f:=Cs.sz) (List.mem_of_getElem? hc);omega
  obtain⟨y1,y2,y3,y4,y5,y6,y7,y8,y9⟩:=Cs.szH hcz
  have hsp:spCs 0 p=spCs 0 (p.take i)++(spV ⟨(i:Int),-1,0,Ty.zero,0⟩ 0 c.fields++(spMs (i:Int) 0 c.methods++spCs ((i:Int)+1) (p.drop (i+1)))):=by
   conv=>lhs;rw [←List.take_append_drop i p,spCs_app,hdr,spCs,spC,List.append_assoc]
   rw [List.length_take,Nat.min_eq_left (by omega),Int.zero_add]
  have htk2:(spCs 0 (p.take (i+1))).length=(spCs 0 (p.take i)).length+c.fields.length+(spMs (i:Int) 0 c.methods).length:=by
   rw [htk,spCs_app,List.length_append,spCs,spC,spCs,List.append_nil,List.length_append,spV_len,List.length_take,Nat.min_eq_left (by omega),Int.zero_add];omega
  have ht:TlAt E.tl 0 (spD (spCs 0 p)):=by rw [hE];intro j x hx;rw [Nat.zero_add];exact hx
  rw [hsp,spD_app,spD_app,spD_app] at ht
  have ht1:=ht.appR.appL
  have ht2:=ht.appR.appR.appL
  rw [spD_len,Nat.zero_add] at ht1 ht2
  rw [spD_len,spV_len] at ht2
  obtain⟨q,hq⟩:∃q,q=(spCs 0 (p.take i)).length:=⟨_,rfl⟩
  rw [←hq] at ht1 ht2 htk2 ⊢
  have hn1:=Nt.mk2 (i:Int) (-1)
  have c1:=paVars c.fields ⟨(i:Int),-1,0,Ty.zero,0⟩ 0 E q (by omega) (Int.le_refl _) (by omega) ht1
  replace fx:=And.intro hlt2 (And.intro hix (And.intro hwu (And.intro hn1 trivial)))
  repeat' (first|refine stp (1000000::[0,1,3,4,6,7,8,19,25,26,27,41]) ?_|(refine RS.lC ?_;refine rnx ?_)|(refine RS.xC ?_;refine rnx ?_)|refine WP.cn (fun hc=>?_) (fun hc=>?_)|fail)
  refine RS.callG (by simp only [go_sem,simprocAttr,fx];first|done|rfl) (by simp only [go_sem,simprocAttr,List.all_cons,List.all_nil,Bool.and_true,yv,fx];first|done|rfl) (by simp only [go_sem,simprocAttr,fx];first|done|rfl) hon (by rw [hCE];exact c1) (fun d st g hO=>OKs.scal hO) ?_ (by first|exact trivial|exact⟨rfl,trivial⟩)
  rintro d1 _ g1 (⟨rfl,rfl⟩|⟨rfl,rfl⟩)<;>refine RS.run2 (by simp only [go_sem,simprocAttr,fx];first|done|rfl) ?_;simp only [RSr_mk]
  ·replace fx:=And.intro hlt2 (And.intro hix (And.intro hwu (And.intro hn1 trivial)))
   repeat' (first|refine stp (1000000::[0,1,3,4,6,7,8,19,25,26,27,41]) ?_|(refine RS.lC ?_;refine rnx ?_)|(refine RS.xC ?_;refine rnx ?_)|refine WP.cn (fun hc=>?_) (fun hc=>?_)|fail)
   refine WP.each c.methods Me.at 17 (fun j=>[(0,yv E.l),(1,.a (.ref [.sl (p.map Cs.at)] 0)),(3,.a (.v (.int .i64 (i:Nat)))),(6,.a (.v (.int .i64 (p.length:Nat)))),(7,.a (.v (.int .i64 (i:Nat)))),(25,.a (.v (.int .i64 (c.methods.length:Nat)))),(26,.a (.v (.int .i64 (j:Nat)))),(1000000,.a (.v (.int .i64 ((q+c.fields.length+(spMs (i:Int) 0 (c.methods.take j)).length:Nat):Int))))]) (fun _=>[]) (fun _=>True) (by simp only [Agree,go_sem,simprocAttr,hCE];first|done|rfl) rfl trivial (by omega) (fun z=>Me.len z) ?_ ?_
   ·intro j m hm hdr2 htk3 hlt3 _ hlt4 hix2 hwu2
    have hmz:m.sz≤2097152:=by have:=sumOf_mem (f:=Me.sz) (List.mem_of_getElem? hm);omega
    have hms:spMs (i:Int) 0 c.methods=spMs (i:Int) 0 (c.methods.take j)++(spM ⟨(i:Int),(j:Int),0,Ty.zero,0⟩ m++spMs (i:Int) ((j:Int)+1) (c.methods.drop (j+1))):=by
     conv=>lhs;rw [←List.take_append_drop j c.methods,spMs_app,hdr2,spMs]
     rw [List.length_take,Nat.min_eq_left (by omega),Int.zero_add]
    have hml:(spMs (i:Int) 0 (c.methods.take (j+1))).length=(spMs (i:Int) 0 (c.methods.take j)).length+(spM ⟨(i:Int),(j:Int),0,Ty.zero,0⟩ m).length:=by
     rw [htk3,spMs_app,List.length_append,spMs,spMs,List.append_nil,List.length_take,Nat.min_eq_left (by omega),Int.zero_add]
    rw [hms,spD_app,spD_app] at ht2
    have ht3:=ht2.appR.appL
    rw [spD_len] at ht3
    obtain⟨w,hw⟩:∃w,w=(spMs (i:Int) 0 (c.methods.take j)).length:=⟨_,rfl⟩
    rw [←hw] at ht3 hml ⊢
    have hn2:=Nt.mk2 (i:Int) (j:Int)
    have c2:=paMeth m ⟨(i:Int),(j:Int),0,Ty.zero,0⟩ E (q+c.fields.length+w) hmz ht3
    replace fx:=And.intro hlt4 (And.intro hix (And.intro hix2 (And.intro hwu2 (And.intro hn2 trivial))))
    repeat' (first|refine stp (1000000::[0,1,3,4,6,7,8,19,25,26,27,41]) ?_|(refine RS.lC ?_;refine rnx ?_)|(refine RS.xC ?_;refine rnx ?_)|refine WP.cn (fun hc=>?_) (fun hc=>?_)|fail)
    refine RS.callG (by simp only [go_sem,simprocAttr,fx];first|done|rfl) (by simp only [go_sem,simprocAttr,List.all_cons,List.all_nil,Bool.and_true,yv,fx];first|done|rfl) (by simp only [go_sem,simprocAttr,fx];first|done|rfl) hon (by rw [hCE];exact c2) (fun d st g hO=>OKs.scal hO) ?_ (by first|exact trivial|exact⟨rfl,trivial⟩)
    rintro d1 _ g1 (⟨rfl,rfl⟩|⟨rfl,rfl⟩)<;>refine RS.run2 (by simp only [go_sem,simprocAttr,fx];first|done|rfl) ?_;simp only [RSr_mk]
    ·replace fx:=And.intro hlt4 (And.intro hix (And.intro hix2 (And.intro hwu2 (And.intro hn2 trivial))))
     repeat' (first|refine stp (1000000::[0,1,3,4,6,7,8,19,25,26,27,41]) ?_|(refine RS.lC ?_;refine rnx ?_)|(refine RS.xC ?_;refine rnx ?_)|refine WP.cn (fun hc=>?_) (fun hc=>?_)|fail)
     exact⟨trivial,[],by simp only [Agree,go_sem,simprocAttr,hml,Nat.add_assoc],rfl,rfl,rfl⟩
    ·replace fx:=And.intro hlt4 (And.intro hix (And.intro hix2 (And.intro hwu2 (And.intro hn2 trivial))))
     repeat' (first|refine stp (1000000::[0,1,3,4,6,7,8,19,25,26,27,41]) ?_|(refine RS.lC ?_;refine rnx ?_)|(refine RS.xC ?_;refine rnx ?_)|refine WP.cn (fun hc=>?_) (fun hc=>?_)|fail)
     exact retM0 (.inr (by simp only [go_sem,simprocAttr]))
   ·intro _ hlt4
    replace fx:=And.intro hlt4 (And.intro hwu trivial)
    repeat' (first|refine stp (1000000::[0,1,3,4,6,7,8,19,25,26,27,41]) ?_|(refine RS.lC ?_;refine rnx ?_)|(refine RS.xC ?_;refine rnx ?_)|refine WP.cn (fun hc=>?_) (fun hc=>?_)|fail)
    exact⟨trivial,[],by simp only [Agree,go_sem,simprocAttr,htk2,List.take_length],rfl,rfl,rfl⟩
  ·replace fx:=And.intro hlt2 (And.intro hix (And.intro hwu (And.intro hn1 trivial)))
   repeat' (first|refine stp (1000000::[0,1,3,4,6,7,8,19,25,26,27,41]) ?_|(refine RS.lC ?_;refine rnx ?_)|(refine RS.xC ?_;refine rnx ?_)|refine WP.cn (fun hc=>?_) (fun hc=>?_)|fail)
   exact retM0 (.inr (by simp only [go_sem,simprocAttr]))
 ·intro _ hlt2
  replace fx:=And.intro hlt2 trivial
  repeat' (first|refine stp (1000000::[0,1,3,4,6,7,8,19,25,26,27,41]) ?_|(refine RS.lC ?_;refine rnx ?_)|(refine RS.xC ?_;refine rnx ?_)|refine WP.cn (fun hc=>?_) (fun hc=>?_)|fail)
  refine retM0n (.inl ?_)
  simp only [go_sem,simprocAttr,List.take_length,spD_len]
theorem Sp_row {L:List Sp} {j:Nat} {xs:List D} (h:(spD L)[j]? = some xs):∃z,L[j]? = some z∧xs=[.r (slAt z.row z.off z.b z.n)]:=by
 unfold spD at h
 rw [List.getElem?_map,Option.map_eq_some_iff] at h
 obtain⟨z,h1,rfl⟩:=h
 exact⟨z,h1,rfl⟩
theorem spV_ok (n:Nt) (hn:n.t=Ty.zero):∀(k:Int) (l:List Vr),∀s∈spV n k l,s.ok
 | k,[],s,h=>by simp [spV] at h
 | k,v::r,s,h=>by
  rw [spV,List.mem_cons] at h
  rcases h with rfl|h
  ·exact⟨Vr.s1 v,hn,Vr.cl v⟩
  ·exact spV_ok n hn _ r s h
theorem spM_ok (n:Nt) (hn:n.t=Ty.zero) (m:Me):∀s∈spM n m,s.ok:=by
 intro s h
 unfold spM at h
 rw [List.mem_cons,List.mem_append,List.mem_append] at h
 rcases h with rfl|h|h|h
 ·exact⟨Me.s2 m,hn,Me.cl m⟩
 ·exact spV_ok n hn _ _ s h
 ·exact spV_ok n hn _ _ s h
 ·unfold spB at h
  obtain⟨z,_,rfl⟩:=List.mem_map.1 h
  exact⟨St.s4 z.2,hn,St.cl z.2⟩
theorem spMs_ok (i:Int):∀(k:Int) (l:List Me),∀s∈spMs i k l,s.ok
 | k,[],s,h=>by simp [spMs] at h
 | k,m::r,s,h=>by
  rw [spMs,List.mem_append] at h
  rcases h with h|h
  ·exact spM_ok _ rfl m s h
  ·exact spMs_ok i _ r s h
theorem spCs_ok:∀(i:Int) (p:List Cs),∀s∈spCs i p,s.ok
 | i,[],s,h=>by simp [spCs] at h
 | i,c::r,s,h=>by
  rw [spCs,spC,List.mem_append,List.mem_append] at h
  rcases h with (h|h)|h
  ·exact spV_ok _ rfl _ _ s h
  ·exact spMs_ok _ _ _ s h
  ·exact spCs_ok _ r s h
theorem slAt_n {r:List A} {o:Nat} {b:Bool} {n:Nt}:ldRow (some 15) (slAt r o b n) 2=some (.r (Nt.at n)):=by unfold slAt;rw [Nt.row];rfl
theorem slAt_g {r:List A} {o:Nat} {b:Bool} {n:Nt}:ldRow none (slAt r o b n) 0=some (.a (.ref r o)):=rfl
theorem slAt_t {r:List A} {o:Nat} {b:Bool} {n:Nt} {t:Ty}:putRow (slAt r o b n) 5 (Ty.at t)=slAt r o b { n with t:=t }:=by unfold slAt;rw [Nt.row,Nt.row];cases t;rfl
theorem slAt_w {r:List A} {o:Nat} {b:Bool} {n:Nt}:putRow zSl 0 (slAt r o b n)=slAt r o b n:=by unfold slAt;rw [Nt.row];rfl
theorem slAt_len {r:List A} {o:Nat} {b:Bool} {n:Nt}:(slAt r o b n).length=17:=by unfold slAt;rw [Nt.row];rfl
@[go_sem] theorem allLen_Nt {l:List Nt}:allLen 15 (l.map Nt.at)=true:=allLen_map (fun x=>Nt.len x) l
attribute [go_sem] slAt_n slAt_g slAt_t slAt_w slAt_len
def stoN (L:List Sp):Nat→List Bx
 | 0=>[.cell [.nl]]
 | j+1=>[.cell [.own 2 j],.cell (match L with|s::_=>slAt s.row s.off s.b s.nt|[]=>[]),.arr j 15 (((L.take (j+1)).map Sp.nt).map Nt.at)]
theorem stoN_nr (L:List Sp) (j:Nat):nrS (stoN L j).length (stoN L j)=true:=by
 cases j with
 | zero=>rfl
 | succ j =>
  unfold stoN
  cases L with
  | nil=>rfl
  | cons s r=>simp only [go_sem,simprocAttr];try rfl
theorem paTypes (p:List Cs) (hz:sumOf Cs.sz p≤2097152) (hL:(spCs 0 p).length≤4194304):DPure Tryd.prog 33 [.a (.sl (p.map Cs.at))] (.a (.sl ((typesL p).map Nt.at))):=by
 have hs0:=paSlots p
 have hs1:=paSlots1 p hz
 have hok:=spCs_ok 0 p
 unfold typesL
 generalize spCs 0 p=L at hs1 hok hL ⊢
 have hlL:=spD_len L
 refine DPure.goV Tryd.func33 rfl Tryd.ntmps33 rfl rfl rfl (fun C hro hCV=>?_)
 have fx:=trivial
 repeat' (first|refine stp [0,2,3,4,6,7] ?_|(refine RS.aO ?_;refine rnx ?_)|(refine RS.aN ?_;refine rnx ?_)|(refine RS.ls ?_;refine rnx ?_)|(refine RS.sE ?_;refine rnx ?_)|(refine RS.aE ?_;refine rnx ?_)|(refine RS.aK ?_;refine rnx ?_)|(refine RS.bC ?_;refine rnx ?_)|(refine stc (r1:=by exact hs0) (r2:=?_);refine rnx ?_)|fail)
 refine WP.range2 [(3,.a (.ptr 0 0))] (fun j=>stoN L j) [] (spD L) (fun _=>.junk) (fun _=>True) trivial hro (by simp only [go_sem,simprocAttr]) rfl ?_ rfl (.inl rfl) (.inl rfl) rfl rfl (by rw [hCV];exact Nat.zero_le _) (fun j=>by cases j<;>first|exact Nat.le_refl _|exact Nat.le_of_ble_eq_true rfl) (fun j=>stoN_nr L j) rfl (by simp only [go_sem,simprocAttr]<;>rfl) rfl rfl hs1.toM (.inl rfl) rfl (fun j xs hx=>?_) (fun C1 j xs hC1 hon1 hx _=>?_) (fun _=>?_)
 ·simp only [Agree,go_sem,simprocAttr]
 ·obtain⟨z,_,rfl⟩:=Sp_row hx;rfl
 ·obtain⟨z,hzL,rfl⟩:=Sp_row hx
  have hjl:=(List.getElem?_eq_some_iff.1 hzL).1
  obtain⟨k1,k2,k3⟩:=hok z (List.mem_of_getElem? hzL)
  have htk:((L.take (j+1)).map Sp.nt).map Nt.at=((L.take j).map Sp.nt).map Nt.at++[Nt.at z.nt]:=by rw [take_snocA hzL,List.map_append,List.map_append];rfl
  have hnt:({ z.n with t:=z.t }:Nt)=z.nt:=rfl
  have hlen:(((L.take j).map Sp.nt).map Nt.at).length=j:=by simp;omega
  simp only [bindE_2]
  cases j with
  | zero =>
   have hL0:∃r,L=z::r:=by cases L with|nil=>simp at hzL|cons a r=>exact⟨r,by simpa using hzL⟩
   obtain⟨r,rfl⟩:=hL0
   simp only [stoN]
   replace fx:=And.intro k1 (And.intro hnt trivial)
   repeat' (first|refine stp [0,2,3,4,6,7] ?_|(refine RS.aO ?_;refine rnx ?_)|(refine RS.aN ?_;refine rnx ?_)|(refine RS.ls ?_;refine rnx ?_)|(refine RS.sE ?_;refine rnx ?_)|(refine RS.aE ?_;refine rnx ?_)|(refine RS.aK ?_;refine rnx ?_)|(refine RS.bC ?_;refine rnx ?_)|fail)
   intro C2 _ _
   replace fx:=And.intro k1 (And.intro hnt trivial)
   repeat' (first|refine stp [0,2,3,4,6,7] ?_|(refine RS.aO ?_;refine rnx ?_)|(refine RS.aN ?_;refine rnx ?_)|(refine RS.ls ?_;refine rnx ?_)|(refine RS.sE ?_;refine rnx ?_)|(refine RS.aE ?_;refine rnx ?_)|(refine RS.aK ?_;refine rnx ?_)|(refine RS.bC ?_;refine rnx ?_)|fail)
   exact⟨trivial,by simp only [go_sem,simprocAttr],[],rfl⟩
  | succ j =>
   obtain⟨X,hX⟩:∃X,X=(match L with|s::_=>slAt s.row s.off s.b s.nt|[]=>[]):=⟨_,rfl⟩
   have hst:stoN L (j+1+1)=[.cell [.own 2 (j+1)],.cell X,.arr (j+1) 15 (((L.take (j+1)).map Sp.nt).map Nt.at++[Nt.at z.nt])]:=by rw [hX,←htk];rfl
   rw [hst]
   simp only [stoN]
   rw [←hX]
   generalize ((L.take (j+1)).map Sp.nt).map Nt.at=R at hlen ⊢
   have hkk:(j==j)=true:=beq_self_eq_true j
   replace fx:=And.intro k1 (And.intro hnt (And.intro hkk (And.intro hlen trivial)))
   repeat' (first|refine stp [0,2,3,4,6,7] ?_|(refine RS.aO ?_;refine rnx ?_)|(refine RS.aN ?_;refine rnx ?_)|(refine RS.ls ?_;refine rnx ?_)|(refine RS.sE ?_;refine rnx ?_)|(refine RS.aE ?_;refine rnx ?_)|(refine RS.aK ?_;refine rnx ?_)|(refine RS.bC ?_;refine rnx ?_)|fail)
   intro C2 _ _
   replace fx:=And.intro k1 (And.intro hnt (And.intro hkk (And.intro hlen trivial)))
   repeat' (first|refine stp [0,2,3,4,6,7] ?_|(refine RS.aO ?_;refine rnx ?_)|(refine RS.aN ?_;refine rnx ?_)|(refine RS.ls ?_;refine rnx ?_)|(refine RS.sE ?_;refine rnx ?_)|(refine RS.aE ?_;refine rnx ?_)|(refine RS.aK ?_;refine rnx ?_)|(refine RS.bC ?_;refine rnx ?_)|fail)
   exact⟨trivial,by simp only [go_sem,simprocAttr],_,rfl⟩
 ·rw [hlL]
  cases hj:L.length with
  | zero =>
   have:L=[]:=List.eq_nil_of_length_eq_zero hj
   subst this
   simp only [stoN]
   repeat' (first|refine stp [0,2,3,4,6,7] ?_|(refine RS.aO ?_;refine rnx ?_)|(refine RS.aN ?_;refine rnx ?_)|(refine RS.ls ?_;refine rnx ?_)|(refine RS.sE ?_;refine rnx ?_)|(refine RS.aE ?_;refine rnx ?_)|(refine RS.aK ?_;refine rnx ?_)|(refine RS.bC ?_;refine rnx ?_)|fail)
   rfl
  | succ j =>
   have hkk:(j==j)=true:=beq_self_eq_true j
   simp only [stoN]
   rw [show L.take (j+1)=L from List.take_of_length_le (by omega)]
   replace fx:=And.intro hkk trivial
   repeat' (first|refine stp [0,2,3,4,6,7] ?_|(refine RS.aO ?_;refine rnx ?_)|(refine RS.aN ?_;refine rnx ?_)|(refine RS.ls ?_;refine rnx ?_)|(refine RS.sE ?_;refine rnx ?_)|(refine RS.aE ?_;refine rnx ?_)|(refine RS.aK ?_;refine rnx ?_)|(refine RS.bC ?_;refine rnx ?_)|fail)
   rfl
end Go.Proofs.YtibdalkdgjghoaaDoor
