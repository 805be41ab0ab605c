/- The document's statements one behind the other, on plain data. Conditions: at most 2^20 of anything. -/
import Derived.Test.YtibdalkdgjghoaaGreatDoorMg35
import Derived.Test.YtibdalkdgjghoaaGreatDoorMg36
import Derived.Test.YtibdalkdgjghoaaGreatDoorMg37
import Derived.Test.YtibdalkdgjghoaaGreatDoorMg40
import Derived.Test.YtibdalkdgjghoaaGreatDoorMg46
import Derived.Test.YtibdalkdgjghoaaGreatDoorMg30
set_option linter.unusedVariables false
set_option maxRecDepth 100000
set_option maxHeartbeats 8000000
set_option linter.unusedSimpArgs false
namespace Go.Proofs.YtibdalkdgjghoaaGreatDoor
open Go.RowKit
@[go_sem] theorem allLen_Ln {l:List Ln}:allLen 26 (l.map Ln.at)=true:=allLen_map (fun x=>Ln.len x) l
def mkLn (a:Ln) (x:Int×St):Ln:={ a with d:=x.1,s:=x.2 }
def lnEx:Nat→D
 | 0=>.a .nl
 | k+1=>.a (.own 2 (3*k+2))
def lnBx (a:Ln) (X:List A) (R:List Ln):Nat→List Bx
 | 0=>[.cell (Ln.at a)]
 | k+1=>[.cell (Ln.at a),.cell X,.arr (3*k+2) 26 (R.map Ln.at)]
theorem lnBx_len (a:Ln) (X:List A) (R R':List Ln) (k:Nat):(lnBx a X R k).length≤(lnBx a X R' (k+1)).length:=by cases k<;>simp [lnBx]
theorem pr12lines:∀(n:Nat) (l:List St) (a:Ln),St.szs l≤n→n≤1048576→0≤a.d→a.d+n≤4194304→DPure Tryz.prog 79 [.a (.sl (l.map St.at)),.r (Ln.at a)] (.a (.sl (((St.lns a.d l).map (mkLn a)).map Ln.at))):=by
 intro n
 induction n with
 | zero =>
  intro l a hz hn hd hdn
  have:l=[]:=by cases l with
   | nil=>rfl
   | cons s r=>have:=St.sz_pos s;rw [St.szs] at hz;omega
  subst this
  refine DPure.go Tryz.func79 rfl Tryz.ntmps79 rfl rfl rfl (fun C hro=>?_)
  have fx:=trivial
  repeat' (first|refine stp [0,1,3,4,5,6,7,11] ?_|(refine RS.aO ?_;refine rnx ?_)|(refine RS.aN ?_;refine rnx ?_)|(refine RS.li ?_;refine rnx ?_)|(refine RS.sE ?_;refine rnx ?_)|(refine RS.aE ?_;refine rnx ?_)|(refine RS.aK ?_;refine rnx ?_)|(refine RS.lC ?_;refine rnx ?_)|(refine RS.xC ?_;refine rnx ?_)|(refine RS.bC ?_;refine rnx ?_)|refine WP.cn (fun hc=>?_) (fun hc=>?_)|((first|refine WP.dw (id:=9) 8 [0,1,3,4,5,6,7,11] ?_|refine WP.dw (id:=10) 8 [0,1,3,4,5,6,7,11] ?_);simp only [RQr_mk,List.drop_succ_cons,List.drop_zero,List.drop_nil])|fail)
  refine WP.loop_in ?_
  refine WPIn.unroll ?_
  repeat' (first|refine stp [0,1,3,4,5,6,7,11] ?_|(refine RS.aO ?_;refine rnx ?_)|(refine RS.aN ?_;refine rnx ?_)|(refine RS.li ?_;refine rnx ?_)|(refine RS.sE ?_;refine rnx ?_)|(refine RS.aE ?_;refine rnx ?_)|(refine RS.aK ?_;refine rnx ?_)|(refine RS.lC ?_;refine rnx ?_)|(refine RS.xC ?_;refine rnx ?_)|(refine RS.bC ?_;refine rnx ?_)|refine WP.cn (fun hc=>?_) (fun hc=>?_)|((first|refine WP.dw (id:=9) 8 [0,1,3,4,5,6,7,11] ?_|refine WP.dw (id:=10) 8 [0,1,3,4,5,6,7,11] ?_);simp only [RQr_mk,List.drop_succ_cons,List.drop_zero,List.drop_nil])|fail)
  rfl
 | succ n ih =>
  intro l a hz hn hd hdn
  have hll:l.length≤1048576:=by rw [sumOf_szs] at hz;have:=sumOf_len St.sz_pos l;omega
  have hwd:IntKind.i64.wrap (a.d+1)=a.d+1:=wrap64 (by omega) (by omega)
  have hlz:=Ln.z0
  have hLt:∀k,((St.lns a.d (l.take k)).map (mkLn a)).length≤1048576:=fun k=>by
   have h1:=St.lns_len _ (l.take k) a.d (Nat.le_refl _)
   have h2:St.szs (l.take k)≤St.szs l:=by rw [sumOf_szs,sumOf_szs];exact sumOf_take St.sz l k
   rw [List.length_map];omega
  obtain⟨X,hX⟩:∃X:List A,X=(match l with|z::_=>Ln.at { a with s:=z,d:=a.d+1 }|[]=>[]):=⟨_,rfl⟩
  have hXn:∀m,X.all (nrA m)=true:=fun m=>by subst hX;cases l with|nil=>rfl|cons z r=>exact Ln.nr _ m
  refine DPure.go Tryz.func79 rfl Tryz.ntmps79 rfl rfl rfl (fun C hro=>?_)
  have fx:=trivial
  repeat' (first|refine stp [0,1,3,4,5,6,7,11] ?_|(refine RS.aO ?_;refine rnx ?_)|(refine RS.aN ?_;refine rnx ?_)|(refine RS.ls ?_;refine rnx ?_)|(refine RS.sE ?_;refine rnx ?_)|(refine RS.aE ?_;refine rnx ?_)|(refine RS.aK ?_;refine rnx ?_)|(refine RS.lC ?_;refine rnx ?_)|(refine RS.xC ?_;refine rnx ?_)|(refine RS.bC ?_;refine rnx ?_)|refine WP.cn (fun hc=>?_) (fun hc=>?_)|((first|refine WP.dw (id:=9) 8 [0,1,3,4,5,6,7,11] ?_|refine WP.dw (id:=10) 8 [0,1,3,4,5,6,7,11] ?_);simp only [RQr_mk,List.drop_succ_cons,List.drop_zero,List.drop_nil])|fail)
  refine WP.each l St.at 23 (fun k=>[(0,.a (.sl (l.map St.at))),(3,.a (.ptr 0 0)),(5,lnEx k),(6,.a (.v (.int .i64 (k:Nat))))]) (fun k=>lnBx a X ((St.lns a.d (l.take k)).map (mkLn a)) k) (fun _=>True) (by simp only [lnEx,Agree,go_sem,simprocAttr];first|done|rfl) rfl trivial (by omega) (fun z=>St.len z) ?_ ?_ (fun k=>lnBx_len a X _ _ k)
  ·intro k z hz1 hdr htk hlt _ hlt2 hix hwu
   have hzs:z.sz≤n+1:=by rw [sumOf_szs] at hz;have:=sumOf_mem (f:=St.sz) (List.mem_of_getElem? hz1);omega
   have hzk:=St.sz_eq z
   have hL1:=hLt k
   have hR:((St.lns a.d (l.take (k+1))).map (mkLn a))=(((St.lns a.d (l.take k)).map (mkLn a)++[{ a with s:=z }])++(St.lns (a.d+1) z.body).map (mkLn { a with s:=z,d:=a.d+1 }))++(St.lns (a.d+1) z.els).map (mkLn { a with s:=z,d:=a.d+1 }):=by
    rw [htk,St.lns_app,St.lns_cons,List.map_append,List.map_append,List.map_cons,List.map_append]
    simp only [St.lns,List.map_nil,List.append_nil,List.append_assoc]
    rfl
   have hb:=ih z.body { a with s:=z,d:=a.d+1 } (by omega) (by omega) (by show 0≤a.d+1;omega) (by show a.d+1+n≤_;omega)
   have he:=ih z.els { a with s:=z,d:=a.d+1 } (by omega) (by omega) (by show 0≤a.d+1;omega) (by show a.d+1+n≤_;omega)
   have hB1:((St.lns (a.d+1) z.body).map (mkLn { a with s:=z,d:=a.d+1 })).length≤1048576:=by rw [List.length_map];have:=St.lns_len _ z.body (a.d+1) (Nat.le_refl _);omega
   have hE1:((St.lns (a.d+1) z.els).map (mkLn { a with s:=z,d:=a.d+1 })).length≤1048576:=by rw [List.length_map];have:=St.lns_len _ z.els (a.d+1) (Nat.le_refl _);omega
   generalize (St.lns (a.d+1) z.body).map (mkLn { a with s:=z,d:=a.d+1 })=B at hb hB1 hR
   generalize (St.lns (a.d+1) z.els).map (mkLn { a with s:=z,d:=a.d+1 })=EE at he hE1 hR
   cases k with
   | zero =>
    have hX0:X=Ln.at { a with s:=z,d:=a.d+1 }:=by
     rw [hX];cases l with|nil=>simp at hz1|cons y r=>simp at hz1;subst hz1;rfl
    have hl0:decide ((0:Int)<((l.length:Nat):Int))=true:=hlt2
    have hx0:∀q2,ixD (some 23) q2 (.a (.sl (l.map St.at))) (.a (.v (.int .i64 0)))=some (.a (.ref (St.at z) 0)):=hix
    simp only [lnEx,lnBx]
    replace fx:=And.intro hl0 (And.intro hx0 (And.intro hwd (And.intro hlz trivial)))
    repeat' (first|refine stp [0,1,3,4,5,6,7,11] ?_|(refine RS.aO ?_;refine rnx ?_)|(refine RS.aN ?_;refine rnx ?_)|(refine RS.ls ?_;refine rnx ?_)|(refine RS.sE ?_;refine rnx ?_)|(refine RS.aE ?_;refine rnx ?_)|(refine RS.aK ?_;refine rnx ?_)|(refine RS.lC ?_;refine rnx ?_)|(refine RS.xC ?_;refine rnx ?_)|(refine RS.bC ?_;refine rnx ?_)|(refine stc (r1:=by first|exact hb|exact he) (r2:=?_);refine rnx ?_)|refine WP.cn (fun hc=>?_) (fun hc=>?_)|((first|refine WP.dw (id:=9) 8 [0,1,3,4,5,6,7,11] ?_|refine WP.dw (id:=10) 8 [0,1,3,4,5,6,7,11] ?_);simp only [RQr_mk,List.drop_succ_cons,List.drop_zero,List.drop_nil])|fail)
    refine⟨trivial,[],by simp only [lnEx,Agree,go_sem,simprocAttr],?_,rfl,?_⟩
    ·dsimp only;rw [hX0,hR];simp [St.lns]
    ·simp only [go_sem,simprocAttr,hXn]
   | succ k =>
    have hkk:(3*k+2==3*k+2)=true:=beq_self_eq_true _
    have hkk2:(3*k+2+1==3*k+2+1)=true:=beq_self_eq_true _
    have hkk3:(3*k+2+1+1==3*k+2+1+1)=true:=beq_self_eq_true _
    simp only [lnEx,lnBx]
    generalize (St.lns a.d (l.take (k+1))).map (mkLn a)=R at hL1 hR ⊢
    replace fx:=And.intro hlt2 (And.intro hix (And.intro hwu (And.intro hwd (And.intro hlz (And.intro hkk (And.intro hkk2 (And.intro hkk3 trivial)))))))
    repeat' (first|refine stp [0,1,3,4,5,6,7,11] ?_|(refine RS.aO ?_;refine rnx ?_)|(refine RS.aN ?_;refine rnx ?_)|(refine RS.ls ?_;refine rnx ?_)|(refine RS.sE ?_;refine rnx ?_)|(refine RS.aE ?_;refine rnx ?_)|(refine RS.aK ?_;refine rnx ?_)|(refine RS.lC ?_;refine rnx ?_)|(refine RS.xC ?_;refine rnx ?_)|(refine RS.bC ?_;refine rnx ?_)|(refine stc (r1:=by first|exact hb|exact he) (r2:=?_);refine rnx ?_)|refine WP.cn (fun hc=>?_) (fun hc=>?_)|((first|refine WP.dw (id:=9) 8 [0,1,3,4,5,6,7,11] ?_|refine WP.dw (id:=10) 8 [0,1,3,4,5,6,7,11] ?_);simp only [RQr_mk,List.drop_succ_cons,List.drop_zero,List.drop_nil])|fail)
    refine⟨trivial,[.cell (Ln.at { a with s:=z,d:=a.d+1 })],by simp only [lnEx,Agree,go_sem,simprocAttr];try rfl,?_,rfl,?_⟩
    ·dsimp only;rw [hR];simp only [List.map_append,List.map_cons,List.map_nil];rfl
    ·simp only [go_sem,simprocAttr,hXn]
  ·intro _ hlt2
   rw [List.take_length]
   cases hk:l.length with
   | zero =>
    have hl0:l=[]:=List.eq_nil_of_length_eq_zero hk
    subst hl0
    simp only [lnEx,lnBx]
    replace fx:=And.intro hlt2 trivial
    repeat' (first|refine stp [0,1,3,4,5,6,7,11] ?_|(refine RS.aO ?_;refine rnx ?_)|(refine RS.aN ?_;refine rnx ?_)|(refine RS.ls ?_;refine rnx ?_)|(refine RS.sE ?_;refine rnx ?_)|(refine RS.aE ?_;refine rnx ?_)|(refine RS.aK ?_;refine rnx ?_)|(refine RS.lC ?_;refine rnx ?_)|(refine RS.xC ?_;refine rnx ?_)|(refine RS.bC ?_;refine rnx ?_)|refine WP.cn (fun hc=>?_) (fun hc=>?_)|((first|refine WP.dw (id:=9) 8 [0,1,3,4,5,6,7,11] ?_|refine WP.dw (id:=10) 8 [0,1,3,4,5,6,7,11] ?_);simp only [RQr_mk,List.drop_succ_cons,List.drop_zero,List.drop_nil])|fail)
    rfl
   | succ k =>
    rw [hk] at hlt2
    have hk2:decide (((k+1:Nat):Int)<((l.length:Nat):Int))=false:=by rw [hk];exact hlt2
    have hkk:(3*k+2==3*k+2)=true:=beq_self_eq_true _
    simp only [lnEx,lnBx]
    replace fx:=And.intro hk2 (And.intro hkk trivial)
    repeat' (first|refine stp [0,1,3,4,5,6,7,11] ?_|(refine RS.aO ?_;refine rnx ?_)|(refine RS.aN ?_;refine rnx ?_)|(refine RS.ls ?_;refine rnx ?_)|(refine RS.sE ?_;refine rnx ?_)|(refine RS.aE ?_;refine rnx ?_)|(refine RS.aK ?_;refine rnx ?_)|(refine RS.lC ?_;refine rnx ?_)|(refine RS.xC ?_;refine rnx ?_)|(refine RS.bC ?_;refine rnx ?_)|refine WP.cn (fun hc=>?_) (fun hc=>?_)|((first|refine WP.dw (id:=9) 8 [0,1,3,4,5,6,7,11] ?_|refine WP.dw (id:=10) 8 [0,1,3,4,5,6,7,11] ?_);simp only [RQr_mk,List.drop_succ_cons,List.drop_zero,List.drop_nil])|fail)
    rfl
def xOf:List Cs→List A
 | []=>[]
 | c::r=>match c.fields with
  | v::_=>Vr.at v
  | []=>match c.methods with
   | m::_=>Me.at m
   | []=>xOf r
theorem xOf_nr (k:Nat):∀p:List Cs,(xOf p).all (nrA k)=true
 | []=>rfl
 | c::r=>by
  rw [xOf]
  split
  ·exact Vr.nr (m:=k) _
  ·split
   ·exact Me.nr (m:=k) _
   ·exact xOf_nr k r
def ntE:List Nt→D
 | []=>.a .nl
 | _::r=>.a (.own 1 r.length)
def ntBx (X:List A):List Nt→List Bx
 | []=>[]
 | f::r=>[.cell X,.arr r.length 15 ((f::r).map Nt.at)]
theorem ntE_c {R:List Nt} {r:Nat} (h:R.length=r+1):ntE R=.a (.own 1 r):=by
 cases R with|nil=>cases h|cons f l=>simp at h;rw [ntE,h]
theorem ntBx_c {X:List A} {R:List Nt} {r:Nat} (h:R.length=r+1):ntBx X R=[.cell X,.arr r 15 (R.map Nt.at)]:=by
 cases R with|nil=>cases h|cons f l=>simp at h;rw [ntBx,h]
theorem ntBx_le (X:List A) (R S:List Nt):(ntBx X R).length≤(ntBx X (R++S)).length:=by
 cases R with
 | cons=>exact Nat.le_refl _
 | nil=>cases S<;>exact Nat.le_of_ble_eq_true rfl
theorem ntBx_nr {X:List A} (hX:∀k,X.all (nrA k)=true) (R:List Nt):nrS (ntBx X R).length (ntBx X R)=true:=by
 cases R with
 | nil=>rfl
 | cons f r=>simp only [ntBx,go_sem,simprocAttr,hX]
theorem ntE_nr (X:List A) (R:List Nt):nrD (ntBx X R).length (ntE R)=true:=by cases R<;>rfl
theorem nt_cases (R:List Nt):R=[]∨∃r,R.length=r+1:=by cases R with|nil=>exact .inl rfl|cons f r=>exact .inr ⟨_,rfl⟩
def ntsV (n:Nt) (k:Int) (l:List Vr):List Nt:=(spV n k l).map Sp.nt
theorem ntsV_snoc (n:Nt) {l:List Vr} {k:Nat} {z:Vr} (h:l.take (k+1)=l.take k++[z]) (hk:k<l.length):ntsV n 0 (l.take (k+1))=ntsV n 0 (l.take k)++[{ n with v:=(k:Int),t:=z.ty,a:=z.at_ }]:=by
 unfold ntsV
 rw [h,spV_app,List.map_append,List.length_take,Nat.min_eq_left (by omega),Int.zero_add]
 rfl
theorem pr12Types (p:List Cs) (hz:sumOf Cs.sz p≤1048576):DPure Tryz.prog 159 [.a (.sl (p.map Cs.at))] (.a (.sl ((typesL p).map Nt.at))):=by
 have hpl:p.length≤1048576:=Nat.le_trans (sumOf_len Cs.sz_pos p) hz
 have hzN:=Nt.z0
 have hzL:=Ln.z0
 have hXn:=fun k=>xOf_nr k p
 have hLt:∀i,((spCs 0 (p.take i)).map Sp.nt).length≤2097152:=fun i=>by
  rw [List.length_map];have:=spCs_len 0 (p.take i);have:=sumOf_take Cs.sz p i;omega
 refine DPure.go Tryz.func159 rfl Tryz.ntmps159 rfl rfl rfl (fun C hro=>?_)
 have fx:=trivial
 repeat' (first|refine stp [0,2,3,4,5,6,7,8,9,10,11,12,16,26,54,80,107,117] ?_|(refine RS.aO ?_;refine rnx ?_)|(refine RS.aN ?_;refine rnx ?_)|(refine RS.ls ?_;refine rnx ?_)|(refine RS.sE ?_;refine rnx ?_)|(refine RS.aE ?_;refine rnx ?_)|(refine RS.aK ?_;refine rnx ?_)|(refine RS.lC ?_;refine rnx ?_)|(refine RS.xC ?_;refine rnx ?_)|(refine RS.bC ?_;refine rnx ?_)|refine WP.cn (fun hc=>?_) (fun hc=>?_)|((first|refine WP.dgr (id:=19) 16 [] [0,2,3,4,5,6,7,8,9,10,11,12,16,26,54,80,107,117] ?_|refine WP.dgr (id:=25) 17 [] [0,2,3,4,5,6,7,8,9,10,11,12,16,26,54,80,107,117] ?_|refine RG.q ?_|refine RG.z ?_);simp only [RQr_mk,RSr_mk,List.drop_succ_cons,List.drop_zero,List.drop_nil,List.take_succ_cons,List.take_zero,List.take_nil])|refine RS.nx ?_|(refine RQ.ls ?_;refine rnx ?_)|fail)
 refine WP.each p Cs.at 7 (fun i=>[(0,.a (.sl (p.map Cs.at))),(3,ntE ((spCs 0 (p.take i)).map Sp.nt)),(4,.a (.v (.int .i64 (i:Nat))))]) (fun i=>ntBx (xOf p) ((spCs 0 (p.take i)).map Sp.nt)) (fun i=>spCs 0 (p.take i)=[]→xOf p=xOf (p.drop i)) (by simp only [Agree,go_sem,simprocAttr];first|done|rfl) rfl (fun _=>rfl) (by omega) (fun z=>Cs.len z) ?_ ?_ ?_
 ·intro i c hc hdr htk hlt hI hlt2 hixi hwu
  have hcz:c.sz≤1048576:=by have:=sumOf_mem (f:=Cs.sz) (List.mem_of_getElem? hc);omega
  obtain⟨y1,y2,y3,y4,y5,y6,y7,y8,y9⟩:=Cs.szH hcz
  have hb0:=hLt i
  have hnext:(spCs 0 (p.take (i+1))).map Sp.nt=((spCs 0 (p.take i)).map Sp.nt++ntsV ⟨(i:Int),-1,0,Ty.zero,0⟩ 0 c.fields)++(spMs (i:Int) 0 c.methods).map Sp.nt:=by
   rw [htk,spCs_app,List.map_append,spCs,spC,spCs,List.append_nil,List.length_take,Nat.min_eq_left (by omega),Int.zero_add,List.map_append,List.append_assoc];rfl
  have hemp:spCs 0 (p.take (i+1))=[]→xOf p=xOf (p.drop (i+1)):=fun h=>by
   have h1:((spCs 0 (p.take i)).map Sp.nt++ntsV ⟨(i:Int),-1,0,Ty.zero,0⟩ 0 c.fields)++(spMs (i:Int) 0 c.methods).map Sp.nt=[]:=by rw [←hnext,h];rfl
   rw [List.append_eq_nil_iff,List.append_eq_nil_iff,List.map_eq_nil_iff,List.map_eq_nil_iff] at h1
   obtain⟨⟨h2,h3⟩,h4⟩:=h1
   have hf:c.fields=[]:=by have:=congrArg List.length h3;rw [ntsV,List.length_map,spV_len] at this;exact List.eq_nil_of_length_eq_zero this
   have hm:c.methods=[]:=by
    cases hm:c.methods with
    | nil=>rfl
    | cons m r=>rw [hm,spMs,spM] at h4;simp at h4
   rw [hI h2,hdr,xOf,hf,hm]
  have hI2:(spCs 0 (p.take i)).map Sp.nt=[]→xOf p=(match c.fields with
   | v::_=>Vr.at v
   | []=>match c.methods with
    | m::_=>Me.at m
    | []=>xOf (p.drop (i+1))):=fun h=>by rw [hI (List.map_eq_nil_iff.1 h),hdr,xOf]
  clear hI
  obtain⟨X,hX⟩:∃X,X=xOf p:=⟨_,rfl⟩
  simp only [←hX] at hI2 hXn hemp ⊢
  obtain⟨R0,hR0⟩:∃R0,R0=(spCs 0 (p.take i)).map Sp.nt:=⟨_,rfl⟩
  rw [←hR0] at hnext hI2 hb0 ⊢
  replace fx:=And.intro hlt2 trivial
  repeat' (first|refine stp [0,2,3,4,5,6,7,8,9,10,11,12,16,26,54,80,107,117] ?_|(refine RS.aO ?_;refine rnx ?_)|(refine RS.aN ?_;refine rnx ?_)|(refine RS.ls ?_;refine rnx ?_)|(refine RS.sE ?_;refine rnx ?_)|(refine RS.aE ?_;refine rnx ?_)|(refine RS.aK ?_;refine rnx ?_)|(refine RS.lC ?_;refine rnx ?_)|(refine RS.xC ?_;refine rnx ?_)|(refine RS.bC ?_;refine rnx ?_)|refine WP.cn (fun hc=>?_) (fun hc=>?_)|((first|refine WP.dgr (id:=19) 16 [] [0,2,3,4,5,6,7,8,9,10,11,12,16,26,54,80,107,117] ?_|refine WP.dgr (id:=25) 17 [] [0,2,3,4,5,6,7,8,9,10,11,12,16,26,54,80,107,117] ?_|refine RG.q ?_|refine RG.z ?_);simp only [RQr_mk,RSr_mk,List.drop_succ_cons,List.drop_zero,List.drop_nil,List.take_succ_cons,List.take_zero,List.take_nil])|refine RS.nx ?_|(refine RQ.ls ?_;refine rnx ?_)|fail)
  refine WP.each c.fields Vr.at 13 (fun k=>[(0,.a (.sl (p.map Cs.at))),(3,ntE (R0++ntsV ⟨(i:Int),-1,0,Ty.zero,0⟩ 0 (c.fields.take k))),(4,.a (.v (.int .i64 (i:Nat)))),(5,.a (.v (.int .i64 (k:Nat))))]) (fun k=>ntBx X (R0++ntsV ⟨(i:Int),-1,0,Ty.zero,0⟩ 0 (c.fields.take k))) (fun _=>True) (by simp only [Agree,go_sem,simprocAttr,List.take_zero,ntsV,spV,List.map_nil,List.append_nil];first|done|rfl) (by rw [List.take_zero,ntsV,spV,List.map_nil,List.append_nil]) trivial (by omega) (fun z=>Vr.len z) ?_ ?_ ?_
  ·intro k z hz1 hdr2 htk2 hlk _ hlt3 hixv hwk
   have hsn:=ntsV_snoc ⟨(i:Int),-1,0,Ty.zero,0⟩ htk2 hlk
   have hb1:(R0++ntsV ⟨(i:Int),-1,0,Ty.zero,0⟩ 0 (c.fields.take k)).length≤4194304:=by rw [List.length_append,ntsV,List.length_map,spV_len,List.length_take];omega
   rcases nt_cases (R0++ntsV ⟨(i:Int),-1,0,Ty.zero,0⟩ 0 (c.fields.take k)) with h0|⟨r1,hr1⟩
   ·have h00:=h0
    rw [List.append_eq_nil_iff] at h0
    have hk0:k=0:=by have:=congrArg List.length h0.2;rw [ntsV,List.length_map,spV_len,List.length_take,List.length_nil] at this;omega
    subst hk0
    have hXz:X=Vr.at z:=by rw [hI2 h0.1];cases hf:c.fields with|nil=>rw [hf] at hlk;simp at hlk|cons v r=>rw [hf] at hz1;simp at hz1;subst hz1;rfl
    have hR3:R0++ntsV ⟨(i:Int),-1,0,Ty.zero,0⟩ 0 (c.fields.take (0+1))=[⟨(i:Int),-1,0,z.ty,z.at_⟩]:=by rw [hsn,←List.append_assoc,h00];rfl
    rw [h00]
    simp only [ntE,ntBx]
    have hl0:decide ((0:Int)<((c.fields.length:Nat):Int))=true:=hlt3
    have hx0:∀q2,ixD (some 13) q2 (.a (.sl (c.fields.map Vr.at))) (.a (.v (.int .i64 0)))=some (.a (.ref (Vr.at z) 0)):=hixv
    replace fx:=And.intro hl0 (And.intro hixi (And.intro hx0 (And.intro hzN trivial)))
    repeat' (first|refine stp [0,2,3,4,5,6,7,8,9,10,11,12,16,26,54,80,107,117] ?_|(refine RS.aO ?_;refine rnx ?_)|(refine RS.aN ?_;refine rnx ?_)|(refine RS.ls ?_;refine rnx ?_)|(refine RS.sE ?_;refine rnx ?_)|(refine RS.aE ?_;refine rnx ?_)|(refine RS.aK ?_;refine rnx ?_)|(refine RS.lC ?_;refine rnx ?_)|(refine RS.xC ?_;refine rnx ?_)|(refine RS.bC ?_;refine rnx ?_)|refine WP.cn (fun hc=>?_) (fun hc=>?_)|((first|refine WP.dgr (id:=19) 16 [] [0,2,3,4,5,6,7,8,9,10,11,12,16,26,54,80,107,117] ?_|refine WP.dgr (id:=25) 17 [] [0,2,3,4,5,6,7,8,9,10,11,12,16,26,54,80,107,117] ?_|refine RG.q ?_|refine RG.z ?_);simp only [RQr_mk,RSr_mk,List.drop_succ_cons,List.drop_zero,List.drop_nil,List.take_succ_cons,List.take_zero,List.take_nil])|refine RS.nx ?_|(refine RQ.ls ?_;refine rnx ?_)|fail)
    refine⟨trivial,[],?_,?_,?_,?_⟩
    ·dsimp only;rw [hR3];simp only [ntE,Agree,go_sem,simprocAttr];try rfl
    ·dsimp only;rw [hR3,hXz];rfl
    ·dsimp only;rw [hR3];rfl
    ·dsimp only;rw [hR3];simp only [ntBx,go_sem,simprocAttr,hXn]
   ·have hr3:((R0++ntsV ⟨(i:Int),-1,0,Ty.zero,0⟩ 0 (c.fields.take k))++[(⟨(i:Int),-1,(k:Int),z.ty,z.at_⟩:Nt)]).length=r1+1+1:=by rw [List.length_append,hr1];rfl
    have hR3:R0++ntsV ⟨(i:Int),-1,0,Ty.zero,0⟩ 0 (c.fields.take (k+1))=(R0++ntsV ⟨(i:Int),-1,0,Ty.zero,0⟩ 0 (c.fields.take k))++[⟨(i:Int),-1,(k:Int),z.ty,z.at_⟩]:=by rw [hsn,List.append_assoc]
    obtain⟨R2,hR2⟩:∃R2,R2=R0++ntsV ⟨(i:Int),-1,0,Ty.zero,0⟩ 0 (c.fields.take k):=⟨_,rfl⟩
    rw [←hR2] at hb1 hr1 hr3 hR3 ⊢
    have hkk:(r1==r1)=true:=beq_self_eq_true _
    rw [ntE_c hr1,ntBx_c hr1]
    replace fx:=And.intro hlt3 (And.intro hixi (And.intro hixv (And.intro hwk (And.intro hzN (And.intro hkk trivial)))))
    repeat' (first|refine stp [0,2,3,4,5,6,7,8,9,10,11,12,16,26,54,80,107,117] ?_|(refine RS.aO ?_;refine rnx ?_)|(refine RS.aN ?_;refine rnx ?_)|(refine RS.ls ?_;refine rnx ?_)|(refine RS.sE ?_;refine rnx ?_)|(refine RS.aE ?_;refine rnx ?_)|(refine RS.aK ?_;refine rnx ?_)|(refine RS.lC ?_;refine rnx ?_)|(refine RS.xC ?_;refine rnx ?_)|(refine RS.bC ?_;refine rnx ?_)|refine WP.cn (fun hc=>?_) (fun hc=>?_)|((first|refine WP.dgr (id:=19) 16 [] [0,2,3,4,5,6,7,8,9,10,11,12,16,26,54,80,107,117] ?_|refine WP.dgr (id:=25) 17 [] [0,2,3,4,5,6,7,8,9,10,11,12,16,26,54,80,107,117] ?_|refine RG.q ?_|refine RG.z ?_);simp only [RQr_mk,RSr_mk,List.drop_succ_cons,List.drop_zero,List.drop_nil,List.take_succ_cons,List.take_zero,List.take_nil])|refine RS.nx ?_|(refine RQ.ls ?_;refine rnx ?_)|fail)
    refine⟨trivial,[.cell (Vr.at z)],?_,?_,?_,?_⟩
    ·dsimp only;rw [hR3,ntE_c hr3];simp only [Agree,go_sem,simprocAttr]
    ·dsimp only;rw [hR3,ntBx_c hr3,List.map_append];rfl
    ·dsimp only;rw [hR3,ntE_c hr3,ntBx_c hr3];rfl
    ·dsimp only;rw [hR3,ntBx_c hr3];simp only [go_sem,simprocAttr,hXn]
  ·intro _ hlt3
   rw [List.take_length]
   have hb2:(R0++ntsV ⟨(i:Int),-1,0,Ty.zero,0⟩ 0 c.fields).length≤4194304:=by rw [List.length_append,ntsV,List.length_map,spV_len];omega
   obtain⟨R1,hR1⟩:∃R1,R1=R0++ntsV ⟨(i:Int),-1,0,Ty.zero,0⟩ 0 c.fields:=⟨_,rfl⟩
   have hI3:R1=[]→X=(match c.methods with
    | m::_=>Me.at m
    | []=>xOf (p.drop (i+1))):=fun h=>by
    rw [hR1,List.append_eq_nil_iff] at h
    have hf:c.fields=[]:=by have:=congrArg List.length h.2;rw [ntsV,List.length_map,spV_len] at this;exact List.eq_nil_of_length_eq_zero this
    rw [hI2 h.1,hf]
   rw [←hR1] at hnext hb2 ⊢
   obtain⟨RR,hRR⟩:∃RR:Nat→List Nt,RR=fun j=>R1++(spMs (i:Int) 0 (c.methods.take j)).map Sp.nt:=⟨_,rfl⟩
   have hRle:∀j,(RR j).length≤6291456:=fun j=>by
    rw [hRR];dsimp only;rw [List.length_append,List.length_map]
    have:=spMs_len (i:Int) 0 (c.methods.take j);have:=sumOf_take Me.sz c.methods j;omega
   have hR00:RR 0=R1:=by rw [hRR];dsimp only;rw [List.take_zero,spMs,List.map_nil,List.append_nil]
   have hRlen:RR c.methods.length=(spCs 0 (p.take (i+1))).map Sp.nt:=by rw [hRR];dsimp only;rw [List.take_length,hnext]
   have hRs:∀j m,c.methods[j]? = some m→RR (j+1)=RR j++(spM ⟨(i:Int),(j:Int),0,Ty.zero,0⟩ m).map Sp.nt:=fun j m hm=>by
    have hjl:=(List.getElem?_eq_some_iff.1 hm).1
    rw [hRR];dsimp only
    rw [take_snocA hm,spMs_app,List.map_append,←List.append_assoc,spMs,spMs,List.append_nil,List.length_take,Nat.min_eq_left (by omega),Int.zero_add]
   have hR0e:∀j,RR j=[]→j≤c.methods.length→R1=[]∧j=0:=fun j h hj=>by
    rw [hRR] at h;dsimp only at h
    rw [List.append_eq_nil_iff,List.map_eq_nil_iff] at h
    refine⟨h.1,?_⟩
    cases j with
    | zero=>rfl
    | succ j =>
     cases hm:c.methods with
     | nil=>rw [hm] at hj;simp at hj
     | cons m r=>rw [hm] at h;rw [List.take_succ_cons,spMs,spM] at h;simp at h
   have hRm:∀j,∃S,RR (j+1)=RR j++S:=fun j=>by
    rw [hRR];dsimp only
    rw [List.take_add_one,spMs_app,List.map_append,←List.append_assoc];exact⟨_,rfl⟩
   clear hRR
   replace fx:=And.intro hlt3 (And.intro hixi trivial)
   repeat' (first|refine stp [0,2,3,4,5,6,7,8,9,10,11,12,16,26,54,80,107,117] ?_|(refine RS.aO ?_;refine rnx ?_)|(refine RS.aN ?_;refine rnx ?_)|(refine RS.ls ?_;refine rnx ?_)|(refine RS.sE ?_;refine rnx ?_)|(refine RS.aE ?_;refine rnx ?_)|(refine RS.aK ?_;refine rnx ?_)|(refine RS.lC ?_;refine rnx ?_)|(refine RS.xC ?_;refine rnx ?_)|(refine RS.bC ?_;refine rnx ?_)|refine WP.cn (fun hc=>?_) (fun hc=>?_)|((first|refine WP.dgr (id:=19) 16 [] [0,2,3,4,5,6,7,8,9,10,11,12,16,26,54,80,107,117] ?_|refine WP.dgr (id:=25) 17 [] [0,2,3,4,5,6,7,8,9,10,11,12,16,26,54,80,107,117] ?_|refine RG.q ?_|refine RG.z ?_);simp only [RQr_mk,RSr_mk,List.drop_succ_cons,List.drop_zero,List.drop_nil,List.take_succ_cons,List.take_zero,List.take_nil])|refine RS.nx ?_|(refine RQ.ls ?_;refine rnx ?_)|fail)
   refine WP.each c.methods Me.at 17 (fun j=>[(0,.a (.sl (p.map Cs.at))),(3,ntE (RR j)),(4,.a (.v (.int .i64 (i:Nat)))),(7,.a (.v (.int .i64 (j:Nat))))]) (fun j=>ntBx X (RR j)) (fun _=>True) (by simp only [Agree,go_sem,simprocAttr,hR00];first|done|rfl) (by rw [hR00]) trivial (by omega) (fun z=>Me.len z) ?_ ?_ ?_
   ·intro j m hm hdr3 htk3 hlj _ hlt4 hixm hwm
    have hmz:m.sz≤1048576:=by have:=sumOf_mem (f:=Me.sz) (List.mem_of_getElem? hm);omega
    obtain⟨_,_,z3,z4,z5,z6⟩:=Me.szH hmz
    have hRM:=hRs j m hm
    have hbj:=hRle j
    have hlns:=pr12lines 1048576 m.body Ln.zero z5 (Nat.le_refl _) (Int.le_refl _) (by show (0:Int)+_≤_;omega)
    have hll:=St.lns_len _ m.body 0 (Nat.le_refl _)
    replace hlns:DPure Tryz.prog 79 [.a (.sl (m.body.map St.at)),.r (Ln.at Ln.zero)] (.a (.sl (((St.lns 0 m.body).map (mkLn Ln.zero)).map Ln.at))):=hlns
    have hRj:RR (j+1)=RR (j+1):=rfl
    have hspm:(spM ⟨(i:Int),(j:Int),0,Ty.zero,0⟩ m).map Sp.nt=⟨(i:Int),(j:Int),-1,m.ret,m.at_⟩::(ntsV ⟨(i:Int),(j:Int),0,Ty.zero,0⟩ 0 (m.params++m.locals)++(spB ⟨(i:Int),(j:Int),0,Ty.zero,0⟩ (St.lns 0 m.body)).map Sp.nt):=by
     unfold spM ntsV
     rw [spV_app,Int.zero_add,List.map_cons,List.map_append,List.map_append,List.map_append,List.append_assoc];rfl
    rw [hspm,List.append_cons] at hRM
    rcases nt_cases (RR j) with h0|⟨r0,hr0⟩
    ·obtain⟨h1,rfl⟩:=hR0e j h0 (by omega)
     have hXm:X=Me.at m:=by rw [hI3 h1];cases hf:c.methods with|nil=>rw [hf] at hlj;simp at hlj|cons v r=>rw [hf] at hm;simp at hm;subst hm;rfl
     have hl0:decide ((0:Int)<((c.methods.length:Nat):Int))=true:=hlt4
     have hx0:∀q2,ixD (some 17) q2 (.a (.sl (c.methods.map Me.at))) (.a (.v (.int .i64 0)))=some (.a (.ref (Me.at m) 0)):=hixm
     subst hXm
     rw [h0,show ntE []=D.a .nl from rfl,show ntBx (Me.at m) []=[] from rfl]
     obtain⟨R1,hR1e⟩:∃R1,R1=RR 0++[(⟨(i:Int),((0:Nat):Int),-1,m.ret,m.at_⟩:Nt)]:=⟨_,rfl⟩
     have hR1l:0<R1.length∧R1.length≤6291457:=by rw [hR1e,List.length_append,List.length_singleton];omega
     have hR1x:R1=[(⟨(i:Int),((0:Nat):Int),-1,m.ret,m.at_⟩:Nt)]:=by rw [hR1e,h0];rfl
     have hr1:R1.length=0+1:=by rw [hR1x];rfl
     have hW:=pr12Vars m (by omega) (by omega)
     have hvl:(m.params++m.locals).length≤1048576:=by rw [List.length_append];omega
     have hRM2:RR (0+1)=(R1++ntsV ⟨(i:Int),((0:Nat):Int),0,Ty.zero,0⟩ 0 (m.params++m.locals))++(spB ⟨(i:Int),((0:Nat):Int),0,Ty.zero,0⟩ (St.lns 0 m.body)).map Sp.nt:=by rw [hRM,hR1e];simp only [List.append_assoc]
     generalize m.params++m.locals=vs at hW hvl hRM2
     replace fx:=And.intro hl0 (And.intro hx0 (And.intro hixi (And.intro hzN (And.intro hzL trivial))))
     repeat' (first|refine stp [0,2,3,4,5,6,7,8,9,10,11,12,16,26,54,80,107,117] ?_|(refine RS.aO ?_;refine rnx ?_)|(refine RS.aN ?_;refine rnx ?_)|(refine RS.ls ?_;refine rnx ?_)|(refine RS.sE ?_;refine rnx ?_)|(refine RS.aE ?_;refine rnx ?_)|(refine RS.aK ?_;refine rnx ?_)|(refine RS.lC ?_;refine rnx ?_)|(refine RS.xC ?_;refine rnx ?_)|(refine RS.bC ?_;refine rnx ?_)|(refine stc (r1:=by exact hW) (r2:=?_);refine rnx ?_)|refine WP.cn (fun hc=>?_) (fun hc=>?_)|((first|refine WP.dgr (id:=19) 16 [] [0,2,3,4,5,6,7,8,9,10,11,12,16,26,54,80,107,117] ?_|refine WP.dgr (id:=25) 17 [] [0,2,3,4,5,6,7,8,9,10,11,12,16,26,54,80,107,117] ?_|refine RG.q ?_|refine RG.z ?_);simp only [RQr_mk,RSr_mk,List.drop_succ_cons,List.drop_zero,List.drop_nil,List.take_succ_cons,List.take_zero,List.take_nil])|refine RS.nx ?_|(refine RQ.ls ?_;refine rnx ?_)|fail)
     refine WP.each vs Vr.at 13 (fun q=>[(0,.a (.sl (p.map Cs.at))),(4,.a (.v (.int .i64 (i:Nat)))),(7,.a (.v (.int .i64 ((0:Nat):Nat)))),(8,.a (.ptr 0 0)),(9,.a (.sl (vs.map Vr.at))),(3,ntE (R1++ntsV ⟨(i:Int),((0:Nat):Int),0,Ty.zero,0⟩ 0 (vs.take q))),(10,.a (.v (.int .i64 (q:Nat))))]) (fun q=>ntBx (Me.at m) (R1++ntsV ⟨(i:Int),((0:Nat):Int),0,Ty.zero,0⟩ 0 (vs.take q))++[]) (fun _=>True) (by simp only [Agree,go_sem,simprocAttr,List.take_zero,ntsV,spV,List.map_nil,List.append_nil,ntE_c hr1];first|done|rfl) (by simp only [List.take_zero,ntsV,spV,List.map_nil,List.append_nil,ntBx_c hr1,hR1x];first|done|rfl) trivial (by omega) (fun z=>Vr.len z) ?_ ?_ (fun q=>by simp only [List.length_append];obtain⟨r2,hr2⟩:∃r2,(R1++ntsV ⟨(i:Int),((0:Nat):Int),0,Ty.zero,0⟩ 0 (vs.take q)).length=r2+1:=⟨0+(ntsV ⟨(i:Int),((0:Nat):Int),0,Ty.zero,0⟩ 0 (vs.take q)).length,by rw [List.length_append];omega⟩;obtain⟨r3,hr3⟩:∃r3,(R1++ntsV ⟨(i:Int),((0:Nat):Int),0,Ty.zero,0⟩ 0 (vs.take (q+1))).length=r3+1:=⟨0+(ntsV ⟨(i:Int),((0:Nat):Int),0,Ty.zero,0⟩ 0 (vs.take (q+1))).length,by rw [List.length_append];omega⟩;rw [ntBx_c hr2,ntBx_c hr3];exact Nat.le_refl _)
     ·intro q z hz hdr2 htk2 hlq _ hlt3 hixv hwq
      have hsn:=ntsV_snoc ⟨(i:Int),((0:Nat):Int),0,Ty.zero,0⟩ htk2 hlq
      have hb2:(R1++ntsV ⟨(i:Int),((0:Nat):Int),0,Ty.zero,0⟩ 0 (vs.take q)).length≤8388608:=by rw [List.length_append,ntsV,List.length_map,spV_len,List.length_take];omega
      obtain⟨r2,hr2⟩:∃r2,(R1++ntsV ⟨(i:Int),((0:Nat):Int),0,Ty.zero,0⟩ 0 (vs.take q)).length=r2+1:=⟨0+(ntsV ⟨(i:Int),((0:Nat):Int),0,Ty.zero,0⟩ 0 (vs.take q)).length,by rw [List.length_append];omega⟩
      obtain⟨R2,hR2⟩:∃R2,R2=R1++ntsV ⟨(i:Int),((0:Nat):Int),0,Ty.zero,0⟩ 0 (vs.take q):=⟨_,rfl⟩
      have hR3:R1++ntsV ⟨(i:Int),((0:Nat):Int),0,Ty.zero,0⟩ 0 (vs.take (q+1))=R2++[⟨(i:Int),((0:Nat):Int),(q:Int),z.ty,z.at_⟩]:=by rw [hsn,hR2,List.append_assoc]
      rw [←hR2] at hb2 hr2 ⊢
      have hr3:(R2++[(⟨(i:Int),((0:Nat):Int),(q:Int),z.ty,z.at_⟩:Nt)]).length=r2+1+1:=by rw [List.length_append,hr2];rfl
      have hkk:(r2==r2)=true:=beq_self_eq_true _
      rw [ntE_c hr2,ntBx_c hr2]
      simp only [List.cons_append,List.nil_append]
      replace fx:=And.intro hlt3 (And.intro hixv (And.intro hwq (And.intro hzN (And.intro hkk trivial))))
      repeat' (first|refine stp [0,2,3,4,5,6,7,8,9,10,11,12,16,26,54,80,107,117] ?_|(refine RS.aO ?_;refine rnx ?_)|(refine RS.aN ?_;refine rnx ?_)|(refine RS.ls ?_;refine rnx ?_)|(refine RS.sE ?_;refine rnx ?_)|(refine RS.aE ?_;refine rnx ?_)|(refine RS.aK ?_;refine rnx ?_)|(refine RS.lC ?_;refine rnx ?_)|(refine RS.xC ?_;refine rnx ?_)|(refine RS.bC ?_;refine rnx ?_)|refine WP.cn (fun hc=>?_) (fun hc=>?_)|((first|refine WP.dgr (id:=19) 16 [] [0,2,3,4,5,6,7,8,9,10,11,12,16,26,54,80,107,117] ?_|refine WP.dgr (id:=25) 17 [] [0,2,3,4,5,6,7,8,9,10,11,12,16,26,54,80,107,117] ?_|refine RG.q ?_|refine RG.z ?_);simp only [RQr_mk,RSr_mk,List.drop_succ_cons,List.drop_zero,List.drop_nil,List.take_succ_cons,List.take_zero,List.take_nil])|refine RS.nx ?_|(refine RQ.ls ?_;refine rnx ?_)|fail)
      refine⟨trivial,[],?_,?_,?_,?_⟩
      ·dsimp only;rw [hR3,ntE_c hr3];simp only [Agree,go_sem,simprocAttr]
      ·dsimp only;rw [hR3,ntBx_c hr3,List.map_append];rfl
      ·dsimp only;rw [hR3,ntE_c hr3,ntBx_c hr3];rfl
      ·dsimp only;rw [hR3,ntBx_c hr3];simp only [go_sem,simprocAttr,hXn]
     ·intro _ hlt3
      rw [List.take_length]
      have hb3:(R1++ntsV ⟨(i:Int),((0:Nat):Int),0,Ty.zero,0⟩ 0 vs).length≤8388608:=by rw [List.length_append,ntsV,List.length_map,spV_len];omega
      obtain⟨R3,hR3⟩:∃R3,R3=R1++ntsV ⟨(i:Int),((0:Nat):Int),0,Ty.zero,0⟩ 0 vs:=⟨_,rfl⟩
      obtain⟨r3,hr3⟩:∃r3,R3.length=r3+1:=⟨0+(ntsV ⟨(i:Int),((0:Nat):Int),0,Ty.zero,0⟩ 0 vs).length,by rw [hR3,List.length_append];omega⟩
      rw [←hR3] at hb3 ⊢
      rw [ntE_c hr3,ntBx_c hr3]
      simp only [List.cons_append,List.nil_append]
      generalize St.lns 0 m.body=LL at hlns hll hRM2
      replace fx:=And.intro hlt3 (And.intro hzL (And.intro hzN trivial))
      repeat' (first|refine stp [0,2,3,4,5,6,7,8,9,10,11,12,16,26,54,80,107,117] ?_|(refine RS.aO ?_;refine rnx ?_)|(refine RS.aN ?_;refine rnx ?_)|(refine RS.ls ?_;refine rnx ?_)|(refine RS.sE ?_;refine rnx ?_)|(refine RS.aE ?_;refine rnx ?_)|(refine RS.aK ?_;refine rnx ?_)|(refine RS.lC ?_;refine rnx ?_)|(refine RS.xC ?_;refine rnx ?_)|(refine RS.bC ?_;refine rnx ?_)|(refine stc (r1:=by exact hlns) (r2:=?_);refine rnx ?_)|refine WP.cn (fun hc=>?_) (fun hc=>?_)|((first|refine WP.dgr (id:=19) 16 [] [0,2,3,4,5,6,7,8,9,10,11,12,16,26,54,80,107,117] ?_|refine WP.dgr (id:=25) 17 [] [0,2,3,4,5,6,7,8,9,10,11,12,16,26,54,80,107,117] ?_|refine RG.q ?_|refine RG.z ?_);simp only [RQr_mk,RSr_mk,List.drop_succ_cons,List.drop_zero,List.drop_nil,List.take_succ_cons,List.take_zero,List.take_nil])|refine RS.nx ?_|(refine RQ.ls ?_;refine rnx ?_)|fail)
      refine WP.each (LL.map (mkLn Ln.zero)) Ln.at 26 (fun q=>[(0,.a (.sl (p.map Cs.at))),(4,.a (.v (.int .i64 (i:Nat)))),(7,.a (.v (.int .i64 ((0:Nat):Nat)))),(8,.a (.ptr 0 0)),(11,.a (.sl ((LL.map (mkLn Ln.zero)).map Ln.at))),(3,ntE (R3++(spB ⟨(i:Int),((0:Nat):Int),0,Ty.zero,0⟩ (LL.take q)).map Sp.nt)),(12,.a (.v (.int .i64 (q:Nat))))]) (fun q=>ntBx (Me.at m) (R3++(spB ⟨(i:Int),((0:Nat):Int),0,Ty.zero,0⟩ (LL.take q)).map Sp.nt)++[]) (fun _=>True) (by simp only [Agree,go_sem,simprocAttr,List.take_zero,spB,List.filter_nil,List.map_nil,List.append_nil,ntE_c hr3];first|done|rfl) (by simp only [List.take_zero,spB,List.filter_nil,List.map_nil,List.append_nil,ntBx_c hr3];first|done|rfl) trivial (by rw [List.length_map];omega) (fun z=>Ln.len z) ?_ ?_ (fun q=>?_)
      ·intro q zz hzz hdr3 htk3 hlq _ hlt4 hixl hwq
       rw [List.length_map] at hlt4
       rw [List.getElem?_map,Option.map_eq_some_iff] at hzz
       obtain⟨z,hz,rfl⟩:=hzz
       have htk4:=take_snocA hz
       have hb4:(R3++(spB ⟨(i:Int),((0:Nat):Int),0,Ty.zero,0⟩ (LL.take q)).map Sp.nt).length≤16777216:=by rw [List.length_append,List.length_map];have:=spB_len ⟨(i:Int),((0:Nat):Int),0,Ty.zero,0⟩ (LL.take q);rw [List.length_take] at this;omega
       obtain⟨R4,hR4⟩:∃R4,R4=R3++(spB ⟨(i:Int),((0:Nat):Int),0,Ty.zero,0⟩ (LL.take q)).map Sp.nt:=⟨_,rfl⟩
       obtain⟨r4,hr4⟩:∃r4,R4.length=r4+1:=⟨r3+((spB ⟨(i:Int),((0:Nat):Int),0,Ty.zero,0⟩ (LL.take q)).map Sp.nt).length,by rw [hR4,List.length_append];omega⟩
       have hR5:R3++(spB ⟨(i:Int),((0:Nat):Int),0,Ty.zero,0⟩ (LL.take (q+1))).map Sp.nt=R4++(spB ⟨(i:Int),((0:Nat):Int),0,Ty.zero,0⟩ [z]).map Sp.nt:=by rw [htk4,spB_app,List.map_append,hR4,List.append_assoc]
       rw [←hR4] at hb4 ⊢
       rw [ntE_c hr4,ntBx_c hr4]
       simp only [List.cons_append,List.nil_append]
       have hsk:(mkLn Ln.zero z).s=z.2:=rfl
       cases hk2:z.2.ty.kind==2 with
       | true =>
        have hb2:(spB ⟨(i:Int),((0:Nat):Int),0,Ty.zero,0⟩ [z]).map Sp.nt=[⟨(i:Int),((0:Nat):Int),-1,z.2.ty,z.2.at_⟩]:=by unfold spB;rw [List.filter_cons_of_pos (by exact hk2)];rfl
        have hr5:(R4++[(⟨(i:Int),((0:Nat):Int),-1,z.2.ty,z.2.at_⟩:Nt)]).length=r4+1+1:=by rw [List.length_append,hr4];rfl
        have hkk:(r4==r4)=true:=beq_self_eq_true _
        rw [hb2] at hR5
        replace fx:=And.intro hlt4 (And.intro hixl (And.intro hwq (And.intro hzN (And.intro hkk (And.intro hsk (And.intro hk2 trivial))))))
        repeat' (first|refine stp [0,2,3,4,5,6,7,8,9,10,11,12,16,26,54,80,107,117] ?_|(refine RS.aO ?_;refine rnx ?_)|(refine RS.aN ?_;refine rnx ?_)|(refine RS.ls ?_;refine rnx ?_)|(refine RS.sE ?_;refine rnx ?_)|(refine RS.aE ?_;refine rnx ?_)|(refine RS.aK ?_;refine rnx ?_)|(refine RS.lC ?_;refine rnx ?_)|(refine RS.xC ?_;refine rnx ?_)|(refine RS.bC ?_;refine rnx ?_)|refine WP.cn (fun hc=>?_) (fun hc=>?_)|((first|refine WP.dgr (id:=19) 16 [] [0,2,3,4,5,6,7,8,9,10,11,12,16,26,54,80,107,117] ?_|refine WP.dgr (id:=25) 17 [] [0,2,3,4,5,6,7,8,9,10,11,12,16,26,54,80,107,117] ?_|refine RG.q ?_|refine RG.z ?_);simp only [RQr_mk,RSr_mk,List.drop_succ_cons,List.drop_zero,List.drop_nil,List.take_succ_cons,List.take_zero,List.take_nil])|refine RS.nx ?_|(refine RQ.ls ?_;refine rnx ?_)|fail)
        refine⟨trivial,[],?_,?_,?_,?_⟩
        ·dsimp only;rw [hR5,ntE_c hr5];simp only [Agree,go_sem,simprocAttr]
        ·dsimp only;rw [hR5,ntBx_c hr5,List.map_append];rfl
        ·dsimp only;rw [hR5,ntE_c hr5,ntBx_c hr5];rfl
        ·dsimp only;rw [hR5,ntBx_c hr5];simp only [go_sem,simprocAttr,hXn]
       | false =>
        have hb2:(spB ⟨(i:Int),((0:Nat):Int),0,Ty.zero,0⟩ [z]).map Sp.nt=[]:=by unfold spB;rw [List.filter_cons_of_neg (by simpa using hk2)];rfl
        rw [hb2,List.append_nil] at hR5
        replace fx:=And.intro hlt4 (And.intro hixl (And.intro hwq (And.intro hzN (And.intro hsk (And.intro hk2 trivial)))))
        repeat' (first|refine stp [0,2,3,4,5,6,7,8,9,10,11,12,16,26,54,80,107,117] ?_|(refine RS.aO ?_;refine rnx ?_)|(refine RS.aN ?_;refine rnx ?_)|(refine RS.ls ?_;refine rnx ?_)|(refine RS.sE ?_;refine rnx ?_)|(refine RS.aE ?_;refine rnx ?_)|(refine RS.aK ?_;refine rnx ?_)|(refine RS.lC ?_;refine rnx ?_)|(refine RS.xC ?_;refine rnx ?_)|(refine RS.bC ?_;refine rnx ?_)|refine WP.cn (fun hc=>?_) (fun hc=>?_)|((first|refine WP.dgr (id:=19) 16 [] [0,2,3,4,5,6,7,8,9,10,11,12,16,26,54,80,107,117] ?_|refine WP.dgr (id:=25) 17 [] [0,2,3,4,5,6,7,8,9,10,11,12,16,26,54,80,107,117] ?_|refine RG.q ?_|refine RG.z ?_);simp only [RQr_mk,RSr_mk,List.drop_succ_cons,List.drop_zero,List.drop_nil,List.take_succ_cons,List.take_zero,List.take_nil])|refine RS.nx ?_|(refine RQ.ls ?_;refine rnx ?_)|fail)
        refine⟨trivial,[],?_,?_,?_,?_⟩
        ·dsimp only;rw [hR5,ntE_c hr4];simp only [Agree,go_sem,simprocAttr]
        ·dsimp only;rw [hR5,ntBx_c hr4];rfl
        ·dsimp only;rw [hR5,ntE_c hr4,ntBx_c hr4];rfl
        ·dsimp only;rw [hR5,ntBx_c hr4];simp only [go_sem,simprocAttr,hXn]
      ·intro _ hlt4
       rw [List.length_map,List.take_length]
       rw [List.length_map] at hlt4
       obtain⟨R4,hR4⟩:∃R4,R4=R3++(spB ⟨(i:Int),((0:Nat):Int),0,Ty.zero,0⟩ LL).map Sp.nt:=⟨_,rfl⟩
       obtain⟨r4,hr4⟩:∃r4,R4.length=r4+1:=⟨r3+((spB ⟨(i:Int),((0:Nat):Int),0,Ty.zero,0⟩ LL).map Sp.nt).length,by rw [hR4,List.length_append];omega⟩
       rw [←hR4]
       rw [ntE_c hr4,ntBx_c hr4]
       simp only [List.cons_append,List.nil_append]
       have hfin:RR (0+1)=R4:=by rw [hR4,hR3];exact hRM2
       replace fx:=And.intro hlt4 (And.intro hwm trivial)
       repeat' (first|refine stp [0,2,3,4,5,6,7,8,9,10,11,12,16,26,54,80,107,117] ?_|(refine RS.aO ?_;refine rnx ?_)|(refine RS.aN ?_;refine rnx ?_)|(refine RS.ls ?_;refine rnx ?_)|(refine RS.sE ?_;refine rnx ?_)|(refine RS.aE ?_;refine rnx ?_)|(refine RS.aK ?_;refine rnx ?_)|(refine RS.lC ?_;refine rnx ?_)|(refine RS.xC ?_;refine rnx ?_)|(refine RS.bC ?_;refine rnx ?_)|refine WP.cn (fun hc=>?_) (fun hc=>?_)|((first|refine WP.dgr (id:=19) 16 [] [0,2,3,4,5,6,7,8,9,10,11,12,16,26,54,80,107,117] ?_|refine WP.dgr (id:=25) 17 [] [0,2,3,4,5,6,7,8,9,10,11,12,16,26,54,80,107,117] ?_|refine RG.q ?_|refine RG.z ?_);simp only [RQr_mk,RSr_mk,List.drop_succ_cons,List.drop_zero,List.drop_nil,List.take_succ_cons,List.take_zero,List.take_nil])|refine RS.nx ?_|(refine RQ.ls ?_;refine rnx ?_)|fail)
       refine⟨trivial,[],?_,?_,?_,?_⟩
       ·dsimp only;rw [hfin,ntE_c hr4];simp only [Agree,go_sem,simprocAttr]
       ·dsimp only;rw [hfin,ntBx_c hr4];rfl
       ·dsimp only;rw [hfin,ntE_c hr4,ntBx_c hr4];rfl
       ·dsimp only;rw [hfin,ntBx_c hr4];simp only [go_sem,simprocAttr,hXn]
      ·simp only [List.length_append]
       obtain⟨r5,hr5⟩:∃r5,(R3++(spB ⟨(i:Int),((0:Nat):Int),0,Ty.zero,0⟩ (LL.take q)).map Sp.nt).length=r5+1:=⟨r3+((spB ⟨(i:Int),((0:Nat):Int),0,Ty.zero,0⟩ (LL.take q)).map Sp.nt).length,by rw [List.length_append];omega⟩
       obtain⟨r6,hr6⟩:∃r6,(R3++(spB ⟨(i:Int),((0:Nat):Int),0,Ty.zero,0⟩ (LL.take (q+1))).map Sp.nt).length=r6+1:=⟨r3+((spB ⟨(i:Int),((0:Nat):Int),0,Ty.zero,0⟩ (LL.take (q+1))).map Sp.nt).length,by rw [List.length_append];omega⟩
       rw [ntBx_c hr5,ntBx_c hr6];exact Nat.le_refl _
    ·have hkk:(r0==r0)=true:=beq_self_eq_true _
     obtain⟨R1,hR1e⟩:∃R1,R1=RR j++[(⟨(i:Int),(j:Int),-1,m.ret,m.at_⟩:Nt)]:=⟨_,rfl⟩
     have hR1l:0<R1.length∧R1.length≤6291457:=by rw [hR1e,List.length_append,List.length_singleton];omega
     have hR1x:R1.map Nt.at=(RR j).map Nt.at++[Nt.at ⟨(i:Int),(j:Int),-1,m.ret,m.at_⟩]:=by rw [hR1e,List.map_append];rfl
     have hr1:R1.length=r0+1+1:=by rw [hR1e,List.length_append,hr0];rfl
     rw [ntE_c hr0,ntBx_c hr0]
     have hW:=pr12Vars m (by omega) (by omega)
     have hvl:(m.params++m.locals).length≤1048576:=by rw [List.length_append];omega
     have hRM2:RR (j+1)=(R1++ntsV ⟨(i:Int),(j:Int),0,Ty.zero,0⟩ 0 (m.params++m.locals))++(spB ⟨(i:Int),(j:Int),0,Ty.zero,0⟩ (St.lns 0 m.body)).map Sp.nt:=by rw [hRM,hR1e];simp only [List.append_assoc]
     generalize m.params++m.locals=vs at hW hvl hRM2
     replace fx:=And.intro hlt4 (And.intro hixm (And.intro hixi (And.intro hzN (And.intro hzL (And.intro hkk trivial)))))
     repeat' (first|refine stp [0,2,3,4,5,6,7,8,9,10,11,12,16,26,54,80,107,117] ?_|(refine RS.aO ?_;refine rnx ?_)|(refine RS.aN ?_;refine rnx ?_)|(refine RS.ls ?_;refine rnx ?_)|(refine RS.sE ?_;refine rnx ?_)|(refine RS.aE ?_;refine rnx ?_)|(refine RS.aK ?_;refine rnx ?_)|(refine RS.lC ?_;refine rnx ?_)|(refine RS.xC ?_;refine rnx ?_)|(refine RS.bC ?_;refine rnx ?_)|(refine stc (r1:=by exact hW) (r2:=?_);refine rnx ?_)|refine WP.cn (fun hc=>?_) (fun hc=>?_)|((first|refine WP.dgr (id:=19) 16 [] [0,2,3,4,5,6,7,8,9,10,11,12,16,26,54,80,107,117] ?_|refine WP.dgr (id:=25) 17 [] [0,2,3,4,5,6,7,8,9,10,11,12,16,26,54,80,107,117] ?_|refine RG.q ?_|refine RG.z ?_);simp only [RQr_mk,RSr_mk,List.drop_succ_cons,List.drop_zero,List.drop_nil,List.take_succ_cons,List.take_zero,List.take_nil])|refine RS.nx ?_|(refine RQ.ls ?_;refine rnx ?_)|fail)
     refine WP.each vs Vr.at 13 (fun q=>[(0,.a (.sl (p.map Cs.at))),(4,.a (.v (.int .i64 (i:Nat)))),(7,.a (.v (.int .i64 (j:Nat)))),(8,.a (.ptr 2 0)),(9,.a (.sl (vs.map Vr.at))),(3,ntE (R1++ntsV ⟨(i:Int),(j:Int),0,Ty.zero,0⟩ 0 (vs.take q))),(10,.a (.v (.int .i64 (q:Nat))))]) (fun q=>ntBx X (R1++ntsV ⟨(i:Int),(j:Int),0,Ty.zero,0⟩ 0 (vs.take q))++[.cell (Me.at m)]) (fun _=>True) (by simp only [Agree,go_sem,simprocAttr,List.take_zero,ntsV,spV,List.map_nil,List.append_nil,ntE_c hr1];first|done|rfl) (by simp only [List.take_zero,ntsV,spV,List.map_nil,List.append_nil,ntBx_c hr1,hR1x];first|done|rfl) trivial (by omega) (fun z=>Vr.len z) ?_ ?_ (fun q=>by simp only [List.length_append];obtain⟨r2,hr2⟩:∃r2,(R1++ntsV ⟨(i:Int),(j:Int),0,Ty.zero,0⟩ 0 (vs.take q)).length=r2+1:=⟨r0+1+(ntsV ⟨(i:Int),(j:Int),0,Ty.zero,0⟩ 0 (vs.take q)).length,by rw [List.length_append];omega⟩;obtain⟨r3,hr3⟩:∃r3,(R1++ntsV ⟨(i:Int),(j:Int),0,Ty.zero,0⟩ 0 (vs.take (q+1))).length=r3+1:=⟨r0+1+(ntsV ⟨(i:Int),(j:Int),0,Ty.zero,0⟩ 0 (vs.take (q+1))).length,by rw [List.length_append];omega⟩;rw [ntBx_c hr2,ntBx_c hr3];exact Nat.le_refl _)
     ·intro q z hz hdr2 htk2 hlq _ hlt3 hixv hwq
      have hsn:=ntsV_snoc ⟨(i:Int),(j:Int),0,Ty.zero,0⟩ htk2 hlq
      have hb2:(R1++ntsV ⟨(i:Int),(j:Int),0,Ty.zero,0⟩ 0 (vs.take q)).length≤8388608:=by rw [List.length_append,ntsV,List.length_map,spV_len,List.length_take];omega
      obtain⟨r2,hr2⟩:∃r2,(R1++ntsV ⟨(i:Int),(j:Int),0,Ty.zero,0⟩ 0 (vs.take q)).length=r2+1:=⟨r0+1+(ntsV ⟨(i:Int),(j:Int),0,Ty.zero,0⟩ 0 (vs.take q)).length,by rw [List.length_append];omega⟩
      obtain⟨R2,hR2⟩:∃R2,R2=R1++ntsV ⟨(i:Int),(j:Int),0,Ty.zero,0⟩ 0 (vs.take q):=⟨_,rfl⟩
      have hR3:R1++ntsV ⟨(i:Int),(j:Int),0,Ty.zero,0⟩ 0 (vs.take (q+1))=R2++[⟨(i:Int),(j:Int),(q:Int),z.ty,z.at_⟩]:=by rw [hsn,hR2,List.append_assoc]
      rw [←hR2] at hb2 hr2 ⊢
      have hr3:(R2++[(⟨(i:Int),(j:Int),(q:Int),z.ty,z.at_⟩:Nt)]).length=r2+1+1:=by rw [List.length_append,hr2];rfl
      have hkk:(r2==r2)=true:=beq_self_eq_true _
      rw [ntE_c hr2,ntBx_c hr2]
      simp only [List.cons_append,List.nil_append]
      replace fx:=And.intro hlt3 (And.intro hixv (And.intro hwq (And.intro hzN (And.intro hkk trivial))))
      repeat' (first|refine stp [0,2,3,4,5,6,7,8,9,10,11,12,16,26,54,80,107,117] ?_|(refine RS.aO ?_;refine rnx ?_)|(refine RS.aN ?_;refine rnx ?_)|(refine RS.ls ?_;refine rnx ?_)|(refine RS.sE ?_;refine rnx ?_)|(refine RS.aE ?_;refine rnx ?_)|(refine RS.aK ?_;refine rnx ?_)|(refine RS.lC ?_;refine rnx ?_)|(refine RS.xC ?_;refine rnx ?_)|(refine RS.bC ?_;refine rnx ?_)|refine WP.cn (fun hc=>?_) (fun hc=>?_)|((first|refine WP.dgr (id:=19) 16 [] [0,2,3,4,5,6,7,8,9,10,11,12,16,26,54,80,107,117] ?_|refine WP.dgr (id:=25) 17 [] [0,2,3,4,5,6,7,8,9,10,11,12,16,26,54,80,107,117] ?_|refine RG.q ?_|refine RG.z ?_);simp only [RQr_mk,RSr_mk,List.drop_succ_cons,List.drop_zero,List.drop_nil,List.take_succ_cons,List.take_zero,List.take_nil])|refine RS.nx ?_|(refine RQ.ls ?_;refine rnx ?_)|fail)
      refine⟨trivial,[],?_,?_,?_,?_⟩
      ·dsimp only;rw [hR3,ntE_c hr3];simp only [Agree,go_sem,simprocAttr]
      ·dsimp only;rw [hR3,ntBx_c hr3,List.map_append];rfl
      ·dsimp only;rw [hR3,ntE_c hr3,ntBx_c hr3];rfl
      ·dsimp only;rw [hR3,ntBx_c hr3];simp only [go_sem,simprocAttr,hXn]
     ·intro _ hlt3
      rw [List.take_length]
      have hb3:(R1++ntsV ⟨(i:Int),(j:Int),0,Ty.zero,0⟩ 0 vs).length≤8388608:=by rw [List.length_append,ntsV,List.length_map,spV_len];omega
      obtain⟨R3,hR3⟩:∃R3,R3=R1++ntsV ⟨(i:Int),(j:Int),0,Ty.zero,0⟩ 0 vs:=⟨_,rfl⟩
      obtain⟨r3,hr3⟩:∃r3,R3.length=r3+1:=⟨r0+1+(ntsV ⟨(i:Int),(j:Int),0,Ty.zero,0⟩ 0 vs).length,by rw [hR3,List.length_append];omega⟩
      rw [←hR3] at hb3 ⊢
      rw [ntE_c hr3,ntBx_c hr3]
      simp only [List.cons_append,List.nil_append]
      generalize St.lns 0 m.body=LL at hlns hll hRM2
      replace fx:=And.intro hlt3 (And.intro hzL (And.intro hzN trivial))
      repeat' (first|refine stp [0,2,3,4,5,6,7,8,9,10,11,12,16,26,54,80,107,117] ?_|(refine RS.aO ?_;refine rnx ?_)|(refine RS.aN ?_;refine rnx ?_)|(refine RS.ls ?_;refine rnx ?_)|(refine RS.sE ?_;refine rnx ?_)|(refine RS.aE ?_;refine rnx ?_)|(refine RS.aK ?_;refine rnx ?_)|(refine RS.lC ?_;refine rnx ?_)|(refine RS.xC ?_;refine rnx ?_)|(refine RS.bC ?_;refine rnx ?_)|(refine stc (r1:=by exact hlns) (r2:=?_);refine rnx ?_)|refine WP.cn (fun hc=>?_) (fun hc=>?_)|((first|refine WP.dgr (id:=19) 16 [] [0,2,3,4,5,6,7,8,9,10,11,12,16,26,54,80,107,117] ?_|refine WP.dgr (id:=25) 17 [] [0,2,3,4,5,6,7,8,9,10,11,12,16,26,54,80,107,117] ?_|refine RG.q ?_|refine RG.z ?_);simp only [RQr_mk,RSr_mk,List.drop_succ_cons,List.drop_zero,List.drop_nil,List.take_succ_cons,List.take_zero,List.take_nil])|refine RS.nx ?_|(refine RQ.ls ?_;refine rnx ?_)|fail)
      refine WP.each (LL.map (mkLn Ln.zero)) Ln.at 26 (fun q=>[(0,.a (.sl (p.map Cs.at))),(4,.a (.v (.int .i64 (i:Nat)))),(7,.a (.v (.int .i64 (j:Nat)))),(8,.a (.ptr 2 0)),(11,.a (.sl ((LL.map (mkLn Ln.zero)).map Ln.at))),(3,ntE (R3++(spB ⟨(i:Int),(j:Int),0,Ty.zero,0⟩ (LL.take q)).map Sp.nt)),(12,.a (.v (.int .i64 (q:Nat))))]) (fun q=>ntBx X (R3++(spB ⟨(i:Int),(j:Int),0,Ty.zero,0⟩ (LL.take q)).map Sp.nt)++[.cell (Me.at m)]) (fun _=>True) (by simp only [Agree,go_sem,simprocAttr,List.take_zero,spB,List.filter_nil,List.map_nil,List.append_nil,ntE_c hr3];first|done|rfl) (by simp only [List.take_zero,spB,List.filter_nil,List.map_nil,List.append_nil,ntBx_c hr3];first|done|rfl) trivial (by rw [List.length_map];omega) (fun z=>Ln.len z) ?_ ?_ (fun q=>?_)
      ·intro q zz hzz hdr3 htk3 hlq _ hlt4 hixl hwq
       rw [List.length_map] at hlt4
       rw [List.getElem?_map,Option.map_eq_some_iff] at hzz
       obtain⟨z,hz,rfl⟩:=hzz
       have htk4:=take_snocA hz
       have hb4:(R3++(spB ⟨(i:Int),(j:Int),0,Ty.zero,0⟩ (LL.take q)).map Sp.nt).length≤16777216:=by rw [List.length_append,List.length_map];have:=spB_len ⟨(i:Int),(j:Int),0,Ty.zero,0⟩ (LL.take q);rw [List.length_take] at this;omega
       obtain⟨R4,hR4⟩:∃R4,R4=R3++(spB ⟨(i:Int),(j:Int),0,Ty.zero,0⟩ (LL.take q)).map Sp.nt:=⟨_,rfl⟩
       obtain⟨r4,hr4⟩:∃r4,R4.length=r4+1:=⟨r3+((spB ⟨(i:Int),(j:Int),0,Ty.zero,0⟩ (LL.take q)).map Sp.nt).length,by rw [hR4,List.length_append];omega⟩
       have hR5:R3++(spB ⟨(i:Int),(j:Int),0,Ty.zero,0⟩ (LL.take (q+1))).map Sp.nt=R4++(spB ⟨(i:Int),(j:Int),0,Ty.zero,0⟩ [z]).map Sp.nt:=by rw [htk4,spB_app,List.map_append,hR4,List.append_assoc]
       rw [←hR4] at hb4 ⊢
       rw [ntE_c hr4,ntBx_c hr4]
       simp only [List.cons_append,List.nil_append]
       have hsk:(mkLn Ln.zero z).s=z.2:=rfl
       cases hk2:z.2.ty.kind==2 with
       | true =>
        have hb2:(spB ⟨(i:Int),(j:Int),0,Ty.zero,0⟩ [z]).map Sp.nt=[⟨(i:Int),(j:Int),-1,z.2.ty,z.2.at_⟩]:=by unfold spB;rw [List.filter_cons_of_pos (by exact hk2)];rfl
        have hr5:(R4++[(⟨(i:Int),(j:Int),-1,z.2.ty,z.2.at_⟩:Nt)]).length=r4+1+1:=by rw [List.length_append,hr4];rfl
        have hkk:(r4==r4)=true:=beq_self_eq_true _
        rw [hb2] at hR5
        replace fx:=And.intro hlt4 (And.intro hixl (And.intro hwq (And.intro hzN (And.intro hkk (And.intro hsk (And.intro hk2 trivial))))))
        repeat' (first|refine stp [0,2,3,4,5,6,7,8,9,10,11,12,16,26,54,80,107,117] ?_|(refine RS.aO ?_;refine rnx ?_)|(refine RS.aN ?_;refine rnx ?_)|(refine RS.ls ?_;refine rnx ?_)|(refine RS.sE ?_;refine rnx ?_)|(refine RS.aE ?_;refine rnx ?_)|(refine RS.aK ?_;refine rnx ?_)|(refine RS.lC ?_;refine rnx ?_)|(refine RS.xC ?_;refine rnx ?_)|(refine RS.bC ?_;refine rnx ?_)|refine WP.cn (fun hc=>?_) (fun hc=>?_)|((first|refine WP.dgr (id:=19) 16 [] [0,2,3,4,5,6,7,8,9,10,11,12,16,26,54,80,107,117] ?_|refine WP.dgr (id:=25) 17 [] [0,2,3,4,5,6,7,8,9,10,11,12,16,26,54,80,107,117] ?_|refine RG.q ?_|refine RG.z ?_);simp only [RQr_mk,RSr_mk,List.drop_succ_cons,List.drop_zero,List.drop_nil,List.take_succ_cons,List.take_zero,List.take_nil])|refine RS.nx ?_|(refine RQ.ls ?_;refine rnx ?_)|fail)
        refine⟨trivial,[],?_,?_,?_,?_⟩
        ·dsimp only;rw [hR5,ntE_c hr5];simp only [Agree,go_sem,simprocAttr]
        ·dsimp only;rw [hR5,ntBx_c hr5,List.map_append];rfl
        ·dsimp only;rw [hR5,ntE_c hr5,ntBx_c hr5];rfl
        ·dsimp only;rw [hR5,ntBx_c hr5];simp only [go_sem,simprocAttr,hXn]
       | false =>
        have hb2:(spB ⟨(i:Int),(j:Int),0,Ty.zero,0⟩ [z]).map Sp.nt=[]:=by unfold spB;rw [List.filter_cons_of_neg (by simpa using hk2)];rfl
        rw [hb2,List.append_nil] at hR5
        replace fx:=And.intro hlt4 (And.intro hixl (And.intro hwq (And.intro hzN (And.intro hsk (And.intro hk2 trivial)))))
        repeat' (first|refine stp [0,2,3,4,5,6,7,8,9,10,11,12,16,26,54,80,107,117] ?_|(refine RS.aO ?_;refine rnx ?_)|(refine RS.aN ?_;refine rnx ?_)|(refine RS.ls ?_;refine rnx ?_)|(refine RS.sE ?_;refine rnx ?_)|(refine RS.aE ?_;refine rnx ?_)|(refine RS.aK ?_;refine rnx ?_)|(refine RS.lC ?_;refine rnx ?_)|(refine RS.xC ?_;refine rnx ?_)|(refine RS.bC ?_;refine rnx ?_)|refine WP.cn (fun hc=>?_) (fun hc=>?_)|((first|refine WP.dgr (id:=19) 16 [] [0,2,3,4,5,6,7,8,9,10,11,12,16,26,54,80,107,117] ?_|refine WP.dgr (id:=25) 17 [] [0,2,3,4,5,6,7,8,9,10,11,12,16,26,54,80,107,117] ?_|refine RG.q ?_|refine RG.z ?_);simp only [RQr_mk,RSr_mk,List.drop_succ_cons,List.drop_zero,List.drop_nil,List.take_succ_cons,List.take_zero,List.take_nil])|refine RS.nx ?_|(refine RQ.ls ?_;refine rnx ?_)|fail)
        refine⟨trivial,[],?_,?_,?_,?_⟩
        ·dsimp only;rw [hR5,ntE_c hr4];simp only [Agree,go_sem,simprocAttr]
        ·dsimp only;rw [hR5,ntBx_c hr4];rfl
        ·dsimp only;rw [hR5,ntE_c hr4,ntBx_c hr4];rfl
        ·dsimp only;rw [hR5,ntBx_c hr4];simp only [go_sem,simprocAttr,hXn]
      ·intro _ hlt4
       rw [List.length_map,List.take_length]
       rw [List.length_map] at hlt4
       obtain⟨R4,hR4⟩:∃R4,R4=R3++(spB ⟨(i:Int),(j:Int),0,Ty.zero,0⟩ LL).map Sp.nt:=⟨_,rfl⟩
       obtain⟨r4,hr4⟩:∃r4,R4.length=r4+1:=⟨r3+((spB ⟨(i:Int),(j:Int),0,Ty.zero,0⟩ LL).map Sp.nt).length,by rw [hR4,List.length_append];omega⟩
       rw [←hR4]
       rw [ntE_c hr4,ntBx_c hr4]
       simp only [List.cons_append,List.nil_append]
       have hfin:RR (j+1)=R4:=by rw [hR4,hR3];exact hRM2
       replace fx:=And.intro hlt4 (And.intro hwm trivial)
       repeat' (first|refine stp [0,2,3,4,5,6,7,8,9,10,11,12,16,26,54,80,107,117] ?_|(refine RS.aO ?_;refine rnx ?_)|(refine RS.aN ?_;refine rnx ?_)|(refine RS.ls ?_;refine rnx ?_)|(refine RS.sE ?_;refine rnx ?_)|(refine RS.aE ?_;refine rnx ?_)|(refine RS.aK ?_;refine rnx ?_)|(refine RS.lC ?_;refine rnx ?_)|(refine RS.xC ?_;refine rnx ?_)|(refine RS.bC ?_;refine rnx ?_)|refine WP.cn (fun hc=>?_) (fun hc=>?_)|((first|refine WP.dgr (id:=19) 16 [] [0,2,3,4,5,6,7,8,9,10,11,12,16,26,54,80,107,117] ?_|refine WP.dgr (id:=25) 17 [] [0,2,3,4,5,6,7,8,9,10,11,12,16,26,54,80,107,117] ?_|refine RG.q ?_|refine RG.z ?_);simp only [RQr_mk,RSr_mk,List.drop_succ_cons,List.drop_zero,List.drop_nil,List.take_succ_cons,List.take_zero,List.take_nil])|refine RS.nx ?_|(refine RQ.ls ?_;refine rnx ?_)|fail)
       refine⟨trivial,[.cell (Me.at m)],?_,?_,?_,?_⟩
       ·dsimp only;rw [hfin,ntE_c hr4];simp only [Agree,go_sem,simprocAttr]
       ·dsimp only;rw [hfin,ntBx_c hr4];rfl
       ·dsimp only;rw [hfin,ntE_c hr4,ntBx_c hr4];rfl
       ·dsimp only;rw [hfin,ntBx_c hr4];simp only [go_sem,simprocAttr,hXn]
      ·simp only [List.length_append]
       obtain⟨r5,hr5⟩:∃r5,(R3++(spB ⟨(i:Int),(j:Int),0,Ty.zero,0⟩ (LL.take q)).map Sp.nt).length=r5+1:=⟨r3+((spB ⟨(i:Int),(j:Int),0,Ty.zero,0⟩ (LL.take q)).map Sp.nt).length,by rw [List.length_append];omega⟩
       obtain⟨r6,hr6⟩:∃r6,(R3++(spB ⟨(i:Int),(j:Int),0,Ty.zero,0⟩ (LL.take (q+1))).map Sp.nt).length=r6+1:=⟨r3+((spB ⟨(i:Int),(j:Int),0,Ty.zero,0⟩ (LL.take (q+1))).map Sp.nt).length,by rw [List.length_append];omega⟩
       rw [ntBx_c hr5,ntBx_c hr6];exact Nat.le_refl _
   ·intro _ hlt4
    rw [hRlen]
    replace fx:=And.intro hlt4 (And.intro hwu (And.intro hixi trivial))
    repeat' (first|refine stp [0,2,3,4,5,6,7,8,9,10,11,12,16,26,54,80,107,117] ?_|(refine RS.aO ?_;refine rnx ?_)|(refine RS.aN ?_;refine rnx ?_)|(refine RS.ls ?_;refine rnx ?_)|(refine RS.sE ?_;refine rnx ?_)|(refine RS.aE ?_;refine rnx ?_)|(refine RS.aK ?_;refine rnx ?_)|(refine RS.lC ?_;refine rnx ?_)|(refine RS.xC ?_;refine rnx ?_)|(refine RS.bC ?_;refine rnx ?_)|refine WP.cn (fun hc=>?_) (fun hc=>?_)|((first|refine WP.dgr (id:=19) 16 [] [0,2,3,4,5,6,7,8,9,10,11,12,16,26,54,80,107,117] ?_|refine WP.dgr (id:=25) 17 [] [0,2,3,4,5,6,7,8,9,10,11,12,16,26,54,80,107,117] ?_|refine RG.q ?_|refine RG.z ?_);simp only [RQr_mk,RSr_mk,List.drop_succ_cons,List.drop_zero,List.drop_nil,List.take_succ_cons,List.take_zero,List.take_nil])|refine RS.nx ?_|(refine RQ.ls ?_;refine rnx ?_)|fail)
    refine⟨hemp,[],by simp only [Agree,go_sem,simprocAttr],(List.append_nil _).symm,?_,ntBx_nr hXn _⟩
    dsimp only
    rw [nrE,List.all_cons,List.all_cons,ntE_nr];rfl
   ·intro j
    obtain⟨S,hS⟩:=hRm j
    rw [hS];exact ntBx_le X _ _
  ·intro k
   rw [List.take_add_one,ntsV,ntsV,spV_app,List.map_append,←List.append_assoc]
   exact ntBx_le X _ _
 ·intro _ hlt2
  rw [List.take_length]
  show WP C 137 _ _ _ _
  have hty:(spCs 0 p).map Sp.nt=typesL p:=rfl
  rw [hty]
  rcases nt_cases (typesL p) with h0|⟨r1,hr1⟩
  ·rw [h0]
   simp only [ntE,ntBx]
   replace fx:=And.intro hlt2 trivial
   repeat' (first|refine stp [0,2,3,4,5,6,7,8,9,10,11,12,16,26,54,80,107,117] ?_|(refine RS.aO ?_;refine rnx ?_)|(refine RS.aN ?_;refine rnx ?_)|(refine RS.ls ?_;refine rnx ?_)|(refine RS.sE ?_;refine rnx ?_)|(refine RS.aE ?_;refine rnx ?_)|(refine RS.aK ?_;refine rnx ?_)|(refine RS.lC ?_;refine rnx ?_)|(refine RS.xC ?_;refine rnx ?_)|(refine RS.bC ?_;refine rnx ?_)|refine WP.cn (fun hc=>?_) (fun hc=>?_)|((first|refine WP.dgr (id:=19) 16 [] [0,2,3,4,5,6,7,8,9,10,11,12,16,26,54,80,107,117] ?_|refine WP.dgr (id:=25) 17 [] [0,2,3,4,5,6,7,8,9,10,11,12,16,26,54,80,107,117] ?_|refine RG.q ?_|refine RG.z ?_);simp only [RQr_mk,RSr_mk,List.drop_succ_cons,List.drop_zero,List.drop_nil,List.take_succ_cons,List.take_zero,List.take_nil])|refine RS.nx ?_|(refine RQ.ls ?_;refine rnx ?_)|fail)
   rfl
  ·have hkk:(r1==r1)=true:=beq_self_eq_true _
   rw [ntE_c hr1,ntBx_c hr1]
   replace fx:=And.intro hlt2 (And.intro hkk trivial)
   repeat' (first|refine stp [0,2,3,4,5,6,7,8,9,10,11,12,16,26,54,80,107,117] ?_|(refine RS.aO ?_;refine rnx ?_)|(refine RS.aN ?_;refine rnx ?_)|(refine RS.ls ?_;refine rnx ?_)|(refine RS.sE ?_;refine rnx ?_)|(refine RS.aE ?_;refine rnx ?_)|(refine RS.aK ?_;refine rnx ?_)|(refine RS.lC ?_;refine rnx ?_)|(refine RS.xC ?_;refine rnx ?_)|(refine RS.bC ?_;refine rnx ?_)|refine WP.cn (fun hc=>?_) (fun hc=>?_)|((first|refine WP.dgr (id:=19) 16 [] [0,2,3,4,5,6,7,8,9,10,11,12,16,26,54,80,107,117] ?_|refine WP.dgr (id:=25) 17 [] [0,2,3,4,5,6,7,8,9,10,11,12,16,26,54,80,107,117] ?_|refine RG.q ?_|refine RG.z ?_);simp only [RQr_mk,RSr_mk,List.drop_succ_cons,List.drop_zero,List.drop_nil,List.take_succ_cons,List.take_zero,List.take_nil])|refine RS.nx ?_|(refine RQ.ls ?_;refine rnx ?_)|fail)
   rfl
 ·intro i
  rw [List.take_add_one,spCs_app,List.map_append]
  exact ntBx_le _ _ _
def slV (q:Option Nat) (a b:D) (rows:List (List A)):Option D:=match q with
 | some n=>if allLen n rows=true then ((match b with
  | .a (.v (.int _ z))=>if 0≤z∧z≤(rows.length:Int) then some z.toNat else none
  | _=>none):Option Nat).bind fun h=>((match a with
  | .a (.v (.int _ z))=>if 0≤z∧z≤(h:Int) then some z.toNat else none
  | _=>none):Option Nat).map fun l=>D.a (.sl ((rows.take h).drop l)) else none
 | none=>none
@[go_sem] theorem slD_V {P:Program} {T:TypeId} {e:Nat→D} {x y:Operand} {rows:List (List A)}:slD P T e (some x) (some y) (.a (.sl rows))=slV (es P T) (evO e x) (evO e y) rows:=rfl
theorem slV_one {p:List Cs} {i:Nat} {c:Cs} (hc:p[i]? = some c):slV (some 7) (.a (.v (.int .i64 (i:Int)))) (.a (.v (.int .i64 ((i+1:Nat):Int)))) (p.map Cs.at)=some (.a (.sl [Cs.at c])):=by
 have hil:=(List.getElem?_eq_some_iff.1 hc).1
 have h1:0≤((i+1:Nat):Int)∧((i+1:Nat):Int)≤((p.map Cs.at).length:Int):=by rw [List.length_map];omega
 have h2:0≤(i:Int)∧(i:Int)≤(((i+1:Nat):Int).toNat:Int):=by omega
 show (if allLen 7 (p.map Cs.at)=true then ((if 0≤((i+1:Nat):Int)∧((i+1:Nat):Int)≤((p.map Cs.at).length:Int) then some (((i+1:Nat):Int).toNat) else none):Option Nat).bind fun h=>((if 0≤(i:Int)∧(i:Int)≤(h:Int) then some ((i:Int).toNat) else none):Option Nat).map fun l=>D.a (.sl (((p.map Cs.at).take h).drop l)) else none)=_
 rw [if_pos (by exact allLen_Cs),if_pos h1,Option.bind_some]
 rw [if_pos h2,Option.map_some,show ((i+1:Nat):Int).toNat=i+1 by omega,show (i:Int).toNat=i by omega,←List.map_take,take_snocA hc,List.map_append,List.drop_append_of_le_length (by simp;omega),List.drop_of_length_le (by simp;omega)]
 rfl
theorem pr13fault (e a:Int):DPure Tryz.prog 45 [.a (.v (.int .i64 e)),.a (.v (.int .i64 a))] (.r [.v (.int .i64 e),.v (.int .i64 a)]):=by
 refine DPure.go Tryz.func45 rfl Tryz.ntmps45 rfl rfl rfl (fun C hro=>?_)
 have fx:=trivial
 repeat' (first|refine stp [0,1,4] ?_|(refine RS.sE ?_;refine rnx ?_)|fail)
 rfl
theorem pr13types (p:List Cs) (i:Nat) (c:Cs) (hc:p[i]? = some c) (hz:sumOf Cs.sz p≤1048576):DPure Tryz.prog 100 [.a (.sl (p.map Cs.at)),.a (.v (.int .i64 (i:Nat)))] (.r [.v (.int .i64 (fOf (typF p (typesL [c]))).1),.v (.int .i64 (fOf (typF p (typesL [c]))).2)]):=by
 have hpl:p.length≤1048576:=Nat.le_trans (sumOf_len Cs.sz_pos p) hz
 have hil:=(List.getElem?_eq_some_iff.1 hc).1
 have hcz:c.sz≤1048576:=by have:=sumOf_mem (f:=Cs.sz) (List.mem_of_getElem? hc);omega
 have hT:=pr12Types [c] (by rw [sumOf_one];exact hcz)
 have hl2:=typesL_len [c]
 rw [sumOf_one] at hl2
 replace hT:DPure Tryz.prog 159 [.a (.sl [Cs.at c])] (.a (.sl ((typesL [c]).map Nt.at))):=hT
 have hwi:=wrap64n (k:=i) (by omega)
 generalize typesL [c]=l at hT hl2 ⊢
 have hsl:=slV_one hc
 have hnz:=Nt.z0
 refine DPure.go Tryz.func100 rfl Tryz.ntmps100 rfl rfl rfl (fun C hro=>?_)
 have fx:=trivial
 replace fx:=And.intro hwi (And.intro hsl trivial)
 repeat' (first|refine stp [0,1,4,5,6,7,8,18,28,34,49] ?_|(refine RS.sE ?_;refine rnx ?_)|(refine RS.pk ?_;refine rnx ?_)|(refine RS.gF ?_;refine rnx ?_)|(refine RS.sN ?_;refine rnx ?_)|(refine RS.sC ?_;refine rnx ?_)|(refine RS.lC ?_;refine rnx ?_)|(refine RS.xC ?_;refine rnx ?_)|(refine stc (r1:=by exact hT) (r2:=?_);refine rnx ?_)|refine WP.cn (fun hc=>?_) (fun hc=>?_)|fail)
 refine WP.each l Nt.at 15 (fun k=>[(0,.a (.sl (p.map Cs.at))),(4,.a (.ptr 0 0)),(5,.a (.sl (l.map Nt.at))),(6,.a (.v (.int .i64 (k:Nat))))]) (fun k=>[.cell [.v (.int .i64 0),.v (.int .i64 0)]]) (fun k=>typF p l=typF p (l.drop k)) (by simp only [Agree,go_sem,simprocAttr];first|done|rfl) rfl rfl (by omega) (fun z=>Nt.len z) ?_ ?_
 ·intro k t hz1 hdr htk hlt hI hlt2 hix hwu
  rw [typF_round hdr] at hI
  have hAr:=pr13Arity p t.t.cls hpl
  cases hk:t.t.kind==2 with
  | false =>
   rw [hk,if_pos rfl] at hI
   have hk2:(t.t.kind != 2)=true:=by rw [bne,hk];rfl
   replace fx:=And.intro hlt2 (And.intro hix (And.intro hwu (And.intro hk2 trivial)))
   repeat' (first|refine stp [0,1,4,5,6,7,8,18,28,34,49] ?_|(refine RS.sE ?_;refine rnx ?_)|(refine RS.pk ?_;refine rnx ?_)|(refine RS.gF ?_;refine rnx ?_)|(refine RS.sN ?_;refine rnx ?_)|(refine RS.sC ?_;refine rnx ?_)|(refine RS.lC ?_;refine rnx ?_)|(refine RS.xC ?_;refine rnx ?_)|refine WP.cn (fun hc=>?_) (fun hc=>?_)|fail)
   exact⟨hI,_,by simp only [Agree,go_sem,simprocAttr],rfl,rfl,by simp only [go_sem,simprocAttr]⟩
  | true =>
   rw [hk,if_neg (by simp)] at hI
   have hk2:(t.t.kind != 2)=false:=by rw [bne,hk];rfl
   by_cases ha:arityI p t.t.cls<0
   ·rw [if_pos ha] at hI
    have h1:decide (arityI p t.t.cls<0)=true:=decide_eq_true ha
    rw [hI]
    replace fx:=And.intro hlt2 (And.intro hix (And.intro hwu (And.intro hk2 (And.intro h1 trivial))))
    repeat' (first|refine stp [0,1,4,5,6,7,8,18,28,34,49] ?_|(refine RS.sE ?_;refine rnx ?_)|(refine RS.pk ?_;refine rnx ?_)|(refine RS.gF ?_;refine rnx ?_)|(refine RS.sN ?_;refine rnx ?_)|(refine RS.sC ?_;refine rnx ?_)|(refine RS.lC ?_;refine rnx ?_)|(refine RS.xC ?_;refine rnx ?_)|(refine stc (r1:=by first|exact hAr|exact pr13fault _ _) (r2:=?_);refine rnx ?_)|refine WP.cn (fun hc=>?_) (fun hc=>?_)|fail)
    rfl
   ·rw [if_neg ha] at hI
    have h1:decide (arityI p t.t.cls<0)=false:=decide_eq_false ha
    cases hb1:t.t.n != 0 with
    | false =>
     rw [hb1,Bool.false_and,if_neg Bool.false_ne_true] at hI
     replace fx:=And.intro hlt2 (And.intro hix (And.intro hwu (And.intro hk2 (And.intro h1 (And.intro hb1 trivial)))))
     repeat' (first|refine stp [0,1,4,5,6,7,8,18,28,34,49] ?_|(refine RS.sE ?_;refine rnx ?_)|(refine RS.pk ?_;refine rnx ?_)|(refine RS.gF ?_;refine rnx ?_)|(refine RS.sN ?_;refine rnx ?_)|(refine RS.sC ?_;refine rnx ?_)|(refine RS.lC ?_;refine rnx ?_)|(refine RS.xC ?_;refine rnx ?_)|(refine stc (r1:=by exact hAr) (r2:=?_);refine rnx ?_)|refine WP.cn (fun hc=>?_) (fun hc=>?_)|fail)
     exact⟨hI,_,by simp only [Agree,go_sem,simprocAttr],rfl,rfl,by simp only [go_sem,simprocAttr]⟩
    | true =>
     rw [hb1,Bool.true_and] at hI
     cases hb2:t.t.n != arityI p t.t.cls with
     | true =>
      rw [hb2,if_pos rfl] at hI
      rw [hI]
      replace fx:=And.intro hlt2 (And.intro hix (And.intro hwu (And.intro hk2 (And.intro h1 (And.intro hb1 (And.intro hb2 trivial))))))
      repeat' (first|refine stp [0,1,4,5,6,7,8,18,28,34,49] ?_|(refine RS.sE ?_;refine rnx ?_)|(refine RS.pk ?_;refine rnx ?_)|(refine RS.gF ?_;refine rnx ?_)|(refine RS.sN ?_;refine rnx ?_)|(refine RS.sC ?_;refine rnx ?_)|(refine RS.lC ?_;refine rnx ?_)|(refine RS.xC ?_;refine rnx ?_)|(refine stc (r1:=by first|exact hAr|exact pr13fault _ _) (r2:=?_);refine rnx ?_)|refine WP.cn (fun hc=>?_) (fun hc=>?_)|fail)
      rfl
     | false =>
      rw [hb2,if_neg Bool.false_ne_true] at hI
      replace fx:=And.intro hlt2 (And.intro hix (And.intro hwu (And.intro hk2 (And.intro h1 (And.intro hb1 (And.intro hb2 trivial))))))
      repeat' (first|refine stp [0,1,4,5,6,7,8,18,28,34,49] ?_|(refine RS.sE ?_;refine rnx ?_)|(refine RS.pk ?_;refine rnx ?_)|(refine RS.gF ?_;refine rnx ?_)|(refine RS.sN ?_;refine rnx ?_)|(refine RS.sC ?_;refine rnx ?_)|(refine RS.lC ?_;refine rnx ?_)|(refine RS.xC ?_;refine rnx ?_)|(refine stc (r1:=by exact hAr) (r2:=?_);refine rnx ?_)|refine WP.cn (fun hc=>?_) (fun hc=>?_)|fail)
      exact⟨hI,_,by simp only [Agree,go_sem,simprocAttr],rfl,rfl,by simp only [go_sem,simprocAttr]⟩
 ·intro hI hlt2
  rw [List.drop_length,typF] at hI
  rw [hI]
  replace fx:=And.intro hlt2 trivial
  repeat' (first|refine stp [0,1,4,5,6,7,8,18,28,34,49] ?_|(refine RS.sE ?_;refine rnx ?_)|(refine RS.pk ?_;refine rnx ?_)|(refine RS.gF ?_;refine rnx ?_)|(refine RS.sN ?_;refine rnx ?_)|(refine RS.sC ?_;refine rnx ?_)|(refine RS.lC ?_;refine rnx ?_)|(refine RS.xC ?_;refine rnx ?_)|refine WP.cn (fun hc=>?_) (fun hc=>?_)|fail)
  rfl
theorem typF_ne {p:List Cs}:∀{l:List Nt} {f:Int×Int},typF p l=some f→(f.1 != 0)=true
 | [],f,h=>by cases h
 | t::r,f,h=>by
  rw [typF] at h
  split at h
  ·exact typF_ne h
  ·split at h
   ·injection h with h;subst h;rfl
   ·split at h
    ·injection h with h;subst h;rfl
    ·exact typF_ne h
theorem varsF_fdup:∀(l:List Vr) (seen:List (List UInt8)) (k:Nat),(fdup seen (l.map Vr.name) k = -1∧twV seen l=none)∨∃(j:Nat) (z:Vr),l[j]? = some z∧fdup seen (l.map Vr.name) k=((k+j:Nat):Int)∧twV seen l=some z.at_
 | [],seen,k=>.inl ⟨rfl,rfl⟩
 | v::r,seen,k=>by
  rw [List.map_cons,fdup,twV]
  cases h:seen.any fun y=>y==v.name with
  | true =>
   rw [if_pos rfl,if_pos rfl]
   exact .inr ⟨0,v,rfl,rfl,rfl⟩
  | false =>
   rw [if_neg Bool.false_ne_true,if_neg Bool.false_ne_true]
   rcases varsF_fdup r (seen++[v.name]) (k+1) with h|⟨j,z,h1,h2,h3⟩
   ·exact .inl h
   ·exact .inr ⟨j+1,z,by simpa using h1,by rw [h2];congr 1;omega,h3⟩
theorem varsF_tw (l:List Vr):(fdup [] (l.map Vr.name) 0 = -1∧varsF l=none)∨∃(j:Nat) (z:Vr),l[j]? = some z∧fdup [] (l.map Vr.name) 0=(j:Int)∧varsF l=some (7,z.at_):=by
 unfold varsF
 rcases varsF_fdup l [] 0 with ⟨h1,h2⟩|⟨j,z,h1,h2,h3⟩
 ·exact .inl ⟨h1,by rw [h2];rfl⟩
 ·exact .inr ⟨j,z,h1,by rw [h2,Nat.zero_add],by rw [h3];rfl⟩
theorem fdup_snoc:∀(l seen:List (List UInt8)) (k:Nat) (x:List UInt8),fdup seen l k = -1→fdup seen (l++[x]) k=if ((seen++l).any fun y=>y==x)=true then ((k+l.length:Nat):Int) else -1
 | [],seen,k,x,_=>by rw [List.nil_append,fdup,fdup,List.append_nil,List.length_nil,Nat.add_zero]
 | y::r,seen,k,x,h=>by
  rw [fdup] at h
  split at h
  ·omega
  ·rename_i hn
   rw [List.cons_append,fdup,if_neg hn,fdup_snoc r _ _ x h,List.append_assoc,List.singleton_append,List.length_cons]
   congr 2
   push_cast;omega
theorem findI_lt {p:List Cs} {i:Nat} {c:Cs} (hc:p[i]? = some c):decide (findI p c.name<(i:Int))=((p.take i).map Cs.name).any fun y=>y==c.name:=by
 rw [List.any_map]
 have key:∀(q:Cs→Bool) (l:List Cs) (k i:Nat),i≤l.length→((l.take i).any q=true→0≤ixOf q l k∧ixOf q l k<((k+i:Nat):Int))∧((l.take i).any q=false→ixOf q l k = -1∨((k+i:Nat):Int)≤ixOf q l k):=by
  intro q l
  induction l with
  | nil=>intro k i hi;refine⟨fun h=>by simp at h,fun _=>.inl rfl⟩
  | cons x r ih =>
   intro k i hi
   cases i with
   | zero =>
    refine⟨fun h=>by simp at h,fun _=>?_⟩
    rcases ixOf_get q (x::r) k with h|⟨j,z,_,_,h⟩
    ·exact .inl h
    ·right;rw [h];omega
   | succ i =>
    rw [List.take_succ_cons,List.any_cons,ixOf]
    cases hx:q x with
    | true=>rw [if_pos rfl];exact⟨fun _=>by omega,fun h=>by simp at h⟩
    | false =>
     rw [if_neg Bool.false_ne_true,Bool.false_or]
     obtain⟨i1,i2⟩:=ih (k+1) i (by simpa using hi)
     refine⟨fun h=>by have:=i1 h;omega,fun h=>(i2 h).imp id fun h=>by omega⟩
 have hil:=(List.getElem?_eq_some_iff.1 hc).1
 obtain⟨k1,k2⟩:=key (fun d:Cs=>d.name==c.name) p 0 i (by omega)
 show decide (ixOf (fun d:Cs=>d.name==c.name) p 0<(i:Int))=(p.take i).any fun d=>d.name==c.name
 cases h:(p.take i).any fun d=>d.name==c.name with
 | true=>exact decide_eq_true (by have:=k1 h;omega)
 | false =>
  refine decide_eq_false fun hlt=>?_
  have hp:p.any (fun d=>d.name==c.name)=true:=List.any_eq_true.2 ⟨c,List.mem_of_getElem? hc,by simp⟩
  rcases k2 h with h2|h2
  ·have h3:=(key (fun d:Cs=>d.name==c.name) p 0 p.length (Nat.le_refl _)).1 (by rw [List.take_length];exact hp)
   rw [h2] at h3;omega
  ·omega
def clEx:Nat→D
 | 0=>.a .nl
 | k+1=>.a (.own 4 k)
def clBx (c:Cs) (X:List A) (R:List (List A)):Nat→List Bx
 | 0=>[.cell [.v (.int .i64 0),.v (.int .i64 0)],.cell (Cs.at c),.cell [.v (.int .i64 0),.v (.int .i64 0)]]
 | k+1=>[.cell [.v (.int .i64 0),.v (.int .i64 0)],.cell (Cs.at c),.cell [.v (.int .i64 0),.v (.int .i64 0)],.cell X,.arr k 1 R]
theorem clBx_len (c:Cs) (X:List A) (R S:List (List A)) (k:Nat):(clBx c X R k).length≤(clBx c X S (k+1)).length:=by cases k<;>simp [clBx]
theorem dec_nat (j:Nat):decide ((j:Int)≥0)=true:=decide_eq_true (by omega)
theorem headF_1 {p:List Cs} {met:List (List UInt8)} {c:Cs} (h:decide (fdup [] c.params 0≥0)=true):headF p met c=some (7,c.at_):=by unfold headF dupB;rw [if_pos h];rfl
theorem headF_2 {p:List Cs} {met:List (List UInt8)} {c:Cs} (h:decide (fdup [] c.params 0≥0)=false) (hm:(met.any fun y=>y==c.name)=true):headF p met c=some (7,c.at_):=by unfold headF dupB;rw [h,if_neg Bool.false_ne_true,if_pos hm];rfl
theorem headF_3 {p:List Cs} {met:List (List UInt8)} {c:Cs} (h:decide (fdup [] c.params 0≥0)=false) (hm:(met.any fun y=>y==c.name)=false) (hs:(c.super==[])=true):headF p met c=none:=by unfold headF dupB;rw [h,if_neg Bool.false_ne_true,hm,if_neg Bool.false_ne_true,if_pos hs]
theorem headF_4 {p:List Cs} {met:List (List UInt8)} {c:Cs} (h:decide (fdup [] c.params 0≥0)=false) (hm:(met.any fun y=>y==c.name)=false) (hs:(c.super==[])=false) (hAr:arityI p c.super<0↔findI p c.super<0):headF p met c=if findI p c.super<0 then some (8,c.at_) else if (arityI p c.super != (c.above.length:Int))=true then some (10,c.at_) else none:=by
 unfold headF dupB
 rw [h,if_neg Bool.false_ne_true,hm,if_neg Bool.false_ne_true,hs,if_neg Bool.false_ne_true]
 by_cases hf:findI p c.super<0
 ·rw [if_pos hf,if_pos (hAr.2 hf)];rfl
 ·rw [if_neg hf,if_neg fun h=>hf (hAr.1 h)];rfl
theorem pr13class0 (p:List Cs) (i:Nat) (c:Cs) (hc:p[i]? = some c) (hz:sumOf Cs.sz p≤1048576) (h0:decide (fdup [] c.params 0≥0)=true∨(((p.take i).map Cs.name).any fun y=>y==c.name)=true):DPure Tryz.prog 46 [.a (.sl (p.map Cs.at)),.a (.v (.int .i64 (i:Nat)))] (.r [.v (.int .i64 (fOf (classF p ((p.take i).map Cs.name) c)).1),.v (.int .i64 (fOf (classF p ((p.take i).map Cs.name) c)).2)]):=by
 have hpl:p.length≤1048576:=Nat.le_trans (sumOf_len Cs.sz_pos p) hz
 have hil:=(List.getElem?_eq_some_iff.1 hc).1
 have hcz:c.sz≤1048576:=by have:=sumOf_mem (f:=Cs.sz) (List.mem_of_getElem? hc);omega
 obtain⟨y1,y2,y3,y4,y5,y6,y7,y8,y9⟩:=Cs.szH hcz
 have hix:=ixE (m:=7) hc (Cs.len c)
 have c1:=pr13Find p c.name hpl
 have c2:=pr13Twice c.params (by omega)
 have c3:=pr13Find p c.super hpl
 have c4:=pr13Arity p c.super hpl
 have c5:=pr13types p i c hc hz
 have c6:=pr13names c.fields (by omega)
 have c7:=pr13Twice (c.fields.map Vr.name) (by rw [List.length_map];omega)
 have hfl:=findI_lt hc
 have hAr:arityI p c.super<0↔findI p c.super<0:=by
  rcases findI_get p c.super with h|⟨j,z,h1,h2,h3⟩
  ·rw [arityI_no h,h]
  ·rw [arityI_yes h3 h1,h3];exact⟨fun h=>by omega,fun h=>by omega⟩
 generalize (p.take i).map Cs.name=met at hfl h0 ⊢
 obtain⟨F,hF⟩:∃F,F=fOf (classF p met c):=⟨_,rfl⟩
 rw [←hF]
 unfold classF at hF
 generalize findI p c.name=fc at c1 hfl
 cases ht:decide (fdup [] c.params 0≥0) with
 | true =>
  rw [headF_1 ht] at hF
  rw [hF]
  cases hm:met.any fun y=>y==c.name with
  | true =>
   rw [hm] at hfl
   refine DPure.go Tryz.func46 rfl Tryz.ntmps46 rfl rfl rfl (fun C hro=>?_)
   have fx:=trivial
   replace fx:=And.intro hix (And.intro hfl trivial)
   repeat' (first|refine stp [0,1,4,5,6,7,8,9,10,11,27,40,56,65,72,84,99,109] ?_|(refine RS.aO ?_;refine rnx ?_)|(refine RS.aN ?_;refine rnx ?_)|(refine RS.li ?_;refine rnx ?_)|(refine RS.sE ?_;refine rnx ?_)|(refine RS.pk ?_;refine rnx ?_)|(refine RS.gF ?_;refine rnx ?_)|(refine RS.aE ?_;refine rnx ?_)|(refine RS.aK ?_;refine rnx ?_)|(refine RS.lC ?_;refine rnx ?_)|(refine RS.xC ?_;refine rnx ?_)|(refine RS.bC ?_;refine rnx ?_)|(refine stc (r1:=by first|exact c1|exact c2|exact pr13fault _ _) (r2:=?_);refine rnx ?_)|refine WP.cn (fun hc=>?_) (fun hc=>?_)|((first|refine WP.dw (id:=6) 13 [0,1,4,5,6,7,8,9,10,11,27,40,56,65,72,84,99,109] ?_);simp only [RQr_mk,List.drop_succ_cons,List.drop_zero,List.drop_nil])|fail)
   rfl
  | false =>
   rw [hm] at hfl
   refine DPure.go Tryz.func46 rfl Tryz.ntmps46 rfl rfl rfl (fun C hro=>?_)
   have fx:=trivial
   replace fx:=And.intro hix (And.intro hfl (And.intro ht trivial))
   repeat' (first|refine stp [0,1,4,5,6,7,8,9,10,11,27,40,56,65,72,84,99,109] ?_|(refine RS.aO ?_;refine rnx ?_)|(refine RS.aN ?_;refine rnx ?_)|(refine RS.li ?_;refine rnx ?_)|(refine RS.sE ?_;refine rnx ?_)|(refine RS.pk ?_;refine rnx ?_)|(refine RS.gF ?_;refine rnx ?_)|(refine RS.aE ?_;refine rnx ?_)|(refine RS.aK ?_;refine rnx ?_)|(refine RS.lC ?_;refine rnx ?_)|(refine RS.xC ?_;refine rnx ?_)|(refine RS.bC ?_;refine rnx ?_)|(refine stc (r1:=by first|exact c1|exact c2|exact pr13fault _ _) (r2:=?_);refine rnx ?_)|refine WP.cn (fun hc=>?_) (fun hc=>?_)|((first|refine WP.dw (id:=6) 13 [0,1,4,5,6,7,8,9,10,11,27,40,56,65,72,84,99,109] ?_);simp only [RQr_mk,List.drop_succ_cons,List.drop_zero,List.drop_nil])|fail)
   rfl
 | false =>
  cases hm:met.any fun y=>y==c.name with
  | true =>
   rw [headF_2 ht hm] at hF
   rw [hm] at hfl
   rw [hF]
   refine DPure.go Tryz.func46 rfl Tryz.ntmps46 rfl rfl rfl (fun C hro=>?_)
   have fx:=trivial
   replace fx:=And.intro hix (And.intro hfl trivial)
   repeat' (first|refine stp [0,1,4,5,6,7,8,9,10,11,27,40,56,65,72,84,99,109] ?_|(refine RS.aO ?_;refine rnx ?_)|(refine RS.aN ?_;refine rnx ?_)|(refine RS.li ?_;refine rnx ?_)|(refine RS.sE ?_;refine rnx ?_)|(refine RS.pk ?_;refine rnx ?_)|(refine RS.gF ?_;refine rnx ?_)|(refine RS.aE ?_;refine rnx ?_)|(refine RS.aK ?_;refine rnx ?_)|(refine RS.lC ?_;refine rnx ?_)|(refine RS.xC ?_;refine rnx ?_)|(refine RS.bC ?_;refine rnx ?_)|(refine stc (r1:=by first|exact c1|exact c2|exact pr13fault _ _) (r2:=?_);refine rnx ?_)|refine WP.cn (fun hc=>?_) (fun hc=>?_)|((first|refine WP.dw (id:=6) 13 [0,1,4,5,6,7,8,9,10,11,27,40,56,65,72,84,99,109] ?_);simp only [RQr_mk,List.drop_succ_cons,List.drop_zero,List.drop_nil])|fail)
   rfl
  | false=>rw [ht,hm] at h0;rcases h0 with h|h<;>cases h
end Go.Proofs.YtibdalkdgjghoaaGreatDoor
