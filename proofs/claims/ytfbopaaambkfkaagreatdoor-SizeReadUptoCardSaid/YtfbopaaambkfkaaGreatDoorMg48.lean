/- The program's statements: their names, on plain data. Conditions: at most 2^20 of anything. -/
import Derived.Test.YtfbopaaambkfkaaGreatDoorMg46
import Derived.Test.YtfbopaaambkfkaaGreatDoorMg47
import Derived.Test.YtfbopaaambkfkaaGreatDoorMg16
import Derived.Test.YtfbopaaambkfkaaGreatDoorMg41
set_option linter.unusedVariables false
set_option maxRecDepth 100000
set_option maxHeartbeats 8000000
set_option linter.unusedSimpArgs false
namespace Go.Proofs.YtfbopaaambkfkaaGreatDoor
open Go.RowKit
@[go_sem] theorem evBin_and {b:Bool} {x y:Int}:qc9 b .and (.int .i64 x) (.int .i64 y)=some (.int .i64 (bitP x y)):=rfl
def qbq (h:Int) (m:Nat):Bool:=(h.toNat / m) % 2==1
def qhu (b1 b2 b4 b8 b512:Bool) (s:St):Bool :=
  (bif (!b1||(b512&&s.x==[])) then s.x==[] else qan s.x)&&((bif !b2 then s.y==[] else (qan s.y||(b4&&s.y==[116,104,105,115])))&&(bif !b8 then s.name==[] else qan s.name))
def ql1 (h:Int) (s:St):Bool:=qhu (qbq h 1) (qbq h 2) (qbq h 4) (qbq h 8) (qbq h 512) s
theorem qb2 {α:Type} (l:List α) (f:α→Bool):(!l.any fun k=>!f k)=l.all f:=by
  induction l with
  | nil=>rfl
  | cons x r ih=>rw [List.any_cons,List.all_cons,←ih];cases f x<;>simp
def qmo (b16 b32 b64:Bool) (s:St) (p:Int):Bool :=
  (bif b16 then s.ty.kind==2&&tyB s.ty p else decide (s.ty=Ty.zero)) &&
  ((bif (!b32||(s.kind==11&&s.e.sameB Ex.zero)) then s.e.sameB Ex.zero else s.e.rightB&&!(s.kind==6&&s.e.kind != 2&&s.e.kind != 3&&s.e.kind != 4)) &&
  (bif !b64 then (s.args.length:Int)==0 else decide ((s.args.length:Int)≤5)&&s.args.all Ex.rightB))
def toldP (h:Int) (s:St) (p:Int):Bool:=qmo (qbq h 16) (qbq h 32) (qbq h 64) s p
theorem psTold1 (e:Ex) (hz:e.sz≤1048576):qaa Tryz.prog 138 [.r (Ex.at e)] (.a (.v (.bool (!e.rightB)))):=by
  refine qaa.go Tryz.func138 rfl Tryz.ntmps138 rfl rfl rfl (fun C hro=>?_)
  have fx:=trivial
  repeat' (first|refine stp [0,1,2] ?_|(refine stc (r1:=by exact peRight e hz) (r2:=?_);refine rnx ?_)|fail)
  rfl
theorem psTold (s:St) (h p:Int) (b16 b32 b64:Bool) (e16:(bitP h 16==0) = !b16) (e32:(bitP h 32==0) = !b32) (e64:(bitP h 64==0) = !b64) (hz:s.sz≤1048576):qaa Tryz.prog 127 [.r (St.at s),.a (.v (.int .i64 h)),.a (.v (.int .i64 p))] (.a (.v (.bool (qmo b16 b32 b64 s p)))):=by
  have hse:=s.sz_eq
  have f16:(bitP h 16 != 0)=b16:=by unfold bne;rw [e16,Bool.not_not]
  have hasz:∀k∈s.args,k.sz≤1048576:=fun k hk=>by have:=Ex.szs_mem hk;omega
  have hal:s.args.length≤1048576:=by have:=Ex.szs_len s.args;omega
  refine qaa.go Tryz.func127 rfl Tryz.ntmps127 rfl rfl rfl (fun C hro=>?_)
  have fx:=trivial
  replace fx:=ai12 e16 (ai12 f16 (ai12 e32 (ai12 e64 trivial)))
  repeat' (first|refine stp [0,1,2,3,6,33,34,51,52,57,81] ?_|(refine stc (r1:=by first|exact qki s.ty p (by omega)|exact psNone s.e (by omega)|exact peRight s.e (by omega)|exact qkn (fun k=>!k.rightB) s.args 138 [] rfl hal fun k hk=>psTold1 k (hasz k hk)) (r2:=?_);refine rnx ?_)|refine WP.cn (fun hc=>?_) (fun hc=>?_)|fail)
  all_goals
    refine qaf ?_
    unfold qmo
    clear e16 e32 e64 f16
    try rw [qb2]
    cases b16<;>cases b32<;>cases b64<;>simp_all<;>first|(intros;omega)|(rcases ‹¬s.ty.kind=2∨tyB s.ty p=false› with h|h<;>intro h1 h2<;>simp_all)
def qjm (s:St) (p:Int):Bool :=
  hasP s.kind != 0&&(ql1 (hasP s.kind) s&&(toldP (hasP s.kind) s p&&((qbq (hasP s.kind) 128||(s.body.length:Int)==0)&&(qbq (hasP s.kind) 256||(s.els.length:Int)==0))))
theorem len0 {α:Type} (l:List α):((l.length:Int)==0)=l.isEmpty:=by cases l<;>simp;omega
theorem add0 (a b c:Nat):(((a+b+c:Nat):Int)==0)=((a:Int)==0&&((b:Int)==0&&(c:Int)==0)):=by
  rw [Bool.eq_iff_iff];simp;omega
theorem sum3 {α β γ:Type} (l:List α) (m:List β) (n:List γ):((l.length:Int)+(m.length:Int)+(n.length:Int)==0)=(l.isEmpty&&(m.isEmpty&&n.isEmpty)):=by
  rw [←len0,←len0,←len0,Bool.eq_iff_iff];simp only [beq_iff_eq,Bool.and_eq_true];omega
theorem sum2 {α β:Type} (l:List α) (m:List β):((l.length:Int)+(m.length:Int)==0)=(l.isEmpty&&m.isEmpty):=by
  rw [←len0,←len0,Bool.eq_iff_iff];simp only [beq_iff_eq,Bool.and_eq_true];omega
theorem n5 (m:Int):(!decide (5<m))=decide (m≤5):=by
  rw [Bool.eq_iff_iff];simp
theorem zz:Ex.zero.sameB Ex.zero=true:=by decide
theorem ql0 (s:St) (p:Int):qjm s p = !(!St.onlyB s||!St.namesB s p||!St.tellsB s):=by
  obtain⟨k,x,y,n,t,e,args,body,els,a⟩:=s
  by_cases hin:1≤k∧k≤11
  · have:k=1∨k=2∨k=3∨k=4∨k=5∨k=6∨k=7∨k=8∨k=9∨k=10∨k=11:=by omega
    clear hin
    rcases this with rfl|rfl|rfl|rfl|rfl|rfl|rfl|rfl|rfl|rfl|rfl
    all_goals
      simp [qjm,hasP,ql1,qhu,toldP,qmo,qbq,St.onlyB,St.blank,St.namesB,St.tellsB,St.noneB,zz,len0,add0]
      simp only [sum3,sum2,n5]
      first|(cases args<;>simp [Bool.and_assoc,Bool.and_comm,Bool.and_left_comm,Bool.or_comm];done)|skip
  · have h0:hasP k=0:=by unfold hasP;repeat' (first|omega|(rw [if_neg (by omega)])|rfl)
    have h1:qjm ⟨k,x,y,n,t,e,args,body,els,a⟩ p=false:=by unfold qjm;dsimp only;rw [h0];rfl
    have h2:St.onlyB ⟨k,x,y,n,t,e,args,body,els,a⟩=false:=by
      have:(decide (k≥1)&&decide (k≤11))=false:=by
        rw [Bool.and_eq_false_iff,decide_eq_false_iff_not,decide_eq_false_iff_not];omega
      unfold St.onlyB
      dsimp only
      rw [this];rfl
    rw [h1,h2];rfl
theorem qlp (s:St) (h:Int) (b1 b2 b4 b8 b512:Bool) (e1:(bitP h 1==0) = !b1) (e2:(bitP h 2==0) = !b2) (e4:(bitP h 4==0) = !b4) (e8:(bitP h 8==0) = !b8) (e512:(bitP h 512==0) = !b512) (hz:s.sz≤1048576):qaa Tryz.prog 126 [.r (St.at s),.a (.v (.int .i64 h))] (.a (.v (.bool (qhu b1 b2 b4 b8 b512 s)))):=by
  have hse:=s.sz_eq
  have f1:(bitP h 1 != 0)=b1:=by unfold bne;rw [e1,Bool.not_not]
  have f2:(bitP h 2 != 0)=b2:=by unfold bne;rw [e2,Bool.not_not]
  have f4:(bitP h 4 != 0)=b4:=by unfold bne;rw [e4,Bool.not_not]
  have f8:(bitP h 8 != 0)=b8:=by unfold bne;rw [e8,Bool.not_not]
  have f512:(bitP h 512 != 0)=b512:=by unfold bne;rw [e512,Bool.not_not]
  refine qaa.go Tryz.func126 rfl Tryz.ntmps126 rfl rfl rfl (fun C hro=>?_)
  have fx:=trivial
  replace fx:=ai12 e1 (ai12 e2 (ai12 e4 (ai12 e8 (ai12 e512 (ai12 f1 (ai12 f2 (ai12 f4 (ai12 f8 (ai12 f512 trivial)))))))))
  repeat' (first|refine stp [0,1,2,4,5,21,22,27,33,34,51] ?_|(refine stc (r1:=by first|exact qcq s.x (by omega)|exact qcq s.y (by omega)|exact qcq s.name (by omega)) (r2:=?_);refine rnx ?_)|refine WP.cn (fun hc=>?_) (fun hc=>?_)|fail)
  all_goals
    refine qaf ?_
    unfold qhu
    clear e1 e2 e4 e8 e512 f1 f2 f4 f8 f512
    cases hny:qan s.y<;>cases b1<;>cases b2<;>cases b4<;>cases b8<;>cases b512<;>simp_all
theorem hasP_bits (k:Int):((bitP (hasP k) 1==0) = !qbq (hasP k) 1)∧((bitP (hasP k) 2==0) = !qbq (hasP k) 2)∧((bitP (hasP k) 4==0) = !qbq (hasP k) 4)∧((bitP (hasP k) 8==0) = !qbq (hasP k) 8)∧((bitP (hasP k) 16==0) = !qbq (hasP k) 16)∧((bitP (hasP k) 32==0) = !qbq (hasP k) 32)∧((bitP (hasP k) 64==0) = !qbq (hasP k) 64)∧((bitP (hasP k) 128==0) = !qbq (hasP k) 128)∧((bitP (hasP k) 256==0) = !qbq (hasP k) 256)∧((bitP (hasP k) 512==0) = !qbq (hasP k) 512):=by
  have key:∀h∈([33,15,46,591,17,49,3,2,416,160,32,0]:List Int),((bitP h 1==0) = !qbq h 1)∧((bitP h 2==0) = !qbq h 2)∧((bitP h 4==0) = !qbq h 4)∧((bitP h 8==0) = !qbq h 8)∧((bitP h 16==0) = !qbq h 16)∧((bitP h 32==0) = !qbq h 32)∧((bitP h 64==0) = !qbq h 64)∧((bitP h 128==0) = !qbq h 128)∧((bitP h 256==0) = !qbq h 256)∧((bitP h 512==0) = !qbq h 512):=by decide
  refine key _ ?_
  unfold hasP
  repeat' (first|(simp;done)|split)
theorem gt0 {α:Type} (l:List α):decide ((l.length:Int)>0) = !((l.length:Int)==0):=by
  cases l<;>simp;omega
theorem qmk (p most:Int) (l:List St) (h0:0≤most):(l.all fun k=>St.formB p k&&decide ((k.deep:Int)≤most))=(St.formsB p l&&decide ((St.deeps l:Int)≤most)):=by
  induction l with
  | nil=>rw [List.all_nil,St.formsB,St.deeps,decide_eq_true (show ((0:Nat):Int)≤most by omega)];rfl
  | cons x r ih =>
    rw [List.all_cons,ih,St.formsB,St.deeps]
    have:decide (((max x.deep (St.deeps r):Nat):Int)≤most)=(decide ((x.deep:Int)≤most)&&decide ((St.deeps r:Int)≤most)):=by
      rw [Bool.eq_iff_iff,Bool.and_eq_true,decide_eq_true_iff,decide_eq_true_iff,decide_eq_true_iff];omega
    rw [this]
    cases St.formB p x<;>cases St.formsB p r<;>simp
theorem psR (p:Int):∀(m:Nat) (s:St) (most:Int),s.sz≤m→s.sz≤1048576→0≤most→most≤1048576→qaa Tryz.prog 118 [.r (St.at s),.a (.v (.int .i64 p)),.a (.v (.int .i64 most))] (.a (.v (.bool (St.formB p s&&decide ((s.deep:Int)≤most)))))
  | 0,s,_,h,_,_,_=>by have:=s.sz_pos;omega
  | m+1,s,most,h,hz,h0,h1=>by
    have hse:=s.sz_eq
    have hbl:s.body.length≤1048576:=by have:=St.szs_len s.body;omega
    have hel:s.els.length≤1048576:=by have:=St.szs_len s.els;omega
    obtain⟨e1,e2,e4,e8,e16,e32,e64,e128,e256,e512⟩:=hasP_bits s.kind
    have hw:IntKind.i64.wrap (most-1)=if most=0 then -1 else most-1:=by
      by_cases hm:most=0
      · subst hm;rfl
      · rw [if_neg hm];exact qah (by omega) (by omega)
    by_cases hm:most=0
    · have hmb:(most==0)=true:=beq_iff_eq.2 hm
      refine qaa.go Tryz.func118 rfl Tryz.ntmps118 rfl rfl rfl (fun C hro=>?_)
      have fx:=trivial
      replace fx:=ai12 hmb (ai12 @Bool.true_or (ai12 e128 (ai12 e256 trivial)))
      repeat' (first|refine stp [0,1,2,3,4,5,6,7,8,52] ?_|(refine stc (r1:=by first|exact psHas _|exact qlp s _ _ _ _ _ _ e1 e2 e4 e8 e512 hz|exact psTold s _ p _ _ _ e16 e32 e64 hz) (r2:=?_);refine rnx ?_)|refine WP.cn (fun hc=>?_) (fun hc=>?_)|fail)
      exact qaf (by rw [decide_eq_false (show ¬(s.deep:Int)≤most by rw [St.deep_eq];omega),Bool.and_false])
    · have hmb:(most==0)=false:=by simpa using hm
      have hwl:IntKind.i64.wrap (most-1)=most-1:=qah (by omega) (by omega)
      have I0:∀k∈s.body++s.els,qaa Tryz.prog 118 [.r (St.at k),.a (.v (.int .i64 p)),.a (.v (.int .i64 (most-1)))] (.a (.v (.bool (St.formB p k&&decide ((k.deep:Int)≤most-1))))):=fun k hk=>by
        have:k.sz<s.sz:=(List.mem_append.1 hk).elim St.body_lt St.els_lt
        exact psR p m k _ (by omega) (by omega) (by omega) (by omega)
      have I1:∀k∈s.body++s.els,qaa Tryz.prog 128 [.r (St.at k),.a (.ref [.v (.int .i64 p)] 0),.a (.ref [.v (.int .i64 most)] 0)] (.a (.v (.bool (!(St.formB p k&&decide ((k.deep:Int)≤most-1)))))):=fun k hk=>by
        have:=I0 k hk
        refine qaa.go Tryz.func128 rfl Tryz.ntmps128 rfl rfl rfl (fun C hro=>?_)
        have fx:=trivial
        replace fx:=ai12 hwl trivial
        repeat' (first|refine stp [0,1,2,3,4] ?_|(refine stc (r1:=by exact this) (r2:=?_);refine rnx ?_)|fail)
        rfl
      refine qaa.go Tryz.func118 rfl Tryz.ntmps118 rfl rfl rfl (fun C hro=>?_)
      have fx:=trivial
      replace fx:=ai12 hmb (ai12 @Bool.false_or (ai12 e128 (ai12 e256 trivial)))
      repeat' (first|refine stp [0,1,2,3,4,5,6,7,8,52] ?_|(refine stc (r1:=by first|exact psHas _|exact qlp s _ _ _ _ _ _ e1 e2 e4 e8 e512 hz|exact psTold s _ p _ _ _ e16 e32 e64 hz|exact pCfStmt (fun k=>!(St.formB p k&&decide ((k.deep:Int)≤most-1))) s.body 128 [.ref [.v (.int .i64 p)] 0,.ref [.v (.int .i64 most)] 0] rfl hbl fun k hk=>I1 k (List.mem_append.2 (.inl hk))|exact pCfStmt (fun k=>!(St.formB p k&&decide ((k.deep:Int)≤most-1))) s.els 128 [.ref [.v (.int .i64 p)] 0,.ref [.v (.int .i64 most)] 0] rfl hel fun k hk=>I1 k (List.mem_append.2 (.inr hk))) (r2:=?_);refine rnx ?_)|refine WP.cn (fun hc=>?_) (fun hc=>?_)|fail)
      · refine qaf ?_
        have hn:qjm s p=false:=by
          revert hc
          unfold qjm ql1 toldP
          rw [gt0,gt0]
          unfold bne
          generalize (hasP s.kind==0)=g1
          generalize qhu _ _ _ _ _ s=g2
          generalize qmo _ _ _ s p=g3
          generalize qbq (hasP s.kind) 128=g4
          generalize qbq (hasP s.kind) 256=g5
          generalize ((s.body.length:Int)==0)=g6
          generalize ((s.els.length:Int)==0)=g7
          revert g1 g2 g3 g4 g5 g6 g7
          decide
        rw [St.form_eq,←ql0,hn];rfl
      · refine qaf ?_
        have hn:qjm s p=true:=by
          revert hc
          unfold qjm ql1 toldP
          rw [gt0,gt0]
          unfold bne
          generalize (hasP s.kind==0)=g1
          generalize qhu _ _ _ _ _ s=g2
          generalize qmo _ _ _ s p=g3
          generalize qbq (hasP s.kind) 128=g4
          generalize qbq (hasP s.kind) 256=g5
          generalize ((s.body.length:Int)==0)=g6
          generalize ((s.els.length:Int)==0)=g7
          revert g1 g2 g3 g4 g5 g6 g7
          decide
        rw [St.form_eq,←ql0,hn,qb2,qb2,qmk _ _ _ (by omega),qmk _ _ _ (by omega),St.deep_eq]
        have:decide (((max (St.deeps s.body) (St.deeps s.els)+1:Nat):Int)≤most)=(decide ((St.deeps s.body:Int)≤most-1)&&decide ((St.deeps s.els:Int)≤most-1)):=by
          rw [Bool.eq_iff_iff,Bool.and_eq_true,decide_eq_true_iff,decide_eq_true_iff,decide_eq_true_iff];omega
        rw [this]
        cases St.formsB p s.body<;>cases St.formsB p s.els<;>simp
theorem psRight (s:St) (p:Int) (hz:s.sz≤1048576):qaa Tryz.prog 97 [.r (St.at s),.a (.v (.int .i64 p))] (.a (.v (.bool (s.rightB p)))):=by
  refine qaa.go Tryz.func97 rfl Tryz.ntmps97 rfl rfl rfl (fun C hro=>?_)
  have fx:=trivial
  repeat' (first|refine stp [0,1,2,4] ?_|(refine stc (r1:=by exact psR p _ s 20 (Nat.le_refl _) hz (by decide) (by decide)) (r2:=?_);refine rnx ?_)|fail)
  refine qaf ?_
  unfold St.rightB
  congr 1
  rw [Bool.eq_iff_iff,decide_eq_true_iff,decide_eq_true_iff];omega
theorem pzW1 (o:Int×Int):qaa Tryz.prog 95 [.r (owAt o)] (.a (.v (.bool (o.1==7)))):=by
  obtain⟨k,n⟩:=o
  refine qaa.go Tryz.func95 rfl Tryz.ntmps95 rfl rfl rfl (fun C hro=>?_)
  have fx:=trivial
  repeat' (first|refine stp [0,1,2] ?_|fail)
  rfl
theorem pzW (t:Ty) (p:Int) (h:t.cls.length≤1000000000):qaa Tryz.prog 70 [.r (Ty.at t),.a (.v (.int .i64 p))] (.a (.v (.bool (wrB t p)))):=by
  obtain⟨o0,o1,o2,o3⟩:=qgj t
  refine qaa.go Tryz.func70 rfl Tryz.ntmps70 rfl rfl rfl (fun C hro=>?_)
  have fx:=trivial
  refine WP.seq ?_
  refine WP.reg [0,1,2,4,5] (by kernel_rfl) (by kernel_rfl) ?_;refine RS.run2 (by simp only [go_sem,simprocAttr,qab];first|done|rfl) ?_;simp only [qao]
  first|refine RS.finT (by simp only [go_sem,simprocAttr];first|done|rfl) ?_|refine RS.fin (by simp only [go_sem,simprocAttr];first|done|rfl) ?_;(try simp only [qab,qae])
  refine WP.freeze 0 (Ty.at t) [(1,.a (.v (.int .i64 p))),(2,.a (.ref (Ty.at t) 0))] rfl (Ty.cl t) ?_ ?_
  · simp only [qal,go_sem,simprocAttr]
  replace fx:=ai12 o0 (ai12 o1 (ai12 o2 (ai12 o3 trivial)))
  repeat' (first|refine WP.seq ?_|(refine WP.rg [0,1,2,4,5] ?_;simp only [qao])|refine RS.fnT ?_|(refine RS.fn ?_;try simp only [qab,qae])|(refine RS.cl (hp:=by first|exact qlw (fun o=>o.1==7) [t.o1,t.o2,t.o3] 95 [] rfl (by simp) fun k _=>pzW1 k|exact qki t p h) (h:=?_);refine RS.rn ?_;simp only [qao])|(refine RS.cL (hp:=by first|exact qlw (fun o=>o.1==7) [t.o1,t.o2,t.o3] 95 [] rfl (by simp) fun k _=>pzW1 k|exact qki t p h) (h:=?_);refine RS.rn ?_;simp only [qao])|(refine RS.sA (hc:=by exact ochk1 t) (k:=?_);refine RS.rn ?_;simp only [qao])|(refine WP.ret ?_;(try simp only [qa1,qaz]);refine ret3 ?_))
  refine qaf ?_
  unfold wrB bne
  simp only [List.any_cons,List.any_nil,Bool.or_false]
  generalize (t.o1.1==7)=g1
  generalize (t.o2.1==7)=g2
  generalize (t.o3.1==7)=g3
  generalize (t.o0.1==7)=g4
  generalize (t.o0.2==0)=g5
  generalize tyB t p=g6
  revert g1 g2 g3 g4 g5 g6
  decide
theorem pzVs1 (v:Vr) (p:Int) (h1:v.name.length≤1000000000) (h2:v.ty.cls.length≤1000000000):qaa Tryz.prog 69 [.r (Vr.at v),.a (.ref [.v (.int .i64 p)] 0)] (.a (.v (.bool (!vrB p v)))):=by
  refine qaa.go Tryz.func69 rfl Tryz.ntmps69 rfl rfl rfl (fun C hro=>?_)
  have fx:=trivial
  repeat' (first|refine stp [0,1,2,3] ?_|(refine stc (r1:=by first|exact qcq _ h1|exact pzW _ p h2) (r2:=?_);refine rnx ?_)|fail)
  refine qaf ?_
  unfold vrB bne
  cases (v.ty.kind==0)<;>cases qan v.name<;>cases wrB v.ty p<;>rfl
theorem pzVs (l:List Vr) (most:Nat) (p:Int) (hz:qai Vr.sz l≤1048576):qaa Tryz.prog 39 [.a (.sl (l.map Vr.at)),.a (.v (.int .i64 (most:Int))),.a (.v (.int .i64 p))] (.a (.v (.bool (vrsB l most p)))):=by
  obtain⟨hn,hv⟩:=Vr.szM hz
  refine qaa.go Tryz.func39 rfl Tryz.ntmps39 rfl rfl rfl (fun C hro=>?_)
  have fx:=trivial
  repeat' (first|refine stp [0,1,2,5,6] ?_|(refine stc (r1:=by exact pCfVar (fun v=>!vrB p v) l 69 [.ref [.v (.int .i64 p)] 0] rfl hn fun v h=>pzVs1 v p (by have:=(hv v h).1;omega) (by have:=(hv v h).2;omega)) (r2:=?_);refine rnx ?_)|fail)
  refine qaf ?_
  unfold vrsB
  rw [qb2]
  congr 1
  rw [Bool.eq_iff_iff];simp
mutual
def St.bdB (p:Int):St→Bool
  | ⟨k,x,y,n,t,e,args,body,els,a⟩=>!(!St.rightB ⟨k,x,y,n,t,e,args,body,els,a⟩ p||(t.kind==2&&!wrB t p)||!St.bdsB p body||!St.bdsB p els)
def St.bdsB (p:Int):List St→Bool
  | []=>true
  | e::r=>e.bdB p&&St.bdsB p r
end
theorem St.bd_eq (p:Int) (s:St):s.bdB p = !(!St.rightB s p||(s.ty.kind==2&&!wrB s.ty p)||!St.bdsB p s.body||!St.bdsB p s.els):=by cases s;rfl
theorem St.bdsB_all (p:Int) (l:List St):St.bdsB p l=l.all (St.bdB p):=by
  induction l with
  | nil=>rw [bdsB];rfl
  | cons e r ih=>rw [bdsB,ih];rfl
theorem qj0 (p:Int) (l:List St) (h1:St.formsB p l=true) (h2:St.deeps l≤20):(l.all fun s=>St.rightB s p)=true:=by
  induction l with
  | nil=>rfl
  | cons e r ih =>
    rw [St.formsB,Bool.and_eq_true] at h1
    rw [St.deeps] at h2
    rw [List.all_cons,ih h1.2 (by omega)]
    unfold St.rightB
    rw [h1.1,decide_eq_true (by omega)];rfl
theorem qmv (s:St) (p:Int) (h:St.rightB s p=true):(s.body.all fun s=>St.rightB s p)=true∧(s.els.all fun s=>St.rightB s p)=true:=by
  unfold St.rightB at h
  rw [St.form_eq,Bool.and_eq_true,Bool.and_eq_true,Bool.and_eq_true,decide_eq_true_iff,St.deep_eq] at h
  exact⟨qj0 p _ h.1.2.1 (by omega),qj0 p _ h.1.2.2 (by omega)⟩
mutual
theorem St.bd_law (p:Int):∀s:St,s.bdB p=(St.rightB s p&&s.openB p)
  | ⟨k,x,y,n,t,e,args,body,els,a⟩=>by
    have h1:=St.bds_law p body
    have h2:=St.bds_law p els
    rw [St.bd_eq,St.open_eq]
    dsimp only
    rw [h1,h2]
    by_cases hr:St.rightB ⟨k,x,y,n,t,e,args,body,els,a⟩ p=true
    · obtain⟨k1,k2⟩:=qmv _ p hr
      dsimp only at k1 k2
      rw [hr,k1,k2];rfl
    · rw [Bool.not_eq_true] at hr
      rw [hr];rfl
theorem St.bds_law (p:Int):∀l:List St,St.bdsB p l=((l.all fun s=>St.rightB s p)&&St.opensB p l)
  | []=>rfl
  | e::r=>by
    rw [St.bdsB,St.bd_law p e,St.bds_law p r,List.all_cons,St.opensB]
    cases St.rightB e p<;>cases e.openB p<;>simp
end
theorem pzBody (l:List St) (p:Int) (hz:St.szs l≤1048576):qaa Tryz.prog 72 [.a (.sl (l.map St.at)),.a (.v (.int .i64 p))] (.a (.v (.bool (St.bdsB p l)))):=by
  have hll:=St.szs_len l
  have IB:∀k∈l,qaa Tryz.prog 72 [.a (.sl (k.body.map St.at)),.a (.v (.int .i64 p))] (.a (.v (.bool (St.bdsB p k.body)))):=fun k hk=>pzBody k.body p (by have:=St.szs_mem hk;have:=k.sz_eq;omega)
  have IE:∀k∈l,qaa Tryz.prog 72 [.a (.sl (k.els.map St.at)),.a (.v (.int .i64 p))] (.a (.v (.bool (St.bdsB p k.els)))):=fun k hk=>pzBody k.els p (by have:=St.szs_mem hk;have:=k.sz_eq;omega)
  have hse:=St.bdsB_all p l
  refine qaa.go Tryz.func72 rfl Tryz.ntmps72 rfl rfl rfl (fun C hro=>?_)
  have fx:=trivial
  repeat' (first|refine stp [0,1,4,6,7,8,9,10,43] ?_|refine WP.cn (fun hc=>?_) (fun hc=>?_)|fail)
  refine WP.loopX (α:={ k:Nat // k≤(l).length∧((l).take k).all (St.bdB p)=true }) (fun y=>[(1,.a (.v (.int .i64 p))),(7,.a (.sl (l.map St.at))),(8,.a (.v (.int .i64 (l.length:Nat)))),(9,.a (.v (.int .i64 y.1)))]) (fun _=>[]) (fun y=>(l).length-y.1) ⟨0,by omega,rfl⟩ (by simp only [qal,go_sem,simprocAttr];first|done|simp) (by first|done|rfl) ?_
  rintro⟨k,hk,hinv⟩
  dsimp only
  by_cases hlt:k<(l).length
  · have hlt2:decide ((k:Int)<(((l).length:Nat):Int))=true:=decide_eq_true (by omega)
    obtain⟨z,hz⟩:∃z,(l)[k]? = some z:=⟨_,List.getElem?_eq_getElem hlt⟩
    have hzm:z∈(l):=lm4 hz
    have hzt:=qag hz
    have hix:∀q2,ixD (some 23) q2 (.a (.sl ((l).map St.at))) (.a (.v (.int .i64 (k:Int))))=some (.a (.ref (St.at z) 0)):=fun q2=>qar rfl (by rw [List.getElem?_map,hz];rfl) (by simp only [go_sem])
    have hw:k<9223372036854775807:=by omega
    replace fx:=ai12 hlt2 (ai12 hix (ai12 hw trivial))
    repeat' (first|refine stp [0,1,4,6,7,8,9,10,43] ?_|(refine stc (r1:=by first|exact psRight z p (by have:=St.szs_mem hzm;omega)|exact pzW z.ty p (by have:=St.szs_mem hzm;have:=z.sz_eq;omega)|exact IB _ hzm|exact IE _ hzm) (r2:=?_);refine rnx ?_)|refine WP.cn (fun hc=>?_) (fun hc=>?_)|fail)
    · refine qaf ?_
      rw [hse,show l.all (St.bdB p)=false by rw [List.all_eq_false];exact⟨z,hzm,by rw [St.bd_eq,hc];decide⟩]
    · refine⟨⟨k+1,by omega,by rw [hzt,List.all_append,hinv,List.all_cons,List.all_nil,St.bd_eq,hc];rfl⟩,[.cell (St.at z)],by dsimp only;omega,?_,rfl,rfl,rfl⟩
      simp only [qal,go_sem,simprocAttr,and_true,and_self]
  obtain rfl:k=(l).length:=by omega
  rw [List.take_length] at hinv
  have hlt2:decide (((l).length:Int)<((l).length:Int))=false:=decide_eq_false (by omega)
  replace fx:=ai12 hlt2 trivial
  repeat' (first|refine stp [0,1,4,6,7,8,9,10,43] ?_|refine WP.cn (fun hc=>?_) (fun hc=>?_)|fail)
  exact qaf (by rw [hse,hinv])
  termination_by St.szs l
  decreasing_by all_goals (have:=St.szs_mem hk;have:=k.sz_eq;omega)
theorem pzMeth (m:Me) (p:Int) (hz:m.sz≤1048576):qaa Tryz.prog 42 [.r (Me.at m),.a (.v (.int .i64 p))] (.a (.v (.bool (m.rightB p)))):=by
  obtain⟨z1,z2,z3,z4,z5,z6⟩:=Me.szH hz
  refine qaa.go Tryz.func42 rfl Tryz.ntmps42 rfl rfl rfl (fun C hro=>?_)
  have fx:=trivial
  repeat' (first|refine stp [0,1,2,4] ?_|(refine stc (r1:=by first|exact qcq _ (by omega)|exact pzW _ p (by omega)|exact pzVs m.params 5 p z3|exact pzVs m.locals 12 p z4|exact pzBody _ p z5) (r2:=?_);refine rnx ?_)|fail)
  refine qaf ?_
  unfold Me.rightB
  rw [St.bds_law]
  cases qan m.name<;>cases wrB m.ret p<;>cases vrsB m.params 5 p<;>cases vrsB m.locals 12 p<;>cases (m.body.all fun s=>St.rightB s p)<;>cases St.opensB p m.body<;>rfl
def abQ (p:Int) (o:Int×Int):Bool:=(o.1==2||o.1==3||o.1==4)&&owB o p
theorem abQ_eq (p:Int) (o:Int×Int):abQ p o=abB p o:=by
  unfold abQ abB bne
  cases (o.1==2)<;>cases (o.1==3)<;>cases (o.1==4)<;>cases owB o p<;>rfl
def qkx (c:Cs):Bool :=
  !(!qan c.name||decide ((c.params.length:Int)>3)||decide ((c.above.length:Int)>3)||c.params.any fun s=>!qan s)&&(bif c.super==[] then (c.above.length:Int)==0 else (c.above.all (abQ c.params.length)&&qan c.super))
theorem pzHead1 (t:List UInt8) (h:t.length≤1000000000):qaa Tryz.prog 66 [.a (.v (.string (bs t)))] (.a (.v (.bool (!qan t)))):=by
  refine qaa.go Tryz.func66 rfl Tryz.ntmps66 rfl rfl rfl (fun C hro=>?_)
  have fx:=trivial
  repeat' (first|refine stp [0,2] ?_|(refine stc (r1:=by exact qcq t h) (r2:=?_);refine rnx ?_)|fail)
  rfl
theorem pzHead (c:Cs) (hz:c.sz≤1048576):qaa Tryz.prog 38 [.r (Cs.at c)] (.a (.v (.bool (qkx c)))):=by
  obtain⟨z1,z2,z3,z4,z5,z6,z7,z8,z9⟩:=Cs.szH hz
  refine qaa.go Tryz.func38 rfl Tryz.ntmps38 rfl rfl rfl (fun C hro=>?_)
  have fx:=trivial
  repeat' (first|refine stp [0,1,2,3,5,27,30,36,37,38,39,43,44,51] ?_|(refine stc (r1:=by first|exact qcq _ (by omega)|exact pCfStr (fun s=>!qan s) c.params 66 [] rfl z3 fun s h=>pzHead1 s (by have:=z4 s h;omega)) (r2:=?_);refine rnx ?_)|refine WP.cn (fun hc=>?_) (fun hc=>?_)|fail)
  · refine qaf ?_
    unfold qkx;rw [hc];rfl
  · refine qaf ?_
    unfold qkx;simp_all
  rename_i hcA
  have hfin:qkx c=(c.above.all (abQ c.params.length)&&qan c.super):=by unfold qkx;rw [hcA,hc];rfl
  clear hcA hc
  refine WP.loopX (α:={ k:Nat // k≤c.above.length∧(c.above.take k).all (abQ c.params.length)=true }) (fun y=>[(1,.a (.ptr 0 0)),(3,.a (.v (.int .i64 (c.params.length:Nat)))),(36,.a (.sl (c.above.map owAt))),(37,.a (.v (.int .i64 (c.above.length:Nat)))),(38,.a (.v (.int .i64 y.1)))]) (fun _=>[.cell (Cs.at c)]) (fun y=>c.above.length-y.1) ⟨0,by omega,rfl⟩ (by simp only [qal,go_sem,simprocAttr];first|done|simp) (by first|done|rfl) ?_
  rintro⟨k,hk,hinv⟩
  dsimp only
  by_cases hlt:k<c.above.length
  · have hlt2:decide ((k:Int)<((c.above.length:Nat):Int))=true:=decide_eq_true (by omega)
    obtain⟨z,hz⟩:∃z,c.above[k]? = some z:=⟨_,List.getElem?_eq_getElem hlt⟩
    have hzm:z∈c.above:=lm4 hz
    have hzt:=qag hz
    have hix:∀q2,ixD (some 2) q2 (.a (.sl (c.above.map owAt))) (.a (.v (.int .i64 (k:Int))))=some (.a (.ref (owAt z) 0)):=fun q2=>qar rfl (by rw [List.getElem?_map,hz];rfl) (by simp only [go_sem])
    have hw:k<9223372036854775807:=by omega
    replace fx:=ai12 hlt2 (ai12 hix (ai12 hw trivial))
    repeat' (first|refine stp [0,1,2,3,5,27,30,36,37,38,39,43,44,51] ?_|(refine stc (r1:=by exact qgp z _) (r2:=?_);refine rnx ?_)|refine WP.cn (fun hc=>?_) (fun hc=>?_)|fail)
    all_goals first
      | (refine qaf ?_
         rw [hfin,show c.above.all (abQ c.params.length)=false by rw [List.all_eq_false];exact⟨z,hzm,by unfold abQ;simp_all⟩];rfl)
      | (refine⟨⟨k+1,by omega,by rw [hzt,List.all_append,hinv,List.all_cons,List.all_nil];unfold abQ;simp_all⟩,[.cell (owAt z)],by dsimp only;omega,?_,rfl,rfl,rfl⟩
         simp only [qal,go_sem,simprocAttr,and_true,and_self])
  obtain rfl:k=c.above.length:=by omega
  rw [List.take_length] at hinv
  have hlt2:decide ((c.above.length:Int)<(c.above.length:Int))=false:=decide_eq_false (by omega)
  replace fx:=ai12 hlt2 trivial
  repeat' (first|refine stp [0,1,2,3,5,27,30,36,37,38,39,43,44,51] ?_|(refine stc (r1:=by exact qcq _ (by omega)) (r2:=?_);refine rnx ?_)|refine WP.cn (fun hc=>?_) (fun hc=>?_)|fail)
  exact qaf (by rw [hfin,hinv];rfl)
theorem pzClass1 (m:Me) (n:Int) (hz:m.sz≤1048576):qaa Tryz.prog 41 [.r (Me.at m),.a (.ref [.v (.int .i64 n)] 0)] (.a (.v (.bool (!m.rightB n)))):=by
  refine qaa.go Tryz.func41 rfl Tryz.ntmps41 rfl rfl rfl (fun C hro=>?_)
  have fx:=trivial
  repeat' (first|refine stp [0,1,2,3] ?_|(refine stc (r1:=by exact pzMeth m n hz) (r2:=?_);refine rnx ?_)|fail)
  rfl
theorem name_nil:qan []=false:=by decide
theorem class_law (c:Cs):c.rightB=(qkx c&&(vrsB c.fields 12 c.params.length&&(decide ((c.methods.length:Int)≤12)&&c.methods.all (Me.rightB c.params.length)))):=by
  unfold Cs.rightB qkx
  have h1:(fun o=>abQ c.params.length o)=abB c.params.length:=funext fun o=>abQ_eq _ o
  have h1:abQ (c.params.length:Int)=abB c.params.length:=h1
  have h2:(c.params.any fun s=>!qan s) = !c.params.all qan:=by rw [←qb2,Bool.not_not]
  have h3:∀n:Nat,decide ((n:Int)>3) = !decide ((n:Int)≤3):=fun n=>by rw [Bool.eq_iff_iff];simp
  rw [h1,h2,h3,h3]
  cases hs:(c.super==[]) with
  | true =>
    have hn:qan c.super=false:=by rw [beq_iff_eq.1 hs];exact name_nil
    rw [hn]
    cases ha:((c.above.length:Int)==0) with
    | true =>
      have:c.above=[]:=List.length_eq_zero_iff.1 (by have:=beq_iff_eq.1 ha;omega)
      rw [this]
      simp only [List.all_nil,List.length_nil]
      generalize qan c.name=g1
      generalize c.params.all qan=g2
      generalize decide ((c.params.length:Int)≤3)=g3
      generalize vrsB _ _ _=g4
      generalize decide ((c.methods.length:Int)≤12)=g5
      generalize c.methods.all _=g6
      revert g1 g2 g3 g4 g5 g6
      decide
    | false =>
      generalize qan c.name=g1
      generalize c.params.all qan=g2
      generalize decide ((c.params.length:Int)≤3)=g3
      generalize vrsB _ _ _=g4
      generalize decide ((c.methods.length:Int)≤12)=g5
      generalize c.methods.all _=g6
      generalize c.above.all _=g7
      generalize decide ((c.above.length:Int)≤3)=g8
      revert g1 g2 g3 g4 g5 g6 g7 g8
      decide
  | false =>
    generalize ((c.above.length:Int)==0)=g0
    generalize qan c.name=g1
    generalize c.params.all qan=g2
    generalize decide ((c.params.length:Int)≤3)=g3
    generalize vrsB _ _ _=g4
    generalize decide ((c.methods.length:Int)≤12)=g5
    generalize c.methods.all _=g6
    generalize c.above.all _=g7
    generalize decide ((c.above.length:Int)≤3)=g8
    generalize qan c.super=g9
    cases g0<;>cases g1<;>cases g2<;>cases g3<;>cases g4<;>cases g5<;>(revert g6 g7 g8 g9;decide)
theorem pzCls (c:Cs) (hz:c.sz≤1048576):qaa Tryz.prog 21 [.r (Cs.at c)] (.a (.v (.bool c.rightB))):=by
  obtain⟨z1,z2,z3,z4,z5,z6,z7,z8,z9⟩:=Cs.szH hz
  refine qaa.go Tryz.func21 rfl Tryz.ntmps21 rfl rfl rfl (fun C hro=>?_)
  have fx:=trivial
  repeat' (first|refine stp [0,1,2,3] ?_|(refine stc (r1:=by first|exact pzHead c hz|exact pzVs c.fields 12 _ z6|exact pCfMeth (fun m=>!m.rightB c.params.length) c.methods 41 [.ref [.v (.int .i64 (c.params.length:Nat))] 0] rfl z9 fun m h=>pzClass1 m _ (by have:=qa5 (f:=Me.sz) h;omega)) (r2:=?_);refine rnx ?_)|fail)
  refine qaf ?_
  rw [class_law,qb2,Bool.and_assoc,Bool.and_assoc]
end Go.Proofs.YtfbopaaambkfkaaGreatDoor
