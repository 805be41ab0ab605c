/- The rules of the walk once more: the lesser premises are reckoned where a rule is used, with the facts that are named fx there. No program in sight. Conditions: none. -/
import Derived.Test.YtiokbbjejchfbaaGreatDoorMg4
import Derived.Test.YtiokbbjejchfbaaGreatDoorProg
set_option linter.unusedVariables false
set_option linter.unusedSimpArgs false
namespace Go.Proofs.YtiokbbjejchfbaaGreatDoor
open Go.RowKit
section
variable {P : Program} {C : Cx P} {n : Nat} {Q : Exit → (Nat → D) → List Bx → Prop} {N : (Nat → D) → List Bx → Prop} {e e' : Nat → D} {st : List Bx} {ops : Array Oper} {ks : List Nat} {l r : List Oper} {id : Nat} {K : (Nat → D) → List Bx → Prop} {KQ : (Nat → D) → Prop} {dst : Option Nat} {ty : TypeId} {pos : String} {after : Array Edge} {guard : Option (Nat × Bool)} {ds : List D} {d d' : D} {f : FuncId} {xs : List Operand} {tys : Array TypeId} {z : Value} {y : Operand} {caps : List A} {t : Nat} {q : (Nat → D) × List Bx × List Oper} {q2 : (Nat → D) × List Oper}
theorem WP.rg (ks : List Nat) (h : RSr C ⟨l⟩ q fun e' st' => Q .normal (keepE e' ks) st') (hs : seqOk ⟨l⟩ n = true := by kernel_rfl) (hk : ksOk ⟨l⟩ ks = true := by kernel_rfl) (hr : runS P l e st = q := by (simp only [go_sem, simprocAttr, fx]) <;> rfl) : WP C n (.region id ⟨l⟩ false) Q e st := WP.reg ks hs hk (RS.run2 hr h)
theorem RS.rn (h : RSr C ops q K) (hr : runS P l e st = q := by (simp only [go_sem, simprocAttr, fx]) <;> rfl) : RS C ops l e st K := RS.run2 hr h
theorem RQ.rn (h : RQr P ops st q2 KQ) (hr : runQ P st l e = q2 := by (simp only [go_sem, simprocAttr, fx]) <;> rfl) : RQ P ops st l e KQ := RQ.run2 hr h
theorem RS.fnT (h : N e' st) (he : keepE e ks = e' := by (simp only [go_sem, simprocAttr]) <;> rfl) : RS C ops [] e st fun e' st' => thenQ N Q .normal (keepE e' ks) st' := RS.finT he h
theorem RS.fn (h : Q .normal e' st) (he : keepE e ks = e' := by (simp only [go_sem, simprocAttr]) <;> rfl) : RS C ops [] e st fun e' st' => Q .normal (keepE e' ks) st' := RS.fin he h
theorem RS.cl (hx : xs.map (evO e) = ds := by (simp only [go_sem, simprocAttr, fx]) <;> rfl) (hc : ds.all clD = true := by simp only [go_sem, List.all_cons, List.all_nil, Bool.and_true, fx]) (hp : DPure P f ds d) (h : RS C ops r (putE e dst d) st K) : RS C ops (⟨dst, .call ⟨.value (.func f), ⟨xs⟩, tys⟩, ty, pos, after, guard⟩ :: r) e st K := RS.call hx hc hp h
theorem RQ.cl (hx : xs.map (evO e) = ds := by (simp only [go_sem, simprocAttr, fx]) <;> rfl) (hc : ds.all clD = true := by simp only [go_sem, List.all_cons, List.all_nil, Bool.and_true, fx]) (hp : DPure P f ds d) (h : RQ P ops st r (putE e dst d) KQ) : RQ P ops st (⟨dst, .call ⟨.value (.func f), ⟨xs⟩, tys⟩, ty, pos, after, guard⟩ :: r) e KQ := RQ.call hx hc hp h
theorem RS.cL (hx : (xs.map (evO e)).map (lendD st) = ds := by (simp only [go_sem, simprocAttr, fx]) <;> rfl) (hc : (xs.map (evO e)).all (ldOkD st) = true := by simp only [go_sem, simprocAttr, List.all_cons, List.all_nil, Bool.and_true, fx]) (hp : DPure P f ds (.a (.v z))) (h : RS C ops r (putE e dst (.a (.v z))) st K) : RS C ops (⟨dst, .call ⟨.value (.func f), ⟨xs⟩, tys⟩, ty, pos, after, guard⟩ :: r) e st K := RS.callL hx hc hp h
theorem RQ.cL (hx : (xs.map (evO e)).map (lendD st) = ds := by (simp only [go_sem, simprocAttr, fx]) <;> rfl) (hc : (xs.map (evO e)).all (ldOkD st) = true := by simp only [go_sem, simprocAttr, List.all_cons, List.all_nil, Bool.and_true, fx]) (hp : DPure P f ds (.a (.v z))) (h : RQ P ops st r (putE e dst (.a (.v z))) KQ) : RQ P ops st (⟨dst, .call ⟨.value (.func f), ⟨xs⟩, tys⟩, ty, pos, after, guard⟩ :: r) e KQ := RQ.callL hx hc hp h
theorem RS.cV (hy : evO e y = .a (.fn f caps) := by (simp only [go_sem, simprocAttr, fx]) <;> rfl) (hx : (xs.map (evO e) ++ caps.map D.a).map (lendD st) = ds := by (simp only [go_sem, simprocAttr, fx]) <;> rfl) (hc : (xs.map (evO e) ++ caps.map D.a).all (ldOkD st) = true := by simp only [go_sem, simprocAttr, List.all_cons, List.all_nil, Bool.and_true, fx]) (hp : DPure P f ds (.a (.v z))) (h : RS C ops r (putE e dst (.a (.v z))) st K) : RS C ops (⟨dst, .call ⟨.value y, ⟨xs⟩, tys⟩, ty, pos, after, guard⟩ :: r) e st K := RS.callvL hy hx hc hp h
theorem RQ.cV (hy : evO e y = .a (.fn f caps) := by (simp only [go_sem, simprocAttr, fx]) <;> rfl) (hx : (xs.map (evO e) ++ caps.map D.a).map (lendD st) = ds := by (simp only [go_sem, simprocAttr, fx]) <;> rfl) (hc : (xs.map (evO e) ++ caps.map D.a).all (ldOkD st) = true := by simp only [go_sem, simprocAttr, List.all_cons, List.all_nil, Bool.and_true, fx]) (hp : DPure P f ds (.a (.v z))) (h : RQ P ops st r (putE e dst (.a (.v z))) KQ) : RQ P ops st (⟨dst, .call ⟨.value y, ⟨xs⟩, tys⟩, ty, pos, after, guard⟩ :: r) e KQ := RQ.callvL hy hx hc hp h
theorem WP.cn {c : Operand} {p q : Code} {b : Bool} (ht : b = true → WP C n p Q e st) (hf : b = false → WP C n q Q e st) (hl : opLt n c = true := by rfl) (hc : evO e c = .a (.v (.bool b)) := by (simp only [go_sem, simprocAttr, fx]) <;> rfl) : WP C n (.cond c p q) Q e st := WP.cond hl hc ht hf
theorem ret3 (h : d' = d) (ht : decide (t < n) = true := by rfl) (he : seeD1 st (e t) = d' := by (simp only [go_sem, simprocAttr, fx]) <;> rfl) (hc : clD1 d' = true := by simp only [go_sem, fx]) : retN P n [.tmp t] d .ret e st := ret1 ht he hc h
theorem retC3 {T : TypeId} {i off : Nat} {row : List A} {k : Option Nat} {d0 : D} (h : d' = d) (ht : decide (t < n) = true := by rfl) (he : e t = .a (.ptr i off) := by (simp only [go_sem, simprocAttr, fx]) <;> rfl) (hs : st[i]? = some (.cell row) := by (simp only [go_sem, simprocAttr, fx]) <;> rfl) (hk : ldk P T = some k := by (simp only [go_sem]) <;> rfl) (hd : ldRow k row off = some d0 := by (simp only [go_sem, simprocAttr, fx]) <;> rfl) (hse : seeD1 st d0 = d' := by (simp only [go_sem, simprocAttr, fx]) <;> rfl) (hc : clD1 d' = true := by simp only [go_sem, fx]) : retN P n [.cell t T] d .ret e st := retC ht he hs hk hd hse hc h
theorem RS.sA {T : TypeId} {x : Operand} {lo hi mx : Option Operand} {row : List A} {off len sz l h m : Nat} {rows : List (List A)} (hx : evO e x = .a (.ref row off) := by (simp only [go_sem, simprocAttr, fx]) <;> rfl) (ha : ar P T = some (len, sz) := by (simp only [go_sem]) <;> rfl) (hs : (!mx.isSome || hi.isSome) = true := by rfl) (h0 : bndD e mx len = some m := by (simp only [go_sem, simprocAttr, bndD, fx]) <;> rfl) (h1 : bndD e hi m = some h := by (simp only [go_sem, simprocAttr, bndD, fx]) <;> rfl) (h2 : lowD e lo h = some l := by (simp only [go_sem, simprocAttr, bndD, lowD, fx]) <;> rfl) (hr : off + h * sz ≤ row.length := by simp only [go_sem, simprocAttr, fx]; first | done | decide | omega) (hc : chunk row off sz l h = rows) (k : RS C ops r (putE e dst (.a (.sl rows))) st K) : RS C ops (⟨dst, .slice T x lo hi mx, ty, pos, after, guard⟩ :: r) e st K := RS.sliceA hx ha hs h0 h1 h2 hr hc k
theorem WP.dw (m : Nat) (ks : List Nat) (h : RQr P ⟨l⟩ st q2 fun e' => RS C ⟨l⟩ (l.drop m) e' st fun e'' st'' => Q .normal (keepE e'' ks) st'') (hd : drawOk ⟨l⟩ n m = true := by kernel_rfl) (hms : decide (m ≤ l.length) = true := by rfl) (hk : ksOk ⟨l⟩ ks = true := by kernel_rfl) (hmix : P.follows .mixedOrders = true := by exact tb_mix) (hr : runQ P st (l.take m) e = q2 := by (simp only [go_sem, simprocAttr, List.take_succ_cons, List.take_zero, fx]) <;> rfl) : WP C n (.region id ⟨l⟩ true) Q e st := WP.drw m ks hd hms hk hmix (RQ.run2 hr h)
end
end Go.Proofs.YtiokbbjejchfbaaGreatDoor
namespace Go.Proofs.YtiokbbjejchfbaaGreatDoor
open Go.RowKit
theorem tb_mix : Go.Proofs.Tryz.prog.follows .mixedOrders = true := by kernel_rfl
@[go_sem] theorem tb_l1 : ldk Go.Proofs.Tryz.prog 1 = some none := by kernel_rfl
@[go_sem] theorem tb_s1 : szo Go.Proofs.Tryz.prog 1 = some 1 := by kernel_rfl
@[go_sem] theorem tb_l2 : ldk Go.Proofs.Tryz.prog 2 = some none := by kernel_rfl
@[go_sem] theorem tb_s2 : szo Go.Proofs.Tryz.prog 2 = some 1 := by kernel_rfl
@[go_sem] theorem tb_b2 : isBool Go.Proofs.Tryz.prog 2 = false := by kernel_rfl
@[go_sem] theorem tb_t2 : isStr Go.Proofs.Tryz.prog 2 = false := by kernel_rfl
@[go_sem] theorem tb_i2 : isSl Go.Proofs.Tryz.prog 2 = false := by kernel_rfl
@[go_sem] theorem tb_z2 : zrow Go.Proofs.Tryz.prog 2 = some [.v (.int .i64 0)] := by kernel_rfl
@[go_sem] theorem tb_l3 : ldk Go.Proofs.Tryz.prog 3 = some none := by kernel_rfl
@[go_sem] theorem tb_s3 : szo Go.Proofs.Tryz.prog 3 = some 1 := by kernel_rfl
@[go_sem] theorem tb_b3 : isBool Go.Proofs.Tryz.prog 3 = false := by kernel_rfl
@[go_sem] theorem tb_t3 : isStr Go.Proofs.Tryz.prog 3 = false := by kernel_rfl
@[go_sem] theorem tb_i3 : isSl Go.Proofs.Tryz.prog 3 = false := by kernel_rfl
@[go_sem] theorem tb_z3 : zrow Go.Proofs.Tryz.prog 3 = some [.v (.int .i64 0)] := by kernel_rfl
@[go_sem] theorem tb_l4 : ldk Go.Proofs.Tryz.prog 4 = some none := by kernel_rfl
@[go_sem] theorem tb_s4 : szo Go.Proofs.Tryz.prog 4 = some 1 := by kernel_rfl
@[go_sem] theorem tb_b4 : isBool Go.Proofs.Tryz.prog 4 = true := by kernel_rfl
@[go_sem] theorem tb_t4 : isStr Go.Proofs.Tryz.prog 4 = false := by kernel_rfl
@[go_sem] theorem tb_i4 : isSl Go.Proofs.Tryz.prog 4 = false := by kernel_rfl
@[go_sem] theorem tb_z4 : zrow Go.Proofs.Tryz.prog 4 = some [.v (.bool false)] := by kernel_rfl
@[go_sem] theorem tb_l5 : ldk Go.Proofs.Tryz.prog 5 = some none := by kernel_rfl
@[go_sem] theorem tb_s5 : szo Go.Proofs.Tryz.prog 5 = some 1 := by kernel_rfl
@[go_sem] theorem tb_b5 : isBool Go.Proofs.Tryz.prog 5 = false := by kernel_rfl
@[go_sem] theorem tb_t5 : isStr Go.Proofs.Tryz.prog 5 = false := by kernel_rfl
@[go_sem] theorem tb_i5 : isSl Go.Proofs.Tryz.prog 5 = false := by kernel_rfl
@[go_sem] theorem tb_z5 : zrow Go.Proofs.Tryz.prog 5 = some [.v (.int .u8 0)] := by kernel_rfl
@[go_sem] theorem tb_l6 : ldk Go.Proofs.Tryz.prog 6 = some none := by kernel_rfl
@[go_sem] theorem tb_s6 : szo Go.Proofs.Tryz.prog 6 = some 1 := by kernel_rfl
@[go_sem] theorem tb_b6 : isBool Go.Proofs.Tryz.prog 6 = false := by kernel_rfl
@[go_sem] theorem tb_t6 : isStr Go.Proofs.Tryz.prog 6 = false := by kernel_rfl
@[go_sem] theorem tb_i6 : isSl Go.Proofs.Tryz.prog 6 = false := by kernel_rfl
@[go_sem] theorem tb_z6 : zrow Go.Proofs.Tryz.prog 6 = some [.v (.int .u8 0)] := by kernel_rfl
@[go_sem] theorem tb_l7 : ldk Go.Proofs.Tryz.prog 7 = some (some 4) := by kernel_rfl
@[go_sem] theorem tb_s7 : szo Go.Proofs.Tryz.prog 7 = some 4 := by kernel_rfl
@[go_sem] theorem tb_b7 : isBool Go.Proofs.Tryz.prog 7 = false := by kernel_rfl
@[go_sem] theorem tb_t7 : isStr Go.Proofs.Tryz.prog 7 = false := by kernel_rfl
@[go_sem] theorem tb_i7 : isSl Go.Proofs.Tryz.prog 7 = false := by kernel_rfl
@[go_sem] theorem tb_k7 : bOk Go.Proofs.Tryz.prog 7 = true := by kernel_rfl
@[go_sem] theorem tb_g7_0 : fo2 Go.Proofs.Tryz.prog 7 0 = some (0, none) := by kernel_rfl
@[go_sem] theorem tb_p7_0 : plc Go.Proofs.Tryz.prog 7 0 = some (0, 1) := by kernel_rfl
@[go_sem] theorem tb_g7_1 : fo2 Go.Proofs.Tryz.prog 7 1 = some (1, none) := by kernel_rfl
@[go_sem] theorem tb_p7_1 : plc Go.Proofs.Tryz.prog 7 1 = some (1, 1) := by kernel_rfl
@[go_sem] theorem tb_g7_2 : fo2 Go.Proofs.Tryz.prog 7 2 = some (2, none) := by kernel_rfl
@[go_sem] theorem tb_p7_2 : plc Go.Proofs.Tryz.prog 7 2 = some (2, 1) := by kernel_rfl
@[go_sem] theorem tb_g7_3 : fo2 Go.Proofs.Tryz.prog 7 3 = some (3, none) := by kernel_rfl
@[go_sem] theorem tb_p7_3 : plc Go.Proofs.Tryz.prog 7 3 = some (3, 1) := by kernel_rfl
@[go_sem] theorem tb_f7_0 : fo Go.Proofs.Tryz.prog 7 0 = some 0 := by kernel_rfl
@[go_sem] theorem tb_f7_1 : fo Go.Proofs.Tryz.prog 7 1 = some 1 := by kernel_rfl
@[go_sem] theorem tb_f7_2 : fo Go.Proofs.Tryz.prog 7 2 = some 2 := by kernel_rfl
@[go_sem] theorem tb_f7_3 : fo Go.Proofs.Tryz.prog 7 3 = some 3 := by kernel_rfl
@[go_sem] theorem tb_z7 : zrow Go.Proofs.Tryz.prog 7 = some [.v (.int .i64 0), .v (.int .i64 0), .v (.bool false), .v (.int .u8 0)] := by kernel_rfl
@[go_sem] theorem tb_l8 : ldk Go.Proofs.Tryz.prog 8 = some (some 4) := by kernel_rfl
@[go_sem] theorem tb_s8 : szo Go.Proofs.Tryz.prog 8 = some 4 := by kernel_rfl
@[go_sem] theorem tb_b8 : isBool Go.Proofs.Tryz.prog 8 = false := by kernel_rfl
@[go_sem] theorem tb_t8 : isStr Go.Proofs.Tryz.prog 8 = false := by kernel_rfl
@[go_sem] theorem tb_i8 : isSl Go.Proofs.Tryz.prog 8 = false := by kernel_rfl
@[go_sem] theorem tb_k8 : bOk Go.Proofs.Tryz.prog 8 = true := by kernel_rfl
@[go_sem] theorem tb_g8_0 : fo2 Go.Proofs.Tryz.prog 8 0 = some (0, none) := by kernel_rfl
@[go_sem] theorem tb_p8_0 : plc Go.Proofs.Tryz.prog 8 0 = some (0, 1) := by kernel_rfl
@[go_sem] theorem tb_g8_1 : fo2 Go.Proofs.Tryz.prog 8 1 = some (1, none) := by kernel_rfl
@[go_sem] theorem tb_p8_1 : plc Go.Proofs.Tryz.prog 8 1 = some (1, 1) := by kernel_rfl
@[go_sem] theorem tb_g8_2 : fo2 Go.Proofs.Tryz.prog 8 2 = some (2, none) := by kernel_rfl
@[go_sem] theorem tb_p8_2 : plc Go.Proofs.Tryz.prog 8 2 = some (2, 1) := by kernel_rfl
@[go_sem] theorem tb_g8_3 : fo2 Go.Proofs.Tryz.prog 8 3 = some (3, none) := by kernel_rfl
@[go_sem] theorem tb_p8_3 : plc Go.Proofs.Tryz.prog 8 3 = some (3, 1) := by kernel_rfl
@[go_sem] theorem tb_f8_0 : fo Go.Proofs.Tryz.prog 8 0 = some 0 := by kernel_rfl
@[go_sem] theorem tb_f8_1 : fo Go.Proofs.Tryz.prog 8 1 = some 1 := by kernel_rfl
@[go_sem] theorem tb_f8_2 : fo Go.Proofs.Tryz.prog 8 2 = some 2 := by kernel_rfl
@[go_sem] theorem tb_f8_3 : fo Go.Proofs.Tryz.prog 8 3 = some 3 := by kernel_rfl
@[go_sem] theorem tb_z8 : zrow Go.Proofs.Tryz.prog 8 = some [.v (.int .i64 0), .v (.int .i64 0), .v (.bool false), .v (.int .u8 0)] := by kernel_rfl
@[go_sem] theorem tb_l9 : ldk Go.Proofs.Tryz.prog 9 = some none := by kernel_rfl
@[go_sem] theorem tb_s9 : szo Go.Proofs.Tryz.prog 9 = some 1 := by kernel_rfl
@[go_sem] theorem tb_b9 : isBool Go.Proofs.Tryz.prog 9 = false := by kernel_rfl
@[go_sem] theorem tb_t9 : isStr Go.Proofs.Tryz.prog 9 = true := by kernel_rfl
@[go_sem] theorem tb_i9 : isSl Go.Proofs.Tryz.prog 9 = false := by kernel_rfl
@[go_sem] theorem tb_z9 : zrow Go.Proofs.Tryz.prog 9 = some [.v (.string ⟨#[]⟩)] := by kernel_rfl
@[go_sem] theorem tb_l10 : ldk Go.Proofs.Tryz.prog 10 = some none := by kernel_rfl
@[go_sem] theorem tb_s10 : szo Go.Proofs.Tryz.prog 10 = some 1 := by kernel_rfl
@[go_sem] theorem tb_b10 : isBool Go.Proofs.Tryz.prog 10 = false := by kernel_rfl
@[go_sem] theorem tb_t10 : isStr Go.Proofs.Tryz.prog 10 = true := by kernel_rfl
@[go_sem] theorem tb_i10 : isSl Go.Proofs.Tryz.prog 10 = false := by kernel_rfl
@[go_sem] theorem tb_z10 : zrow Go.Proofs.Tryz.prog 10 = some [.v (.string ⟨#[]⟩)] := by kernel_rfl
@[go_sem] theorem tb_l11 : ldk Go.Proofs.Tryz.prog 11 = some none := by kernel_rfl
@[go_sem] theorem tb_s11 : szo Go.Proofs.Tryz.prog 11 = some 1 := by kernel_rfl
@[go_sem] theorem tb_b11 : isBool Go.Proofs.Tryz.prog 11 = false := by kernel_rfl
@[go_sem] theorem tb_t11 : isStr Go.Proofs.Tryz.prog 11 = true := by kernel_rfl
@[go_sem] theorem tb_i11 : isSl Go.Proofs.Tryz.prog 11 = false := by kernel_rfl
@[go_sem] theorem tb_z11 : zrow Go.Proofs.Tryz.prog 11 = some [.v (.string ⟨#[]⟩)] := by kernel_rfl
@[go_sem] theorem tb_l12 : ldk Go.Proofs.Tryz.prog 12 = some none := by kernel_rfl
@[go_sem] theorem tb_s12 : szo Go.Proofs.Tryz.prog 12 = some 1 := by kernel_rfl
@[go_sem] theorem tb_b12 : isBool Go.Proofs.Tryz.prog 12 = false := by kernel_rfl
@[go_sem] theorem tb_t12 : isStr Go.Proofs.Tryz.prog 12 = false := by kernel_rfl
@[go_sem] theorem tb_i12 : isSl Go.Proofs.Tryz.prog 12 = false := by kernel_rfl
@[go_sem] theorem tb_z12 : zrow Go.Proofs.Tryz.prog 12 = some [.v (.int .u64 0)] := by kernel_rfl
@[go_sem] theorem tb_l13 : ldk Go.Proofs.Tryz.prog 13 = some (some 2) := by kernel_rfl
@[go_sem] theorem tb_s13 : szo Go.Proofs.Tryz.prog 13 = some 2 := by kernel_rfl
@[go_sem] theorem tb_b13 : isBool Go.Proofs.Tryz.prog 13 = false := by kernel_rfl
@[go_sem] theorem tb_t13 : isStr Go.Proofs.Tryz.prog 13 = false := by kernel_rfl
@[go_sem] theorem tb_i13 : isSl Go.Proofs.Tryz.prog 13 = false := by kernel_rfl
@[go_sem] theorem tb_k13 : bOk Go.Proofs.Tryz.prog 13 = true := by kernel_rfl
@[go_sem] theorem tb_g13_0 : fo2 Go.Proofs.Tryz.prog 13 0 = some (0, none) := by kernel_rfl
@[go_sem] theorem tb_p13_0 : plc Go.Proofs.Tryz.prog 13 0 = some (0, 1) := by kernel_rfl
@[go_sem] theorem tb_g13_1 : fo2 Go.Proofs.Tryz.prog 13 1 = some (1, none) := by kernel_rfl
@[go_sem] theorem tb_p13_1 : plc Go.Proofs.Tryz.prog 13 1 = some (1, 1) := by kernel_rfl
@[go_sem] theorem tb_f13_0 : fo Go.Proofs.Tryz.prog 13 0 = some 0 := by kernel_rfl
@[go_sem] theorem tb_f13_1 : fo Go.Proofs.Tryz.prog 13 1 = some 1 := by kernel_rfl
@[go_sem] theorem tb_z13 : zrow Go.Proofs.Tryz.prog 13 = some [.v (.string ⟨#[]⟩), .v (.int .u64 0)] := by kernel_rfl
@[go_sem] theorem tb_l14 : ldk Go.Proofs.Tryz.prog 14 = some (some 2) := by kernel_rfl
@[go_sem] theorem tb_s14 : szo Go.Proofs.Tryz.prog 14 = some 2 := by kernel_rfl
@[go_sem] theorem tb_b14 : isBool Go.Proofs.Tryz.prog 14 = false := by kernel_rfl
@[go_sem] theorem tb_t14 : isStr Go.Proofs.Tryz.prog 14 = false := by kernel_rfl
@[go_sem] theorem tb_i14 : isSl Go.Proofs.Tryz.prog 14 = false := by kernel_rfl
@[go_sem] theorem tb_k14 : bOk Go.Proofs.Tryz.prog 14 = true := by kernel_rfl
@[go_sem] theorem tb_g14_0 : fo2 Go.Proofs.Tryz.prog 14 0 = some (0, none) := by kernel_rfl
@[go_sem] theorem tb_p14_0 : plc Go.Proofs.Tryz.prog 14 0 = some (0, 1) := by kernel_rfl
@[go_sem] theorem tb_g14_1 : fo2 Go.Proofs.Tryz.prog 14 1 = some (1, none) := by kernel_rfl
@[go_sem] theorem tb_p14_1 : plc Go.Proofs.Tryz.prog 14 1 = some (1, 1) := by kernel_rfl
@[go_sem] theorem tb_f14_0 : fo Go.Proofs.Tryz.prog 14 0 = some 0 := by kernel_rfl
@[go_sem] theorem tb_f14_1 : fo Go.Proofs.Tryz.prog 14 1 = some 1 := by kernel_rfl
@[go_sem] theorem tb_z14 : zrow Go.Proofs.Tryz.prog 14 = some [.v (.string ⟨#[]⟩), .v (.int .u64 0)] := by kernel_rfl
@[go_sem] theorem tb_l15 : ldk Go.Proofs.Tryz.prog 15 = some none := by kernel_rfl
@[go_sem] theorem tb_s15 : szo Go.Proofs.Tryz.prog 15 = some 1 := by kernel_rfl
@[go_sem] theorem tb_l16 : ldk Go.Proofs.Tryz.prog 16 = some none := by kernel_rfl
@[go_sem] theorem tb_s16 : szo Go.Proofs.Tryz.prog 16 = some 1 := by kernel_rfl
@[go_sem] theorem tb_l17 : ldk Go.Proofs.Tryz.prog 17 = some none := by kernel_rfl
@[go_sem] theorem tb_s17 : szo Go.Proofs.Tryz.prog 17 = some 1 := by kernel_rfl
@[go_sem] theorem tb_l18 : ldk Go.Proofs.Tryz.prog 18 = some (some 1) := by kernel_rfl
@[go_sem] theorem tb_s18 : szo Go.Proofs.Tryz.prog 18 = some 1 := by kernel_rfl
@[go_sem] theorem tb_b18 : isBool Go.Proofs.Tryz.prog 18 = false := by kernel_rfl
@[go_sem] theorem tb_t18 : isStr Go.Proofs.Tryz.prog 18 = false := by kernel_rfl
@[go_sem] theorem tb_i18 : isSl Go.Proofs.Tryz.prog 18 = false := by kernel_rfl
@[go_sem] theorem tb_k18 : bOk Go.Proofs.Tryz.prog 18 = true := by kernel_rfl
@[go_sem] theorem tb_g18_0 : fo2 Go.Proofs.Tryz.prog 18 0 = some (0, none) := by kernel_rfl
@[go_sem] theorem tb_p18_0 : plc Go.Proofs.Tryz.prog 18 0 = some (0, 1) := by kernel_rfl
@[go_sem] theorem tb_f18_0 : fo Go.Proofs.Tryz.prog 18 0 = some 0 := by kernel_rfl
@[go_sem] theorem tb_l19 : ldk Go.Proofs.Tryz.prog 19 = some (some 1) := by kernel_rfl
@[go_sem] theorem tb_s19 : szo Go.Proofs.Tryz.prog 19 = some 1 := by kernel_rfl
@[go_sem] theorem tb_b19 : isBool Go.Proofs.Tryz.prog 19 = false := by kernel_rfl
@[go_sem] theorem tb_t19 : isStr Go.Proofs.Tryz.prog 19 = false := by kernel_rfl
@[go_sem] theorem tb_i19 : isSl Go.Proofs.Tryz.prog 19 = false := by kernel_rfl
@[go_sem] theorem tb_k19 : bOk Go.Proofs.Tryz.prog 19 = true := by kernel_rfl
@[go_sem] theorem tb_g19_0 : fo2 Go.Proofs.Tryz.prog 19 0 = some (0, none) := by kernel_rfl
@[go_sem] theorem tb_p19_0 : plc Go.Proofs.Tryz.prog 19 0 = some (0, 1) := by kernel_rfl
@[go_sem] theorem tb_f19_0 : fo Go.Proofs.Tryz.prog 19 0 = some 0 := by kernel_rfl
@[go_sem] theorem tb_l21 : ldk Go.Proofs.Tryz.prog 21 = some none := by kernel_rfl
@[go_sem] theorem tb_s21 : szo Go.Proofs.Tryz.prog 21 = some 1 := by kernel_rfl
@[go_sem] theorem tb_b21 : isBool Go.Proofs.Tryz.prog 21 = false := by kernel_rfl
@[go_sem] theorem tb_t21 : isStr Go.Proofs.Tryz.prog 21 = false := by kernel_rfl
@[go_sem] theorem tb_i21 : isSl Go.Proofs.Tryz.prog 21 = false := by kernel_rfl
@[go_sem] theorem tb_z21 : zrow Go.Proofs.Tryz.prog 21 = some [.v (.int .i32 0)] := by kernel_rfl
@[go_sem] theorem tb_l22 : ldk Go.Proofs.Tryz.prog 22 = some none := by kernel_rfl
@[go_sem] theorem tb_s22 : szo Go.Proofs.Tryz.prog 22 = some 1 := by kernel_rfl
@[go_sem] theorem tb_b22 : isBool Go.Proofs.Tryz.prog 22 = false := by kernel_rfl
@[go_sem] theorem tb_t22 : isStr Go.Proofs.Tryz.prog 22 = false := by kernel_rfl
@[go_sem] theorem tb_i22 : isSl Go.Proofs.Tryz.prog 22 = true := by kernel_rfl
@[go_sem] theorem tb_e22 : es Go.Proofs.Tryz.prog 22 = some 7 := by kernel_rfl
@[go_sem] theorem tb_y22 : byt Go.Proofs.Tryz.prog 22 = some 136 := by kernel_rfl
@[go_sem] theorem tb_w22 : zrT Go.Proofs.Tryz.prog 22 = some (Cs.at Cs.zero) := by kernel_rfl
@[go_sem] theorem tb_z22 : zrow Go.Proofs.Tryz.prog 22 = some [.sl []] := by kernel_rfl
@[go_sem] theorem tb_l23 : ldk Go.Proofs.Tryz.prog 23 = some none := by kernel_rfl
@[go_sem] theorem tb_s23 : szo Go.Proofs.Tryz.prog 23 = some 1 := by kernel_rfl
@[go_sem] theorem tb_l24 : ldk Go.Proofs.Tryz.prog 24 = some none := by kernel_rfl
@[go_sem] theorem tb_s24 : szo Go.Proofs.Tryz.prog 24 = some 1 := by kernel_rfl
@[go_sem] theorem tb_l25 : ldk Go.Proofs.Tryz.prog 25 = some (some 7) := by kernel_rfl
@[go_sem] theorem tb_s25 : szo Go.Proofs.Tryz.prog 25 = some 7 := by kernel_rfl
@[go_sem] theorem tb_b25 : isBool Go.Proofs.Tryz.prog 25 = false := by kernel_rfl
@[go_sem] theorem tb_t25 : isStr Go.Proofs.Tryz.prog 25 = false := by kernel_rfl
@[go_sem] theorem tb_i25 : isSl Go.Proofs.Tryz.prog 25 = false := by kernel_rfl
@[go_sem] theorem tb_k25 : bOk Go.Proofs.Tryz.prog 25 = true := by kernel_rfl
@[go_sem] theorem tb_g25_0 : fo2 Go.Proofs.Tryz.prog 25 0 = some (0, none) := by kernel_rfl
@[go_sem] theorem tb_p25_0 : plc Go.Proofs.Tryz.prog 25 0 = some (0, 1) := by kernel_rfl
@[go_sem] theorem tb_g25_1 : fo2 Go.Proofs.Tryz.prog 25 1 = some (1, none) := by kernel_rfl
@[go_sem] theorem tb_p25_1 : plc Go.Proofs.Tryz.prog 25 1 = some (1, 1) := by kernel_rfl
@[go_sem] theorem tb_g25_2 : fo2 Go.Proofs.Tryz.prog 25 2 = some (2, none) := by kernel_rfl
@[go_sem] theorem tb_p25_2 : plc Go.Proofs.Tryz.prog 25 2 = some (2, 1) := by kernel_rfl
@[go_sem] theorem tb_g25_3 : fo2 Go.Proofs.Tryz.prog 25 3 = some (3, none) := by kernel_rfl
@[go_sem] theorem tb_p25_3 : plc Go.Proofs.Tryz.prog 25 3 = some (3, 1) := by kernel_rfl
@[go_sem] theorem tb_g25_4 : fo2 Go.Proofs.Tryz.prog 25 4 = some (4, none) := by kernel_rfl
@[go_sem] theorem tb_p25_4 : plc Go.Proofs.Tryz.prog 25 4 = some (4, 1) := by kernel_rfl
@[go_sem] theorem tb_g25_5 : fo2 Go.Proofs.Tryz.prog 25 5 = some (5, none) := by kernel_rfl
@[go_sem] theorem tb_p25_5 : plc Go.Proofs.Tryz.prog 25 5 = some (5, 1) := by kernel_rfl
@[go_sem] theorem tb_g25_6 : fo2 Go.Proofs.Tryz.prog 25 6 = some (6, none) := by kernel_rfl
@[go_sem] theorem tb_p25_6 : plc Go.Proofs.Tryz.prog 25 6 = some (6, 1) := by kernel_rfl
@[go_sem] theorem tb_f25_0 : fo Go.Proofs.Tryz.prog 25 0 = some 0 := by kernel_rfl
@[go_sem] theorem tb_f25_1 : fo Go.Proofs.Tryz.prog 25 1 = some 1 := by kernel_rfl
@[go_sem] theorem tb_f25_2 : fo Go.Proofs.Tryz.prog 25 2 = some 2 := by kernel_rfl
@[go_sem] theorem tb_f25_3 : fo Go.Proofs.Tryz.prog 25 3 = some 3 := by kernel_rfl
@[go_sem] theorem tb_f25_4 : fo Go.Proofs.Tryz.prog 25 4 = some 4 := by kernel_rfl
@[go_sem] theorem tb_f25_5 : fo Go.Proofs.Tryz.prog 25 5 = some 5 := by kernel_rfl
@[go_sem] theorem tb_f25_6 : fo Go.Proofs.Tryz.prog 25 6 = some 6 := by kernel_rfl
@[go_sem] theorem tb_z25 : zrow Go.Proofs.Tryz.prog 25 = some [.v (.int .i64 0), .v (.int .i64 0), .v (.int .i64 0), .v (.int .i64 0), .v (.int .i64 0), .v (.int .i64 0), .v (.int .i64 0)] := by kernel_rfl
@[go_sem] theorem tb_l26 : ldk Go.Proofs.Tryz.prog 26 = some (some 7) := by kernel_rfl
@[go_sem] theorem tb_s26 : szo Go.Proofs.Tryz.prog 26 = some 7 := by kernel_rfl
@[go_sem] theorem tb_b26 : isBool Go.Proofs.Tryz.prog 26 = false := by kernel_rfl
@[go_sem] theorem tb_t26 : isStr Go.Proofs.Tryz.prog 26 = false := by kernel_rfl
@[go_sem] theorem tb_i26 : isSl Go.Proofs.Tryz.prog 26 = false := by kernel_rfl
@[go_sem] theorem tb_k26 : bOk Go.Proofs.Tryz.prog 26 = true := by kernel_rfl
@[go_sem] theorem tb_g26_0 : fo2 Go.Proofs.Tryz.prog 26 0 = some (0, none) := by kernel_rfl
@[go_sem] theorem tb_p26_0 : plc Go.Proofs.Tryz.prog 26 0 = some (0, 1) := by kernel_rfl
@[go_sem] theorem tb_g26_1 : fo2 Go.Proofs.Tryz.prog 26 1 = some (1, none) := by kernel_rfl
@[go_sem] theorem tb_p26_1 : plc Go.Proofs.Tryz.prog 26 1 = some (1, 1) := by kernel_rfl
@[go_sem] theorem tb_g26_2 : fo2 Go.Proofs.Tryz.prog 26 2 = some (2, none) := by kernel_rfl
@[go_sem] theorem tb_p26_2 : plc Go.Proofs.Tryz.prog 26 2 = some (2, 1) := by kernel_rfl
@[go_sem] theorem tb_g26_3 : fo2 Go.Proofs.Tryz.prog 26 3 = some (3, none) := by kernel_rfl
@[go_sem] theorem tb_p26_3 : plc Go.Proofs.Tryz.prog 26 3 = some (3, 1) := by kernel_rfl
@[go_sem] theorem tb_g26_4 : fo2 Go.Proofs.Tryz.prog 26 4 = some (4, none) := by kernel_rfl
@[go_sem] theorem tb_p26_4 : plc Go.Proofs.Tryz.prog 26 4 = some (4, 1) := by kernel_rfl
@[go_sem] theorem tb_g26_5 : fo2 Go.Proofs.Tryz.prog 26 5 = some (5, none) := by kernel_rfl
@[go_sem] theorem tb_p26_5 : plc Go.Proofs.Tryz.prog 26 5 = some (5, 1) := by kernel_rfl
@[go_sem] theorem tb_g26_6 : fo2 Go.Proofs.Tryz.prog 26 6 = some (6, none) := by kernel_rfl
@[go_sem] theorem tb_p26_6 : plc Go.Proofs.Tryz.prog 26 6 = some (6, 1) := by kernel_rfl
@[go_sem] theorem tb_f26_0 : fo Go.Proofs.Tryz.prog 26 0 = some 0 := by kernel_rfl
@[go_sem] theorem tb_f26_1 : fo Go.Proofs.Tryz.prog 26 1 = some 1 := by kernel_rfl
@[go_sem] theorem tb_f26_2 : fo Go.Proofs.Tryz.prog 26 2 = some 2 := by kernel_rfl
@[go_sem] theorem tb_f26_3 : fo Go.Proofs.Tryz.prog 26 3 = some 3 := by kernel_rfl
@[go_sem] theorem tb_f26_4 : fo Go.Proofs.Tryz.prog 26 4 = some 4 := by kernel_rfl
@[go_sem] theorem tb_f26_5 : fo Go.Proofs.Tryz.prog 26 5 = some 5 := by kernel_rfl
@[go_sem] theorem tb_f26_6 : fo Go.Proofs.Tryz.prog 26 6 = some 6 := by kernel_rfl
@[go_sem] theorem tb_q26 : eqOk Go.Proofs.Tryz.prog 26 = some [1, 1, 1, 1, 1, 1, 1] := by kernel_rfl
@[go_sem] theorem tb_z26 : zrow Go.Proofs.Tryz.prog 26 = some [.v (.int .i64 0), .v (.int .i64 0), .v (.int .i64 0), .v (.int .i64 0), .v (.int .i64 0), .v (.int .i64 0), .v (.int .i64 0)] := by kernel_rfl
@[go_sem] theorem tb_l27 : ldk Go.Proofs.Tryz.prog 27 = some none := by kernel_rfl
@[go_sem] theorem tb_s27 : szo Go.Proofs.Tryz.prog 27 = some 1 := by kernel_rfl
@[go_sem] theorem tb_l28 : ldk Go.Proofs.Tryz.prog 28 = some (some 7) := by kernel_rfl
@[go_sem] theorem tb_s28 : szo Go.Proofs.Tryz.prog 28 = some 7 := by kernel_rfl
@[go_sem] theorem tb_b28 : isBool Go.Proofs.Tryz.prog 28 = false := by kernel_rfl
@[go_sem] theorem tb_t28 : isStr Go.Proofs.Tryz.prog 28 = false := by kernel_rfl
@[go_sem] theorem tb_i28 : isSl Go.Proofs.Tryz.prog 28 = false := by kernel_rfl
@[go_sem] theorem tb_k28 : bOk Go.Proofs.Tryz.prog 28 = true := by kernel_rfl
@[go_sem] theorem tb_g28_0 : fo2 Go.Proofs.Tryz.prog 28 0 = some (0, none) := by kernel_rfl
@[go_sem] theorem tb_p28_0 : plc Go.Proofs.Tryz.prog 28 0 = some (0, 1) := by kernel_rfl
@[go_sem] theorem tb_g28_1 : fo2 Go.Proofs.Tryz.prog 28 1 = some (1, none) := by kernel_rfl
@[go_sem] theorem tb_p28_1 : plc Go.Proofs.Tryz.prog 28 1 = some (1, 1) := by kernel_rfl
@[go_sem] theorem tb_g28_2 : fo2 Go.Proofs.Tryz.prog 28 2 = some (2, none) := by kernel_rfl
@[go_sem] theorem tb_p28_2 : plc Go.Proofs.Tryz.prog 28 2 = some (2, 1) := by kernel_rfl
@[go_sem] theorem tb_g28_3 : fo2 Go.Proofs.Tryz.prog 28 3 = some (3, none) := by kernel_rfl
@[go_sem] theorem tb_p28_3 : plc Go.Proofs.Tryz.prog 28 3 = some (3, 1) := by kernel_rfl
@[go_sem] theorem tb_g28_4 : fo2 Go.Proofs.Tryz.prog 28 4 = some (4, none) := by kernel_rfl
@[go_sem] theorem tb_p28_4 : plc Go.Proofs.Tryz.prog 28 4 = some (4, 1) := by kernel_rfl
@[go_sem] theorem tb_g28_5 : fo2 Go.Proofs.Tryz.prog 28 5 = some (5, none) := by kernel_rfl
@[go_sem] theorem tb_p28_5 : plc Go.Proofs.Tryz.prog 28 5 = some (5, 1) := by kernel_rfl
@[go_sem] theorem tb_g28_6 : fo2 Go.Proofs.Tryz.prog 28 6 = some (6, none) := by kernel_rfl
@[go_sem] theorem tb_p28_6 : plc Go.Proofs.Tryz.prog 28 6 = some (6, 1) := by kernel_rfl
@[go_sem] theorem tb_f28_0 : fo Go.Proofs.Tryz.prog 28 0 = some 0 := by kernel_rfl
@[go_sem] theorem tb_f28_1 : fo Go.Proofs.Tryz.prog 28 1 = some 1 := by kernel_rfl
@[go_sem] theorem tb_f28_2 : fo Go.Proofs.Tryz.prog 28 2 = some 2 := by kernel_rfl
@[go_sem] theorem tb_f28_3 : fo Go.Proofs.Tryz.prog 28 3 = some 3 := by kernel_rfl
@[go_sem] theorem tb_f28_4 : fo Go.Proofs.Tryz.prog 28 4 = some 4 := by kernel_rfl
@[go_sem] theorem tb_f28_5 : fo Go.Proofs.Tryz.prog 28 5 = some 5 := by kernel_rfl
@[go_sem] theorem tb_f28_6 : fo Go.Proofs.Tryz.prog 28 6 = some 6 := by kernel_rfl
@[go_sem] theorem tb_q28 : eqOk Go.Proofs.Tryz.prog 28 = some [1, 1, 1, 1, 1, 1, 1] := by kernel_rfl
@[go_sem] theorem tb_z28 : zrow Go.Proofs.Tryz.prog 28 = some [.v (.int .i64 0), .v (.int .i64 0), .v (.int .i64 0), .v (.int .i64 0), .v (.int .i64 0), .v (.int .i64 0), .v (.int .i64 0)] := by kernel_rfl
@[go_sem] theorem tb_l29 : ldk Go.Proofs.Tryz.prog 29 = some none := by kernel_rfl
@[go_sem] theorem tb_s29 : szo Go.Proofs.Tryz.prog 29 = some 1 := by kernel_rfl
@[go_sem] theorem tb_l30 : ldk Go.Proofs.Tryz.prog 30 = some none := by kernel_rfl
@[go_sem] theorem tb_s30 : szo Go.Proofs.Tryz.prog 30 = some 1 := by kernel_rfl
@[go_sem] theorem tb_l31 : ldk Go.Proofs.Tryz.prog 31 = some none := by kernel_rfl
@[go_sem] theorem tb_s31 : szo Go.Proofs.Tryz.prog 31 = some 1 := by kernel_rfl
@[go_sem] theorem tb_l32 : ldk Go.Proofs.Tryz.prog 32 = some none := by kernel_rfl
@[go_sem] theorem tb_s32 : szo Go.Proofs.Tryz.prog 32 = some 1 := by kernel_rfl
@[go_sem] theorem tb_b32 : isBool Go.Proofs.Tryz.prog 32 = false := by kernel_rfl
@[go_sem] theorem tb_t32 : isStr Go.Proofs.Tryz.prog 32 = false := by kernel_rfl
@[go_sem] theorem tb_i32 : isSl Go.Proofs.Tryz.prog 32 = true := by kernel_rfl
@[go_sem] theorem tb_e32 : es Go.Proofs.Tryz.prog 32 = some 1 := by kernel_rfl
@[go_sem] theorem tb_y32 : byt Go.Proofs.Tryz.prog 32 = some 16 := by kernel_rfl
@[go_sem] theorem tb_w32 : zrT Go.Proofs.Tryz.prog 32 = some [.v (.string ⟨#[]⟩)] := by kernel_rfl
@[go_sem] theorem tb_z32 : zrow Go.Proofs.Tryz.prog 32 = some [.sl []] := by kernel_rfl
@[go_sem] theorem tb_l33 : ldk Go.Proofs.Tryz.prog 33 = some none := by kernel_rfl
@[go_sem] theorem tb_s33 : szo Go.Proofs.Tryz.prog 33 = some 1 := by kernel_rfl
@[go_sem] theorem tb_b33 : isBool Go.Proofs.Tryz.prog 33 = false := by kernel_rfl
@[go_sem] theorem tb_t33 : isStr Go.Proofs.Tryz.prog 33 = false := by kernel_rfl
@[go_sem] theorem tb_i33 : isSl Go.Proofs.Tryz.prog 33 = true := by kernel_rfl
@[go_sem] theorem tb_e33 : es Go.Proofs.Tryz.prog 33 = some 2 := by kernel_rfl
@[go_sem] theorem tb_y33 : byt Go.Proofs.Tryz.prog 33 = some 16 := by kernel_rfl
@[go_sem] theorem tb_w33 : zrT Go.Proofs.Tryz.prog 33 = some (owAt (0, 0)) := by kernel_rfl
@[go_sem] theorem tb_z33 : zrow Go.Proofs.Tryz.prog 33 = some [.sl []] := by kernel_rfl
@[go_sem] theorem tb_l34 : ldk Go.Proofs.Tryz.prog 34 = some none := by kernel_rfl
@[go_sem] theorem tb_s34 : szo Go.Proofs.Tryz.prog 34 = some 1 := by kernel_rfl
@[go_sem] theorem tb_b34 : isBool Go.Proofs.Tryz.prog 34 = false := by kernel_rfl
@[go_sem] theorem tb_t34 : isStr Go.Proofs.Tryz.prog 34 = false := by kernel_rfl
@[go_sem] theorem tb_i34 : isSl Go.Proofs.Tryz.prog 34 = true := by kernel_rfl
@[go_sem] theorem tb_e34 : es Go.Proofs.Tryz.prog 34 = some 13 := by kernel_rfl
@[go_sem] theorem tb_y34 : byt Go.Proofs.Tryz.prog 34 = some 120 := by kernel_rfl
@[go_sem] theorem tb_w34 : zrT Go.Proofs.Tryz.prog 34 = some (Vr.at Vr.zero) := by kernel_rfl
@[go_sem] theorem tb_z34 : zrow Go.Proofs.Tryz.prog 34 = some [.sl []] := by kernel_rfl
@[go_sem] theorem tb_l35 : ldk Go.Proofs.Tryz.prog 35 = some none := by kernel_rfl
@[go_sem] theorem tb_s35 : szo Go.Proofs.Tryz.prog 35 = some 1 := by kernel_rfl
@[go_sem] theorem tb_b35 : isBool Go.Proofs.Tryz.prog 35 = false := by kernel_rfl
@[go_sem] theorem tb_t35 : isStr Go.Proofs.Tryz.prog 35 = false := by kernel_rfl
@[go_sem] theorem tb_i35 : isSl Go.Proofs.Tryz.prog 35 = true := by kernel_rfl
@[go_sem] theorem tb_e35 : es Go.Proofs.Tryz.prog 35 = some 17 := by kernel_rfl
@[go_sem] theorem tb_y35 : byt Go.Proofs.Tryz.prog 35 = some 200 := by kernel_rfl
@[go_sem] theorem tb_w35 : zrT Go.Proofs.Tryz.prog 35 = some (Me.at Me.zero) := by kernel_rfl
@[go_sem] theorem tb_z35 : zrow Go.Proofs.Tryz.prog 35 = some [.sl []] := by kernel_rfl
@[go_sem] theorem tb_l36 : ldk Go.Proofs.Tryz.prog 36 = some (some 7) := by kernel_rfl
@[go_sem] theorem tb_s36 : szo Go.Proofs.Tryz.prog 36 = some 7 := by kernel_rfl
@[go_sem] theorem tb_b36 : isBool Go.Proofs.Tryz.prog 36 = false := by kernel_rfl
@[go_sem] theorem tb_t36 : isStr Go.Proofs.Tryz.prog 36 = false := by kernel_rfl
@[go_sem] theorem tb_i36 : isSl Go.Proofs.Tryz.prog 36 = false := by kernel_rfl
@[go_sem] theorem tb_k36 : bOk Go.Proofs.Tryz.prog 36 = true := by kernel_rfl
@[go_sem] theorem tb_g36_0 : fo2 Go.Proofs.Tryz.prog 36 0 = some (0, none) := by kernel_rfl
@[go_sem] theorem tb_p36_0 : plc Go.Proofs.Tryz.prog 36 0 = some (0, 1) := by kernel_rfl
@[go_sem] theorem tb_g36_1 : fo2 Go.Proofs.Tryz.prog 36 1 = some (1, none) := by kernel_rfl
@[go_sem] theorem tb_p36_1 : plc Go.Proofs.Tryz.prog 36 1 = some (1, 1) := by kernel_rfl
@[go_sem] theorem tb_g36_2 : fo2 Go.Proofs.Tryz.prog 36 2 = some (2, none) := by kernel_rfl
@[go_sem] theorem tb_p36_2 : plc Go.Proofs.Tryz.prog 36 2 = some (2, 1) := by kernel_rfl
@[go_sem] theorem tb_g36_3 : fo2 Go.Proofs.Tryz.prog 36 3 = some (3, none) := by kernel_rfl
@[go_sem] theorem tb_p36_3 : plc Go.Proofs.Tryz.prog 36 3 = some (3, 1) := by kernel_rfl
@[go_sem] theorem tb_g36_4 : fo2 Go.Proofs.Tryz.prog 36 4 = some (4, none) := by kernel_rfl
@[go_sem] theorem tb_p36_4 : plc Go.Proofs.Tryz.prog 36 4 = some (4, 1) := by kernel_rfl
@[go_sem] theorem tb_g36_5 : fo2 Go.Proofs.Tryz.prog 36 5 = some (5, none) := by kernel_rfl
@[go_sem] theorem tb_p36_5 : plc Go.Proofs.Tryz.prog 36 5 = some (5, 1) := by kernel_rfl
@[go_sem] theorem tb_g36_6 : fo2 Go.Proofs.Tryz.prog 36 6 = some (6, none) := by kernel_rfl
@[go_sem] theorem tb_p36_6 : plc Go.Proofs.Tryz.prog 36 6 = some (6, 1) := by kernel_rfl
@[go_sem] theorem tb_f36_0 : fo Go.Proofs.Tryz.prog 36 0 = some 0 := by kernel_rfl
@[go_sem] theorem tb_f36_1 : fo Go.Proofs.Tryz.prog 36 1 = some 1 := by kernel_rfl
@[go_sem] theorem tb_f36_2 : fo Go.Proofs.Tryz.prog 36 2 = some 2 := by kernel_rfl
@[go_sem] theorem tb_f36_3 : fo Go.Proofs.Tryz.prog 36 3 = some 3 := by kernel_rfl
@[go_sem] theorem tb_f36_4 : fo Go.Proofs.Tryz.prog 36 4 = some 4 := by kernel_rfl
@[go_sem] theorem tb_f36_5 : fo Go.Proofs.Tryz.prog 36 5 = some 5 := by kernel_rfl
@[go_sem] theorem tb_f36_6 : fo Go.Proofs.Tryz.prog 36 6 = some 6 := by kernel_rfl
@[go_sem] theorem tb_z36 : zrow Go.Proofs.Tryz.prog 36 = some [.v (.string ⟨#[]⟩), .sl [], .v (.string ⟨#[]⟩), .sl [], .sl [], .sl [], .v (.int .i64 0)] := by kernel_rfl
@[go_sem] theorem tb_l37 : ldk Go.Proofs.Tryz.prog 37 = some (some 7) := by kernel_rfl
@[go_sem] theorem tb_s37 : szo Go.Proofs.Tryz.prog 37 = some 7 := by kernel_rfl
@[go_sem] theorem tb_b37 : isBool Go.Proofs.Tryz.prog 37 = false := by kernel_rfl
@[go_sem] theorem tb_t37 : isStr Go.Proofs.Tryz.prog 37 = false := by kernel_rfl
@[go_sem] theorem tb_i37 : isSl Go.Proofs.Tryz.prog 37 = false := by kernel_rfl
@[go_sem] theorem tb_k37 : bOk Go.Proofs.Tryz.prog 37 = true := by kernel_rfl
@[go_sem] theorem tb_g37_0 : fo2 Go.Proofs.Tryz.prog 37 0 = some (0, none) := by kernel_rfl
@[go_sem] theorem tb_p37_0 : plc Go.Proofs.Tryz.prog 37 0 = some (0, 1) := by kernel_rfl
@[go_sem] theorem tb_g37_1 : fo2 Go.Proofs.Tryz.prog 37 1 = some (1, none) := by kernel_rfl
@[go_sem] theorem tb_p37_1 : plc Go.Proofs.Tryz.prog 37 1 = some (1, 1) := by kernel_rfl
@[go_sem] theorem tb_g37_2 : fo2 Go.Proofs.Tryz.prog 37 2 = some (2, none) := by kernel_rfl
@[go_sem] theorem tb_p37_2 : plc Go.Proofs.Tryz.prog 37 2 = some (2, 1) := by kernel_rfl
@[go_sem] theorem tb_g37_3 : fo2 Go.Proofs.Tryz.prog 37 3 = some (3, none) := by kernel_rfl
@[go_sem] theorem tb_p37_3 : plc Go.Proofs.Tryz.prog 37 3 = some (3, 1) := by kernel_rfl
@[go_sem] theorem tb_g37_4 : fo2 Go.Proofs.Tryz.prog 37 4 = some (4, none) := by kernel_rfl
@[go_sem] theorem tb_p37_4 : plc Go.Proofs.Tryz.prog 37 4 = some (4, 1) := by kernel_rfl
@[go_sem] theorem tb_g37_5 : fo2 Go.Proofs.Tryz.prog 37 5 = some (5, none) := by kernel_rfl
@[go_sem] theorem tb_p37_5 : plc Go.Proofs.Tryz.prog 37 5 = some (5, 1) := by kernel_rfl
@[go_sem] theorem tb_g37_6 : fo2 Go.Proofs.Tryz.prog 37 6 = some (6, none) := by kernel_rfl
@[go_sem] theorem tb_p37_6 : plc Go.Proofs.Tryz.prog 37 6 = some (6, 1) := by kernel_rfl
@[go_sem] theorem tb_f37_0 : fo Go.Proofs.Tryz.prog 37 0 = some 0 := by kernel_rfl
@[go_sem] theorem tb_f37_1 : fo Go.Proofs.Tryz.prog 37 1 = some 1 := by kernel_rfl
@[go_sem] theorem tb_f37_2 : fo Go.Proofs.Tryz.prog 37 2 = some 2 := by kernel_rfl
@[go_sem] theorem tb_f37_3 : fo Go.Proofs.Tryz.prog 37 3 = some 3 := by kernel_rfl
@[go_sem] theorem tb_f37_4 : fo Go.Proofs.Tryz.prog 37 4 = some 4 := by kernel_rfl
@[go_sem] theorem tb_f37_5 : fo Go.Proofs.Tryz.prog 37 5 = some 5 := by kernel_rfl
@[go_sem] theorem tb_f37_6 : fo Go.Proofs.Tryz.prog 37 6 = some 6 := by kernel_rfl
@[go_sem] theorem tb_z37 : zrow Go.Proofs.Tryz.prog 37 = some (Cs.at Cs.zero) := by kernel_rfl
@[go_sem] theorem tb_l38 : ldk Go.Proofs.Tryz.prog 38 = some (some 2) := by kernel_rfl
@[go_sem] theorem tb_s38 : szo Go.Proofs.Tryz.prog 38 = some 2 := by kernel_rfl
@[go_sem] theorem tb_b38 : isBool Go.Proofs.Tryz.prog 38 = false := by kernel_rfl
@[go_sem] theorem tb_t38 : isStr Go.Proofs.Tryz.prog 38 = false := by kernel_rfl
@[go_sem] theorem tb_i38 : isSl Go.Proofs.Tryz.prog 38 = false := by kernel_rfl
@[go_sem] theorem tb_k38 : bOk Go.Proofs.Tryz.prog 38 = true := by kernel_rfl
@[go_sem] theorem tb_g38_0 : fo2 Go.Proofs.Tryz.prog 38 0 = some (0, none) := by kernel_rfl
@[go_sem] theorem tb_p38_0 : plc Go.Proofs.Tryz.prog 38 0 = some (0, 1) := by kernel_rfl
@[go_sem] theorem tb_g38_1 : fo2 Go.Proofs.Tryz.prog 38 1 = some (1, none) := by kernel_rfl
@[go_sem] theorem tb_p38_1 : plc Go.Proofs.Tryz.prog 38 1 = some (1, 1) := by kernel_rfl
@[go_sem] theorem tb_f38_0 : fo Go.Proofs.Tryz.prog 38 0 = some 0 := by kernel_rfl
@[go_sem] theorem tb_f38_1 : fo Go.Proofs.Tryz.prog 38 1 = some 1 := by kernel_rfl
@[go_sem] theorem tb_z38 : zrow Go.Proofs.Tryz.prog 38 = some [.v (.int .i64 0), .v (.int .i64 0)] := by kernel_rfl
@[go_sem] theorem tb_l39 : ldk Go.Proofs.Tryz.prog 39 = some (some 2) := by kernel_rfl
@[go_sem] theorem tb_s39 : szo Go.Proofs.Tryz.prog 39 = some 2 := by kernel_rfl
@[go_sem] theorem tb_b39 : isBool Go.Proofs.Tryz.prog 39 = false := by kernel_rfl
@[go_sem] theorem tb_t39 : isStr Go.Proofs.Tryz.prog 39 = false := by kernel_rfl
@[go_sem] theorem tb_i39 : isSl Go.Proofs.Tryz.prog 39 = false := by kernel_rfl
@[go_sem] theorem tb_k39 : bOk Go.Proofs.Tryz.prog 39 = true := by kernel_rfl
@[go_sem] theorem tb_g39_0 : fo2 Go.Proofs.Tryz.prog 39 0 = some (0, none) := by kernel_rfl
@[go_sem] theorem tb_p39_0 : plc Go.Proofs.Tryz.prog 39 0 = some (0, 1) := by kernel_rfl
@[go_sem] theorem tb_g39_1 : fo2 Go.Proofs.Tryz.prog 39 1 = some (1, none) := by kernel_rfl
@[go_sem] theorem tb_p39_1 : plc Go.Proofs.Tryz.prog 39 1 = some (1, 1) := by kernel_rfl
@[go_sem] theorem tb_f39_0 : fo Go.Proofs.Tryz.prog 39 0 = some 0 := by kernel_rfl
@[go_sem] theorem tb_f39_1 : fo Go.Proofs.Tryz.prog 39 1 = some 1 := by kernel_rfl
@[go_sem] theorem tb_q39 : eqOk Go.Proofs.Tryz.prog 39 = some [1, 1] := by kernel_rfl
@[go_sem] theorem tb_z39 : zrow Go.Proofs.Tryz.prog 39 = some (owAt (0, 0)) := by kernel_rfl
@[go_sem] theorem tb_l40 : ldk Go.Proofs.Tryz.prog 40 = some (some 8) := by kernel_rfl
@[go_sem] theorem tb_s40 : szo Go.Proofs.Tryz.prog 40 = some 8 := by kernel_rfl
@[go_sem] theorem tb_b40 : isBool Go.Proofs.Tryz.prog 40 = false := by kernel_rfl
@[go_sem] theorem tb_t40 : isStr Go.Proofs.Tryz.prog 40 = false := by kernel_rfl
@[go_sem] theorem tb_i40 : isSl Go.Proofs.Tryz.prog 40 = false := by kernel_rfl
@[go_sem] theorem tb_a40 : ar Go.Proofs.Tryz.prog 40 = some (4, 2) := by kernel_rfl
@[go_sem] theorem tb_k40 : bOk Go.Proofs.Tryz.prog 40 = true := by kernel_rfl
@[go_sem] theorem tb_q40 : eqOk Go.Proofs.Tryz.prog 40 = some [1, 1, 1, 1, 1, 1, 1, 1] := by kernel_rfl
@[go_sem] theorem tb_z40 : zrow Go.Proofs.Tryz.prog 40 = some [.v (.int .i64 0), .v (.int .i64 0), .v (.int .i64 0), .v (.int .i64 0), .v (.int .i64 0), .v (.int .i64 0), .v (.int .i64 0), .v (.int .i64 0)] := by kernel_rfl
@[go_sem] theorem tb_l41 : ldk Go.Proofs.Tryz.prog 41 = some (some 11) := by kernel_rfl
@[go_sem] theorem tb_s41 : szo Go.Proofs.Tryz.prog 41 = some 11 := by kernel_rfl
@[go_sem] theorem tb_b41 : isBool Go.Proofs.Tryz.prog 41 = false := by kernel_rfl
@[go_sem] theorem tb_t41 : isStr Go.Proofs.Tryz.prog 41 = false := by kernel_rfl
@[go_sem] theorem tb_i41 : isSl Go.Proofs.Tryz.prog 41 = false := by kernel_rfl
@[go_sem] theorem tb_k41 : bOk Go.Proofs.Tryz.prog 41 = true := by kernel_rfl
@[go_sem] theorem tb_g41_0 : fo2 Go.Proofs.Tryz.prog 41 0 = some (0, none) := by kernel_rfl
@[go_sem] theorem tb_p41_0 : plc Go.Proofs.Tryz.prog 41 0 = some (0, 1) := by kernel_rfl
@[go_sem] theorem tb_g41_1 : fo2 Go.Proofs.Tryz.prog 41 1 = some (1, none) := by kernel_rfl
@[go_sem] theorem tb_p41_1 : plc Go.Proofs.Tryz.prog 41 1 = some (1, 1) := by kernel_rfl
@[go_sem] theorem tb_g41_2 : fo2 Go.Proofs.Tryz.prog 41 2 = some (2, none) := by kernel_rfl
@[go_sem] theorem tb_p41_2 : plc Go.Proofs.Tryz.prog 41 2 = some (2, 1) := by kernel_rfl
@[go_sem] theorem tb_g41_3 : fo2 Go.Proofs.Tryz.prog 41 3 = some (3, some 8) := by kernel_rfl
@[go_sem] theorem tb_p41_3 : plc Go.Proofs.Tryz.prog 41 3 = some (3, 8) := by kernel_rfl
@[go_sem] theorem tb_f41_0 : fo Go.Proofs.Tryz.prog 41 0 = some 0 := by kernel_rfl
@[go_sem] theorem tb_f41_1 : fo Go.Proofs.Tryz.prog 41 1 = some 1 := by kernel_rfl
@[go_sem] theorem tb_f41_2 : fo Go.Proofs.Tryz.prog 41 2 = some 2 := by kernel_rfl
@[go_sem] theorem tb_f41_3 : fo Go.Proofs.Tryz.prog 41 3 = some 3 := by kernel_rfl
@[go_sem] theorem tb_z41 : zrow Go.Proofs.Tryz.prog 41 = some [.v (.int .i64 0), .v (.string ⟨#[]⟩), .v (.int .i64 0), .v (.int .i64 0), .v (.int .i64 0), .v (.int .i64 0), .v (.int .i64 0), .v (.int .i64 0), .v (.int .i64 0), .v (.int .i64 0), .v (.int .i64 0)] := by kernel_rfl
@[go_sem] theorem tb_l42 : ldk Go.Proofs.Tryz.prog 42 = some (some 11) := by kernel_rfl
@[go_sem] theorem tb_s42 : szo Go.Proofs.Tryz.prog 42 = some 11 := by kernel_rfl
@[go_sem] theorem tb_b42 : isBool Go.Proofs.Tryz.prog 42 = false := by kernel_rfl
@[go_sem] theorem tb_t42 : isStr Go.Proofs.Tryz.prog 42 = false := by kernel_rfl
@[go_sem] theorem tb_i42 : isSl Go.Proofs.Tryz.prog 42 = false := by kernel_rfl
@[go_sem] theorem tb_k42 : bOk Go.Proofs.Tryz.prog 42 = true := by kernel_rfl
@[go_sem] theorem tb_g42_0 : fo2 Go.Proofs.Tryz.prog 42 0 = some (0, none) := by kernel_rfl
@[go_sem] theorem tb_p42_0 : plc Go.Proofs.Tryz.prog 42 0 = some (0, 1) := by kernel_rfl
@[go_sem] theorem tb_g42_1 : fo2 Go.Proofs.Tryz.prog 42 1 = some (1, none) := by kernel_rfl
@[go_sem] theorem tb_p42_1 : plc Go.Proofs.Tryz.prog 42 1 = some (1, 1) := by kernel_rfl
@[go_sem] theorem tb_g42_2 : fo2 Go.Proofs.Tryz.prog 42 2 = some (2, none) := by kernel_rfl
@[go_sem] theorem tb_p42_2 : plc Go.Proofs.Tryz.prog 42 2 = some (2, 1) := by kernel_rfl
@[go_sem] theorem tb_g42_3 : fo2 Go.Proofs.Tryz.prog 42 3 = some (3, some 8) := by kernel_rfl
@[go_sem] theorem tb_p42_3 : plc Go.Proofs.Tryz.prog 42 3 = some (3, 8) := by kernel_rfl
@[go_sem] theorem tb_f42_0 : fo Go.Proofs.Tryz.prog 42 0 = some 0 := by kernel_rfl
@[go_sem] theorem tb_f42_1 : fo Go.Proofs.Tryz.prog 42 1 = some 1 := by kernel_rfl
@[go_sem] theorem tb_f42_2 : fo Go.Proofs.Tryz.prog 42 2 = some 2 := by kernel_rfl
@[go_sem] theorem tb_f42_3 : fo Go.Proofs.Tryz.prog 42 3 = some 3 := by kernel_rfl
@[go_sem] theorem tb_q42 : eqOk Go.Proofs.Tryz.prog 42 = some [1, 2, 1, 1, 1, 1, 1, 1, 1, 1, 1] := by kernel_rfl
@[go_sem] theorem tb_z42 : zrow Go.Proofs.Tryz.prog 42 = some (Ty.at Ty.zero) := by kernel_rfl
@[go_sem] theorem tb_l43 : ldk Go.Proofs.Tryz.prog 43 = some none := by kernel_rfl
@[go_sem] theorem tb_s43 : szo Go.Proofs.Tryz.prog 43 = some 1 := by kernel_rfl
@[go_sem] theorem tb_b43 : isBool Go.Proofs.Tryz.prog 43 = false := by kernel_rfl
@[go_sem] theorem tb_t43 : isStr Go.Proofs.Tryz.prog 43 = false := by kernel_rfl
@[go_sem] theorem tb_i43 : isSl Go.Proofs.Tryz.prog 43 = true := by kernel_rfl
@[go_sem] theorem tb_e43 : es Go.Proofs.Tryz.prog 43 = some 23 := by kernel_rfl
@[go_sem] theorem tb_y43 : byt Go.Proofs.Tryz.prog 43 = some 288 := by kernel_rfl
@[go_sem] theorem tb_w43 : zrT Go.Proofs.Tryz.prog 43 = some (St.at St.zero) := by kernel_rfl
@[go_sem] theorem tb_z43 : zrow Go.Proofs.Tryz.prog 43 = some [.sl []] := by kernel_rfl
@[go_sem] theorem tb_l44 : ldk Go.Proofs.Tryz.prog 44 = some (some 17) := by kernel_rfl
@[go_sem] theorem tb_s44 : szo Go.Proofs.Tryz.prog 44 = some 17 := by kernel_rfl
@[go_sem] theorem tb_b44 : isBool Go.Proofs.Tryz.prog 44 = false := by kernel_rfl
@[go_sem] theorem tb_t44 : isStr Go.Proofs.Tryz.prog 44 = false := by kernel_rfl
@[go_sem] theorem tb_i44 : isSl Go.Proofs.Tryz.prog 44 = false := by kernel_rfl
@[go_sem] theorem tb_k44 : bOk Go.Proofs.Tryz.prog 44 = true := by kernel_rfl
@[go_sem] theorem tb_g44_0 : fo2 Go.Proofs.Tryz.prog 44 0 = some (0, none) := by kernel_rfl
@[go_sem] theorem tb_p44_0 : plc Go.Proofs.Tryz.prog 44 0 = some (0, 1) := by kernel_rfl
@[go_sem] theorem tb_g44_1 : fo2 Go.Proofs.Tryz.prog 44 1 = some (1, none) := by kernel_rfl
@[go_sem] theorem tb_p44_1 : plc Go.Proofs.Tryz.prog 44 1 = some (1, 1) := by kernel_rfl
@[go_sem] theorem tb_g44_2 : fo2 Go.Proofs.Tryz.prog 44 2 = some (2, some 11) := by kernel_rfl
@[go_sem] theorem tb_p44_2 : plc Go.Proofs.Tryz.prog 44 2 = some (2, 11) := by kernel_rfl
@[go_sem] theorem tb_g44_3 : fo2 Go.Proofs.Tryz.prog 44 3 = some (13, none) := by kernel_rfl
@[go_sem] theorem tb_p44_3 : plc Go.Proofs.Tryz.prog 44 3 = some (13, 1) := by kernel_rfl
@[go_sem] theorem tb_g44_4 : fo2 Go.Proofs.Tryz.prog 44 4 = some (14, none) := by kernel_rfl
@[go_sem] theorem tb_p44_4 : plc Go.Proofs.Tryz.prog 44 4 = some (14, 1) := by kernel_rfl
@[go_sem] theorem tb_g44_5 : fo2 Go.Proofs.Tryz.prog 44 5 = some (15, none) := by kernel_rfl
@[go_sem] theorem tb_p44_5 : plc Go.Proofs.Tryz.prog 44 5 = some (15, 1) := by kernel_rfl
@[go_sem] theorem tb_g44_6 : fo2 Go.Proofs.Tryz.prog 44 6 = some (16, none) := by kernel_rfl
@[go_sem] theorem tb_p44_6 : plc Go.Proofs.Tryz.prog 44 6 = some (16, 1) := by kernel_rfl
@[go_sem] theorem tb_f44_0 : fo Go.Proofs.Tryz.prog 44 0 = some 0 := by kernel_rfl
@[go_sem] theorem tb_f44_1 : fo Go.Proofs.Tryz.prog 44 1 = some 1 := by kernel_rfl
@[go_sem] theorem tb_f44_2 : fo Go.Proofs.Tryz.prog 44 2 = some 2 := by kernel_rfl
@[go_sem] theorem tb_f44_3 : fo Go.Proofs.Tryz.prog 44 3 = some 13 := by kernel_rfl
@[go_sem] theorem tb_f44_4 : fo Go.Proofs.Tryz.prog 44 4 = some 14 := by kernel_rfl
@[go_sem] theorem tb_f44_5 : fo Go.Proofs.Tryz.prog 44 5 = some 15 := by kernel_rfl
@[go_sem] theorem tb_f44_6 : fo Go.Proofs.Tryz.prog 44 6 = some 16 := by kernel_rfl
@[go_sem] theorem tb_z44 : zrow Go.Proofs.Tryz.prog 44 = some [.v (.string ⟨#[]⟩), .v (.bool false), .v (.int .i64 0), .v (.string ⟨#[]⟩), .v (.int .i64 0), .v (.int .i64 0), .v (.int .i64 0), .v (.int .i64 0), .v (.int .i64 0), .v (.int .i64 0), .v (.int .i64 0), .v (.int .i64 0), .v (.int .i64 0), .sl [], .sl [], .sl [], .v (.int .i64 0)] := by kernel_rfl
@[go_sem] theorem tb_l45 : ldk Go.Proofs.Tryz.prog 45 = some (some 17) := by kernel_rfl
@[go_sem] theorem tb_s45 : szo Go.Proofs.Tryz.prog 45 = some 17 := by kernel_rfl
@[go_sem] theorem tb_b45 : isBool Go.Proofs.Tryz.prog 45 = false := by kernel_rfl
@[go_sem] theorem tb_t45 : isStr Go.Proofs.Tryz.prog 45 = false := by kernel_rfl
@[go_sem] theorem tb_i45 : isSl Go.Proofs.Tryz.prog 45 = false := by kernel_rfl
@[go_sem] theorem tb_k45 : bOk Go.Proofs.Tryz.prog 45 = true := by kernel_rfl
@[go_sem] theorem tb_g45_0 : fo2 Go.Proofs.Tryz.prog 45 0 = some (0, none) := by kernel_rfl
@[go_sem] theorem tb_p45_0 : plc Go.Proofs.Tryz.prog 45 0 = some (0, 1) := by kernel_rfl
@[go_sem] theorem tb_g45_1 : fo2 Go.Proofs.Tryz.prog 45 1 = some (1, none) := by kernel_rfl
@[go_sem] theorem tb_p45_1 : plc Go.Proofs.Tryz.prog 45 1 = some (1, 1) := by kernel_rfl
@[go_sem] theorem tb_g45_2 : fo2 Go.Proofs.Tryz.prog 45 2 = some (2, some 11) := by kernel_rfl
@[go_sem] theorem tb_p45_2 : plc Go.Proofs.Tryz.prog 45 2 = some (2, 11) := by kernel_rfl
@[go_sem] theorem tb_g45_3 : fo2 Go.Proofs.Tryz.prog 45 3 = some (13, none) := by kernel_rfl
@[go_sem] theorem tb_p45_3 : plc Go.Proofs.Tryz.prog 45 3 = some (13, 1) := by kernel_rfl
@[go_sem] theorem tb_g45_4 : fo2 Go.Proofs.Tryz.prog 45 4 = some (14, none) := by kernel_rfl
@[go_sem] theorem tb_p45_4 : plc Go.Proofs.Tryz.prog 45 4 = some (14, 1) := by kernel_rfl
@[go_sem] theorem tb_g45_5 : fo2 Go.Proofs.Tryz.prog 45 5 = some (15, none) := by kernel_rfl
@[go_sem] theorem tb_p45_5 : plc Go.Proofs.Tryz.prog 45 5 = some (15, 1) := by kernel_rfl
@[go_sem] theorem tb_g45_6 : fo2 Go.Proofs.Tryz.prog 45 6 = some (16, none) := by kernel_rfl
@[go_sem] theorem tb_p45_6 : plc Go.Proofs.Tryz.prog 45 6 = some (16, 1) := by kernel_rfl
@[go_sem] theorem tb_f45_0 : fo Go.Proofs.Tryz.prog 45 0 = some 0 := by kernel_rfl
@[go_sem] theorem tb_f45_1 : fo Go.Proofs.Tryz.prog 45 1 = some 1 := by kernel_rfl
@[go_sem] theorem tb_f45_2 : fo Go.Proofs.Tryz.prog 45 2 = some 2 := by kernel_rfl
@[go_sem] theorem tb_f45_3 : fo Go.Proofs.Tryz.prog 45 3 = some 13 := by kernel_rfl
@[go_sem] theorem tb_f45_4 : fo Go.Proofs.Tryz.prog 45 4 = some 14 := by kernel_rfl
@[go_sem] theorem tb_f45_5 : fo Go.Proofs.Tryz.prog 45 5 = some 15 := by kernel_rfl
@[go_sem] theorem tb_f45_6 : fo Go.Proofs.Tryz.prog 45 6 = some 16 := by kernel_rfl
@[go_sem] theorem tb_z45 : zrow Go.Proofs.Tryz.prog 45 = some (Me.at Me.zero) := by kernel_rfl
@[go_sem] theorem tb_l46 : ldk Go.Proofs.Tryz.prog 46 = some none := by kernel_rfl
@[go_sem] theorem tb_s46 : szo Go.Proofs.Tryz.prog 46 = some 1 := by kernel_rfl
@[go_sem] theorem tb_l47 : ldk Go.Proofs.Tryz.prog 47 = some none := by kernel_rfl
@[go_sem] theorem tb_s47 : szo Go.Proofs.Tryz.prog 47 = some 1 := by kernel_rfl
@[go_sem] theorem tb_l48 : ldk Go.Proofs.Tryz.prog 48 = some none := by kernel_rfl
@[go_sem] theorem tb_s48 : szo Go.Proofs.Tryz.prog 48 = some 1 := by kernel_rfl
@[go_sem] theorem tb_b48 : isBool Go.Proofs.Tryz.prog 48 = false := by kernel_rfl
@[go_sem] theorem tb_t48 : isStr Go.Proofs.Tryz.prog 48 = false := by kernel_rfl
@[go_sem] theorem tb_i48 : isSl Go.Proofs.Tryz.prog 48 = true := by kernel_rfl
@[go_sem] theorem tb_e48 : es Go.Proofs.Tryz.prog 48 = some 4 := by kernel_rfl
@[go_sem] theorem tb_y48 : byt Go.Proofs.Tryz.prog 48 = some 56 := by kernel_rfl
@[go_sem] theorem tb_w48 : zrT Go.Proofs.Tryz.prog 48 = some (Ex.at Ex.zero) := by kernel_rfl
@[go_sem] theorem tb_z48 : zrow Go.Proofs.Tryz.prog 48 = some [.sl []] := by kernel_rfl
@[go_sem] theorem tb_l49 : ldk Go.Proofs.Tryz.prog 49 = some (some 4) := by kernel_rfl
@[go_sem] theorem tb_s49 : szo Go.Proofs.Tryz.prog 49 = some 4 := by kernel_rfl
@[go_sem] theorem tb_b49 : isBool Go.Proofs.Tryz.prog 49 = false := by kernel_rfl
@[go_sem] theorem tb_t49 : isStr Go.Proofs.Tryz.prog 49 = false := by kernel_rfl
@[go_sem] theorem tb_i49 : isSl Go.Proofs.Tryz.prog 49 = false := by kernel_rfl
@[go_sem] theorem tb_k49 : bOk Go.Proofs.Tryz.prog 49 = true := by kernel_rfl
@[go_sem] theorem tb_g49_0 : fo2 Go.Proofs.Tryz.prog 49 0 = some (0, none) := by kernel_rfl
@[go_sem] theorem tb_p49_0 : plc Go.Proofs.Tryz.prog 49 0 = some (0, 1) := by kernel_rfl
@[go_sem] theorem tb_g49_1 : fo2 Go.Proofs.Tryz.prog 49 1 = some (1, none) := by kernel_rfl
@[go_sem] theorem tb_p49_1 : plc Go.Proofs.Tryz.prog 49 1 = some (1, 1) := by kernel_rfl
@[go_sem] theorem tb_g49_2 : fo2 Go.Proofs.Tryz.prog 49 2 = some (2, none) := by kernel_rfl
@[go_sem] theorem tb_p49_2 : plc Go.Proofs.Tryz.prog 49 2 = some (2, 1) := by kernel_rfl
@[go_sem] theorem tb_g49_3 : fo2 Go.Proofs.Tryz.prog 49 3 = some (3, none) := by kernel_rfl
@[go_sem] theorem tb_p49_3 : plc Go.Proofs.Tryz.prog 49 3 = some (3, 1) := by kernel_rfl
@[go_sem] theorem tb_f49_0 : fo Go.Proofs.Tryz.prog 49 0 = some 0 := by kernel_rfl
@[go_sem] theorem tb_f49_1 : fo Go.Proofs.Tryz.prog 49 1 = some 1 := by kernel_rfl
@[go_sem] theorem tb_f49_2 : fo Go.Proofs.Tryz.prog 49 2 = some 2 := by kernel_rfl
@[go_sem] theorem tb_f49_3 : fo Go.Proofs.Tryz.prog 49 3 = some 3 := by kernel_rfl
@[go_sem] theorem tb_z49 : zrow Go.Proofs.Tryz.prog 49 = some [.v (.int .i64 0), .v (.int .i64 0), .v (.string ⟨#[]⟩), .sl []] := by kernel_rfl
@[go_sem] theorem tb_l50 : ldk Go.Proofs.Tryz.prog 50 = some (some 4) := by kernel_rfl
@[go_sem] theorem tb_s50 : szo Go.Proofs.Tryz.prog 50 = some 4 := by kernel_rfl
@[go_sem] theorem tb_b50 : isBool Go.Proofs.Tryz.prog 50 = false := by kernel_rfl
@[go_sem] theorem tb_t50 : isStr Go.Proofs.Tryz.prog 50 = false := by kernel_rfl
@[go_sem] theorem tb_i50 : isSl Go.Proofs.Tryz.prog 50 = false := by kernel_rfl
@[go_sem] theorem tb_k50 : bOk Go.Proofs.Tryz.prog 50 = true := by kernel_rfl
@[go_sem] theorem tb_g50_0 : fo2 Go.Proofs.Tryz.prog 50 0 = some (0, none) := by kernel_rfl
@[go_sem] theorem tb_p50_0 : plc Go.Proofs.Tryz.prog 50 0 = some (0, 1) := by kernel_rfl
@[go_sem] theorem tb_g50_1 : fo2 Go.Proofs.Tryz.prog 50 1 = some (1, none) := by kernel_rfl
@[go_sem] theorem tb_p50_1 : plc Go.Proofs.Tryz.prog 50 1 = some (1, 1) := by kernel_rfl
@[go_sem] theorem tb_g50_2 : fo2 Go.Proofs.Tryz.prog 50 2 = some (2, none) := by kernel_rfl
@[go_sem] theorem tb_p50_2 : plc Go.Proofs.Tryz.prog 50 2 = some (2, 1) := by kernel_rfl
@[go_sem] theorem tb_g50_3 : fo2 Go.Proofs.Tryz.prog 50 3 = some (3, none) := by kernel_rfl
@[go_sem] theorem tb_p50_3 : plc Go.Proofs.Tryz.prog 50 3 = some (3, 1) := by kernel_rfl
@[go_sem] theorem tb_f50_0 : fo Go.Proofs.Tryz.prog 50 0 = some 0 := by kernel_rfl
@[go_sem] theorem tb_f50_1 : fo Go.Proofs.Tryz.prog 50 1 = some 1 := by kernel_rfl
@[go_sem] theorem tb_f50_2 : fo Go.Proofs.Tryz.prog 50 2 = some 2 := by kernel_rfl
@[go_sem] theorem tb_f50_3 : fo Go.Proofs.Tryz.prog 50 3 = some 3 := by kernel_rfl
@[go_sem] theorem tb_z50 : zrow Go.Proofs.Tryz.prog 50 = some (Ex.at Ex.zero) := by kernel_rfl
@[go_sem] theorem tb_l51 : ldk Go.Proofs.Tryz.prog 51 = some (some 23) := by kernel_rfl
@[go_sem] theorem tb_s51 : szo Go.Proofs.Tryz.prog 51 = some 23 := by kernel_rfl
@[go_sem] theorem tb_b51 : isBool Go.Proofs.Tryz.prog 51 = false := by kernel_rfl
@[go_sem] theorem tb_t51 : isStr Go.Proofs.Tryz.prog 51 = false := by kernel_rfl
@[go_sem] theorem tb_i51 : isSl Go.Proofs.Tryz.prog 51 = false := by kernel_rfl
@[go_sem] theorem tb_k51 : bOk Go.Proofs.Tryz.prog 51 = true := by kernel_rfl
@[go_sem] theorem tb_g51_0 : fo2 Go.Proofs.Tryz.prog 51 0 = some (0, none) := by kernel_rfl
@[go_sem] theorem tb_p51_0 : plc Go.Proofs.Tryz.prog 51 0 = some (0, 1) := by kernel_rfl
@[go_sem] theorem tb_g51_1 : fo2 Go.Proofs.Tryz.prog 51 1 = some (1, none) := by kernel_rfl
@[go_sem] theorem tb_p51_1 : plc Go.Proofs.Tryz.prog 51 1 = some (1, 1) := by kernel_rfl
@[go_sem] theorem tb_g51_2 : fo2 Go.Proofs.Tryz.prog 51 2 = some (2, none) := by kernel_rfl
@[go_sem] theorem tb_p51_2 : plc Go.Proofs.Tryz.prog 51 2 = some (2, 1) := by kernel_rfl
@[go_sem] theorem tb_g51_3 : fo2 Go.Proofs.Tryz.prog 51 3 = some (3, none) := by kernel_rfl
@[go_sem] theorem tb_p51_3 : plc Go.Proofs.Tryz.prog 51 3 = some (3, 1) := by kernel_rfl
@[go_sem] theorem tb_g51_4 : fo2 Go.Proofs.Tryz.prog 51 4 = some (4, some 11) := by kernel_rfl
@[go_sem] theorem tb_p51_4 : plc Go.Proofs.Tryz.prog 51 4 = some (4, 11) := by kernel_rfl
@[go_sem] theorem tb_g51_5 : fo2 Go.Proofs.Tryz.prog 51 5 = some (15, some 4) := by kernel_rfl
@[go_sem] theorem tb_p51_5 : plc Go.Proofs.Tryz.prog 51 5 = some (15, 4) := by kernel_rfl
@[go_sem] theorem tb_g51_6 : fo2 Go.Proofs.Tryz.prog 51 6 = some (19, none) := by kernel_rfl
@[go_sem] theorem tb_p51_6 : plc Go.Proofs.Tryz.prog 51 6 = some (19, 1) := by kernel_rfl
@[go_sem] theorem tb_g51_7 : fo2 Go.Proofs.Tryz.prog 51 7 = some (20, none) := by kernel_rfl
@[go_sem] theorem tb_p51_7 : plc Go.Proofs.Tryz.prog 51 7 = some (20, 1) := by kernel_rfl
@[go_sem] theorem tb_g51_8 : fo2 Go.Proofs.Tryz.prog 51 8 = some (21, none) := by kernel_rfl
@[go_sem] theorem tb_p51_8 : plc Go.Proofs.Tryz.prog 51 8 = some (21, 1) := by kernel_rfl
@[go_sem] theorem tb_g51_9 : fo2 Go.Proofs.Tryz.prog 51 9 = some (22, none) := by kernel_rfl
@[go_sem] theorem tb_p51_9 : plc Go.Proofs.Tryz.prog 51 9 = some (22, 1) := by kernel_rfl
@[go_sem] theorem tb_f51_0 : fo Go.Proofs.Tryz.prog 51 0 = some 0 := by kernel_rfl
@[go_sem] theorem tb_f51_1 : fo Go.Proofs.Tryz.prog 51 1 = some 1 := by kernel_rfl
@[go_sem] theorem tb_f51_2 : fo Go.Proofs.Tryz.prog 51 2 = some 2 := by kernel_rfl
@[go_sem] theorem tb_f51_3 : fo Go.Proofs.Tryz.prog 51 3 = some 3 := by kernel_rfl
@[go_sem] theorem tb_f51_4 : fo Go.Proofs.Tryz.prog 51 4 = some 4 := by kernel_rfl
@[go_sem] theorem tb_f51_5 : fo Go.Proofs.Tryz.prog 51 5 = some 15 := by kernel_rfl
@[go_sem] theorem tb_f51_6 : fo Go.Proofs.Tryz.prog 51 6 = some 19 := by kernel_rfl
@[go_sem] theorem tb_f51_7 : fo Go.Proofs.Tryz.prog 51 7 = some 20 := by kernel_rfl
@[go_sem] theorem tb_f51_8 : fo Go.Proofs.Tryz.prog 51 8 = some 21 := by kernel_rfl
@[go_sem] theorem tb_f51_9 : fo Go.Proofs.Tryz.prog 51 9 = some 22 := by kernel_rfl
@[go_sem] theorem tb_z51 : zrow Go.Proofs.Tryz.prog 51 = some [.v (.int .i64 0), .v (.string ⟨#[]⟩), .v (.string ⟨#[]⟩), .v (.string ⟨#[]⟩), .v (.int .i64 0), .v (.string ⟨#[]⟩), .v (.int .i64 0), .v (.int .i64 0), .v (.int .i64 0), .v (.int .i64 0), .v (.int .i64 0), .v (.int .i64 0), .v (.int .i64 0), .v (.int .i64 0), .v (.int .i64 0), .v (.int .i64 0), .v (.int .i64 0), .v (.string ⟨#[]⟩), .sl [], .sl [], .sl [], .sl [], .v (.int .i64 0)] := by kernel_rfl
@[go_sem] theorem tb_l52 : ldk Go.Proofs.Tryz.prog 52 = some (some 23) := by kernel_rfl
@[go_sem] theorem tb_s52 : szo Go.Proofs.Tryz.prog 52 = some 23 := by kernel_rfl
@[go_sem] theorem tb_b52 : isBool Go.Proofs.Tryz.prog 52 = false := by kernel_rfl
@[go_sem] theorem tb_t52 : isStr Go.Proofs.Tryz.prog 52 = false := by kernel_rfl
@[go_sem] theorem tb_i52 : isSl Go.Proofs.Tryz.prog 52 = false := by kernel_rfl
@[go_sem] theorem tb_k52 : bOk Go.Proofs.Tryz.prog 52 = true := by kernel_rfl
@[go_sem] theorem tb_g52_0 : fo2 Go.Proofs.Tryz.prog 52 0 = some (0, none) := by kernel_rfl
@[go_sem] theorem tb_p52_0 : plc Go.Proofs.Tryz.prog 52 0 = some (0, 1) := by kernel_rfl
@[go_sem] theorem tb_g52_1 : fo2 Go.Proofs.Tryz.prog 52 1 = some (1, none) := by kernel_rfl
@[go_sem] theorem tb_p52_1 : plc Go.Proofs.Tryz.prog 52 1 = some (1, 1) := by kernel_rfl
@[go_sem] theorem tb_g52_2 : fo2 Go.Proofs.Tryz.prog 52 2 = some (2, none) := by kernel_rfl
@[go_sem] theorem tb_p52_2 : plc Go.Proofs.Tryz.prog 52 2 = some (2, 1) := by kernel_rfl
@[go_sem] theorem tb_g52_3 : fo2 Go.Proofs.Tryz.prog 52 3 = some (3, none) := by kernel_rfl
@[go_sem] theorem tb_p52_3 : plc Go.Proofs.Tryz.prog 52 3 = some (3, 1) := by kernel_rfl
@[go_sem] theorem tb_g52_4 : fo2 Go.Proofs.Tryz.prog 52 4 = some (4, some 11) := by kernel_rfl
@[go_sem] theorem tb_p52_4 : plc Go.Proofs.Tryz.prog 52 4 = some (4, 11) := by kernel_rfl
@[go_sem] theorem tb_g52_5 : fo2 Go.Proofs.Tryz.prog 52 5 = some (15, some 4) := by kernel_rfl
@[go_sem] theorem tb_p52_5 : plc Go.Proofs.Tryz.prog 52 5 = some (15, 4) := by kernel_rfl
@[go_sem] theorem tb_g52_6 : fo2 Go.Proofs.Tryz.prog 52 6 = some (19, none) := by kernel_rfl
@[go_sem] theorem tb_p52_6 : plc Go.Proofs.Tryz.prog 52 6 = some (19, 1) := by kernel_rfl
@[go_sem] theorem tb_g52_7 : fo2 Go.Proofs.Tryz.prog 52 7 = some (20, none) := by kernel_rfl
@[go_sem] theorem tb_p52_7 : plc Go.Proofs.Tryz.prog 52 7 = some (20, 1) := by kernel_rfl
@[go_sem] theorem tb_g52_8 : fo2 Go.Proofs.Tryz.prog 52 8 = some (21, none) := by kernel_rfl
@[go_sem] theorem tb_p52_8 : plc Go.Proofs.Tryz.prog 52 8 = some (21, 1) := by kernel_rfl
@[go_sem] theorem tb_g52_9 : fo2 Go.Proofs.Tryz.prog 52 9 = some (22, none) := by kernel_rfl
@[go_sem] theorem tb_p52_9 : plc Go.Proofs.Tryz.prog 52 9 = some (22, 1) := by kernel_rfl
@[go_sem] theorem tb_f52_0 : fo Go.Proofs.Tryz.prog 52 0 = some 0 := by kernel_rfl
@[go_sem] theorem tb_f52_1 : fo Go.Proofs.Tryz.prog 52 1 = some 1 := by kernel_rfl
@[go_sem] theorem tb_f52_2 : fo Go.Proofs.Tryz.prog 52 2 = some 2 := by kernel_rfl
@[go_sem] theorem tb_f52_3 : fo Go.Proofs.Tryz.prog 52 3 = some 3 := by kernel_rfl
@[go_sem] theorem tb_f52_4 : fo Go.Proofs.Tryz.prog 52 4 = some 4 := by kernel_rfl
@[go_sem] theorem tb_f52_5 : fo Go.Proofs.Tryz.prog 52 5 = some 15 := by kernel_rfl
@[go_sem] theorem tb_f52_6 : fo Go.Proofs.Tryz.prog 52 6 = some 19 := by kernel_rfl
@[go_sem] theorem tb_f52_7 : fo Go.Proofs.Tryz.prog 52 7 = some 20 := by kernel_rfl
@[go_sem] theorem tb_f52_8 : fo Go.Proofs.Tryz.prog 52 8 = some 21 := by kernel_rfl
@[go_sem] theorem tb_f52_9 : fo Go.Proofs.Tryz.prog 52 9 = some 22 := by kernel_rfl
@[go_sem] theorem tb_z52 : zrow Go.Proofs.Tryz.prog 52 = some (St.at St.zero) := by kernel_rfl
@[go_sem] theorem tb_l53 : ldk Go.Proofs.Tryz.prog 53 = some none := by kernel_rfl
@[go_sem] theorem tb_s53 : szo Go.Proofs.Tryz.prog 53 = some 1 := by kernel_rfl
@[go_sem] theorem tb_l54 : ldk Go.Proofs.Tryz.prog 54 = some (some 13) := by kernel_rfl
@[go_sem] theorem tb_s54 : szo Go.Proofs.Tryz.prog 54 = some 13 := by kernel_rfl
@[go_sem] theorem tb_b54 : isBool Go.Proofs.Tryz.prog 54 = false := by kernel_rfl
@[go_sem] theorem tb_t54 : isStr Go.Proofs.Tryz.prog 54 = false := by kernel_rfl
@[go_sem] theorem tb_i54 : isSl Go.Proofs.Tryz.prog 54 = false := by kernel_rfl
@[go_sem] theorem tb_k54 : bOk Go.Proofs.Tryz.prog 54 = true := by kernel_rfl
@[go_sem] theorem tb_g54_0 : fo2 Go.Proofs.Tryz.prog 54 0 = some (0, none) := by kernel_rfl
@[go_sem] theorem tb_p54_0 : plc Go.Proofs.Tryz.prog 54 0 = some (0, 1) := by kernel_rfl
@[go_sem] theorem tb_g54_1 : fo2 Go.Proofs.Tryz.prog 54 1 = some (1, some 11) := by kernel_rfl
@[go_sem] theorem tb_p54_1 : plc Go.Proofs.Tryz.prog 54 1 = some (1, 11) := by kernel_rfl
@[go_sem] theorem tb_g54_2 : fo2 Go.Proofs.Tryz.prog 54 2 = some (12, none) := by kernel_rfl
@[go_sem] theorem tb_p54_2 : plc Go.Proofs.Tryz.prog 54 2 = some (12, 1) := by kernel_rfl
@[go_sem] theorem tb_f54_0 : fo Go.Proofs.Tryz.prog 54 0 = some 0 := by kernel_rfl
@[go_sem] theorem tb_f54_1 : fo Go.Proofs.Tryz.prog 54 1 = some 1 := by kernel_rfl
@[go_sem] theorem tb_f54_2 : fo Go.Proofs.Tryz.prog 54 2 = some 12 := by kernel_rfl
@[go_sem] theorem tb_z54 : zrow Go.Proofs.Tryz.prog 54 = some [.v (.string ⟨#[]⟩), .v (.int .i64 0), .v (.string ⟨#[]⟩), .v (.int .i64 0), .v (.int .i64 0), .v (.int .i64 0), .v (.int .i64 0), .v (.int .i64 0), .v (.int .i64 0), .v (.int .i64 0), .v (.int .i64 0), .v (.int .i64 0), .v (.int .i64 0)] := by kernel_rfl
@[go_sem] theorem tb_l55 : ldk Go.Proofs.Tryz.prog 55 = some (some 13) := by kernel_rfl
@[go_sem] theorem tb_s55 : szo Go.Proofs.Tryz.prog 55 = some 13 := by kernel_rfl
@[go_sem] theorem tb_b55 : isBool Go.Proofs.Tryz.prog 55 = false := by kernel_rfl
@[go_sem] theorem tb_t55 : isStr Go.Proofs.Tryz.prog 55 = false := by kernel_rfl
@[go_sem] theorem tb_i55 : isSl Go.Proofs.Tryz.prog 55 = false := by kernel_rfl
@[go_sem] theorem tb_k55 : bOk Go.Proofs.Tryz.prog 55 = true := by kernel_rfl
@[go_sem] theorem tb_g55_0 : fo2 Go.Proofs.Tryz.prog 55 0 = some (0, none) := by kernel_rfl
@[go_sem] theorem tb_p55_0 : plc Go.Proofs.Tryz.prog 55 0 = some (0, 1) := by kernel_rfl
@[go_sem] theorem tb_g55_1 : fo2 Go.Proofs.Tryz.prog 55 1 = some (1, some 11) := by kernel_rfl
@[go_sem] theorem tb_p55_1 : plc Go.Proofs.Tryz.prog 55 1 = some (1, 11) := by kernel_rfl
@[go_sem] theorem tb_g55_2 : fo2 Go.Proofs.Tryz.prog 55 2 = some (12, none) := by kernel_rfl
@[go_sem] theorem tb_p55_2 : plc Go.Proofs.Tryz.prog 55 2 = some (12, 1) := by kernel_rfl
@[go_sem] theorem tb_f55_0 : fo Go.Proofs.Tryz.prog 55 0 = some 0 := by kernel_rfl
@[go_sem] theorem tb_f55_1 : fo Go.Proofs.Tryz.prog 55 1 = some 1 := by kernel_rfl
@[go_sem] theorem tb_f55_2 : fo Go.Proofs.Tryz.prog 55 2 = some 12 := by kernel_rfl
@[go_sem] theorem tb_q55 : eqOk Go.Proofs.Tryz.prog 55 = some [2, 1, 2, 1, 1, 1, 1, 1, 1, 1, 1, 1, 1] := by kernel_rfl
@[go_sem] theorem tb_z55 : zrow Go.Proofs.Tryz.prog 55 = some (Vr.at Vr.zero) := by kernel_rfl
@[go_sem] theorem tb_l56 : ldk Go.Proofs.Tryz.prog 56 = some none := by kernel_rfl
@[go_sem] theorem tb_s56 : szo Go.Proofs.Tryz.prog 56 = some 1 := by kernel_rfl
@[go_sem] theorem tb_l57 : ldk Go.Proofs.Tryz.prog 57 = some none := by kernel_rfl
@[go_sem] theorem tb_s57 : szo Go.Proofs.Tryz.prog 57 = some 1 := by kernel_rfl
@[go_sem] theorem tb_l58 : ldk Go.Proofs.Tryz.prog 58 = some none := by kernel_rfl
@[go_sem] theorem tb_s58 : szo Go.Proofs.Tryz.prog 58 = some 1 := by kernel_rfl
@[go_sem] theorem tb_l59 : ldk Go.Proofs.Tryz.prog 59 = some none := by kernel_rfl
@[go_sem] theorem tb_s59 : szo Go.Proofs.Tryz.prog 59 = some 1 := by kernel_rfl
@[go_sem] theorem tb_l60 : ldk Go.Proofs.Tryz.prog 60 = some none := by kernel_rfl
@[go_sem] theorem tb_s60 : szo Go.Proofs.Tryz.prog 60 = some 1 := by kernel_rfl
@[go_sem] theorem tb_l61 : ldk Go.Proofs.Tryz.prog 61 = some none := by kernel_rfl
@[go_sem] theorem tb_s61 : szo Go.Proofs.Tryz.prog 61 = some 1 := by kernel_rfl
@[go_sem] theorem tb_l62 : ldk Go.Proofs.Tryz.prog 62 = some none := by kernel_rfl
@[go_sem] theorem tb_s62 : szo Go.Proofs.Tryz.prog 62 = some 1 := by kernel_rfl
@[go_sem] theorem tb_l63 : ldk Go.Proofs.Tryz.prog 63 = some none := by kernel_rfl
@[go_sem] theorem tb_s63 : szo Go.Proofs.Tryz.prog 63 = some 1 := by kernel_rfl
@[go_sem] theorem tb_l64 : ldk Go.Proofs.Tryz.prog 64 = some none := by kernel_rfl
@[go_sem] theorem tb_s64 : szo Go.Proofs.Tryz.prog 64 = some 1 := by kernel_rfl
@[go_sem] theorem tb_l65 : ldk Go.Proofs.Tryz.prog 65 = some none := by kernel_rfl
@[go_sem] theorem tb_s65 : szo Go.Proofs.Tryz.prog 65 = some 1 := by kernel_rfl
@[go_sem] theorem tb_l66 : ldk Go.Proofs.Tryz.prog 66 = some none := by kernel_rfl
@[go_sem] theorem tb_s66 : szo Go.Proofs.Tryz.prog 66 = some 1 := by kernel_rfl
@[go_sem] theorem tb_l67 : ldk Go.Proofs.Tryz.prog 67 = some none := by kernel_rfl
@[go_sem] theorem tb_s67 : szo Go.Proofs.Tryz.prog 67 = some 1 := by kernel_rfl
@[go_sem] theorem tb_l68 : ldk Go.Proofs.Tryz.prog 68 = some none := by kernel_rfl
@[go_sem] theorem tb_s68 : szo Go.Proofs.Tryz.prog 68 = some 1 := by kernel_rfl
@[go_sem] theorem tb_l69 : ldk Go.Proofs.Tryz.prog 69 = some none := by kernel_rfl
@[go_sem] theorem tb_s69 : szo Go.Proofs.Tryz.prog 69 = some 1 := by kernel_rfl
@[go_sem] theorem tb_b69 : isBool Go.Proofs.Tryz.prog 69 = false := by kernel_rfl
@[go_sem] theorem tb_t69 : isStr Go.Proofs.Tryz.prog 69 = false := by kernel_rfl
@[go_sem] theorem tb_i69 : isSl Go.Proofs.Tryz.prog 69 = true := by kernel_rfl
@[go_sem] theorem tb_e69 : es Go.Proofs.Tryz.prog 69 = some 11 := by kernel_rfl
@[go_sem] theorem tb_y69 : byt Go.Proofs.Tryz.prog 69 = some 96 := by kernel_rfl
@[go_sem] theorem tb_w69 : zrT Go.Proofs.Tryz.prog 69 = some (Ty.at Ty.zero) := by kernel_rfl
@[go_sem] theorem tb_z69 : zrow Go.Proofs.Tryz.prog 69 = some [.sl []] := by kernel_rfl
@[go_sem] theorem tb_l70 : ldk Go.Proofs.Tryz.prog 70 = some none := by kernel_rfl
@[go_sem] theorem tb_s70 : szo Go.Proofs.Tryz.prog 70 = some 1 := by kernel_rfl
@[go_sem] theorem tb_l71 : ldk Go.Proofs.Tryz.prog 71 = some none := by kernel_rfl
@[go_sem] theorem tb_s71 : szo Go.Proofs.Tryz.prog 71 = some 1 := by kernel_rfl
@[go_sem] theorem tb_l72 : ldk Go.Proofs.Tryz.prog 72 = some none := by kernel_rfl
@[go_sem] theorem tb_s72 : szo Go.Proofs.Tryz.prog 72 = some 1 := by kernel_rfl
@[go_sem] theorem tb_l73 : ldk Go.Proofs.Tryz.prog 73 = some none := by kernel_rfl
@[go_sem] theorem tb_s73 : szo Go.Proofs.Tryz.prog 73 = some 1 := by kernel_rfl
@[go_sem] theorem tb_l74 : ldk Go.Proofs.Tryz.prog 74 = some none := by kernel_rfl
@[go_sem] theorem tb_s74 : szo Go.Proofs.Tryz.prog 74 = some 1 := by kernel_rfl
@[go_sem] theorem tb_l75 : ldk Go.Proofs.Tryz.prog 75 = some none := by kernel_rfl
@[go_sem] theorem tb_s75 : szo Go.Proofs.Tryz.prog 75 = some 1 := by kernel_rfl
@[go_sem] theorem tb_l76 : ldk Go.Proofs.Tryz.prog 76 = some none := by kernel_rfl
@[go_sem] theorem tb_s76 : szo Go.Proofs.Tryz.prog 76 = some 1 := by kernel_rfl
@[go_sem] theorem tb_l77 : ldk Go.Proofs.Tryz.prog 77 = some none := by kernel_rfl
@[go_sem] theorem tb_s77 : szo Go.Proofs.Tryz.prog 77 = some 1 := by kernel_rfl
@[go_sem] theorem tb_l78 : ldk Go.Proofs.Tryz.prog 78 = some none := by kernel_rfl
@[go_sem] theorem tb_s78 : szo Go.Proofs.Tryz.prog 78 = some 1 := by kernel_rfl
@[go_sem] theorem tb_l79 : ldk Go.Proofs.Tryz.prog 79 = some none := by kernel_rfl
@[go_sem] theorem tb_s79 : szo Go.Proofs.Tryz.prog 79 = some 1 := by kernel_rfl
@[go_sem] theorem tb_l80 : ldk Go.Proofs.Tryz.prog 80 = some none := by kernel_rfl
@[go_sem] theorem tb_s80 : szo Go.Proofs.Tryz.prog 80 = some 1 := by kernel_rfl
@[go_sem] theorem tb_l81 : ldk Go.Proofs.Tryz.prog 81 = some none := by kernel_rfl
@[go_sem] theorem tb_s81 : szo Go.Proofs.Tryz.prog 81 = some 1 := by kernel_rfl
@[go_sem] theorem tb_l82 : ldk Go.Proofs.Tryz.prog 82 = some none := by kernel_rfl
@[go_sem] theorem tb_s82 : szo Go.Proofs.Tryz.prog 82 = some 1 := by kernel_rfl
@[go_sem] theorem tb_l83 : ldk Go.Proofs.Tryz.prog 83 = some none := by kernel_rfl
@[go_sem] theorem tb_s83 : szo Go.Proofs.Tryz.prog 83 = some 1 := by kernel_rfl
@[go_sem] theorem tb_l84 : ldk Go.Proofs.Tryz.prog 84 = some none := by kernel_rfl
@[go_sem] theorem tb_s84 : szo Go.Proofs.Tryz.prog 84 = some 1 := by kernel_rfl
@[go_sem] theorem tb_l85 : ldk Go.Proofs.Tryz.prog 85 = some none := by kernel_rfl
@[go_sem] theorem tb_s85 : szo Go.Proofs.Tryz.prog 85 = some 1 := by kernel_rfl
@[go_sem] theorem tb_l86 : ldk Go.Proofs.Tryz.prog 86 = some none := by kernel_rfl
@[go_sem] theorem tb_s86 : szo Go.Proofs.Tryz.prog 86 = some 1 := by kernel_rfl
@[go_sem] theorem tb_l87 : ldk Go.Proofs.Tryz.prog 87 = some none := by kernel_rfl
@[go_sem] theorem tb_s87 : szo Go.Proofs.Tryz.prog 87 = some 1 := by kernel_rfl
@[go_sem] theorem tb_l88 : ldk Go.Proofs.Tryz.prog 88 = some none := by kernel_rfl
@[go_sem] theorem tb_s88 : szo Go.Proofs.Tryz.prog 88 = some 1 := by kernel_rfl
@[go_sem] theorem tb_l89 : ldk Go.Proofs.Tryz.prog 89 = some none := by kernel_rfl
@[go_sem] theorem tb_s89 : szo Go.Proofs.Tryz.prog 89 = some 1 := by kernel_rfl
@[go_sem] theorem tb_l90 : ldk Go.Proofs.Tryz.prog 90 = some none := by kernel_rfl
@[go_sem] theorem tb_s90 : szo Go.Proofs.Tryz.prog 90 = some 1 := by kernel_rfl
@[go_sem] theorem tb_l91 : ldk Go.Proofs.Tryz.prog 91 = some none := by kernel_rfl
@[go_sem] theorem tb_s91 : szo Go.Proofs.Tryz.prog 91 = some 1 := by kernel_rfl
@[go_sem] theorem tb_l92 : ldk Go.Proofs.Tryz.prog 92 = some none := by kernel_rfl
@[go_sem] theorem tb_s92 : szo Go.Proofs.Tryz.prog 92 = some 1 := by kernel_rfl
@[go_sem] theorem tb_l93 : ldk Go.Proofs.Tryz.prog 93 = some none := by kernel_rfl
@[go_sem] theorem tb_s93 : szo Go.Proofs.Tryz.prog 93 = some 1 := by kernel_rfl
@[go_sem] theorem tb_l94 : ldk Go.Proofs.Tryz.prog 94 = some none := by kernel_rfl
@[go_sem] theorem tb_s94 : szo Go.Proofs.Tryz.prog 94 = some 1 := by kernel_rfl
@[go_sem] theorem tb_l95 : ldk Go.Proofs.Tryz.prog 95 = some none := by kernel_rfl
@[go_sem] theorem tb_s95 : szo Go.Proofs.Tryz.prog 95 = some 1 := by kernel_rfl
@[go_sem] theorem tb_l96 : ldk Go.Proofs.Tryz.prog 96 = some none := by kernel_rfl
@[go_sem] theorem tb_s96 : szo Go.Proofs.Tryz.prog 96 = some 1 := by kernel_rfl
@[go_sem] theorem tb_l97 : ldk Go.Proofs.Tryz.prog 97 = some none := by kernel_rfl
@[go_sem] theorem tb_s97 : szo Go.Proofs.Tryz.prog 97 = some 1 := by kernel_rfl
@[go_sem] theorem tb_b97 : isBool Go.Proofs.Tryz.prog 97 = false := by kernel_rfl
@[go_sem] theorem tb_t97 : isStr Go.Proofs.Tryz.prog 97 = false := by kernel_rfl
@[go_sem] theorem tb_i97 : isSl Go.Proofs.Tryz.prog 97 = true := by kernel_rfl
@[go_sem] theorem tb_e97 : es Go.Proofs.Tryz.prog 97 = some 1 := by kernel_rfl
@[go_sem] theorem tb_y97 : byt Go.Proofs.Tryz.prog 97 = some 1 := by kernel_rfl
@[go_sem] theorem tb_w97 : zrT Go.Proofs.Tryz.prog 97 = some [.v (.int .u8 0)] := by kernel_rfl
@[go_sem] theorem tb_z97 : zrow Go.Proofs.Tryz.prog 97 = some [.sl []] := by kernel_rfl
@[go_sem] theorem tb_l98 : ldk Go.Proofs.Tryz.prog 98 = some none := by kernel_rfl
@[go_sem] theorem tb_s98 : szo Go.Proofs.Tryz.prog 98 = some 1 := by kernel_rfl
@[go_sem] theorem tb_l99 : ldk Go.Proofs.Tryz.prog 99 = some none := by kernel_rfl
@[go_sem] theorem tb_s99 : szo Go.Proofs.Tryz.prog 99 = some 1 := by kernel_rfl
@[go_sem] theorem tb_l100 : ldk Go.Proofs.Tryz.prog 100 = some none := by kernel_rfl
@[go_sem] theorem tb_s100 : szo Go.Proofs.Tryz.prog 100 = some 1 := by kernel_rfl
@[go_sem] theorem tb_l101 : ldk Go.Proofs.Tryz.prog 101 = some none := by kernel_rfl
@[go_sem] theorem tb_s101 : szo Go.Proofs.Tryz.prog 101 = some 1 := by kernel_rfl
@[go_sem] theorem tb_l102 : ldk Go.Proofs.Tryz.prog 102 = some none := by kernel_rfl
@[go_sem] theorem tb_s102 : szo Go.Proofs.Tryz.prog 102 = some 1 := by kernel_rfl
@[go_sem] theorem tb_l103 : ldk Go.Proofs.Tryz.prog 103 = some none := by kernel_rfl
@[go_sem] theorem tb_s103 : szo Go.Proofs.Tryz.prog 103 = some 1 := by kernel_rfl
@[go_sem] theorem tb_l104 : ldk Go.Proofs.Tryz.prog 104 = some none := by kernel_rfl
@[go_sem] theorem tb_s104 : szo Go.Proofs.Tryz.prog 104 = some 1 := by kernel_rfl
@[go_sem] theorem tb_l105 : ldk Go.Proofs.Tryz.prog 105 = some (some 23) := by kernel_rfl
@[go_sem] theorem tb_s105 : szo Go.Proofs.Tryz.prog 105 = some 23 := by kernel_rfl
@[go_sem] theorem tb_b105 : isBool Go.Proofs.Tryz.prog 105 = false := by kernel_rfl
@[go_sem] theorem tb_t105 : isStr Go.Proofs.Tryz.prog 105 = false := by kernel_rfl
@[go_sem] theorem tb_i105 : isSl Go.Proofs.Tryz.prog 105 = false := by kernel_rfl
@[go_sem] theorem tb_a105 : ar Go.Proofs.Tryz.prog 105 = some (23, 1) := by kernel_rfl
@[go_sem] theorem tb_k105 : bOk Go.Proofs.Tryz.prog 105 = true := by kernel_rfl
@[go_sem] theorem tb_q105 : eqOk Go.Proofs.Tryz.prog 105 = some [2, 2, 2, 2, 2, 2, 2, 2, 2, 2, 2, 2, 2, 2, 2, 2, 2, 2, 2, 2, 2, 2, 2] := by kernel_rfl
@[go_sem] theorem tb_z105 : zrow Go.Proofs.Tryz.prog 105 = some [.v (.string ⟨#[]⟩), .v (.string ⟨#[]⟩), .v (.string ⟨#[]⟩), .v (.string ⟨#[]⟩), .v (.string ⟨#[]⟩), .v (.string ⟨#[]⟩), .v (.string ⟨#[]⟩), .v (.string ⟨#[]⟩), .v (.string ⟨#[]⟩), .v (.string ⟨#[]⟩), .v (.string ⟨#[]⟩), .v (.string ⟨#[]⟩), .v (.string ⟨#[]⟩), .v (.string ⟨#[]⟩), .v (.string ⟨#[]⟩), .v (.string ⟨#[]⟩), .v (.string ⟨#[]⟩), .v (.string ⟨#[]⟩), .v (.string ⟨#[]⟩), .v (.string ⟨#[]⟩), .v (.string ⟨#[]⟩), .v (.string ⟨#[]⟩), .v (.string ⟨#[]⟩)] := by kernel_rfl
@[go_sem] theorem tb_l106 : ldk Go.Proofs.Tryz.prog 106 = some none := by kernel_rfl
@[go_sem] theorem tb_s106 : szo Go.Proofs.Tryz.prog 106 = some 1 := by kernel_rfl
@[go_sem] theorem tb_l107 : ldk Go.Proofs.Tryz.prog 107 = some none := by kernel_rfl
@[go_sem] theorem tb_s107 : szo Go.Proofs.Tryz.prog 107 = some 1 := by kernel_rfl
@[go_sem] theorem tb_l108 : ldk Go.Proofs.Tryz.prog 108 = some none := by kernel_rfl
@[go_sem] theorem tb_s108 : szo Go.Proofs.Tryz.prog 108 = some 1 := by kernel_rfl
@[go_sem] theorem tb_l109 : ldk Go.Proofs.Tryz.prog 109 = some none := by kernel_rfl
@[go_sem] theorem tb_s109 : szo Go.Proofs.Tryz.prog 109 = some 1 := by kernel_rfl
@[go_sem] theorem tb_l110 : ldk Go.Proofs.Tryz.prog 110 = some none := by kernel_rfl
@[go_sem] theorem tb_s110 : szo Go.Proofs.Tryz.prog 110 = some 1 := by kernel_rfl
@[go_sem] theorem tb_l111 : ldk Go.Proofs.Tryz.prog 111 = some none := by kernel_rfl
@[go_sem] theorem tb_s111 : szo Go.Proofs.Tryz.prog 111 = some 1 := by kernel_rfl
@[go_sem] theorem tb_l112 : ldk Go.Proofs.Tryz.prog 112 = some none := by kernel_rfl
@[go_sem] theorem tb_s112 : szo Go.Proofs.Tryz.prog 112 = some 1 := by kernel_rfl
@[go_sem] theorem tb_l113 : ldk Go.Proofs.Tryz.prog 113 = some none := by kernel_rfl
@[go_sem] theorem tb_s113 : szo Go.Proofs.Tryz.prog 113 = some 1 := by kernel_rfl
@[go_sem] theorem tb_l114 : ldk Go.Proofs.Tryz.prog 114 = some none := by kernel_rfl
@[go_sem] theorem tb_s114 : szo Go.Proofs.Tryz.prog 114 = some 1 := by kernel_rfl
@[go_sem] theorem tb_l115 : ldk Go.Proofs.Tryz.prog 115 = some none := by kernel_rfl
@[go_sem] theorem tb_s115 : szo Go.Proofs.Tryz.prog 115 = some 1 := by kernel_rfl
@[go_sem] theorem tb_l116 : ldk Go.Proofs.Tryz.prog 116 = some none := by kernel_rfl
@[go_sem] theorem tb_s116 : szo Go.Proofs.Tryz.prog 116 = some 1 := by kernel_rfl
@[go_sem] theorem tb_l117 : ldk Go.Proofs.Tryz.prog 117 = some none := by kernel_rfl
@[go_sem] theorem tb_s117 : szo Go.Proofs.Tryz.prog 117 = some 1 := by kernel_rfl
@[go_sem] theorem tb_l118 : ldk Go.Proofs.Tryz.prog 118 = some none := by kernel_rfl
@[go_sem] theorem tb_s118 : szo Go.Proofs.Tryz.prog 118 = some 1 := by kernel_rfl
@[go_sem] theorem tb_l119 : ldk Go.Proofs.Tryz.prog 119 = some none := by kernel_rfl
@[go_sem] theorem tb_s119 : szo Go.Proofs.Tryz.prog 119 = some 1 := by kernel_rfl
@[go_sem] theorem tb_l120 : ldk Go.Proofs.Tryz.prog 120 = some none := by kernel_rfl
@[go_sem] theorem tb_s120 : szo Go.Proofs.Tryz.prog 120 = some 1 := by kernel_rfl
@[go_sem] theorem tb_l121 : ldk Go.Proofs.Tryz.prog 121 = some none := by kernel_rfl
@[go_sem] theorem tb_s121 : szo Go.Proofs.Tryz.prog 121 = some 1 := by kernel_rfl
@[go_sem] theorem tb_l122 : ldk Go.Proofs.Tryz.prog 122 = some none := by kernel_rfl
@[go_sem] theorem tb_s122 : szo Go.Proofs.Tryz.prog 122 = some 1 := by kernel_rfl
@[go_sem] theorem tb_l123 : ldk Go.Proofs.Tryz.prog 123 = some none := by kernel_rfl
@[go_sem] theorem tb_s123 : szo Go.Proofs.Tryz.prog 123 = some 1 := by kernel_rfl
@[go_sem] theorem tb_l124 : ldk Go.Proofs.Tryz.prog 124 = some none := by kernel_rfl
@[go_sem] theorem tb_s124 : szo Go.Proofs.Tryz.prog 124 = some 1 := by kernel_rfl
@[go_sem] theorem tb_l125 : ldk Go.Proofs.Tryz.prog 125 = some none := by kernel_rfl
@[go_sem] theorem tb_s125 : szo Go.Proofs.Tryz.prog 125 = some 1 := by kernel_rfl
@[go_sem] theorem tb_l126 : ldk Go.Proofs.Tryz.prog 126 = some none := by kernel_rfl
@[go_sem] theorem tb_s126 : szo Go.Proofs.Tryz.prog 126 = some 1 := by kernel_rfl
@[go_sem] theorem tb_l127 : ldk Go.Proofs.Tryz.prog 127 = some none := by kernel_rfl
@[go_sem] theorem tb_s127 : szo Go.Proofs.Tryz.prog 127 = some 1 := by kernel_rfl
@[go_sem] theorem tb_l128 : ldk Go.Proofs.Tryz.prog 128 = some (some 4) := by kernel_rfl
@[go_sem] theorem tb_s128 : szo Go.Proofs.Tryz.prog 128 = some 4 := by kernel_rfl
@[go_sem] theorem tb_b128 : isBool Go.Proofs.Tryz.prog 128 = false := by kernel_rfl
@[go_sem] theorem tb_t128 : isStr Go.Proofs.Tryz.prog 128 = false := by kernel_rfl
@[go_sem] theorem tb_i128 : isSl Go.Proofs.Tryz.prog 128 = false := by kernel_rfl
@[go_sem] theorem tb_k128 : bOk Go.Proofs.Tryz.prog 128 = true := by kernel_rfl
@[go_sem] theorem tb_g128_0 : fo2 Go.Proofs.Tryz.prog 128 0 = some (0, none) := by kernel_rfl
@[go_sem] theorem tb_p128_0 : plc Go.Proofs.Tryz.prog 128 0 = some (0, 1) := by kernel_rfl
@[go_sem] theorem tb_g128_1 : fo2 Go.Proofs.Tryz.prog 128 1 = some (1, none) := by kernel_rfl
@[go_sem] theorem tb_p128_1 : plc Go.Proofs.Tryz.prog 128 1 = some (1, 1) := by kernel_rfl
@[go_sem] theorem tb_g128_2 : fo2 Go.Proofs.Tryz.prog 128 2 = some (2, none) := by kernel_rfl
@[go_sem] theorem tb_p128_2 : plc Go.Proofs.Tryz.prog 128 2 = some (2, 1) := by kernel_rfl
@[go_sem] theorem tb_g128_3 : fo2 Go.Proofs.Tryz.prog 128 3 = some (3, none) := by kernel_rfl
@[go_sem] theorem tb_p128_3 : plc Go.Proofs.Tryz.prog 128 3 = some (3, 1) := by kernel_rfl
@[go_sem] theorem tb_f128_0 : fo Go.Proofs.Tryz.prog 128 0 = some 0 := by kernel_rfl
@[go_sem] theorem tb_f128_1 : fo Go.Proofs.Tryz.prog 128 1 = some 1 := by kernel_rfl
@[go_sem] theorem tb_f128_2 : fo Go.Proofs.Tryz.prog 128 2 = some 2 := by kernel_rfl
@[go_sem] theorem tb_f128_3 : fo Go.Proofs.Tryz.prog 128 3 = some 3 := by kernel_rfl
@[go_sem] theorem tb_l129 : ldk Go.Proofs.Tryz.prog 129 = some (some 4) := by kernel_rfl
@[go_sem] theorem tb_s129 : szo Go.Proofs.Tryz.prog 129 = some 4 := by kernel_rfl
@[go_sem] theorem tb_b129 : isBool Go.Proofs.Tryz.prog 129 = false := by kernel_rfl
@[go_sem] theorem tb_t129 : isStr Go.Proofs.Tryz.prog 129 = false := by kernel_rfl
@[go_sem] theorem tb_i129 : isSl Go.Proofs.Tryz.prog 129 = false := by kernel_rfl
@[go_sem] theorem tb_k129 : bOk Go.Proofs.Tryz.prog 129 = true := by kernel_rfl
@[go_sem] theorem tb_g129_0 : fo2 Go.Proofs.Tryz.prog 129 0 = some (0, none) := by kernel_rfl
@[go_sem] theorem tb_p129_0 : plc Go.Proofs.Tryz.prog 129 0 = some (0, 1) := by kernel_rfl
@[go_sem] theorem tb_g129_1 : fo2 Go.Proofs.Tryz.prog 129 1 = some (1, none) := by kernel_rfl
@[go_sem] theorem tb_p129_1 : plc Go.Proofs.Tryz.prog 129 1 = some (1, 1) := by kernel_rfl
@[go_sem] theorem tb_g129_2 : fo2 Go.Proofs.Tryz.prog 129 2 = some (2, none) := by kernel_rfl
@[go_sem] theorem tb_p129_2 : plc Go.Proofs.Tryz.prog 129 2 = some (2, 1) := by kernel_rfl
@[go_sem] theorem tb_g129_3 : fo2 Go.Proofs.Tryz.prog 129 3 = some (3, none) := by kernel_rfl
@[go_sem] theorem tb_p129_3 : plc Go.Proofs.Tryz.prog 129 3 = some (3, 1) := by kernel_rfl
@[go_sem] theorem tb_f129_0 : fo Go.Proofs.Tryz.prog 129 0 = some 0 := by kernel_rfl
@[go_sem] theorem tb_f129_1 : fo Go.Proofs.Tryz.prog 129 1 = some 1 := by kernel_rfl
@[go_sem] theorem tb_f129_2 : fo Go.Proofs.Tryz.prog 129 2 = some 2 := by kernel_rfl
@[go_sem] theorem tb_f129_3 : fo Go.Proofs.Tryz.prog 129 3 = some 3 := by kernel_rfl
@[go_sem] theorem tb_l130 : ldk Go.Proofs.Tryz.prog 130 = some (some 0) := by kernel_rfl
@[go_sem] theorem tb_s130 : szo Go.Proofs.Tryz.prog 130 = some 0 := by kernel_rfl
@[go_sem] theorem tb_b130 : isBool Go.Proofs.Tryz.prog 130 = false := by kernel_rfl
@[go_sem] theorem tb_t130 : isStr Go.Proofs.Tryz.prog 130 = false := by kernel_rfl
@[go_sem] theorem tb_i130 : isSl Go.Proofs.Tryz.prog 130 = false := by kernel_rfl
@[go_sem] theorem tb_a130 : ar Go.Proofs.Tryz.prog 130 = some (0, 1) := by kernel_rfl
@[go_sem] theorem tb_k130 : bOk Go.Proofs.Tryz.prog 130 = true := by kernel_rfl
@[go_sem] theorem tb_z130 : zrow Go.Proofs.Tryz.prog 130 = some [] := by kernel_rfl
@[go_sem] theorem tb_l131 : ldk Go.Proofs.Tryz.prog 131 = some (some 0) := by kernel_rfl
@[go_sem] theorem tb_s131 : szo Go.Proofs.Tryz.prog 131 = some 0 := by kernel_rfl
@[go_sem] theorem tb_b131 : isBool Go.Proofs.Tryz.prog 131 = false := by kernel_rfl
@[go_sem] theorem tb_t131 : isStr Go.Proofs.Tryz.prog 131 = false := by kernel_rfl
@[go_sem] theorem tb_i131 : isSl Go.Proofs.Tryz.prog 131 = false := by kernel_rfl
@[go_sem] theorem tb_k131 : bOk Go.Proofs.Tryz.prog 131 = true := by kernel_rfl
@[go_sem] theorem tb_g131_0 : fo2 Go.Proofs.Tryz.prog 131 0 = some (0, some 0) := by kernel_rfl
@[go_sem] theorem tb_p131_0 : plc Go.Proofs.Tryz.prog 131 0 = some (0, 0) := by kernel_rfl
@[go_sem] theorem tb_z131 : zrow Go.Proofs.Tryz.prog 131 = some [] := by kernel_rfl
@[go_sem] theorem tb_l132 : ldk Go.Proofs.Tryz.prog 132 = some (some 0) := by kernel_rfl
@[go_sem] theorem tb_s132 : szo Go.Proofs.Tryz.prog 132 = some 0 := by kernel_rfl
@[go_sem] theorem tb_b132 : isBool Go.Proofs.Tryz.prog 132 = false := by kernel_rfl
@[go_sem] theorem tb_t132 : isStr Go.Proofs.Tryz.prog 132 = false := by kernel_rfl
@[go_sem] theorem tb_i132 : isSl Go.Proofs.Tryz.prog 132 = false := by kernel_rfl
@[go_sem] theorem tb_k132 : bOk Go.Proofs.Tryz.prog 132 = true := by kernel_rfl
@[go_sem] theorem tb_g132_0 : fo2 Go.Proofs.Tryz.prog 132 0 = some (0, some 0) := by kernel_rfl
@[go_sem] theorem tb_p132_0 : plc Go.Proofs.Tryz.prog 132 0 = some (0, 0) := by kernel_rfl
@[go_sem] theorem tb_z132 : zrow Go.Proofs.Tryz.prog 132 = some [] := by kernel_rfl
@[go_sem] theorem tb_l133 : ldk Go.Proofs.Tryz.prog 133 = some none := by kernel_rfl
@[go_sem] theorem tb_s133 : szo Go.Proofs.Tryz.prog 133 = some 1 := by kernel_rfl
@[go_sem] theorem tb_l134 : ldk Go.Proofs.Tryz.prog 134 = some none := by kernel_rfl
@[go_sem] theorem tb_s134 : szo Go.Proofs.Tryz.prog 134 = some 1 := by kernel_rfl
@[go_sem] theorem tb_b134 : isBool Go.Proofs.Tryz.prog 134 = false := by kernel_rfl
@[go_sem] theorem tb_t134 : isStr Go.Proofs.Tryz.prog 134 = false := by kernel_rfl
@[go_sem] theorem tb_i134 : isSl Go.Proofs.Tryz.prog 134 = false := by kernel_rfl
@[go_sem] theorem tb_z134 : zrow Go.Proofs.Tryz.prog 134 = some [.v (.int .u32 0)] := by kernel_rfl
@[go_sem] theorem tb_l135 : ldk Go.Proofs.Tryz.prog 135 = some none := by kernel_rfl
@[go_sem] theorem tb_s135 : szo Go.Proofs.Tryz.prog 135 = some 1 := by kernel_rfl
@[go_sem] theorem tb_b135 : isBool Go.Proofs.Tryz.prog 135 = false := by kernel_rfl
@[go_sem] theorem tb_t135 : isStr Go.Proofs.Tryz.prog 135 = false := by kernel_rfl
@[go_sem] theorem tb_i135 : isSl Go.Proofs.Tryz.prog 135 = false := by kernel_rfl
@[go_sem] theorem tb_z135 : zrow Go.Proofs.Tryz.prog 135 = some [.v (.int .u8 0)] := by kernel_rfl
@[go_sem] theorem tb_l136 : ldk Go.Proofs.Tryz.prog 136 = some none := by kernel_rfl
@[go_sem] theorem tb_s136 : szo Go.Proofs.Tryz.prog 136 = some 1 := by kernel_rfl
@[go_sem] theorem tb_b136 : isBool Go.Proofs.Tryz.prog 136 = false := by kernel_rfl
@[go_sem] theorem tb_t136 : isStr Go.Proofs.Tryz.prog 136 = false := by kernel_rfl
@[go_sem] theorem tb_i136 : isSl Go.Proofs.Tryz.prog 136 = false := by kernel_rfl
@[go_sem] theorem tb_z136 : zrow Go.Proofs.Tryz.prog 136 = some [.v (.int .u8 0)] := by kernel_rfl
@[go_sem] theorem tb_l137 : ldk Go.Proofs.Tryz.prog 137 = some none := by kernel_rfl
@[go_sem] theorem tb_s137 : szo Go.Proofs.Tryz.prog 137 = some 1 := by kernel_rfl
@[go_sem] theorem tb_l138 : ldk Go.Proofs.Tryz.prog 138 = some none := by kernel_rfl
@[go_sem] theorem tb_s138 : szo Go.Proofs.Tryz.prog 138 = some 1 := by kernel_rfl
@[go_sem] theorem tb_l139 : ldk Go.Proofs.Tryz.prog 139 = some none := by kernel_rfl
@[go_sem] theorem tb_s139 : szo Go.Proofs.Tryz.prog 139 = some 1 := by kernel_rfl
@[go_sem] theorem tb_b139 : isBool Go.Proofs.Tryz.prog 139 = false := by kernel_rfl
@[go_sem] theorem tb_t139 : isStr Go.Proofs.Tryz.prog 139 = false := by kernel_rfl
@[go_sem] theorem tb_i139 : isSl Go.Proofs.Tryz.prog 139 = false := by kernel_rfl
@[go_sem] theorem tb_z139 : zrow Go.Proofs.Tryz.prog 139 = some [.v (.int .i32 0)] := by kernel_rfl
@[go_sem] theorem tb_l140 : ldk Go.Proofs.Tryz.prog 140 = some none := by kernel_rfl
@[go_sem] theorem tb_s140 : szo Go.Proofs.Tryz.prog 140 = some 1 := by kernel_rfl
@[go_sem] theorem tb_b140 : isBool Go.Proofs.Tryz.prog 140 = false := by kernel_rfl
@[go_sem] theorem tb_t140 : isStr Go.Proofs.Tryz.prog 140 = false := by kernel_rfl
@[go_sem] theorem tb_i140 : isSl Go.Proofs.Tryz.prog 140 = false := by kernel_rfl
@[go_sem] theorem tb_z140 : zrow Go.Proofs.Tryz.prog 140 = some [.v (.int .i32 0)] := by kernel_rfl
@[go_sem] theorem tb_l141 : ldk Go.Proofs.Tryz.prog 141 = some (some 11) := by kernel_rfl
@[go_sem] theorem tb_s141 : szo Go.Proofs.Tryz.prog 141 = some 11 := by kernel_rfl
@[go_sem] theorem tb_b141 : isBool Go.Proofs.Tryz.prog 141 = false := by kernel_rfl
@[go_sem] theorem tb_t141 : isStr Go.Proofs.Tryz.prog 141 = false := by kernel_rfl
@[go_sem] theorem tb_i141 : isSl Go.Proofs.Tryz.prog 141 = false := by kernel_rfl
@[go_sem] theorem tb_k141 : bOk Go.Proofs.Tryz.prog 141 = true := by kernel_rfl
@[go_sem] theorem tb_g141_0 : fo2 Go.Proofs.Tryz.prog 141 0 = some (0, none) := by kernel_rfl
@[go_sem] theorem tb_p141_0 : plc Go.Proofs.Tryz.prog 141 0 = some (0, 1) := by kernel_rfl
@[go_sem] theorem tb_g141_1 : fo2 Go.Proofs.Tryz.prog 141 1 = some (1, none) := by kernel_rfl
@[go_sem] theorem tb_p141_1 : plc Go.Proofs.Tryz.prog 141 1 = some (1, 1) := by kernel_rfl
@[go_sem] theorem tb_g141_2 : fo2 Go.Proofs.Tryz.prog 141 2 = some (2, none) := by kernel_rfl
@[go_sem] theorem tb_p141_2 : plc Go.Proofs.Tryz.prog 141 2 = some (2, 1) := by kernel_rfl
@[go_sem] theorem tb_g141_3 : fo2 Go.Proofs.Tryz.prog 141 3 = some (3, none) := by kernel_rfl
@[go_sem] theorem tb_p141_3 : plc Go.Proofs.Tryz.prog 141 3 = some (3, 1) := by kernel_rfl
@[go_sem] theorem tb_g141_4 : fo2 Go.Proofs.Tryz.prog 141 4 = some (4, none) := by kernel_rfl
@[go_sem] theorem tb_p141_4 : plc Go.Proofs.Tryz.prog 141 4 = some (4, 1) := by kernel_rfl
@[go_sem] theorem tb_g141_5 : fo2 Go.Proofs.Tryz.prog 141 5 = some (5, none) := by kernel_rfl
@[go_sem] theorem tb_p141_5 : plc Go.Proofs.Tryz.prog 141 5 = some (5, 1) := by kernel_rfl
@[go_sem] theorem tb_g141_6 : fo2 Go.Proofs.Tryz.prog 141 6 = some (6, none) := by kernel_rfl
@[go_sem] theorem tb_p141_6 : plc Go.Proofs.Tryz.prog 141 6 = some (6, 1) := by kernel_rfl
@[go_sem] theorem tb_g141_7 : fo2 Go.Proofs.Tryz.prog 141 7 = some (7, none) := by kernel_rfl
@[go_sem] theorem tb_p141_7 : plc Go.Proofs.Tryz.prog 141 7 = some (7, 1) := by kernel_rfl
@[go_sem] theorem tb_g141_8 : fo2 Go.Proofs.Tryz.prog 141 8 = some (8, none) := by kernel_rfl
@[go_sem] theorem tb_p141_8 : plc Go.Proofs.Tryz.prog 141 8 = some (8, 1) := by kernel_rfl
@[go_sem] theorem tb_g141_9 : fo2 Go.Proofs.Tryz.prog 141 9 = some (9, none) := by kernel_rfl
@[go_sem] theorem tb_p141_9 : plc Go.Proofs.Tryz.prog 141 9 = some (9, 1) := by kernel_rfl
@[go_sem] theorem tb_g141_10 : fo2 Go.Proofs.Tryz.prog 141 10 = some (10, none) := by kernel_rfl
@[go_sem] theorem tb_p141_10 : plc Go.Proofs.Tryz.prog 141 10 = some (10, 1) := by kernel_rfl
@[go_sem] theorem tb_f141_0 : fo Go.Proofs.Tryz.prog 141 0 = some 0 := by kernel_rfl
@[go_sem] theorem tb_f141_1 : fo Go.Proofs.Tryz.prog 141 1 = some 1 := by kernel_rfl
@[go_sem] theorem tb_f141_2 : fo Go.Proofs.Tryz.prog 141 2 = some 2 := by kernel_rfl
@[go_sem] theorem tb_f141_3 : fo Go.Proofs.Tryz.prog 141 3 = some 3 := by kernel_rfl
@[go_sem] theorem tb_f141_4 : fo Go.Proofs.Tryz.prog 141 4 = some 4 := by kernel_rfl
@[go_sem] theorem tb_f141_5 : fo Go.Proofs.Tryz.prog 141 5 = some 5 := by kernel_rfl
@[go_sem] theorem tb_f141_6 : fo Go.Proofs.Tryz.prog 141 6 = some 6 := by kernel_rfl
@[go_sem] theorem tb_f141_7 : fo Go.Proofs.Tryz.prog 141 7 = some 7 := by kernel_rfl
@[go_sem] theorem tb_f141_8 : fo Go.Proofs.Tryz.prog 141 8 = some 8 := by kernel_rfl
@[go_sem] theorem tb_f141_9 : fo Go.Proofs.Tryz.prog 141 9 = some 9 := by kernel_rfl
@[go_sem] theorem tb_f141_10 : fo Go.Proofs.Tryz.prog 141 10 = some 10 := by kernel_rfl
@[go_sem] theorem tb_l142 : ldk Go.Proofs.Tryz.prog 142 = some (some 11) := by kernel_rfl
@[go_sem] theorem tb_s142 : szo Go.Proofs.Tryz.prog 142 = some 11 := by kernel_rfl
@[go_sem] theorem tb_b142 : isBool Go.Proofs.Tryz.prog 142 = false := by kernel_rfl
@[go_sem] theorem tb_t142 : isStr Go.Proofs.Tryz.prog 142 = false := by kernel_rfl
@[go_sem] theorem tb_i142 : isSl Go.Proofs.Tryz.prog 142 = false := by kernel_rfl
@[go_sem] theorem tb_k142 : bOk Go.Proofs.Tryz.prog 142 = true := by kernel_rfl
@[go_sem] theorem tb_g142_0 : fo2 Go.Proofs.Tryz.prog 142 0 = some (0, none) := by kernel_rfl
@[go_sem] theorem tb_p142_0 : plc Go.Proofs.Tryz.prog 142 0 = some (0, 1) := by kernel_rfl
@[go_sem] theorem tb_g142_1 : fo2 Go.Proofs.Tryz.prog 142 1 = some (1, none) := by kernel_rfl
@[go_sem] theorem tb_p142_1 : plc Go.Proofs.Tryz.prog 142 1 = some (1, 1) := by kernel_rfl
@[go_sem] theorem tb_g142_2 : fo2 Go.Proofs.Tryz.prog 142 2 = some (2, none) := by kernel_rfl
@[go_sem] theorem tb_p142_2 : plc Go.Proofs.Tryz.prog 142 2 = some (2, 1) := by kernel_rfl
@[go_sem] theorem tb_g142_3 : fo2 Go.Proofs.Tryz.prog 142 3 = some (3, none) := by kernel_rfl
@[go_sem] theorem tb_p142_3 : plc Go.Proofs.Tryz.prog 142 3 = some (3, 1) := by kernel_rfl
@[go_sem] theorem tb_g142_4 : fo2 Go.Proofs.Tryz.prog 142 4 = some (4, none) := by kernel_rfl
@[go_sem] theorem tb_p142_4 : plc Go.Proofs.Tryz.prog 142 4 = some (4, 1) := by kernel_rfl
@[go_sem] theorem tb_g142_5 : fo2 Go.Proofs.Tryz.prog 142 5 = some (5, none) := by kernel_rfl
@[go_sem] theorem tb_p142_5 : plc Go.Proofs.Tryz.prog 142 5 = some (5, 1) := by kernel_rfl
@[go_sem] theorem tb_g142_6 : fo2 Go.Proofs.Tryz.prog 142 6 = some (6, none) := by kernel_rfl
@[go_sem] theorem tb_p142_6 : plc Go.Proofs.Tryz.prog 142 6 = some (6, 1) := by kernel_rfl
@[go_sem] theorem tb_g142_7 : fo2 Go.Proofs.Tryz.prog 142 7 = some (7, none) := by kernel_rfl
@[go_sem] theorem tb_p142_7 : plc Go.Proofs.Tryz.prog 142 7 = some (7, 1) := by kernel_rfl
@[go_sem] theorem tb_g142_8 : fo2 Go.Proofs.Tryz.prog 142 8 = some (8, none) := by kernel_rfl
@[go_sem] theorem tb_p142_8 : plc Go.Proofs.Tryz.prog 142 8 = some (8, 1) := by kernel_rfl
@[go_sem] theorem tb_g142_9 : fo2 Go.Proofs.Tryz.prog 142 9 = some (9, none) := by kernel_rfl
@[go_sem] theorem tb_p142_9 : plc Go.Proofs.Tryz.prog 142 9 = some (9, 1) := by kernel_rfl
@[go_sem] theorem tb_g142_10 : fo2 Go.Proofs.Tryz.prog 142 10 = some (10, none) := by kernel_rfl
@[go_sem] theorem tb_p142_10 : plc Go.Proofs.Tryz.prog 142 10 = some (10, 1) := by kernel_rfl
@[go_sem] theorem tb_f142_0 : fo Go.Proofs.Tryz.prog 142 0 = some 0 := by kernel_rfl
@[go_sem] theorem tb_f142_1 : fo Go.Proofs.Tryz.prog 142 1 = some 1 := by kernel_rfl
@[go_sem] theorem tb_f142_2 : fo Go.Proofs.Tryz.prog 142 2 = some 2 := by kernel_rfl
@[go_sem] theorem tb_f142_3 : fo Go.Proofs.Tryz.prog 142 3 = some 3 := by kernel_rfl
@[go_sem] theorem tb_f142_4 : fo Go.Proofs.Tryz.prog 142 4 = some 4 := by kernel_rfl
@[go_sem] theorem tb_f142_5 : fo Go.Proofs.Tryz.prog 142 5 = some 5 := by kernel_rfl
@[go_sem] theorem tb_f142_6 : fo Go.Proofs.Tryz.prog 142 6 = some 6 := by kernel_rfl
@[go_sem] theorem tb_f142_7 : fo Go.Proofs.Tryz.prog 142 7 = some 7 := by kernel_rfl
@[go_sem] theorem tb_f142_8 : fo Go.Proofs.Tryz.prog 142 8 = some 8 := by kernel_rfl
@[go_sem] theorem tb_f142_9 : fo Go.Proofs.Tryz.prog 142 9 = some 9 := by kernel_rfl
@[go_sem] theorem tb_f142_10 : fo Go.Proofs.Tryz.prog 142 10 = some 10 := by kernel_rfl
@[go_sem] theorem tb_l143 : ldk Go.Proofs.Tryz.prog 143 = some none := by kernel_rfl
@[go_sem] theorem tb_s143 : szo Go.Proofs.Tryz.prog 143 = some 1 := by kernel_rfl
@[go_sem] theorem tb_b143 : isBool Go.Proofs.Tryz.prog 143 = false := by kernel_rfl
@[go_sem] theorem tb_t143 : isStr Go.Proofs.Tryz.prog 143 = false := by kernel_rfl
@[go_sem] theorem tb_i143 : isSl Go.Proofs.Tryz.prog 143 = false := by kernel_rfl
end Go.Proofs.YtiokbbjejchfbaaGreatDoor
