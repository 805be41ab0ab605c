/- The table of types of this program: how each is read, where fields lie, zero values; by reckoning. Conditions: none. -/
import Derived.Test.YtofmlhpcobjfcaaDoorMg10
import Derived.Test.YtofmlhpcobjfcaaDoorProg
import Derived.Test.YtofmlhpcobjfcaaDoorMg11
set_option linter.unusedVariables false
set_option linter.unusedSimpArgs false
namespace Go.Proofs.YtofmlhpcobjfcaaDoor
open Go.RowKit
theorem tb_mix : Go.Proofs.Tryd.prog.follows .mixedOrders = true := by kernel_rfl
@[go_sem] theorem tb_l3 : ldk Go.Proofs.Tryd.prog 3 = some none := by kernel_rfl
@[go_sem] theorem tb_s3 : szo Go.Proofs.Tryd.prog 3 = some 1 := by kernel_rfl
@[go_sem] theorem tb_b3 : isBool Go.Proofs.Tryd.prog 3 = false := by kernel_rfl
@[go_sem] theorem tb_z3 : zrow Go.Proofs.Tryd.prog 3 = some [.v (.int .i64 0)] := by kernel_rfl
@[go_sem] theorem tb_l4 : ldk Go.Proofs.Tryd.prog 4 = some none := by kernel_rfl
@[go_sem] theorem tb_s4 : szo Go.Proofs.Tryd.prog 4 = some 1 := by kernel_rfl
@[go_sem] theorem tb_b4 : isBool Go.Proofs.Tryd.prog 4 = true := by kernel_rfl
@[go_sem] theorem tb_z4 : zrow Go.Proofs.Tryd.prog 4 = some [.v (.bool false)] := by kernel_rfl
@[go_sem] theorem tb_l9 : ldk Go.Proofs.Tryd.prog 9 = some none := by kernel_rfl
@[go_sem] theorem tb_b9 : isBool Go.Proofs.Tryd.prog 9 = false := by kernel_rfl
@[go_sem] theorem tb_i22 : isSl Go.Proofs.Tryd.prog 22 = true := by kernel_rfl
@[go_sem] theorem tb_e22 : es Go.Proofs.Tryd.prog 22 = some 7 := by kernel_rfl
@[go_sem] theorem tb_y22 : byt Go.Proofs.Tryd.prog 22 = some 136 := by kernel_rfl
@[go_sem] theorem tb_w22 : zrT Go.Proofs.Tryd.prog 22 = some (Cs.at Cs.zero) := by kernel_rfl
@[go_sem] theorem tb_l26 : ldk Go.Proofs.Tryd.prog 26 = some none := by kernel_rfl
@[go_sem] theorem tb_s26 : szo Go.Proofs.Tryd.prog 26 = some 1 := by kernel_rfl
@[go_sem] theorem tb_b26 : isBool Go.Proofs.Tryd.prog 26 = false := by kernel_rfl
@[go_sem] theorem tb_i26 : isSl Go.Proofs.Tryd.prog 26 = true := by kernel_rfl
@[go_sem] theorem tb_e26 : es Go.Proofs.Tryd.prog 26 = some 1 := by kernel_rfl
@[go_sem] theorem tb_y26 : byt Go.Proofs.Tryd.prog 26 = some 16 := by kernel_rfl
@[go_sem] theorem tb_w26 : zrT Go.Proofs.Tryd.prog 26 = some [.v (.string ⟨#[]⟩)] := by kernel_rfl
@[go_sem] theorem tb_l27 : ldk Go.Proofs.Tryd.prog 27 = some none := by kernel_rfl
@[go_sem] theorem tb_s27 : szo Go.Proofs.Tryd.prog 27 = some 1 := by kernel_rfl
@[go_sem] theorem tb_b27 : isBool Go.Proofs.Tryd.prog 27 = false := by kernel_rfl
@[go_sem] theorem tb_i27 : isSl Go.Proofs.Tryd.prog 27 = true := by kernel_rfl
@[go_sem] theorem tb_e27 : es Go.Proofs.Tryd.prog 27 = some 2 := by kernel_rfl
@[go_sem] theorem tb_y27 : byt Go.Proofs.Tryd.prog 27 = some 16 := by kernel_rfl
@[go_sem] theorem tb_w27 : zrT Go.Proofs.Tryd.prog 27 = some (owAt (0, 0)) := by kernel_rfl
@[go_sem] theorem tb_l28 : ldk Go.Proofs.Tryd.prog 28 = some none := by kernel_rfl
@[go_sem] theorem tb_s28 : szo Go.Proofs.Tryd.prog 28 = some 1 := by kernel_rfl
@[go_sem] theorem tb_i28 : isSl Go.Proofs.Tryd.prog 28 = true := by kernel_rfl
@[go_sem] theorem tb_e28 : es Go.Proofs.Tryd.prog 28 = some 13 := by kernel_rfl
@[go_sem] theorem tb_y28 : byt Go.Proofs.Tryd.prog 28 = some 120 := by kernel_rfl
@[go_sem] theorem tb_w28 : zrT Go.Proofs.Tryd.prog 28 = some (Vr.at Vr.zero) := by kernel_rfl
@[go_sem] theorem tb_l29 : ldk Go.Proofs.Tryd.prog 29 = some none := by kernel_rfl
@[go_sem] theorem tb_s29 : szo Go.Proofs.Tryd.prog 29 = some 1 := by kernel_rfl
@[go_sem] theorem tb_i29 : isSl Go.Proofs.Tryd.prog 29 = true := by kernel_rfl
@[go_sem] theorem tb_e29 : es Go.Proofs.Tryd.prog 29 = some 17 := by kernel_rfl
@[go_sem] theorem tb_y29 : byt Go.Proofs.Tryd.prog 29 = some 200 := by kernel_rfl
@[go_sem] theorem tb_w29 : zrT Go.Proofs.Tryd.prog 29 = some (Me.at Me.zero) := by kernel_rfl
@[go_sem] theorem tb_l31 : ldk Go.Proofs.Tryd.prog 31 = some (some 7) := by kernel_rfl
@[go_sem] theorem tb_s31 : szo Go.Proofs.Tryd.prog 31 = some 7 := by kernel_rfl
@[go_sem] theorem tb_k31 : bOk Go.Proofs.Tryd.prog 31 = true := by kernel_rfl
@[go_sem] theorem tb_p31_0 : plc Go.Proofs.Tryd.prog 31 0 = some (0, 1) := by kernel_rfl
@[go_sem] theorem tb_p31_4 : plc Go.Proofs.Tryd.prog 31 4 = some (4, 1) := by kernel_rfl
@[go_sem] theorem tb_f31_0 : fo Go.Proofs.Tryd.prog 31 0 = some 0 := by kernel_rfl
@[go_sem] theorem tb_f31_1 : fo Go.Proofs.Tryd.prog 31 1 = some 1 := by kernel_rfl
@[go_sem] theorem tb_f31_2 : fo Go.Proofs.Tryd.prog 31 2 = some 2 := by kernel_rfl
@[go_sem] theorem tb_f31_3 : fo Go.Proofs.Tryd.prog 31 3 = some 3 := by kernel_rfl
@[go_sem] theorem tb_f31_4 : fo Go.Proofs.Tryd.prog 31 4 = some 4 := by kernel_rfl
@[go_sem] theorem tb_f31_5 : fo Go.Proofs.Tryd.prog 31 5 = some 5 := by kernel_rfl
@[go_sem] theorem tb_f31_6 : fo Go.Proofs.Tryd.prog 31 6 = some 6 := by kernel_rfl
@[go_sem] theorem tb_z31 : zrow Go.Proofs.Tryd.prog 31 = some (Cs.at Cs.zero) := by kernel_rfl
@[go_sem] theorem tb_l42 : ldk Go.Proofs.Tryd.prog 42 = some (some 2) := by kernel_rfl
@[go_sem] theorem tb_s42 : szo Go.Proofs.Tryd.prog 42 = some 2 := by kernel_rfl
@[go_sem] theorem tb_b42 : isBool Go.Proofs.Tryd.prog 42 = false := by kernel_rfl
@[go_sem] theorem tb_k42 : bOk Go.Proofs.Tryd.prog 42 = true := by kernel_rfl
@[go_sem] theorem tb_p42_0 : plc Go.Proofs.Tryd.prog 42 0 = some (0, 1) := by kernel_rfl
@[go_sem] theorem tb_f42_0 : fo Go.Proofs.Tryd.prog 42 0 = some 0 := by kernel_rfl
@[go_sem] theorem tb_f42_1 : fo Go.Proofs.Tryd.prog 42 1 = some 1 := by kernel_rfl
@[go_sem] theorem tb_q42 : eqOk Go.Proofs.Tryd.prog 42 = some [1, 1] := by kernel_rfl
@[go_sem] theorem tb_z42 : zrow Go.Proofs.Tryd.prog 42 = some (owAt (0, 0)) := by kernel_rfl
@[go_sem] theorem tb_a43 : ar Go.Proofs.Tryd.prog 43 = some (4, 2) := by kernel_rfl
@[go_sem] theorem tb_k43 : bOk Go.Proofs.Tryd.prog 43 = true := by kernel_rfl
@[go_sem] theorem tb_z43 : zrow Go.Proofs.Tryd.prog 43 = some [.v (.int .i64 0), .v (.int .i64 0), .v (.int .i64 0), .v (.int .i64 0), .v (.int .i64 0), .v (.int .i64 0), .v (.int .i64 0), .v (.int .i64 0)] := by kernel_rfl
@[go_sem] theorem tb_l45 : ldk Go.Proofs.Tryd.prog 45 = some (some 11) := by kernel_rfl
@[go_sem] theorem tb_s45 : szo Go.Proofs.Tryd.prog 45 = some 11 := by kernel_rfl
@[go_sem] theorem tb_b45 : isBool Go.Proofs.Tryd.prog 45 = false := by kernel_rfl
@[go_sem] theorem tb_k45 : bOk Go.Proofs.Tryd.prog 45 = true := by kernel_rfl
@[go_sem] theorem tb_p45_0 : plc Go.Proofs.Tryd.prog 45 0 = some (0, 1) := by kernel_rfl
@[go_sem] theorem tb_p45_1 : plc Go.Proofs.Tryd.prog 45 1 = some (1, 1) := by kernel_rfl
@[go_sem] theorem tb_p45_3 : plc Go.Proofs.Tryd.prog 45 3 = some (3, 8) := by kernel_rfl
@[go_sem] theorem tb_f45_0 : fo Go.Proofs.Tryd.prog 45 0 = some 0 := by kernel_rfl
@[go_sem] theorem tb_f45_1 : fo Go.Proofs.Tryd.prog 45 1 = some 1 := by kernel_rfl
@[go_sem] theorem tb_f45_2 : fo Go.Proofs.Tryd.prog 45 2 = some 2 := by kernel_rfl
@[go_sem] theorem tb_f45_3 : fo Go.Proofs.Tryd.prog 45 3 = some 3 := by kernel_rfl
@[go_sem] theorem tb_q45 : eqOk Go.Proofs.Tryd.prog 45 = some [1, 2, 1, 1, 1, 1, 1, 1, 1, 1, 1] := by kernel_rfl
@[go_sem] theorem tb_z45 : zrow Go.Proofs.Tryd.prog 45 = some (Ty.at Ty.zero) := by kernel_rfl
@[go_sem] theorem tb_l47 : ldk Go.Proofs.Tryd.prog 47 = some (some 13) := by kernel_rfl
@[go_sem] theorem tb_s47 : szo Go.Proofs.Tryd.prog 47 = some 13 := by kernel_rfl
@[go_sem] theorem tb_k47 : bOk Go.Proofs.Tryd.prog 47 = true := by kernel_rfl
@[go_sem] theorem tb_p47_0 : plc Go.Proofs.Tryd.prog 47 0 = some (0, 1) := by kernel_rfl
@[go_sem] theorem tb_p47_1 : plc Go.Proofs.Tryd.prog 47 1 = some (1, 11) := by kernel_rfl
@[go_sem] theorem tb_f47_0 : fo Go.Proofs.Tryd.prog 47 0 = some 0 := by kernel_rfl
@[go_sem] theorem tb_f47_1 : fo Go.Proofs.Tryd.prog 47 1 = some 1 := by kernel_rfl
@[go_sem] theorem tb_f47_2 : fo Go.Proofs.Tryd.prog 47 2 = some 12 := by kernel_rfl
@[go_sem] theorem tb_z47 : zrow Go.Proofs.Tryd.prog 47 = some (Vr.at Vr.zero) := by kernel_rfl
@[go_sem] theorem tb_l50 : ldk Go.Proofs.Tryd.prog 50 = some none := by kernel_rfl
@[go_sem] theorem tb_s50 : szo Go.Proofs.Tryd.prog 50 = some 1 := by kernel_rfl
@[go_sem] theorem tb_i50 : isSl Go.Proofs.Tryd.prog 50 = true := by kernel_rfl
@[go_sem] theorem tb_e50 : es Go.Proofs.Tryd.prog 50 = some 23 := by kernel_rfl
@[go_sem] theorem tb_y50 : byt Go.Proofs.Tryd.prog 50 = some 288 := by kernel_rfl
@[go_sem] theorem tb_w50 : zrT Go.Proofs.Tryd.prog 50 = some (St.at St.zero) := by kernel_rfl
@[go_sem] theorem tb_l52 : ldk Go.Proofs.Tryd.prog 52 = some (some 17) := by kernel_rfl
@[go_sem] theorem tb_s52 : szo Go.Proofs.Tryd.prog 52 = some 17 := by kernel_rfl
@[go_sem] theorem tb_f52_0 : fo Go.Proofs.Tryd.prog 52 0 = some 0 := by kernel_rfl
@[go_sem] theorem tb_f52_1 : fo Go.Proofs.Tryd.prog 52 1 = some 1 := by kernel_rfl
@[go_sem] theorem tb_f52_2 : fo Go.Proofs.Tryd.prog 52 2 = some 2 := by kernel_rfl
@[go_sem] theorem tb_f52_3 : fo Go.Proofs.Tryd.prog 52 3 = some 13 := by kernel_rfl
@[go_sem] theorem tb_f52_4 : fo Go.Proofs.Tryd.prog 52 4 = some 14 := by kernel_rfl
@[go_sem] theorem tb_f52_5 : fo Go.Proofs.Tryd.prog 52 5 = some 15 := by kernel_rfl
@[go_sem] theorem tb_f52_6 : fo Go.Proofs.Tryd.prog 52 6 = some 16 := by kernel_rfl
@[go_sem] theorem tb_z52 : zrow Go.Proofs.Tryd.prog 52 = some (Me.at Me.zero) := by kernel_rfl
@[go_sem] theorem tb_l55 : ldk Go.Proofs.Tryd.prog 55 = some none := by kernel_rfl
@[go_sem] theorem tb_s55 : szo Go.Proofs.Tryd.prog 55 = some 1 := by kernel_rfl
@[go_sem] theorem tb_i55 : isSl Go.Proofs.Tryd.prog 55 = true := by kernel_rfl
@[go_sem] theorem tb_e55 : es Go.Proofs.Tryd.prog 55 = some 4 := by kernel_rfl
@[go_sem] theorem tb_y55 : byt Go.Proofs.Tryd.prog 55 = some 56 := by kernel_rfl
@[go_sem] theorem tb_w55 : zrT Go.Proofs.Tryd.prog 55 = some (Ex.at Ex.zero) := by kernel_rfl
@[go_sem] theorem tb_z55 : zrow Go.Proofs.Tryd.prog 55 = some [.sl []] := by kernel_rfl
@[go_sem] theorem tb_l57 : ldk Go.Proofs.Tryd.prog 57 = some (some 4) := by kernel_rfl
@[go_sem] theorem tb_s57 : szo Go.Proofs.Tryd.prog 57 = some 4 := by kernel_rfl
@[go_sem] theorem tb_k57 : bOk Go.Proofs.Tryd.prog 57 = true := by kernel_rfl
@[go_sem] theorem tb_f57_0 : fo Go.Proofs.Tryd.prog 57 0 = some 0 := by kernel_rfl
@[go_sem] theorem tb_f57_1 : fo Go.Proofs.Tryd.prog 57 1 = some 1 := by kernel_rfl
@[go_sem] theorem tb_f57_2 : fo Go.Proofs.Tryd.prog 57 2 = some 2 := by kernel_rfl
@[go_sem] theorem tb_f57_3 : fo Go.Proofs.Tryd.prog 57 3 = some 3 := by kernel_rfl
@[go_sem] theorem tb_z57 : zrow Go.Proofs.Tryd.prog 57 = some (Ex.at Ex.zero) := by kernel_rfl
@[go_sem] theorem tb_l59 : ldk Go.Proofs.Tryd.prog 59 = some (some 23) := by kernel_rfl
@[go_sem] theorem tb_s59 : szo Go.Proofs.Tryd.prog 59 = some 23 := by kernel_rfl
@[go_sem] theorem tb_f59_0 : fo Go.Proofs.Tryd.prog 59 0 = some 0 := by kernel_rfl
@[go_sem] theorem tb_f59_1 : fo Go.Proofs.Tryd.prog 59 1 = some 1 := by kernel_rfl
@[go_sem] theorem tb_f59_2 : fo Go.Proofs.Tryd.prog 59 2 = some 2 := by kernel_rfl
@[go_sem] theorem tb_f59_3 : fo Go.Proofs.Tryd.prog 59 3 = some 3 := by kernel_rfl
@[go_sem] theorem tb_f59_4 : fo Go.Proofs.Tryd.prog 59 4 = some 4 := by kernel_rfl
@[go_sem] theorem tb_f59_5 : fo Go.Proofs.Tryd.prog 59 5 = some 15 := by kernel_rfl
@[go_sem] theorem tb_f59_6 : fo Go.Proofs.Tryd.prog 59 6 = some 19 := by kernel_rfl
@[go_sem] theorem tb_f59_7 : fo Go.Proofs.Tryd.prog 59 7 = some 20 := by kernel_rfl
@[go_sem] theorem tb_f59_8 : fo Go.Proofs.Tryd.prog 59 8 = some 21 := by kernel_rfl
@[go_sem] theorem tb_f59_9 : fo Go.Proofs.Tryd.prog 59 9 = some 22 := by kernel_rfl
@[go_sem] theorem tb_z59 : zrow Go.Proofs.Tryd.prog 59 = some (St.at St.zero) := by kernel_rfl
@[go_sem] theorem tb_l62 : ldk Go.Proofs.Tryd.prog 62 = some (some 7) := by kernel_rfl
@[go_sem] theorem tb_s62 : szo Go.Proofs.Tryd.prog 62 = some 7 := by kernel_rfl
@[go_sem] theorem tb_b62 : isBool Go.Proofs.Tryd.prog 62 = false := by kernel_rfl
@[go_sem] theorem tb_k62 : bOk Go.Proofs.Tryd.prog 62 = true := by kernel_rfl
@[go_sem] theorem tb_p62_0 : plc Go.Proofs.Tryd.prog 62 0 = some (0, 1) := by kernel_rfl
@[go_sem] theorem tb_p62_1 : plc Go.Proofs.Tryd.prog 62 1 = some (1, 1) := by kernel_rfl
@[go_sem] theorem tb_g62_4 : fo2 Go.Proofs.Tryd.prog 62 4 = some (4, none) := by kernel_rfl
@[go_sem] theorem tb_p62_6 : plc Go.Proofs.Tryd.prog 62 6 = some (6, 1) := by kernel_rfl
@[go_sem] theorem tb_f62_1 : fo Go.Proofs.Tryd.prog 62 1 = some 1 := by kernel_rfl
@[go_sem] theorem tb_f62_2 : fo Go.Proofs.Tryd.prog 62 2 = some 2 := by kernel_rfl
@[go_sem] theorem tb_f62_3 : fo Go.Proofs.Tryd.prog 62 3 = some 3 := by kernel_rfl
@[go_sem] theorem tb_f62_4 : fo Go.Proofs.Tryd.prog 62 4 = some 4 := by kernel_rfl
@[go_sem] theorem tb_f62_5 : fo Go.Proofs.Tryd.prog 62 5 = some 5 := by kernel_rfl
@[go_sem] theorem tb_f62_6 : fo Go.Proofs.Tryd.prog 62 6 = some 6 := by kernel_rfl
@[go_sem] theorem tb_q62 : eqOk Go.Proofs.Tryd.prog 62 = some [1, 1, 1, 1, 1, 1, 1] := by kernel_rfl
@[go_sem] theorem tb_z62 : zrow Go.Proofs.Tryd.prog 62 = some [.v (.int .i64 0), .v (.int .i64 0), .v (.int .i64 0), .v (.int .i64 0), .v (.int .i64 0), .v (.int .i64 0), .v (.int .i64 0)] := by kernel_rfl
@[go_sem] theorem tb_i114 : isSl Go.Proofs.Tryd.prog 114 = true := by kernel_rfl
@[go_sem] theorem tb_e114 : es Go.Proofs.Tryd.prog 114 = some 11 := by kernel_rfl
@[go_sem] theorem tb_y114 : byt Go.Proofs.Tryd.prog 114 = some 96 := by kernel_rfl
@[go_sem] theorem tb_w114 : zrT Go.Proofs.Tryd.prog 114 = some (Ty.at Ty.zero) := by kernel_rfl
end Go.Proofs.YtofmlhpcobjfcaaDoor
namespace Go.Proofs.YtofmlhpcobjfcaaDoor
open Go.RowKit
end Go.Proofs.YtofmlhpcobjfcaaDoor
namespace Go.Proofs.YtofmlhpcobjfcaaDoor
open Go.RowKit
def owB (o : Int × Int) (p : Int) : Bool :=
  if o.1 = 3 then decide (0 < o.2) && decide (o.2 ≤ p) else if o.1 = 7 then decide (0 ≤ o.2) else (o.1 == 1 || o.1 == 2 || o.1 == 4 || o.1 == 5 || o.1 == 6) && o.2 == 0
def Ty.own (t : Ty) : List (Int × Int) := [t.o0, t.o1, t.o2, t.o3]
/-- Layer 5: may a type be? -/
def tyB (t : Ty) (p : Int) : Bool :=
  if t.kind = 0 ∨ t.kind = 1 then decide (t = { Ty.zero with kind := t.kind })
  else if t.kind = 2 then nameB t.cls && decide (0 ≤ t.n) && decide (t.n ≤ 3) && (t.own.take (t.n.toNat + 1)).all (fun o => owB o p) && ((t.own.take (t.n.toNat + 1)).drop 1).all (fun o => o.1 != 6) && (t.own.drop (t.n.toNat + 1)).all (fun o => decide (o = (0, 0)))
  else false
/-- Layer 10: open at most at its owner. -/
def wrB (t : Ty) (p : Int) : Bool := tyB t p && t.o1.1 != 7 && t.o2.1 != 7 && t.o3.1 != 7 && (t.o0.1 != 7 || t.o0.2 == 0)
def vrB (p : Int) (v : Vr) : Bool := v.ty.kind != 0 && nameB v.name && wrB v.ty p
def vrsB (l : List Vr) (most : Nat) (p : Int) : Bool := decide (l.length ≤ most) && l.all (vrB p)
/-- May an owner stand at this place? -/
def okAt (n p : Int) (i : Nat) (o : Int × Int) : Bool := bif decide (n < (i : Int)) then decide (o = (0, 0)) else owB o p && (i == 0 || o.1 != 6)
theorem ty2 (t : Ty) (p : Int) (h2 : t.kind = 2) : tyB t p = (nameB t.cls && (decide (0 ≤ t.n) && (decide (t.n ≤ 3) && (okAt t.n p 0 t.o0 && (okAt t.n p 1 t.o1 && (okAt t.n p 2 t.o2 && okAt t.n p 3 t.o3)))))) := by
  obtain ⟨k, cls, n, o0, o1, o2, o3⟩ := t
  dsimp only at h2 ⊢
  subst h2
  show (nameB cls && decide (0 ≤ n) && decide (n ≤ 3) && (([o0, o1, o2, o3] : List (Int × Int)).take (n.toNat + 1)).all (fun o => owB o p) && ((([o0, o1, o2, o3] : List (Int × Int)).take (n.toNat + 1)).drop 1).all (fun o => o.1 != 6) && (([o0, o1, o2, o3] : List (Int × Int)).drop (n.toNat + 1)).all (fun o => decide (o = (0, 0)))) = _
  by_cases h0 : 0 ≤ n
  · by_cases h3 : n ≤ 3
    · have : n = 0 ∨ n = 1 ∨ n = 2 ∨ n = 3 := by omega
      rcases this with rfl | rfl | rfl | rfl
      · show (nameB cls && true && true && (owB o0 p && true) && true && (decide (o1 = (0, 0)) && (decide (o2 = (0, 0)) && (decide (o3 = (0, 0)) && true)))) = (nameB cls && (true && (true && ((owB o0 p && true) && (decide (o1 = (0, 0)) && (decide (o2 = (0, 0)) && decide (o3 = (0, 0))))))))
        cases nameB cls <;> cases owB o0 p <;> cases decide (o1 = (0, 0)) <;> cases decide (o2 = (0, 0)) <;> cases decide (o3 = (0, 0)) <;> rfl
      · show (nameB cls && true && true && (owB o0 p && (owB o1 p && true)) && ((o1.1 != 6) && true) && (decide (o2 = (0, 0)) && (decide (o3 = (0, 0)) && true))) = (nameB cls && (true && (true && ((owB o0 p && true) && ((owB o1 p && (false || o1.1 != 6)) && (decide (o2 = (0, 0)) && decide (o3 = (0, 0))))))))
        cases nameB cls <;> cases owB o0 p <;> cases owB o1 p <;> cases (o1.1 != 6) <;> cases decide (o2 = (0, 0)) <;> cases decide (o3 = (0, 0)) <;> rfl
      · show (nameB cls && true && true && (owB o0 p && (owB o1 p && (owB o2 p && true))) && ((o1.1 != 6) && ((o2.1 != 6) && true)) && (decide (o3 = (0, 0)) && true)) = (nameB cls && (true && (true && ((owB o0 p && true) && ((owB o1 p && (false || o1.1 != 6)) && ((owB o2 p && (false || o2.1 != 6)) && decide (o3 = (0, 0))))))))
        cases nameB cls <;> cases owB o0 p <;> cases owB o1 p <;> cases (o1.1 != 6) <;> cases owB o2 p <;> cases (o2.1 != 6) <;> cases decide (o3 = (0, 0)) <;> rfl
      · show (nameB cls && true && true && (owB o0 p && (owB o1 p && (owB o2 p && (owB o3 p && true)))) && ((o1.1 != 6) && ((o2.1 != 6) && ((o3.1 != 6) && true))) && true) = (nameB cls && (true && (true && ((owB o0 p && true) && ((owB o1 p && (false || o1.1 != 6)) && ((owB o2 p && (false || o2.1 != 6)) && (owB o3 p && (false || o3.1 != 6))))))))
        cases nameB cls <;> cases owB o0 p <;> cases owB o1 p <;> cases (o1.1 != 6) <;> cases owB o2 p <;> cases (o2.1 != 6) <;> cases owB o3 p <;> cases (o3.1 != 6) <;> rfl
    · rw [decide_eq_false h3]; cases nameB cls <;> cases decide (0 ≤ n) <;> rfl
  · rw [decide_eq_false h0]; cases nameB cls <;> rfl
theorem ty_own_ld (t : Ty) : ldRow (some 2) (Ty.at t) 3 = some (.r (owAt t.o0)) ∧ ldRow (some 2) (Ty.at t) 5 = some (.r (owAt t.o1)) ∧ ldRow (some 2) (Ty.at t) 7 = some (.r (owAt t.o2)) ∧ ldRow (some 2) (Ty.at t) 9 = some (.r (owAt t.o3)) := by
  obtain ⟨k, cls, n, ⟨a0, b0⟩, ⟨a1, b1⟩, ⟨a2, b2⟩, ⟨a3, b3⟩⟩ := t
  exact ⟨rfl, rfl, rfl, rfl⟩
end Go.Proofs.YtofmlhpcobjfcaaDoor
namespace Go.Proofs.YtofmlhpcobjfcaaDoor
open Go.RowKit
theorem take_snocA {α : Type} {l : List α} {m : Nat} {p : α} (h : l[m]? = some p) : l.take (m + 1) = l.take m ++ [p] := by
  rw [List.take_add_one, h]; rfl
namespace Ex
mutual
def sz : Ex → Nat
  | ⟨_, _, s, l⟩ => 1 + s.length + szs l
def szs : List Ex → Nat
  | [] => 0
  | e :: r => e.sz + szs r
end
mutual
def deep : Ex → Nat
  | ⟨_, _, _, l⟩ => 1 + deeps l
def deeps : List Ex → Nat
  | [] => 0
  | e :: r => max e.deep (deeps r)
end
def kidsN (k : Int) : Int := if (decide (k ≥ 6) && decide (k ≤ 11) || k == 14) = true then 2 else if (k == 12 || k == 13) = true then 1 else 0
def plainB (e : Ex) : Bool :=
  !(decide (e.kind < 1) || decide (e.kind > 14) || ((e.kids.length : Int) != kidsN e.kind) || (e.kind != 1 && e.num != 0) || (e.kind != 2 && !(e.name == [])) || decide (e.num < 0) || decide (e.num > 999999999) || (e.kind == 2 && !nameB e.name))
def kidB (k z : Int) : Bool := !(k == 13 && z != 2 && z != 3 || k == 14 && z != 2 && z != 3 && z != 4)
mutual
def formB : Ex → Bool
  | ⟨k, n, s, l⟩ => plainB ⟨k, n, s, l⟩ && formsB k l
def formsB (k : Int) : List Ex → Bool
  | [] => true
  | e :: r => (e.formB && kidB k e.kind) && formsB k r
end
def rightB (e : Ex) : Bool := e.formB && decide (e.deep ≤ 20)
mutual
def sameB : Ex → Ex → Bool
  | ⟨k, n, s, l⟩, ⟨k', n', s', l'⟩ => k == k' && (n == n' && (s == s' && samesB l l'))
def samesB : List Ex → List Ex → Bool
  | [], [] => true
  | e :: r, f :: t => e.sameB f && samesB r t
  | _, _ => false
end
theorem sz_eq (e : Ex) : e.sz = 1 + e.name.length + szs e.kids := by cases e; rfl
theorem deep_eq (e : Ex) : e.deep = 1 + deeps e.kids := by cases e; rfl
theorem form_eq (e : Ex) : e.formB = (plainB e && formsB e.kind e.kids) := by cases e; rfl
theorem same_eq (e f : Ex) : e.sameB f = (e.kind == f.kind && (e.num == f.num && (e.name == f.name && samesB e.kids f.kids))) := by cases e; cases f; rfl
theorem szs_mem : ∀ {l : List Ex} {k : Ex}, k ∈ l → k.sz ≤ szs l
  | e :: r, k, h => by
    rw [szs]
    rcases List.mem_cons.1 h with rfl | h
    · omega
    · have := szs_mem h; omega
theorem sz_pos (e : Ex) : 0 < e.sz := by rw [sz_eq]; omega
theorem szs_len : ∀ l : List Ex, l.length ≤ szs l
  | [] => Nat.le_refl _
  | e :: r => by have := szs_len r; have := sz_pos e; rw [szs, List.length_cons]; omega
theorem kid_lt {e k : Ex} (h : k ∈ e.kids) : k.sz < e.sz := by have := szs_mem h; rw [sz_eq e]; omega
theorem deeps_app : ∀ (l m : List Ex), deeps (l ++ m) = max (deeps l) (deeps m)
  | [], m => by rw [List.nil_append, deeps]; omega
  | e :: r, m => by rw [List.cons_append, deeps, deeps, deeps_app r m]; omega
theorem deeps_one (e : Ex) : deeps [e] = e.deep := by rw [deeps, deeps]; omega
theorem deeps_le : ∀ l : List Ex, (∀ e ∈ l, e.deep ≤ e.sz) → deeps l ≤ szs l
  | [], _ => Nat.le_refl _
  | e :: r, h => by
    rw [deeps, szs]
    have := h e (by simp)
    have := deeps_le r fun k hk => h k (by simp [hk])
    omega
theorem deep_le : ∀ (m : Nat) (e : Ex), e.sz ≤ m → e.deep ≤ e.sz
  | 0, e, h => by have := sz_pos e; omega
  | m + 1, e, h => by
    rw [deep_eq, sz_eq]
    have := deeps_le e.kids fun k hk => deep_le m k (by have := kid_lt hk; omega)
    omega
theorem samesB_zip : ∀ {l m : List Ex}, l.length = m.length → samesB l m = (l.zip m).all fun p => p.1.sameB p.2
  | [], [], _ => rfl
  | e :: r, f :: t, h => by rw [samesB, List.zip_cons_cons, List.all_cons, samesB_zip (by simpa using h)]
theorem samesB_len : ∀ {l m : List Ex}, l.length ≠ m.length → samesB l m = false
  | [], [], h => absurd rfl h
  | [], _ :: _, _ => rfl
  | _ :: _, [], _ => rfl
  | e :: r, f :: t, h => by rw [samesB, samesB_len (by simpa using h), Bool.and_false]
end Ex
end Go.Proofs.YtofmlhpcobjfcaaDoor
