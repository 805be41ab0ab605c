/- The table of types of this program: how each is read, where fields lie, zero values; by reckoning. Conditions: none. -/
import Derived.Test.YtofmlhpcobjfcaaDoorMg10
import Derived.Test.YtofmlhpcobjfcaaDoorProg
set_option linter.unusedVariables false
set_option linter.unusedSimpArgs false
namespace Go.Proofs.YtofmlhpcobjfcaaDoor
open Go.RowKit
theorem tb_mix : Go.Proofs.Tryd.prog.follows .mixedOrders = true := by kernel_rfl
@[go_sem] theorem tb_l3 : ldk Go.Proofs.Tryd.prog 3 = some none := by kernel_rfl
@[go_sem] theorem tb_s3 : szo Go.Proofs.Tryd.prog 3 = some 1 := by kernel_rfl
@[go_sem] theorem tb_b3 : isBool Go.Proofs.Tryd.prog 3 = false := by kernel_rfl
@[go_sem] theorem tb_i3 : isSl Go.Proofs.Tryd.prog 3 = false := by kernel_rfl
@[go_sem] theorem tb_z3 : zrow Go.Proofs.Tryd.prog 3 = some [.v (.int .i64 0)] := by kernel_rfl
@[go_sem] theorem tb_l4 : ldk Go.Proofs.Tryd.prog 4 = some none := by kernel_rfl
@[go_sem] theorem tb_s4 : szo Go.Proofs.Tryd.prog 4 = some 1 := by kernel_rfl
@[go_sem] theorem tb_i4 : isSl Go.Proofs.Tryd.prog 4 = false := by kernel_rfl
@[go_sem] theorem tb_z4 : zrow Go.Proofs.Tryd.prog 4 = some [.v (.bool false)] := by kernel_rfl
@[go_sem] theorem tb_l9 : ldk Go.Proofs.Tryd.prog 9 = some none := by kernel_rfl
@[go_sem] theorem tb_b9 : isBool Go.Proofs.Tryd.prog 9 = false := by kernel_rfl
@[go_sem] theorem tb_l22 : ldk Go.Proofs.Tryd.prog 22 = some none := by kernel_rfl
@[go_sem] theorem tb_i22 : isSl Go.Proofs.Tryd.prog 22 = true := by kernel_rfl
@[go_sem] theorem tb_e22 : es Go.Proofs.Tryd.prog 22 = some 7 := by kernel_rfl
@[go_sem] theorem tb_y22 : byt Go.Proofs.Tryd.prog 22 = some 136 := by kernel_rfl
@[go_sem] theorem tb_w22 : zrT Go.Proofs.Tryd.prog 22 = some (Cs.at Cs.zero) := by kernel_rfl
@[go_sem] theorem tb_l26 : ldk Go.Proofs.Tryd.prog 26 = some none := by kernel_rfl
@[go_sem] theorem tb_i26 : isSl Go.Proofs.Tryd.prog 26 = true := by kernel_rfl
@[go_sem] theorem tb_e26 : es Go.Proofs.Tryd.prog 26 = some 1 := by kernel_rfl
@[go_sem] theorem tb_l27 : ldk Go.Proofs.Tryd.prog 27 = some none := by kernel_rfl
@[go_sem] theorem tb_i27 : isSl Go.Proofs.Tryd.prog 27 = true := by kernel_rfl
@[go_sem] theorem tb_e27 : es Go.Proofs.Tryd.prog 27 = some 2 := by kernel_rfl
@[go_sem] theorem tb_l28 : ldk Go.Proofs.Tryd.prog 28 = some none := by kernel_rfl
@[go_sem] theorem tb_i28 : isSl Go.Proofs.Tryd.prog 28 = true := by kernel_rfl
@[go_sem] theorem tb_e28 : es Go.Proofs.Tryd.prog 28 = some 13 := by kernel_rfl
@[go_sem] theorem tb_l29 : ldk Go.Proofs.Tryd.prog 29 = some none := by kernel_rfl
@[go_sem] theorem tb_i29 : isSl Go.Proofs.Tryd.prog 29 = true := by kernel_rfl
@[go_sem] theorem tb_e29 : es Go.Proofs.Tryd.prog 29 = some 17 := by kernel_rfl
@[go_sem] theorem tb_l31 : ldk Go.Proofs.Tryd.prog 31 = some (some 7) := by kernel_rfl
@[go_sem] theorem tb_s31 : szo Go.Proofs.Tryd.prog 31 = some 7 := by kernel_rfl
@[go_sem] theorem tb_i31 : isSl Go.Proofs.Tryd.prog 31 = false := by kernel_rfl
@[go_sem] theorem tb_k31 : bOk Go.Proofs.Tryd.prog 31 = true := by kernel_rfl
@[go_sem] theorem tb_p31_0 : plc Go.Proofs.Tryd.prog 31 0 = some (0, 1) := by kernel_rfl
@[go_sem] theorem tb_p31_2 : plc Go.Proofs.Tryd.prog 31 2 = some (2, 1) := by kernel_rfl
@[go_sem] theorem tb_f31_0 : fo Go.Proofs.Tryd.prog 31 0 = some 0 := by kernel_rfl
@[go_sem] theorem tb_f31_1 : fo Go.Proofs.Tryd.prog 31 1 = some 1 := by kernel_rfl
@[go_sem] theorem tb_f31_2 : fo Go.Proofs.Tryd.prog 31 2 = some 2 := by kernel_rfl
@[go_sem] theorem tb_f31_3 : fo Go.Proofs.Tryd.prog 31 3 = some 3 := by kernel_rfl
@[go_sem] theorem tb_f31_4 : fo Go.Proofs.Tryd.prog 31 4 = some 4 := by kernel_rfl
@[go_sem] theorem tb_f31_5 : fo Go.Proofs.Tryd.prog 31 5 = some 5 := by kernel_rfl
@[go_sem] theorem tb_f31_6 : fo Go.Proofs.Tryd.prog 31 6 = some 6 := by kernel_rfl
@[go_sem] theorem tb_z31 : zrow Go.Proofs.Tryd.prog 31 = some (Cs.at Cs.zero) := by kernel_rfl
@[go_sem] theorem tb_l38 : ldk Go.Proofs.Tryd.prog 38 = some (some 2) := by kernel_rfl
@[go_sem] theorem tb_s38 : szo Go.Proofs.Tryd.prog 38 = some 2 := by kernel_rfl
@[go_sem] theorem tb_b38 : isBool Go.Proofs.Tryd.prog 38 = false := by kernel_rfl
@[go_sem] theorem tb_i38 : isSl Go.Proofs.Tryd.prog 38 = false := by kernel_rfl
@[go_sem] theorem tb_k38 : bOk Go.Proofs.Tryd.prog 38 = true := by kernel_rfl
@[go_sem] theorem tb_p38_0 : plc Go.Proofs.Tryd.prog 38 0 = some (0, 1) := by kernel_rfl
@[go_sem] theorem tb_p38_1 : plc Go.Proofs.Tryd.prog 38 1 = some (1, 1) := by kernel_rfl
@[go_sem] theorem tb_q38 : eqOk Go.Proofs.Tryd.prog 38 = some [1, 1] := by kernel_rfl
@[go_sem] theorem tb_z38 : zrow Go.Proofs.Tryd.prog 38 = some [.v (.int .i64 0), .v (.int .i64 0)] := by kernel_rfl
@[go_sem] theorem tb_l42 : ldk Go.Proofs.Tryd.prog 42 = some (some 2) := by kernel_rfl
@[go_sem] theorem tb_s42 : szo Go.Proofs.Tryd.prog 42 = some 2 := by kernel_rfl
@[go_sem] theorem tb_b42 : isBool Go.Proofs.Tryd.prog 42 = false := by kernel_rfl
@[go_sem] theorem tb_i42 : isSl Go.Proofs.Tryd.prog 42 = false := by kernel_rfl
@[go_sem] theorem tb_k42 : bOk Go.Proofs.Tryd.prog 42 = true := by kernel_rfl
@[go_sem] theorem tb_f42_0 : fo Go.Proofs.Tryd.prog 42 0 = some 0 := by kernel_rfl
@[go_sem] theorem tb_f42_1 : fo Go.Proofs.Tryd.prog 42 1 = some 1 := by kernel_rfl
@[go_sem] theorem tb_q42 : eqOk Go.Proofs.Tryd.prog 42 = some [1, 1] := by kernel_rfl
@[go_sem] theorem tb_z42 : zrow Go.Proofs.Tryd.prog 42 = some (owAt (0, 0)) := by kernel_rfl
@[go_sem] theorem tb_a43 : ar Go.Proofs.Tryd.prog 43 = some (4, 2) := by kernel_rfl
@[go_sem] theorem tb_l45 : ldk Go.Proofs.Tryd.prog 45 = some (some 11) := by kernel_rfl
@[go_sem] theorem tb_s45 : szo Go.Proofs.Tryd.prog 45 = some 11 := by kernel_rfl
@[go_sem] theorem tb_b45 : isBool Go.Proofs.Tryd.prog 45 = false := by kernel_rfl
@[go_sem] theorem tb_i45 : isSl Go.Proofs.Tryd.prog 45 = false := by kernel_rfl
@[go_sem] theorem tb_k45 : bOk Go.Proofs.Tryd.prog 45 = true := by kernel_rfl
@[go_sem] theorem tb_p45_0 : plc Go.Proofs.Tryd.prog 45 0 = some (0, 1) := by kernel_rfl
@[go_sem] theorem tb_f45_0 : fo Go.Proofs.Tryd.prog 45 0 = some 0 := by kernel_rfl
@[go_sem] theorem tb_f45_1 : fo Go.Proofs.Tryd.prog 45 1 = some 1 := by kernel_rfl
@[go_sem] theorem tb_f45_2 : fo Go.Proofs.Tryd.prog 45 2 = some 2 := by kernel_rfl
@[go_sem] theorem tb_f45_3 : fo Go.Proofs.Tryd.prog 45 3 = some 3 := by kernel_rfl
@[go_sem] theorem tb_q45 : eqOk Go.Proofs.Tryd.prog 45 = some [1, 2, 1, 1, 1, 1, 1, 1, 1, 1, 1] := by kernel_rfl
@[go_sem] theorem tb_z45 : zrow Go.Proofs.Tryd.prog 45 = some (Ty.at Ty.zero) := by kernel_rfl
@[go_sem] theorem tb_l47 : ldk Go.Proofs.Tryd.prog 47 = some (some 13) := by kernel_rfl
@[go_sem] theorem tb_s47 : szo Go.Proofs.Tryd.prog 47 = some 13 := by kernel_rfl
@[go_sem] theorem tb_i47 : isSl Go.Proofs.Tryd.prog 47 = false := by kernel_rfl
@[go_sem] theorem tb_f47_0 : fo Go.Proofs.Tryd.prog 47 0 = some 0 := by kernel_rfl
@[go_sem] theorem tb_f47_1 : fo Go.Proofs.Tryd.prog 47 1 = some 1 := by kernel_rfl
@[go_sem] theorem tb_z47 : zrow Go.Proofs.Tryd.prog 47 = some (Vr.at Vr.zero) := by kernel_rfl
@[go_sem] theorem tb_l50 : ldk Go.Proofs.Tryd.prog 50 = some none := by kernel_rfl
@[go_sem] theorem tb_i50 : isSl Go.Proofs.Tryd.prog 50 = true := by kernel_rfl
@[go_sem] theorem tb_e50 : es Go.Proofs.Tryd.prog 50 = some 23 := by kernel_rfl
@[go_sem] theorem tb_l52 : ldk Go.Proofs.Tryd.prog 52 = some (some 17) := by kernel_rfl
@[go_sem] theorem tb_s52 : szo Go.Proofs.Tryd.prog 52 = some 17 := by kernel_rfl
@[go_sem] theorem tb_i52 : isSl Go.Proofs.Tryd.prog 52 = false := by kernel_rfl
@[go_sem] theorem tb_f52_0 : fo Go.Proofs.Tryd.prog 52 0 = some 0 := by kernel_rfl
@[go_sem] theorem tb_f52_2 : fo Go.Proofs.Tryd.prog 52 2 = some 2 := by kernel_rfl
@[go_sem] theorem tb_f52_3 : fo Go.Proofs.Tryd.prog 52 3 = some 13 := by kernel_rfl
@[go_sem] theorem tb_f52_4 : fo Go.Proofs.Tryd.prog 52 4 = some 14 := by kernel_rfl
@[go_sem] theorem tb_f52_5 : fo Go.Proofs.Tryd.prog 52 5 = some 15 := by kernel_rfl
@[go_sem] theorem tb_z52 : zrow Go.Proofs.Tryd.prog 52 = some (Me.at Me.zero) := by kernel_rfl
@[go_sem] theorem tb_l55 : ldk Go.Proofs.Tryd.prog 55 = some none := by kernel_rfl
@[go_sem] theorem tb_s55 : szo Go.Proofs.Tryd.prog 55 = some 1 := by kernel_rfl
@[go_sem] theorem tb_i55 : isSl Go.Proofs.Tryd.prog 55 = true := by kernel_rfl
@[go_sem] theorem tb_e55 : es Go.Proofs.Tryd.prog 55 = some 4 := by kernel_rfl
@[go_sem] theorem tb_y55 : byt Go.Proofs.Tryd.prog 55 = some 56 := by kernel_rfl
@[go_sem] theorem tb_w55 : zrT Go.Proofs.Tryd.prog 55 = some (Ex.at Ex.zero) := by kernel_rfl
@[go_sem] theorem tb_z55 : zrow Go.Proofs.Tryd.prog 55 = some [.sl []] := by kernel_rfl
@[go_sem] theorem tb_l57 : ldk Go.Proofs.Tryd.prog 57 = some (some 4) := by kernel_rfl
@[go_sem] theorem tb_s57 : szo Go.Proofs.Tryd.prog 57 = some 4 := by kernel_rfl
@[go_sem] theorem tb_i57 : isSl Go.Proofs.Tryd.prog 57 = false := by kernel_rfl
@[go_sem] theorem tb_k57 : bOk Go.Proofs.Tryd.prog 57 = true := by kernel_rfl
@[go_sem] theorem tb_f57_0 : fo Go.Proofs.Tryd.prog 57 0 = some 0 := by kernel_rfl
@[go_sem] theorem tb_f57_1 : fo Go.Proofs.Tryd.prog 57 1 = some 1 := by kernel_rfl
@[go_sem] theorem tb_f57_2 : fo Go.Proofs.Tryd.prog 57 2 = some 2 := by kernel_rfl
@[go_sem] theorem tb_f57_3 : fo Go.Proofs.Tryd.prog 57 3 = some 3 := by kernel_rfl
@[go_sem] theorem tb_z57 : zrow Go.Proofs.Tryd.prog 57 = some (Ex.at Ex.zero) := by kernel_rfl
@[go_sem] theorem tb_l59 : ldk Go.Proofs.Tryd.prog 59 = some (some 23) := by kernel_rfl
@[go_sem] theorem tb_s59 : szo Go.Proofs.Tryd.prog 59 = some 23 := by kernel_rfl
@[go_sem] theorem tb_i59 : isSl Go.Proofs.Tryd.prog 59 = false := by kernel_rfl
@[go_sem] theorem tb_f59_0 : fo Go.Proofs.Tryd.prog 59 0 = some 0 := by kernel_rfl
@[go_sem] theorem tb_f59_1 : fo Go.Proofs.Tryd.prog 59 1 = some 1 := by kernel_rfl
@[go_sem] theorem tb_f59_2 : fo Go.Proofs.Tryd.prog 59 2 = some 2 := by kernel_rfl
@[go_sem] theorem tb_f59_3 : fo Go.Proofs.Tryd.prog 59 3 = some 3 := by kernel_rfl
@[go_sem] theorem tb_f59_4 : fo Go.Proofs.Tryd.prog 59 4 = some 4 := by kernel_rfl
@[go_sem] theorem tb_f59_5 : fo Go.Proofs.Tryd.prog 59 5 = some 15 := by kernel_rfl
@[go_sem] theorem tb_f59_6 : fo Go.Proofs.Tryd.prog 59 6 = some 19 := by kernel_rfl
@[go_sem] theorem tb_f59_7 : fo Go.Proofs.Tryd.prog 59 7 = some 20 := by kernel_rfl
@[go_sem] theorem tb_f59_8 : fo Go.Proofs.Tryd.prog 59 8 = some 21 := by kernel_rfl
@[go_sem] theorem tb_z59 : zrow Go.Proofs.Tryd.prog 59 = some (St.at St.zero) := by kernel_rfl
@[go_sem] theorem tb_l62 : ldk Go.Proofs.Tryd.prog 62 = some (some 7) := by kernel_rfl
@[go_sem] theorem tb_s62 : szo Go.Proofs.Tryd.prog 62 = some 7 := by kernel_rfl
@[go_sem] theorem tb_i62 : isSl Go.Proofs.Tryd.prog 62 = false := by kernel_rfl
@[go_sem] theorem tb_k62 : bOk Go.Proofs.Tryd.prog 62 = true := by kernel_rfl
@[go_sem] theorem tb_p62_0 : plc Go.Proofs.Tryd.prog 62 0 = some (0, 1) := by kernel_rfl
@[go_sem] theorem tb_g62_4 : fo2 Go.Proofs.Tryd.prog 62 4 = some (4, none) := by kernel_rfl
@[go_sem] theorem tb_f62_1 : fo Go.Proofs.Tryd.prog 62 1 = some 1 := by kernel_rfl
@[go_sem] theorem tb_f62_2 : fo Go.Proofs.Tryd.prog 62 2 = some 2 := by kernel_rfl
@[go_sem] theorem tb_f62_3 : fo Go.Proofs.Tryd.prog 62 3 = some 3 := by kernel_rfl
@[go_sem] theorem tb_f62_4 : fo Go.Proofs.Tryd.prog 62 4 = some 4 := by kernel_rfl
@[go_sem] theorem tb_f62_5 : fo Go.Proofs.Tryd.prog 62 5 = some 5 := by kernel_rfl
@[go_sem] theorem tb_f62_6 : fo Go.Proofs.Tryd.prog 62 6 = some 6 := by kernel_rfl
@[go_sem] theorem tb_z62 : zrow Go.Proofs.Tryd.prog 62 = some [.v (.int .i64 0), .v (.int .i64 0), .v (.int .i64 0), .v (.int .i64 0), .v (.int .i64 0), .v (.int .i64 0), .v (.int .i64 0)] := by kernel_rfl
@[go_sem] theorem tb_l72 : ldk Go.Proofs.Tryd.prog 72 = some none := by kernel_rfl
@[go_sem] theorem tb_s72 : szo Go.Proofs.Tryd.prog 72 = some 1 := by kernel_rfl
@[go_sem] theorem tb_i72 : isSl Go.Proofs.Tryd.prog 72 = false := by kernel_rfl
@[go_sem] theorem tb_l73 : ldk Go.Proofs.Tryd.prog 73 = some none := by kernel_rfl
@[go_sem] theorem tb_k75 : bOk Go.Proofs.Tryd.prog 75 = true := by kernel_rfl
@[go_sem] theorem tb_p75_0 : plc Go.Proofs.Tryd.prog 75 0 = some (0, 1) := by kernel_rfl
@[go_sem] theorem tb_p75_1 : plc Go.Proofs.Tryd.prog 75 1 = some (1, 1) := by kernel_rfl
@[go_sem] theorem tb_p75_2 : plc Go.Proofs.Tryd.prog 75 2 = some (2, 1) := by kernel_rfl
@[go_sem] theorem tb_f75_1 : fo Go.Proofs.Tryd.prog 75 1 = some 1 := by kernel_rfl
@[go_sem] theorem tb_f75_2 : fo Go.Proofs.Tryd.prog 75 2 = some 2 := by kernel_rfl
@[go_sem] theorem tb_f75_3 : fo Go.Proofs.Tryd.prog 75 3 = some 3 := by kernel_rfl
@[go_sem] theorem tb_i114 : isSl Go.Proofs.Tryd.prog 114 = true := by kernel_rfl
@[go_sem] theorem tb_e114 : es Go.Proofs.Tryd.prog 114 = some 11 := by kernel_rfl
@[go_sem] theorem tb_y114 : byt Go.Proofs.Tryd.prog 114 = some 96 := by kernel_rfl
@[go_sem] theorem tb_w114 : zrT Go.Proofs.Tryd.prog 114 = some (Ty.at Ty.zero) := by kernel_rfl
end Go.Proofs.YtofmlhpcobjfcaaDoor
