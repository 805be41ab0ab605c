/- The table of types of this program: how each is read, where fields lie, zero values; by reckoning. Conditions: none. -/
import Derived.Test.YtmnpabgdlajdiaaDoorMg7
import Derived.Test.YtmnpabgdlajdiaaDoorProg
set_option linter.unusedVariables false
set_option maxRecDepth 100000
set_option maxHeartbeats 8000000
set_option linter.unusedSimpArgs false
namespace Go.Proofs.YtmnpabgdlajdiaaDoor
open Go.RowKit
theorem tb_mix:Go.Proofs.Tryd.prog.follows .mixedOrders=true:=by kernel_rfl
@[go_sem] theorem tb_l3:ldk Go.Proofs.Tryd.prog 3=some none:=by kernel_rfl
@[go_sem] theorem tb_b3:isBool Go.Proofs.Tryd.prog 3=false:=by kernel_rfl
@[go_sem] theorem tb_l4:ldk Go.Proofs.Tryd.prog 4=some none:=by kernel_rfl
@[go_sem] theorem tb_s4:szo Go.Proofs.Tryd.prog 4=some 1:=by kernel_rfl
@[go_sem] theorem tb_b4:isBool Go.Proofs.Tryd.prog 4=true:=by kernel_rfl
@[go_sem] theorem tb_i4:isSl Go.Proofs.Tryd.prog 4=false:=by kernel_rfl
@[go_sem] theorem tb_z4:zrow Go.Proofs.Tryd.prog 4=some [.v (.bool false)]:=by kernel_rfl
@[go_sem] theorem tb_l9:ldk Go.Proofs.Tryd.prog 9=some none:=by kernel_rfl
@[go_sem] theorem tb_b9:isBool Go.Proofs.Tryd.prog 9=false:=by kernel_rfl
@[go_sem] theorem tb_l22:ldk Go.Proofs.Tryd.prog 22=some none:=by kernel_rfl
@[go_sem] theorem tb_s22:szo Go.Proofs.Tryd.prog 22=some 1:=by kernel_rfl
@[go_sem] theorem tb_i22:isSl Go.Proofs.Tryd.prog 22=true:=by kernel_rfl
@[go_sem] theorem tb_e22:es Go.Proofs.Tryd.prog 22=some 4:=by kernel_rfl
@[go_sem] theorem tb_y22:byt Go.Proofs.Tryd.prog 22=some 56:=by kernel_rfl
@[go_sem] theorem tb_w22:zrT Go.Proofs.Tryd.prog 22=some (Ex.at Ex.zero):=by kernel_rfl
@[go_sem] theorem tb_z22:zrow Go.Proofs.Tryd.prog 22=some [.sl []]:=by kernel_rfl
@[go_sem] theorem tb_l24:ldk Go.Proofs.Tryd.prog 24=some (some 4):=by kernel_rfl
@[go_sem] theorem tb_s24:szo Go.Proofs.Tryd.prog 24=some 4:=by kernel_rfl
@[go_sem] theorem tb_i24:isSl Go.Proofs.Tryd.prog 24=false:=by kernel_rfl
@[go_sem] theorem tb_f24_0:fo Go.Proofs.Tryd.prog 24 0=some 0:=by kernel_rfl
@[go_sem] theorem tb_f24_1:fo Go.Proofs.Tryd.prog 24 1=some 1:=by kernel_rfl
@[go_sem] theorem tb_f24_2:fo Go.Proofs.Tryd.prog 24 2=some 2:=by kernel_rfl
@[go_sem] theorem tb_f24_3:fo Go.Proofs.Tryd.prog 24 3=some 3:=by kernel_rfl
@[go_sem] theorem tb_z24:zrow Go.Proofs.Tryd.prog 24=some (Ex.at Ex.zero):=by kernel_rfl
@[go_sem] theorem tb_l27:ldk Go.Proofs.Tryd.prog 27=some none:=by kernel_rfl
@[go_sem] theorem tb_s27:szo Go.Proofs.Tryd.prog 27=some 1:=by kernel_rfl
@[go_sem] theorem tb_i27:isSl Go.Proofs.Tryd.prog 27=true:=by kernel_rfl
@[go_sem] theorem tb_e27:es Go.Proofs.Tryd.prog 27=some 1:=by kernel_rfl
@[go_sem] theorem tb_y27:byt Go.Proofs.Tryd.prog 27=some 16:=by kernel_rfl
@[go_sem] theorem tb_w27:zrT Go.Proofs.Tryd.prog 27=some [.v (.string ⟨#[]⟩)]:=by kernel_rfl
@[go_sem] theorem tb_z27:zrow Go.Proofs.Tryd.prog 27=some [.sl []]:=by kernel_rfl
@[go_sem] theorem tb_l72:ldk Go.Proofs.Tryd.prog 72=some (some 3):=by kernel_rfl
@[go_sem] theorem tb_s72:szo Go.Proofs.Tryd.prog 72=some 3:=by kernel_rfl
@[go_sem] theorem tb_i72:isSl Go.Proofs.Tryd.prog 72=false:=by kernel_rfl
@[go_sem] theorem tb_f72_0:fo Go.Proofs.Tryd.prog 72 0=some 0:=by kernel_rfl
@[go_sem] theorem tb_f72_1:fo Go.Proofs.Tryd.prog 72 1=some 1:=by kernel_rfl
@[go_sem] theorem tb_f72_2:fo Go.Proofs.Tryd.prog 72 2=some 2:=by kernel_rfl
@[go_sem] theorem tb_z72:zrow Go.Proofs.Tryd.prog 72=some [.v (.string ⟨#[]⟩),.v (.int .i64 0),.v (.int .i64 0)]:=by kernel_rfl
@[go_sem] theorem tb_e80:es Go.Proofs.Tryd.prog 80=some 1:=by kernel_rfl
@[go_sem] theorem tb_y80:byt Go.Proofs.Tryd.prog 80=some 1:=by kernel_rfl
@[go_sem] theorem tb_w80:zrT Go.Proofs.Tryd.prog 80=some [.v (.int .u8 0)]:=by kernel_rfl
@[go_sem] theorem tb_i82:isSl Go.Proofs.Tryd.prog 82=true:=by kernel_rfl
@[go_sem] theorem tb_e82:es Go.Proofs.Tryd.prog 82=some 3:=by kernel_rfl
@[go_sem] theorem tb_a83:ar Go.Proofs.Tryd.prog 83=some (6,3):=by kernel_rfl
@[go_sem] theorem tb_e86:es Go.Proofs.Tryd.prog 86=some 1:=by kernel_rfl
@[go_sem] theorem tb_y86:byt Go.Proofs.Tryd.prog 86=some 8:=by kernel_rfl
@[go_sem] theorem tb_w86:zrT Go.Proofs.Tryd.prog 86=some [.v (.int .i64 0)]:=by kernel_rfl
end Go.Proofs.YtmnpabgdlajdiaaDoor
