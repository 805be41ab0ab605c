/- The table of types of this program: how each is read, where fields lie, zero values; by reckoning. Conditions: none. -/
import Derived.Test.YtbhmfkjbaklfeaaDoorMg7
import Derived.Test.YtbhmfkjbaklfeaaDoorProg
set_option linter.unusedVariables false
set_option maxRecDepth 100000
set_option maxHeartbeats 8000000
set_option linter.unusedSimpArgs false
namespace Go.Proofs.YtbhmfkjbaklfeaaDoor
open Go.RowKit
theorem tb_mix:Go.Proofs.Tryd.prog.follows .mixedOrders=true:=by kernel_rfl
@[go_sem] theorem tb_l3:ldk Go.Proofs.Tryd.prog 3=some none:=by kernel_rfl
@[go_sem] theorem tb_s3:szo Go.Proofs.Tryd.prog 3=some 1:=by kernel_rfl
@[go_sem] theorem tb_b3:isBool Go.Proofs.Tryd.prog 3=false:=by kernel_rfl
@[go_sem] theorem tb_l4:ldk Go.Proofs.Tryd.prog 4=some none:=by kernel_rfl
@[go_sem] theorem tb_s4:szo Go.Proofs.Tryd.prog 4=some 1:=by kernel_rfl
@[go_sem] theorem tb_i4:isSl Go.Proofs.Tryd.prog 4=false:=by kernel_rfl
@[go_sem] theorem tb_z4:zrow Go.Proofs.Tryd.prog 4=some [.v (.bool false)]:=by kernel_rfl
@[go_sem] theorem tb_l9:ldk Go.Proofs.Tryd.prog 9=some none:=by kernel_rfl
@[go_sem] theorem tb_b9:isBool Go.Proofs.Tryd.prog 9=false:=by kernel_rfl
@[go_sem] theorem tb_t9:isStr Go.Proofs.Tryd.prog 9=true:=by kernel_rfl
@[go_sem] theorem tb_l22:ldk Go.Proofs.Tryd.prog 22=some none:=by kernel_rfl
@[go_sem] theorem tb_s22:szo Go.Proofs.Tryd.prog 22=some 1:=by kernel_rfl
@[go_sem] theorem tb_i22:isSl Go.Proofs.Tryd.prog 22=true:=by kernel_rfl
@[go_sem] theorem tb_e22:es Go.Proofs.Tryd.prog 22=some 4:=by kernel_rfl
@[go_sem] theorem tb_y22:byt Go.Proofs.Tryd.prog 22=some 56:=by kernel_rfl
@[go_sem] theorem tb_w22:zrT Go.Proofs.Tryd.prog 22=some (Ex.at Ex.zero):=by kernel_rfl
@[go_sem] theorem tb_z22:zrow Go.Proofs.Tryd.prog 22=some [.sl []]:=by kernel_rfl
@[go_sem] theorem tb_l24:ldk Go.Proofs.Tryd.prog 24=some (some 4):=by kernel_rfl
@[go_sem] theorem tb_s24:szo Go.Proofs.Tryd.prog 24=some 4:=by kernel_rfl
@[go_sem] theorem tb_i24:isSl Go.Proofs.Tryd.prog 24=false:=by kernel_rfl
@[go_sem] theorem tb_k24:bOk Go.Proofs.Tryd.prog 24=true:=by kernel_rfl
@[go_sem] theorem tb_p24_0:plc Go.Proofs.Tryd.prog 24 0=some (0,1):=by kernel_rfl
@[go_sem] theorem tb_p24_1:plc Go.Proofs.Tryd.prog 24 1=some (1,1):=by kernel_rfl
@[go_sem] theorem tb_p24_2:plc Go.Proofs.Tryd.prog 24 2=some (2,1):=by kernel_rfl
@[go_sem] theorem tb_f24_0:fo Go.Proofs.Tryd.prog 24 0=some 0:=by kernel_rfl
@[go_sem] theorem tb_f24_1:fo Go.Proofs.Tryd.prog 24 1=some 1:=by kernel_rfl
@[go_sem] theorem tb_f24_2:fo Go.Proofs.Tryd.prog 24 2=some 2:=by kernel_rfl
@[go_sem] theorem tb_f24_3:fo Go.Proofs.Tryd.prog 24 3=some 3:=by kernel_rfl
@[go_sem] theorem tb_z24:zrow Go.Proofs.Tryd.prog 24=some (Ex.at Ex.zero):=by kernel_rfl
@[go_sem] theorem tb_l27:ldk Go.Proofs.Tryd.prog 27=some none:=by kernel_rfl
@[go_sem] theorem tb_i27:isSl Go.Proofs.Tryd.prog 27=true:=by kernel_rfl
@[go_sem] theorem tb_e27:es Go.Proofs.Tryd.prog 27=some 3:=by kernel_rfl
@[go_sem] theorem tb_l28:ldk Go.Proofs.Tryd.prog 28=some none:=by kernel_rfl
@[go_sem] theorem tb_b28:isBool Go.Proofs.Tryd.prog 28=false:=by kernel_rfl
@[go_sem] theorem tb_l30:ldk Go.Proofs.Tryd.prog 30=some (some 2):=by kernel_rfl
@[go_sem] theorem tb_s30:szo Go.Proofs.Tryd.prog 30=some 2:=by kernel_rfl
@[go_sem] theorem tb_i30:isSl Go.Proofs.Tryd.prog 30=false:=by kernel_rfl
@[go_sem] theorem tb_k30:bOk Go.Proofs.Tryd.prog 30=true:=by kernel_rfl
@[go_sem] theorem tb_p30_0:plc Go.Proofs.Tryd.prog 30 0=some (0,1):=by kernel_rfl
@[go_sem] theorem tb_p30_1:plc Go.Proofs.Tryd.prog 30 1=some (1,1):=by kernel_rfl
@[go_sem] theorem tb_f30_0:fo Go.Proofs.Tryd.prog 30 0=some 0:=by kernel_rfl
@[go_sem] theorem tb_z30:zrow Go.Proofs.Tryd.prog 30=some [.v (.int .i64 0),.v (.int .i64 0)]:=by kernel_rfl
@[go_sem] theorem tb_l41:ldk Go.Proofs.Tryd.prog 41=some (some 3):=by kernel_rfl
@[go_sem] theorem tb_s41:szo Go.Proofs.Tryd.prog 41=some 3:=by kernel_rfl
@[go_sem] theorem tb_i41:isSl Go.Proofs.Tryd.prog 41=false:=by kernel_rfl
@[go_sem] theorem tb_k41:bOk Go.Proofs.Tryd.prog 41=true:=by kernel_rfl
@[go_sem] theorem tb_g41_2:fo2 Go.Proofs.Tryd.prog 41 2=some (2,none):=by kernel_rfl
@[go_sem] theorem tb_p41_2:plc Go.Proofs.Tryd.prog 41 2=some (2,1):=by kernel_rfl
@[go_sem] theorem tb_f41_0:fo Go.Proofs.Tryd.prog 41 0=some 0:=by kernel_rfl
@[go_sem] theorem tb_f41_1:fo Go.Proofs.Tryd.prog 41 1=some 1:=by kernel_rfl
@[go_sem] theorem tb_f41_2:fo Go.Proofs.Tryd.prog 41 2=some 2:=by kernel_rfl
@[go_sem] theorem tb_z41:zrow Go.Proofs.Tryd.prog 41=some [.v (.int .i64 0),.v (.string ⟨#[]⟩),.v (.int .i64 0)]:=by kernel_rfl
@[go_sem] theorem tb_l45:ldk Go.Proofs.Tryd.prog 45=some none:=by kernel_rfl
@[go_sem] theorem tb_k47:bOk Go.Proofs.Tryd.prog 47=true:=by kernel_rfl
@[go_sem] theorem tb_p47_0:plc Go.Proofs.Tryd.prog 47 0=some (0,1):=by kernel_rfl
@[go_sem] theorem tb_p47_1:plc Go.Proofs.Tryd.prog 47 1=some (1,1):=by kernel_rfl
@[go_sem] theorem tb_f47_0:fo Go.Proofs.Tryd.prog 47 0=some 0:=by kernel_rfl
@[go_sem] theorem tb_f47_1:fo Go.Proofs.Tryd.prog 47 1=some 1:=by kernel_rfl
@[go_sem] theorem tb_f47_2:fo Go.Proofs.Tryd.prog 47 2=some 2:=by kernel_rfl
@[go_sem] theorem tb_f47_3:fo Go.Proofs.Tryd.prog 47 3=some 3:=by kernel_rfl
@[go_sem] theorem tb_z47:zrow Go.Proofs.Tryd.prog 47=some [.sl [],.v (.int .i64 0),.v (.int .i64 0),.v (.int .i64 0),.v (.int .i64 0)]:=by kernel_rfl
@[go_sem] theorem tb_l49:ldk Go.Proofs.Tryd.prog 49=some (some 5):=by kernel_rfl
@[go_sem] theorem tb_s49:szo Go.Proofs.Tryd.prog 49=some 5:=by kernel_rfl
@[go_sem] theorem tb_i49:isSl Go.Proofs.Tryd.prog 49=false:=by kernel_rfl
@[go_sem] theorem tb_k49:bOk Go.Proofs.Tryd.prog 49=true:=by kernel_rfl
@[go_sem] theorem tb_p49_0:plc Go.Proofs.Tryd.prog 49 0=some (0,4):=by kernel_rfl
@[go_sem] theorem tb_p49_1:plc Go.Proofs.Tryd.prog 49 1=some (4,1):=by kernel_rfl
@[go_sem] theorem tb_f49_0:fo Go.Proofs.Tryd.prog 49 0=some 0:=by kernel_rfl
@[go_sem] theorem tb_f49_1:fo Go.Proofs.Tryd.prog 49 1=some 4:=by kernel_rfl
@[go_sem] theorem tb_z49:zrow Go.Proofs.Tryd.prog 49=some [.v (.int .i64 0),.v (.int .i64 0),.v (.string ⟨#[]⟩),.sl [],.v (.int .i64 0)]:=by kernel_rfl
@[go_sem] theorem tb_l62:ldk Go.Proofs.Tryd.prog 62=some (some 3):=by kernel_rfl
@[go_sem] theorem tb_s62:szo Go.Proofs.Tryd.prog 62=some 3:=by kernel_rfl
@[go_sem] theorem tb_i62:isSl Go.Proofs.Tryd.prog 62=false:=by kernel_rfl
@[go_sem] theorem tb_k62:bOk Go.Proofs.Tryd.prog 62=true:=by kernel_rfl
@[go_sem] theorem tb_f62_0:fo Go.Proofs.Tryd.prog 62 0=some 0:=by kernel_rfl
@[go_sem] theorem tb_f62_1:fo Go.Proofs.Tryd.prog 62 1=some 1:=by kernel_rfl
@[go_sem] theorem tb_f62_2:fo Go.Proofs.Tryd.prog 62 2=some 2:=by kernel_rfl
@[go_sem] theorem tb_z62:zrow Go.Proofs.Tryd.prog 62=some [.v (.string ⟨#[]⟩),.v (.int .i64 0),.v (.int .i64 0)]:=by kernel_rfl
@[go_sem] theorem tb_e76:es Go.Proofs.Tryd.prog 76=some 1:=by kernel_rfl
@[go_sem] theorem tb_y76:byt Go.Proofs.Tryd.prog 76=some 16:=by kernel_rfl
@[go_sem] theorem tb_w76:zrT Go.Proofs.Tryd.prog 76=some [.v (.string ⟨#[]⟩)]:=by kernel_rfl
@[go_sem] theorem tb_l81:ldk Go.Proofs.Tryd.prog 81=some (some 18):=by kernel_rfl
@[go_sem] theorem tb_a81:ar Go.Proofs.Tryd.prog 81=some (6,3):=by kernel_rfl
@[go_sem] theorem tb_i82:isSl Go.Proofs.Tryd.prog 82=true:=by kernel_rfl
@[go_sem] theorem tb_e82:es Go.Proofs.Tryd.prog 82=some 5:=by kernel_rfl
@[go_sem] theorem tb_y82:byt Go.Proofs.Tryd.prog 82=some 64:=by kernel_rfl
@[go_sem] theorem tb_w82:zrT Go.Proofs.Tryd.prog 82=some [.v (.int .i64 0),.v (.int .i64 0),.v (.string ⟨#[]⟩),.sl [],.v (.int .i64 0)]:=by kernel_rfl
@[go_sem] theorem tb_i88:isSl Go.Proofs.Tryd.prog 88=true:=by kernel_rfl
@[go_sem] theorem tb_e88:es Go.Proofs.Tryd.prog 88=some 3:=by kernel_rfl
end Go.Proofs.YtbhmfkjbaklfeaaDoor
