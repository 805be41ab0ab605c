/- The table of types of this program: how each is read, where fields lie, zero values; by reckoning. Conditions: none. -/
import Derived.Test.YtibdalkdgjghoaaDoorMg12
import Derived.Test.YtibdalkdgjghoaaDoorProg
set_option linter.unusedVariables false
set_option maxRecDepth 100000
set_option maxHeartbeats 8000000
set_option linter.unusedSimpArgs false
namespace Go.Proofs.YtibdalkdgjghoaaDoor
open Go.RowKit
theorem tb_mix:Go.Proofs.Tryd.prog.follows .mixedOrders=true:=by kernel_rfl
@[go_sem] theorem tb_l3:ldk Go.Proofs.Tryd.prog 3=some none:=by kernel_rfl
@[go_sem] theorem tb_s3:szo Go.Proofs.Tryd.prog 3=some 1:=by kernel_rfl
@[go_sem] theorem tb_b3:isBool Go.Proofs.Tryd.prog 3=false:=by kernel_rfl
@[go_sem] theorem tb_i3:isSl Go.Proofs.Tryd.prog 3=false:=by kernel_rfl
@[go_sem] theorem tb_z3:zrow Go.Proofs.Tryd.prog 3=some [.v (.int .i64 0)]:=by kernel_rfl
@[go_sem] theorem tb_l4:ldk Go.Proofs.Tryd.prog 4=some none:=by kernel_rfl
@[go_sem] theorem tb_s4:szo Go.Proofs.Tryd.prog 4=some 1:=by kernel_rfl
@[go_sem] theorem tb_i4:isSl Go.Proofs.Tryd.prog 4=false:=by kernel_rfl
@[go_sem] theorem tb_z4:zrow Go.Proofs.Tryd.prog 4=some [.v (.bool false)]:=by kernel_rfl
@[go_sem] theorem tb_l9:ldk Go.Proofs.Tryd.prog 9=some none:=by kernel_rfl
@[go_sem] theorem tb_b9:isBool Go.Proofs.Tryd.prog 9=false:=by kernel_rfl
@[go_sem] theorem tb_t9:isStr Go.Proofs.Tryd.prog 9=true:=by kernel_rfl
@[go_sem] theorem tb_l22:ldk Go.Proofs.Tryd.prog 22=some none:=by kernel_rfl
@[go_sem] theorem tb_i22:isSl Go.Proofs.Tryd.prog 22=true:=by kernel_rfl
@[go_sem] theorem tb_e22:es Go.Proofs.Tryd.prog 22=some 7:=by kernel_rfl
@[go_sem] theorem tb_y22:byt Go.Proofs.Tryd.prog 22=some 136:=by kernel_rfl
@[go_sem] theorem tb_w22:zrT Go.Proofs.Tryd.prog 22=some (Cs.at Cs.zero):=by kernel_rfl
@[go_sem] theorem tb_l24:ldk Go.Proofs.Tryd.prog 24=some none:=by kernel_rfl
@[go_sem] theorem tb_b24:isBool Go.Proofs.Tryd.prog 24=false:=by kernel_rfl
@[go_sem] theorem tb_l26:ldk Go.Proofs.Tryd.prog 26=some (some 2):=by kernel_rfl
@[go_sem] theorem tb_s26:szo Go.Proofs.Tryd.prog 26=some 2:=by kernel_rfl
@[go_sem] theorem tb_b26:isBool Go.Proofs.Tryd.prog 26=false:=by kernel_rfl
@[go_sem] theorem tb_i26:isSl Go.Proofs.Tryd.prog 26=false:=by kernel_rfl
@[go_sem] theorem tb_k26:bOk Go.Proofs.Tryd.prog 26=true:=by kernel_rfl
@[go_sem] theorem tb_g26_0:fo2 Go.Proofs.Tryd.prog 26 0=some (0,none):=by kernel_rfl
@[go_sem] theorem tb_p26_0:plc Go.Proofs.Tryd.prog 26 0=some (0,1):=by kernel_rfl
@[go_sem] theorem tb_p26_1:plc Go.Proofs.Tryd.prog 26 1=some (1,1):=by kernel_rfl
@[go_sem] theorem tb_f26_0:fo Go.Proofs.Tryd.prog 26 0=some 0:=by kernel_rfl
@[go_sem] theorem tb_q26:eqOk Go.Proofs.Tryd.prog 26=some [1,1]:=by kernel_rfl
@[go_sem] theorem tb_z26:zrow Go.Proofs.Tryd.prog 26=some [.v (.int .i64 0),.v (.int .i64 0)]:=by kernel_rfl
@[go_sem] theorem tb_l31:ldk Go.Proofs.Tryd.prog 31=some none:=by kernel_rfl
@[go_sem] theorem tb_i31:isSl Go.Proofs.Tryd.prog 31=true:=by kernel_rfl
@[go_sem] theorem tb_e31:es Go.Proofs.Tryd.prog 31=some 1:=by kernel_rfl
@[go_sem] theorem tb_l32:ldk Go.Proofs.Tryd.prog 32=some none:=by kernel_rfl
@[go_sem] theorem tb_i32:isSl Go.Proofs.Tryd.prog 32=true:=by kernel_rfl
@[go_sem] theorem tb_e32:es Go.Proofs.Tryd.prog 32=some 2:=by kernel_rfl
@[go_sem] theorem tb_l33:ldk Go.Proofs.Tryd.prog 33=some none:=by kernel_rfl
@[go_sem] theorem tb_i33:isSl Go.Proofs.Tryd.prog 33=true:=by kernel_rfl
@[go_sem] theorem tb_e33:es Go.Proofs.Tryd.prog 33=some 13:=by kernel_rfl
@[go_sem] theorem tb_y33:byt Go.Proofs.Tryd.prog 33=some 120:=by kernel_rfl
@[go_sem] theorem tb_w33:zrT Go.Proofs.Tryd.prog 33=some (Vr.at Vr.zero):=by kernel_rfl
@[go_sem] theorem tb_l34:ldk Go.Proofs.Tryd.prog 34=some none:=by kernel_rfl
@[go_sem] theorem tb_i34:isSl Go.Proofs.Tryd.prog 34=true:=by kernel_rfl
@[go_sem] theorem tb_e34:es Go.Proofs.Tryd.prog 34=some 17:=by kernel_rfl
@[go_sem] theorem tb_l36:ldk Go.Proofs.Tryd.prog 36=some (some 7):=by kernel_rfl
@[go_sem] theorem tb_s36:szo Go.Proofs.Tryd.prog 36=some 7:=by kernel_rfl
@[go_sem] theorem tb_i36:isSl Go.Proofs.Tryd.prog 36=false:=by kernel_rfl
@[go_sem] theorem tb_k36:bOk Go.Proofs.Tryd.prog 36=true:=by kernel_rfl
@[go_sem] theorem tb_p36_0:plc Go.Proofs.Tryd.prog 36 0=some (0,1):=by kernel_rfl
@[go_sem] theorem tb_p36_2:plc Go.Proofs.Tryd.prog 36 2=some (2,1):=by kernel_rfl
@[go_sem] theorem tb_p36_4:plc Go.Proofs.Tryd.prog 36 4=some (4,1):=by kernel_rfl
@[go_sem] theorem tb_p36_6:plc Go.Proofs.Tryd.prog 36 6=some (6,1):=by kernel_rfl
@[go_sem] theorem tb_f36_0:fo Go.Proofs.Tryd.prog 36 0=some 0:=by kernel_rfl
@[go_sem] theorem tb_f36_1:fo Go.Proofs.Tryd.prog 36 1=some 1:=by kernel_rfl
@[go_sem] theorem tb_f36_2:fo Go.Proofs.Tryd.prog 36 2=some 2:=by kernel_rfl
@[go_sem] theorem tb_f36_3:fo Go.Proofs.Tryd.prog 36 3=some 3:=by kernel_rfl
@[go_sem] theorem tb_f36_4:fo Go.Proofs.Tryd.prog 36 4=some 4:=by kernel_rfl
@[go_sem] theorem tb_f36_5:fo Go.Proofs.Tryd.prog 36 5=some 5:=by kernel_rfl
@[go_sem] theorem tb_f36_6:fo Go.Proofs.Tryd.prog 36 6=some 6:=by kernel_rfl
@[go_sem] theorem tb_z36:zrow Go.Proofs.Tryd.prog 36=some (Cs.at Cs.zero):=by kernel_rfl
@[go_sem] theorem tb_l38:ldk Go.Proofs.Tryd.prog 38=some (some 2):=by kernel_rfl
@[go_sem] theorem tb_s38:szo Go.Proofs.Tryd.prog 38=some 2:=by kernel_rfl
@[go_sem] theorem tb_b38:isBool Go.Proofs.Tryd.prog 38=false:=by kernel_rfl
@[go_sem] theorem tb_i38:isSl Go.Proofs.Tryd.prog 38=false:=by kernel_rfl
@[go_sem] theorem tb_k38:bOk Go.Proofs.Tryd.prog 38=true:=by kernel_rfl
@[go_sem] theorem tb_p38_0:plc Go.Proofs.Tryd.prog 38 0=some (0,1):=by kernel_rfl
@[go_sem] theorem tb_f38_0:fo Go.Proofs.Tryd.prog 38 0=some 0:=by kernel_rfl
@[go_sem] theorem tb_f38_1:fo Go.Proofs.Tryd.prog 38 1=some 1:=by kernel_rfl
@[go_sem] theorem tb_q38:eqOk Go.Proofs.Tryd.prog 38=some [1,1]:=by kernel_rfl
@[go_sem] theorem tb_z38:zrow Go.Proofs.Tryd.prog 38=some (owAt (0,0)):=by kernel_rfl
@[go_sem] theorem tb_a39:ar Go.Proofs.Tryd.prog 39=some (4,2):=by kernel_rfl
@[go_sem] theorem tb_p39_0:plc Go.Proofs.Tryd.prog 39 0=some (0,2):=by kernel_rfl
@[go_sem] theorem tb_k39:bOk Go.Proofs.Tryd.prog 39=true:=by kernel_rfl
@[go_sem] theorem tb_z39:zrow Go.Proofs.Tryd.prog 39=some [.v (.int .i64 0),.v (.int .i64 0),.v (.int .i64 0),.v (.int .i64 0),.v (.int .i64 0),.v (.int .i64 0),.v (.int .i64 0),.v (.int .i64 0)]:=by kernel_rfl
@[go_sem] theorem tb_l41:ldk Go.Proofs.Tryd.prog 41=some (some 11):=by kernel_rfl
@[go_sem] theorem tb_s41:szo Go.Proofs.Tryd.prog 41=some 11:=by kernel_rfl
@[go_sem] theorem tb_b41:isBool Go.Proofs.Tryd.prog 41=false:=by kernel_rfl
@[go_sem] theorem tb_i41:isSl Go.Proofs.Tryd.prog 41=false:=by kernel_rfl
@[go_sem] theorem tb_k41:bOk Go.Proofs.Tryd.prog 41=true:=by kernel_rfl
@[go_sem] theorem tb_p41_0:plc Go.Proofs.Tryd.prog 41 0=some (0,1):=by kernel_rfl
@[go_sem] theorem tb_p41_1:plc Go.Proofs.Tryd.prog 41 1=some (1,1):=by kernel_rfl
@[go_sem] theorem tb_p41_3:plc Go.Proofs.Tryd.prog 41 3=some (3,8):=by kernel_rfl
@[go_sem] theorem tb_f41_0:fo Go.Proofs.Tryd.prog 41 0=some 0:=by kernel_rfl
@[go_sem] theorem tb_f41_1:fo Go.Proofs.Tryd.prog 41 1=some 1:=by kernel_rfl
@[go_sem] theorem tb_f41_2:fo Go.Proofs.Tryd.prog 41 2=some 2:=by kernel_rfl
@[go_sem] theorem tb_f41_3:fo Go.Proofs.Tryd.prog 41 3=some 3:=by kernel_rfl
@[go_sem] theorem tb_q41:eqOk Go.Proofs.Tryd.prog 41=some [1,2,1,1,1,1,1,1,1,1,1]:=by kernel_rfl
@[go_sem] theorem tb_z41:zrow Go.Proofs.Tryd.prog 41=some (Ty.at Ty.zero):=by kernel_rfl
@[go_sem] theorem tb_l43:ldk Go.Proofs.Tryd.prog 43=some (some 13):=by kernel_rfl
@[go_sem] theorem tb_s43:szo Go.Proofs.Tryd.prog 43=some 13:=by kernel_rfl
@[go_sem] theorem tb_i43:isSl Go.Proofs.Tryd.prog 43=false:=by kernel_rfl
@[go_sem] theorem tb_k43:bOk Go.Proofs.Tryd.prog 43=true:=by kernel_rfl
@[go_sem] theorem tb_p43_0:plc Go.Proofs.Tryd.prog 43 0=some (0,1):=by kernel_rfl
@[go_sem] theorem tb_p43_1:plc Go.Proofs.Tryd.prog 43 1=some (1,11):=by kernel_rfl
@[go_sem] theorem tb_p43_2:plc Go.Proofs.Tryd.prog 43 2=some (12,1):=by kernel_rfl
@[go_sem] theorem tb_f43_0:fo Go.Proofs.Tryd.prog 43 0=some 0:=by kernel_rfl
@[go_sem] theorem tb_f43_1:fo Go.Proofs.Tryd.prog 43 1=some 1:=by kernel_rfl
@[go_sem] theorem tb_f43_2:fo Go.Proofs.Tryd.prog 43 2=some 12:=by kernel_rfl
@[go_sem] theorem tb_z43:zrow Go.Proofs.Tryd.prog 43=some (Vr.at Vr.zero):=by kernel_rfl
@[go_sem] theorem tb_l46:ldk Go.Proofs.Tryd.prog 46=some none:=by kernel_rfl
@[go_sem] theorem tb_i46:isSl Go.Proofs.Tryd.prog 46=true:=by kernel_rfl
@[go_sem] theorem tb_e46:es Go.Proofs.Tryd.prog 46=some 23:=by kernel_rfl
@[go_sem] theorem tb_l48:ldk Go.Proofs.Tryd.prog 48=some (some 17):=by kernel_rfl
@[go_sem] theorem tb_s48:szo Go.Proofs.Tryd.prog 48=some 17:=by kernel_rfl
@[go_sem] theorem tb_i48:isSl Go.Proofs.Tryd.prog 48=false:=by kernel_rfl
@[go_sem] theorem tb_f48_0:fo Go.Proofs.Tryd.prog 48 0=some 0:=by kernel_rfl
@[go_sem] theorem tb_f48_2:fo Go.Proofs.Tryd.prog 48 2=some 2:=by kernel_rfl
@[go_sem] theorem tb_f48_3:fo Go.Proofs.Tryd.prog 48 3=some 13:=by kernel_rfl
@[go_sem] theorem tb_f48_4:fo Go.Proofs.Tryd.prog 48 4=some 14:=by kernel_rfl
@[go_sem] theorem tb_f48_5:fo Go.Proofs.Tryd.prog 48 5=some 15:=by kernel_rfl
@[go_sem] theorem tb_f48_6:fo Go.Proofs.Tryd.prog 48 6=some 16:=by kernel_rfl
@[go_sem] theorem tb_z48:zrow Go.Proofs.Tryd.prog 48=some (Me.at Me.zero):=by kernel_rfl
@[go_sem] theorem tb_l51:ldk Go.Proofs.Tryd.prog 51=some none:=by kernel_rfl
@[go_sem] theorem tb_s51:szo Go.Proofs.Tryd.prog 51=some 1:=by kernel_rfl
@[go_sem] theorem tb_i51:isSl Go.Proofs.Tryd.prog 51=true:=by kernel_rfl
@[go_sem] theorem tb_e51:es Go.Proofs.Tryd.prog 51=some 4:=by kernel_rfl
@[go_sem] theorem tb_y51:byt Go.Proofs.Tryd.prog 51=some 56:=by kernel_rfl
@[go_sem] theorem tb_w51:zrT Go.Proofs.Tryd.prog 51=some (Ex.at Ex.zero):=by kernel_rfl
@[go_sem] theorem tb_z51:zrow Go.Proofs.Tryd.prog 51=some [.sl []]:=by kernel_rfl
@[go_sem] theorem tb_l53:ldk Go.Proofs.Tryd.prog 53=some (some 4):=by kernel_rfl
@[go_sem] theorem tb_s53:szo Go.Proofs.Tryd.prog 53=some 4:=by kernel_rfl
@[go_sem] theorem tb_i53:isSl Go.Proofs.Tryd.prog 53=false:=by kernel_rfl
@[go_sem] theorem tb_k53:bOk Go.Proofs.Tryd.prog 53=true:=by kernel_rfl
@[go_sem] theorem tb_f53_0:fo Go.Proofs.Tryd.prog 53 0=some 0:=by kernel_rfl
@[go_sem] theorem tb_f53_1:fo Go.Proofs.Tryd.prog 53 1=some 1:=by kernel_rfl
@[go_sem] theorem tb_f53_2:fo Go.Proofs.Tryd.prog 53 2=some 2:=by kernel_rfl
@[go_sem] theorem tb_f53_3:fo Go.Proofs.Tryd.prog 53 3=some 3:=by kernel_rfl
@[go_sem] theorem tb_z53:zrow Go.Proofs.Tryd.prog 53=some (Ex.at Ex.zero):=by kernel_rfl
@[go_sem] theorem tb_l55:ldk Go.Proofs.Tryd.prog 55=some (some 23):=by kernel_rfl
@[go_sem] theorem tb_s55:szo Go.Proofs.Tryd.prog 55=some 23:=by kernel_rfl
@[go_sem] theorem tb_i55:isSl Go.Proofs.Tryd.prog 55=false:=by kernel_rfl
@[go_sem] theorem tb_f55_0:fo Go.Proofs.Tryd.prog 55 0=some 0:=by kernel_rfl
@[go_sem] theorem tb_f55_1:fo Go.Proofs.Tryd.prog 55 1=some 1:=by kernel_rfl
@[go_sem] theorem tb_f55_2:fo Go.Proofs.Tryd.prog 55 2=some 2:=by kernel_rfl
@[go_sem] theorem tb_f55_3:fo Go.Proofs.Tryd.prog 55 3=some 3:=by kernel_rfl
@[go_sem] theorem tb_f55_4:fo Go.Proofs.Tryd.prog 55 4=some 4:=by kernel_rfl
@[go_sem] theorem tb_f55_5:fo Go.Proofs.Tryd.prog 55 5=some 15:=by kernel_rfl
@[go_sem] theorem tb_f55_6:fo Go.Proofs.Tryd.prog 55 6=some 19:=by kernel_rfl
@[go_sem] theorem tb_f55_7:fo Go.Proofs.Tryd.prog 55 7=some 20:=by kernel_rfl
@[go_sem] theorem tb_f55_8:fo Go.Proofs.Tryd.prog 55 8=some 21:=by kernel_rfl
@[go_sem] theorem tb_f55_9:fo Go.Proofs.Tryd.prog 55 9=some 22:=by kernel_rfl
@[go_sem] theorem tb_z55:zrow Go.Proofs.Tryd.prog 55=some (St.at St.zero):=by kernel_rfl
@[go_sem] theorem tb_l57:ldk Go.Proofs.Tryd.prog 57=some none:=by kernel_rfl
@[go_sem] theorem tb_s57:szo Go.Proofs.Tryd.prog 57=some 1:=by kernel_rfl
@[go_sem] theorem tb_i57:isSl Go.Proofs.Tryd.prog 57=false:=by kernel_rfl
@[go_sem] theorem tb_z57:zrow Go.Proofs.Tryd.prog 57=some [.v (.pointer none)]:=by kernel_rfl
@[go_sem] theorem tb_l58:ldk Go.Proofs.Tryd.prog 58=some none:=by kernel_rfl
@[go_sem] theorem tb_k60:bOk Go.Proofs.Tryd.prog 60=true:=by kernel_rfl
@[go_sem] theorem tb_p60_0:plc Go.Proofs.Tryd.prog 60 0=some (0,1):=by kernel_rfl
@[go_sem] theorem tb_p60_1:plc Go.Proofs.Tryd.prog 60 1=some (1,1):=by kernel_rfl
@[go_sem] theorem tb_p60_2:plc Go.Proofs.Tryd.prog 60 2=some (2,1):=by kernel_rfl
@[go_sem] theorem tb_f60_1:fo Go.Proofs.Tryd.prog 60 1=some 1:=by kernel_rfl
@[go_sem] theorem tb_f60_2:fo Go.Proofs.Tryd.prog 60 2=some 2:=by kernel_rfl
@[go_sem] theorem tb_f60_3:fo Go.Proofs.Tryd.prog 60 3=some 3:=by kernel_rfl
@[go_sem] theorem tb_l73:ldk Go.Proofs.Tryd.prog 73=some (some 7):=by kernel_rfl
@[go_sem] theorem tb_s73:szo Go.Proofs.Tryd.prog 73=some 7:=by kernel_rfl
@[go_sem] theorem tb_i73:isSl Go.Proofs.Tryd.prog 73=false:=by kernel_rfl
@[go_sem] theorem tb_k73:bOk Go.Proofs.Tryd.prog 73=true:=by kernel_rfl
@[go_sem] theorem tb_p73_0:plc Go.Proofs.Tryd.prog 73 0=some (0,1):=by kernel_rfl
@[go_sem] theorem tb_g73_4:fo2 Go.Proofs.Tryd.prog 73 4=some (4,none):=by kernel_rfl
@[go_sem] theorem tb_f73_1:fo Go.Proofs.Tryd.prog 73 1=some 1:=by kernel_rfl
@[go_sem] theorem tb_f73_2:fo Go.Proofs.Tryd.prog 73 2=some 2:=by kernel_rfl
@[go_sem] theorem tb_f73_3:fo Go.Proofs.Tryd.prog 73 3=some 3:=by kernel_rfl
@[go_sem] theorem tb_f73_4:fo Go.Proofs.Tryd.prog 73 4=some 4:=by kernel_rfl
@[go_sem] theorem tb_f73_5:fo Go.Proofs.Tryd.prog 73 5=some 5:=by kernel_rfl
@[go_sem] theorem tb_f73_6:fo Go.Proofs.Tryd.prog 73 6=some 6:=by kernel_rfl
@[go_sem] theorem tb_z73:zrow Go.Proofs.Tryd.prog 73=some [.v (.int .i64 0),.v (.int .i64 0),.v (.int .i64 0),.v (.int .i64 0),.v (.int .i64 0),.v (.int .i64 0),.v (.int .i64 0)]:=by kernel_rfl
@[go_sem] theorem tb_l79:ldk Go.Proofs.Tryd.prog 79=some none:=by kernel_rfl
@[go_sem] theorem tb_s79:szo Go.Proofs.Tryd.prog 79=some 1:=by kernel_rfl
@[go_sem] theorem tb_i79:isSl Go.Proofs.Tryd.prog 79=true:=by kernel_rfl
@[go_sem] theorem tb_e79:es Go.Proofs.Tryd.prog 79=some 15:=by kernel_rfl
@[go_sem] theorem tb_y79:byt Go.Proofs.Tryd.prog 79=some 128:=by kernel_rfl
@[go_sem] theorem tb_w79:zrT Go.Proofs.Tryd.prog 79=some [.v (.int .i64 0),.v (.int .i64 0),.v (.int .i64 0),.v (.int .i64 0),.v (.string ⟨#[]⟩),.v (.int .i64 0),.v (.int .i64 0),.v (.int .i64 0),.v (.int .i64 0),.v (.int .i64 0),.v (.int .i64 0),.v (.int .i64 0),.v (.int .i64 0),.v (.int .i64 0),.v (.int .i64 0)]:=by kernel_rfl
@[go_sem] theorem tb_z79:zrow Go.Proofs.Tryd.prog 79=some [.sl []]:=by kernel_rfl
@[go_sem] theorem tb_l82:ldk Go.Proofs.Tryd.prog 82=some (some 15):=by kernel_rfl
@[go_sem] theorem tb_s82:szo Go.Proofs.Tryd.prog 82=some 15:=by kernel_rfl
@[go_sem] theorem tb_i82:isSl Go.Proofs.Tryd.prog 82=false:=by kernel_rfl
@[go_sem] theorem tb_k82:bOk Go.Proofs.Tryd.prog 82=true:=by kernel_rfl
@[go_sem] theorem tb_p82_0:plc Go.Proofs.Tryd.prog 82 0=some (0,1):=by kernel_rfl
@[go_sem] theorem tb_p82_1:plc Go.Proofs.Tryd.prog 82 1=some (1,1):=by kernel_rfl
@[go_sem] theorem tb_f82_2:fo Go.Proofs.Tryd.prog 82 2=some 2:=by kernel_rfl
@[go_sem] theorem tb_f82_3:fo Go.Proofs.Tryd.prog 82 3=some 3:=by kernel_rfl
@[go_sem] theorem tb_f82_4:fo Go.Proofs.Tryd.prog 82 4=some 14:=by kernel_rfl
@[go_sem] theorem tb_z82:zrow Go.Proofs.Tryd.prog 82=some [.v (.int .i64 0),.v (.int .i64 0),.v (.int .i64 0),.v (.int .i64 0),.v (.string ⟨#[]⟩),.v (.int .i64 0),.v (.int .i64 0),.v (.int .i64 0),.v (.int .i64 0),.v (.int .i64 0),.v (.int .i64 0),.v (.int .i64 0),.v (.int .i64 0),.v (.int .i64 0),.v (.int .i64 0)]:=by kernel_rfl
@[go_sem] theorem tb_l94:ldk Go.Proofs.Tryd.prog 94=some none:=by kernel_rfl
@[go_sem] theorem tb_s96:szo Go.Proofs.Tryd.prog 96=some 17:=by kernel_rfl
@[go_sem] theorem tb_i96:isSl Go.Proofs.Tryd.prog 96=false:=by kernel_rfl
@[go_sem] theorem tb_k96:bOk Go.Proofs.Tryd.prog 96=true:=by kernel_rfl
@[go_sem] theorem tb_p96_0:plc Go.Proofs.Tryd.prog 96 0=some (0,1):=by kernel_rfl
@[go_sem] theorem tb_p96_1:plc Go.Proofs.Tryd.prog 96 1=some (1,1):=by kernel_rfl
@[go_sem] theorem tb_p96_2:plc Go.Proofs.Tryd.prog 96 2=some (2,15):=by kernel_rfl
@[go_sem] theorem tb_f96_0:fo Go.Proofs.Tryd.prog 96 0=some 0:=by kernel_rfl
@[go_sem] theorem tb_f96_2:fo Go.Proofs.Tryd.prog 96 2=some 2:=by kernel_rfl
@[go_sem] theorem tb_i106:isSl Go.Proofs.Tryd.prog 106=true:=by kernel_rfl
@[go_sem] theorem tb_e106:es Go.Proofs.Tryd.prog 106=some 11:=by kernel_rfl
@[go_sem] theorem tb_y106:byt Go.Proofs.Tryd.prog 106=some 96:=by kernel_rfl
@[go_sem] theorem tb_w106:zrT Go.Proofs.Tryd.prog 106=some (Ty.at Ty.zero):=by kernel_rfl
@[go_sem] theorem tb_l107:ldk Go.Proofs.Tryd.prog 107=some none:=by kernel_rfl
@[go_sem] theorem tb_i111:isSl Go.Proofs.Tryd.prog 111=true:=by kernel_rfl
@[go_sem] theorem tb_e111:es Go.Proofs.Tryd.prog 111=some 1:=by kernel_rfl
@[go_sem] theorem tb_y111:byt Go.Proofs.Tryd.prog 111=some 24:=by kernel_rfl
@[go_sem] theorem tb_w111:zrT Go.Proofs.Tryd.prog 111=some [.sl []]:=by kernel_rfl
end Go.Proofs.YtibdalkdgjghoaaDoor
