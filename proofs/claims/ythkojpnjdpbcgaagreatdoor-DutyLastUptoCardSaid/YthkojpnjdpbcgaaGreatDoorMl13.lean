/- The table of types of this program: how each is read, where fields lie, zero values; by reckoning. Conditions: none. -/
import Derived.Test.YthkojpnjdpbcgaaGreatDoorMl10
import Derived.Test.YthkojpnjdpbcgaaGreatDoorProg
set_option linter.unusedVariables false
set_option maxRecDepth 100000
set_option maxHeartbeats 8000000
set_option linter.unusedSimpArgs false
namespace Go.Proofs.YthkojpnjdpbcgaaGreatDoor
open Go.RowKit
theorem tb_mix:Tryz.prog.follows .mixedOrders=true:=by kernel_rfl
@[go_sem] theorem tb_l3:ldk Tryz.prog 3=some none:=by kernel_rfl
@[go_sem] theorem tb_s3:szo Tryz.prog 3=some 1:=by kernel_rfl
@[go_sem] theorem tb_b3:qbq Tryz.prog 3=false:=by kernel_rfl
@[go_sem] theorem tb_i3:isSl Tryz.prog 3=false:=by kernel_rfl
@[go_sem] theorem tb_z3:zrow Tryz.prog 3=some [.v (.int .i64 0)]:=by kernel_rfl
@[go_sem] theorem tb_l4:ldk Tryz.prog 4=some none:=by kernel_rfl
@[go_sem] theorem tb_s4:szo Tryz.prog 4=some 1:=by kernel_rfl
@[go_sem] theorem tb_b4:qbq Tryz.prog 4=true:=by kernel_rfl
@[go_sem] theorem tb_i4:isSl Tryz.prog 4=false:=by kernel_rfl
@[go_sem] theorem tb_z4:zrow Tryz.prog 4=some [.v (.bool false)]:=by kernel_rfl
@[go_sem] theorem tb_l9:ldk Tryz.prog 9=some none:=by kernel_rfl
@[go_sem] theorem tb_s9:szo Tryz.prog 9=some 1:=by kernel_rfl
@[go_sem] theorem tb_b9:qbq Tryz.prog 9=false:=by kernel_rfl
@[go_sem] theorem tb_l22:ldk Tryz.prog 22=some none:=by kernel_rfl
@[go_sem] theorem tb_i22:isSl Tryz.prog 22=true:=by kernel_rfl
@[go_sem] theorem tb_e22:es Tryz.prog 22=some 7:=by kernel_rfl
@[go_sem] theorem tb_e25:es Tryz.prog 25=some 26:=by kernel_rfl
@[go_sem] theorem tb_y25:byt Tryz.prog 25=some 312:=by kernel_rfl
@[go_sem] theorem tb_w25:zrT Tryz.prog 25=some [.v (.int .i64 0),.v (.int .i64 0),.v (.int .i64 0),.v (.int .i64 0),.v (.string ⟨#[]⟩),.v (.string ⟨#[]⟩),.v (.string ⟨#[]⟩),.v (.int .i64 0),.v (.string ⟨#[]⟩),.v (.int .i64 0),.v (.int .i64 0),.v (.int .i64 0),.v (.int .i64 0),.v (.int .i64 0),.v (.int .i64 0),.v (.int .i64 0),.v (.int .i64 0),.v (.int .i64 0),.v (.int .i64 0),.v (.int .i64 0),.v (.string ⟨#[]⟩),.sl [],.sl [],.sl [],.sl [],.v (.int .i64 0)]:=by kernel_rfl
@[go_sem] theorem tb_l27:ldk Tryz.prog 27=some none:=by kernel_rfl
@[go_sem] theorem tb_i27:isSl Tryz.prog 27=true:=by kernel_rfl
@[go_sem] theorem tb_b28:qbq Tryz.prog 28=false:=by kernel_rfl
@[go_sem] theorem tb_i28:isSl Tryz.prog 28=true:=by kernel_rfl
@[go_sem] theorem tb_e28:es Tryz.prog 28=some 2:=by kernel_rfl
@[go_sem] theorem tb_y28:byt Tryz.prog 28=some 16:=by kernel_rfl
@[go_sem] theorem tb_w28:zrT Tryz.prog 28=some (owAt (0,0)):=by kernel_rfl
@[go_sem] theorem tb_l29:ldk Tryz.prog 29=some none:=by kernel_rfl
@[go_sem] theorem tb_i29:isSl Tryz.prog 29=true:=by kernel_rfl
@[go_sem] theorem tb_e29:es Tryz.prog 29=some 13:=by kernel_rfl
@[go_sem] theorem tb_y29:byt Tryz.prog 29=some 120:=by kernel_rfl
@[go_sem] theorem tb_w29:zrT Tryz.prog 29=some (Vr.at Vr.zero):=by kernel_rfl
@[go_sem] theorem tb_l30:ldk Tryz.prog 30=some none:=by kernel_rfl
@[go_sem] theorem tb_i30:isSl Tryz.prog 30=true:=by kernel_rfl
@[go_sem] theorem tb_e30:es Tryz.prog 30=some 17:=by kernel_rfl
@[go_sem] theorem tb_l32:ldk Tryz.prog 32=some (some 7):=by kernel_rfl
@[go_sem] theorem tb_f32_0:fo Tryz.prog 32 0=some 0:=by kernel_rfl
@[go_sem] theorem tb_f32_1:fo Tryz.prog 32 1=some 1:=by kernel_rfl
@[go_sem] theorem tb_f32_2:fo Tryz.prog 32 2=some 2:=by kernel_rfl
@[go_sem] theorem tb_f32_4:fo Tryz.prog 32 4=some 4:=by kernel_rfl
@[go_sem] theorem tb_f32_5:fo Tryz.prog 32 5=some 5:=by kernel_rfl
@[go_sem] theorem tb_l34:ldk Tryz.prog 34=some (some 2):=by kernel_rfl
@[go_sem] theorem tb_s34:szo Tryz.prog 34=some 2:=by kernel_rfl
@[go_sem] theorem tb_b34:qbq Tryz.prog 34=false:=by kernel_rfl
@[go_sem] theorem tb_i34:isSl Tryz.prog 34=false:=by kernel_rfl
@[go_sem] theorem tb_k34:bOk Tryz.prog 34=true:=by kernel_rfl
@[go_sem] theorem tb_p34_0:plc Tryz.prog 34 0=some (0,1):=by kernel_rfl
@[go_sem] theorem tb_p34_1:plc Tryz.prog 34 1=some (1,1):=by kernel_rfl
@[go_sem] theorem tb_f34_0:fo Tryz.prog 34 0=some 0:=by kernel_rfl
@[go_sem] theorem tb_f34_1:fo Tryz.prog 34 1=some 1:=by kernel_rfl
@[go_sem] theorem tb_q34:eqOk Tryz.prog 34=some [1,1]:=by kernel_rfl
@[go_sem] theorem tb_z34:zrow Tryz.prog 34=some (owAt (0,0)):=by kernel_rfl
@[go_sem] theorem tb_a35:ar Tryz.prog 35=some (4,2):=by kernel_rfl
@[go_sem] theorem tb_l37:ldk Tryz.prog 37=some (some 11):=by kernel_rfl
@[go_sem] theorem tb_s37:szo Tryz.prog 37=some 11:=by kernel_rfl
@[go_sem] theorem tb_b37:qbq Tryz.prog 37=false:=by kernel_rfl
@[go_sem] theorem tb_i37:isSl Tryz.prog 37=false:=by kernel_rfl
@[go_sem] theorem tb_k37:bOk Tryz.prog 37=true:=by kernel_rfl
@[go_sem] theorem tb_p37_0:plc Tryz.prog 37 0=some (0,1):=by kernel_rfl
@[go_sem] theorem tb_p37_1:plc Tryz.prog 37 1=some (1,1):=by kernel_rfl
@[go_sem] theorem tb_p37_2:plc Tryz.prog 37 2=some (2,1):=by kernel_rfl
@[go_sem] theorem tb_f37_0:fo Tryz.prog 37 0=some 0:=by kernel_rfl
@[go_sem] theorem tb_f37_1:fo Tryz.prog 37 1=some 1:=by kernel_rfl
@[go_sem] theorem tb_f37_2:fo Tryz.prog 37 2=some 2:=by kernel_rfl
@[go_sem] theorem tb_f37_3:fo Tryz.prog 37 3=some 3:=by kernel_rfl
@[go_sem] theorem tb_q37:eqOk Tryz.prog 37=some [1,2,1,1,1,1,1,1,1,1,1]:=by kernel_rfl
@[go_sem] theorem tb_z37:zrow Tryz.prog 37=some (Ty.at Ty.zero):=by kernel_rfl
@[go_sem] theorem tb_l38:ldk Tryz.prog 38=some none:=by kernel_rfl
@[go_sem] theorem tb_i38:isSl Tryz.prog 38=true:=by kernel_rfl
@[go_sem] theorem tb_e38:es Tryz.prog 38=some 23:=by kernel_rfl
@[go_sem] theorem tb_l40:ldk Tryz.prog 40=some (some 17):=by kernel_rfl
@[go_sem] theorem tb_s40:szo Tryz.prog 40=some 17:=by kernel_rfl
@[go_sem] theorem tb_i40:isSl Tryz.prog 40=false:=by kernel_rfl
@[go_sem] theorem tb_f40_0:fo Tryz.prog 40 0=some 0:=by kernel_rfl
@[go_sem] theorem tb_f40_2:fo Tryz.prog 40 2=some 2:=by kernel_rfl
@[go_sem] theorem tb_f40_3:fo Tryz.prog 40 3=some 13:=by kernel_rfl
@[go_sem] theorem tb_f40_4:fo Tryz.prog 40 4=some 14:=by kernel_rfl
@[go_sem] theorem tb_z40:zrow Tryz.prog 40=some (Me.at Me.zero):=by kernel_rfl
@[go_sem] theorem tb_l44:ldk Tryz.prog 44=some none:=by kernel_rfl
@[go_sem] theorem tb_s44:szo Tryz.prog 44=some 1:=by kernel_rfl
@[go_sem] theorem tb_i44:isSl Tryz.prog 44=true:=by kernel_rfl
@[go_sem] theorem tb_e44:es Tryz.prog 44=some 4:=by kernel_rfl
@[go_sem] theorem tb_y44:byt Tryz.prog 44=some 56:=by kernel_rfl
@[go_sem] theorem tb_w44:zrT Tryz.prog 44=some (Ex.at Ex.zero):=by kernel_rfl
@[go_sem] theorem tb_z44:zrow Tryz.prog 44=some [.sl []]:=by kernel_rfl
@[go_sem] theorem tb_l46:ldk Tryz.prog 46=some (some 4):=by kernel_rfl
@[go_sem] theorem tb_s46:szo Tryz.prog 46=some 4:=by kernel_rfl
@[go_sem] theorem tb_i46:isSl Tryz.prog 46=false:=by kernel_rfl
@[go_sem] theorem tb_k46:bOk Tryz.prog 46=true:=by kernel_rfl
@[go_sem] theorem tb_f46_0:fo Tryz.prog 46 0=some 0:=by kernel_rfl
@[go_sem] theorem tb_f46_1:fo Tryz.prog 46 1=some 1:=by kernel_rfl
@[go_sem] theorem tb_f46_2:fo Tryz.prog 46 2=some 2:=by kernel_rfl
@[go_sem] theorem tb_f46_3:fo Tryz.prog 46 3=some 3:=by kernel_rfl
@[go_sem] theorem tb_z46:zrow Tryz.prog 46=some (Ex.at Ex.zero):=by kernel_rfl
@[go_sem] theorem tb_l48:ldk Tryz.prog 48=some (some 23):=by kernel_rfl
@[go_sem] theorem tb_s48:szo Tryz.prog 48=some 23:=by kernel_rfl
@[go_sem] theorem tb_f48_0:fo Tryz.prog 48 0=some 0:=by kernel_rfl
@[go_sem] theorem tb_f48_1:fo Tryz.prog 48 1=some 1:=by kernel_rfl
@[go_sem] theorem tb_f48_2:fo Tryz.prog 48 2=some 2:=by kernel_rfl
@[go_sem] theorem tb_f48_3:fo Tryz.prog 48 3=some 3:=by kernel_rfl
@[go_sem] theorem tb_f48_4:fo Tryz.prog 48 4=some 4:=by kernel_rfl
@[go_sem] theorem tb_f48_5:fo Tryz.prog 48 5=some 15:=by kernel_rfl
@[go_sem] theorem tb_f48_6:fo Tryz.prog 48 6=some 19:=by kernel_rfl
@[go_sem] theorem tb_f48_7:fo Tryz.prog 48 7=some 20:=by kernel_rfl
@[go_sem] theorem tb_f48_8:fo Tryz.prog 48 8=some 21:=by kernel_rfl
@[go_sem] theorem tb_l50:ldk Tryz.prog 50=some (some 26):=by kernel_rfl
@[go_sem] theorem tb_s50:szo Tryz.prog 50=some 26:=by kernel_rfl
@[go_sem] theorem tb_i50:isSl Tryz.prog 50=false:=by kernel_rfl
@[go_sem] theorem tb_f50_2:fo Tryz.prog 50 2=some 2:=by kernel_rfl
@[go_sem] theorem tb_f50_3:fo Tryz.prog 50 3=some 3:=by kernel_rfl
@[go_sem] theorem tb_z50:zrow Tryz.prog 50=some [.v (.int .i64 0),.v (.int .i64 0),.v (.int .i64 0),.v (.int .i64 0),.v (.string ⟨#[]⟩),.v (.string ⟨#[]⟩),.v (.string ⟨#[]⟩),.v (.int .i64 0),.v (.string ⟨#[]⟩),.v (.int .i64 0),.v (.int .i64 0),.v (.int .i64 0),.v (.int .i64 0),.v (.int .i64 0),.v (.int .i64 0),.v (.int .i64 0),.v (.int .i64 0),.v (.int .i64 0),.v (.int .i64 0),.v (.int .i64 0),.v (.string ⟨#[]⟩),.sl [],.sl [],.sl [],.sl [],.v (.int .i64 0)]:=by kernel_rfl
@[go_sem] theorem tb_q62:eqOk Tryz.prog 62=some [1,1,2,1,1,1,1,1,1,1,1,1,1,2,1,1,1,1,1,1,1,1,1]:=by kernel_rfl
@[go_sem] theorem tb_b68:qbq Tryz.prog 68=false:=by kernel_rfl
@[go_sem] theorem tb_l74:ldk Tryz.prog 74=some (some 13):=by kernel_rfl
@[go_sem] theorem tb_s74:szo Tryz.prog 74=some 13:=by kernel_rfl
@[go_sem] theorem tb_i74:isSl Tryz.prog 74=false:=by kernel_rfl
@[go_sem] theorem tb_f74_0:fo Tryz.prog 74 0=some 0:=by kernel_rfl
@[go_sem] theorem tb_f74_1:fo Tryz.prog 74 1=some 1:=by kernel_rfl
@[go_sem] theorem tb_z74:zrow Tryz.prog 74=some (Vr.at Vr.zero):=by kernel_rfl
@[go_sem] theorem tb_l101:ldk Tryz.prog 101=some (some 18):=by kernel_rfl
@[go_sem] theorem tb_s101:szo Tryz.prog 101=some 18:=by kernel_rfl
@[go_sem] theorem tb_i101:isSl Tryz.prog 101=false:=by kernel_rfl
@[go_sem] theorem tb_k101:bOk Tryz.prog 101=true:=by kernel_rfl
@[go_sem] theorem tb_f101_0:fo Tryz.prog 101 0=some 0:=by kernel_rfl
@[go_sem] theorem tb_f101_1:fo Tryz.prog 101 1=some 1:=by kernel_rfl
@[go_sem] theorem tb_z101:zrow Tryz.prog 101=some [.v (.string ⟨#[]⟩),.v (.string ⟨#[]⟩),.v (.bool false),.v (.int .i64 0),.v (.string ⟨#[]⟩),.v (.int .i64 0),.v (.int .i64 0),.v (.int .i64 0),.v (.int .i64 0),.v (.int .i64 0),.v (.int .i64 0),.v (.int .i64 0),.v (.int .i64 0),.v (.int .i64 0),.sl [],.sl [],.sl [],.v (.int .i64 0)]:=by kernel_rfl
@[go_sem] theorem tb_l124:ldk Tryz.prog 124=some none:=by kernel_rfl
@[go_sem] theorem tb_k126:bOk Tryz.prog 126=true:=by kernel_rfl
@[go_sem] theorem tb_p126_0:plc Tryz.prog 126 0=some (0,1):=by kernel_rfl
@[go_sem] theorem tb_p126_1:plc Tryz.prog 126 1=some (1,7):=by kernel_rfl
@[go_sem] theorem tb_p126_2:plc Tryz.prog 126 2=some (8,17):=by kernel_rfl
@[go_sem] theorem tb_p126_3:plc Tryz.prog 126 3=some (25,23):=by kernel_rfl
@[go_sem] theorem tb_f126_0:fo Tryz.prog 126 0=some 0:=by kernel_rfl
@[go_sem] theorem tb_f126_1:fo Tryz.prog 126 1=some 1:=by kernel_rfl
@[go_sem] theorem tb_f126_2:fo Tryz.prog 126 2=some 8:=by kernel_rfl
@[go_sem] theorem tb_f126_3:fo Tryz.prog 126 3=some 25:=by kernel_rfl
@[go_sem] theorem tb_f126_4:fo Tryz.prog 126 4=some 48:=by kernel_rfl
@[go_sem] theorem tb_f126_5:fo Tryz.prog 126 5=some 59:=by kernel_rfl
@[go_sem] theorem tb_z126:zrow Tryz.prog 126=some [.sl [],.v (.string ⟨#[]⟩),.sl [],.v (.string ⟨#[]⟩),.sl [],.sl [],.sl [],.v (.int .i64 0),.v (.string ⟨#[]⟩),.v (.bool false),.v (.int .i64 0),.v (.string ⟨#[]⟩),.v (.int .i64 0),.v (.int .i64 0),.v (.int .i64 0),.v (.int .i64 0),.v (.int .i64 0),.v (.int .i64 0),.v (.int .i64 0),.v (.int .i64 0),.v (.int .i64 0),.sl [],.sl [],.sl [],.v (.int .i64 0),.v (.int .i64 0),.v (.string ⟨#[]⟩),.v (.string ⟨#[]⟩),.v (.string ⟨#[]⟩),.v (.int .i64 0),.v (.string ⟨#[]⟩),.v (.int .i64 0),.v (.int .i64 0),.v (.int .i64 0),.v (.int .i64 0),.v (.int .i64 0),.v (.int .i64 0),.v (.int .i64 0),.v (.int .i64 0),.v (.int .i64 0),.v (.int .i64 0),.v (.int .i64 0),.v (.string ⟨#[]⟩),.sl [],.sl [],.sl [],.sl [],.v (.int .i64 0),.v (.int .i64 0),.v (.string ⟨#[]⟩),.v (.int .i64 0),.v (.int .i64 0),.v (.int .i64 0),.v (.int .i64 0),.v (.int .i64 0),.v (.int .i64 0),.v (.int .i64 0),.v (.int .i64 0),.v (.int .i64 0),.v (.int .i64 0),.v (.string ⟨#[]⟩),.v (.int .i64 0),.v (.int .i64 0),.v (.int .i64 0),.v (.int .i64 0),.v (.int .i64 0),.v (.int .i64 0),.v (.int .i64 0),.v (.int .i64 0),.v (.int .i64 0)]:=by kernel_rfl
@[go_sem] theorem tb_l127:ldk Tryz.prog 127=some none:=by kernel_rfl
@[go_sem] theorem tb_l129:ldk Tryz.prog 129=some (some 14):=by kernel_rfl
@[go_sem] theorem tb_s129:szo Tryz.prog 129=some 14:=by kernel_rfl
@[go_sem] theorem tb_i129:isSl Tryz.prog 129=false:=by kernel_rfl
@[go_sem] theorem tb_k129:bOk Tryz.prog 129=true:=by kernel_rfl
@[go_sem] theorem tb_p129_0:plc Tryz.prog 129 0=some (0,1):=by kernel_rfl
@[go_sem] theorem tb_p129_1:plc Tryz.prog 129 1=some (1,13):=by kernel_rfl
@[go_sem] theorem tb_f129_1:fo Tryz.prog 129 1=some 1:=by kernel_rfl
@[go_sem] theorem tb_z129:zrow Tryz.prog 129=some [.v (.string ⟨#[]⟩),.v (.string ⟨#[]⟩),.v (.int .i64 0),.v (.string ⟨#[]⟩),.v (.int .i64 0),.v (.int .i64 0),.v (.int .i64 0),.v (.int .i64 0),.v (.int .i64 0),.v (.int .i64 0),.v (.int .i64 0),.v (.int .i64 0),.v (.int .i64 0),.v (.int .i64 0)]:=by kernel_rfl
@[go_sem] theorem tb_l145:ldk Tryz.prog 145=some none:=by kernel_rfl
@[go_sem] theorem tb_s145:szo Tryz.prog 145=some 1:=by kernel_rfl
@[go_sem] theorem tb_i145:isSl Tryz.prog 145=true:=by kernel_rfl
@[go_sem] theorem tb_e145:es Tryz.prog 145=some 1:=by kernel_rfl
@[go_sem] theorem tb_y145:byt Tryz.prog 145=some 8:=by kernel_rfl
@[go_sem] theorem tb_w145:zrT Tryz.prog 145=some [.v (.int .i64 0)]:=by kernel_rfl
@[go_sem] theorem tb_z145:zrow Tryz.prog 145=some [.sl []]:=by kernel_rfl
@[go_sem] theorem tb_l168:ldk Tryz.prog 168=some none:=by kernel_rfl
@[go_sem] theorem tb_k187:bOk Tryz.prog 187=true:=by kernel_rfl
@[go_sem] theorem tb_p187_0:plc Tryz.prog 187 0=some (0,17):=by kernel_rfl
@[go_sem] theorem tb_p187_1:plc Tryz.prog 187 1=some (17,1):=by kernel_rfl
@[go_sem] theorem tb_f187_0:fo Tryz.prog 187 0=some 0:=by kernel_rfl
@[go_sem] theorem tb_f187_1:fo Tryz.prog 187 1=some 17:=by kernel_rfl
@[go_sem] theorem tb_z187:zrow Tryz.prog 187=some [.v (.string ⟨#[]⟩),.v (.bool false),.v (.int .i64 0),.v (.string ⟨#[]⟩),.v (.int .i64 0),.v (.int .i64 0),.v (.int .i64 0),.v (.int .i64 0),.v (.int .i64 0),.v (.int .i64 0),.v (.int .i64 0),.v (.int .i64 0),.v (.int .i64 0),.sl [],.sl [],.sl [],.v (.int .i64 0),.v (.int .i64 0)]:=by kernel_rfl
@[go_sem] theorem tb_i202:isSl Tryz.prog 202=true:=by kernel_rfl
@[go_sem] theorem tb_e202:es Tryz.prog 202=some 1:=by kernel_rfl
@[go_sem] theorem tb_y202:byt Tryz.prog 202=some 8:=by kernel_rfl
@[go_sem] theorem tb_w202:zrT Tryz.prog 202=some [.v .nilFunc]:=by kernel_rfl
@[go_sem] theorem tb_l208:ldk Tryz.prog 208=some none:=by kernel_rfl
@[go_sem] theorem tb_s208:szo Tryz.prog 208=some 1:=by kernel_rfl
@[go_sem] theorem tb_i208:isSl Tryz.prog 208=false:=by kernel_rfl
@[go_sem] theorem tb_z208:zrow Tryz.prog 208=some [.v .nilFunc]:=by kernel_rfl
@[go_sem] theorem tb_l210:ldk Tryz.prog 210=some none:=by kernel_rfl
@[go_sem] theorem tb_s210:szo Tryz.prog 210=some 1:=by kernel_rfl
@[go_sem] theorem tb_i210:isSl Tryz.prog 210=true:=by kernel_rfl
@[go_sem] theorem tb_e210:es Tryz.prog 210=some 14:=by kernel_rfl
@[go_sem] theorem tb_y210:byt Tryz.prog 210=some 136:=by kernel_rfl
@[go_sem] theorem tb_w210:zrT Tryz.prog 210=some [.v (.string ⟨#[]⟩),.v (.string ⟨#[]⟩),.v (.int .i64 0),.v (.string ⟨#[]⟩),.v (.int .i64 0),.v (.int .i64 0),.v (.int .i64 0),.v (.int .i64 0),.v (.int .i64 0),.v (.int .i64 0),.v (.int .i64 0),.v (.int .i64 0),.v (.int .i64 0),.v (.int .i64 0)]:=by kernel_rfl
@[go_sem] theorem tb_z210:zrow Tryz.prog 210=some [.sl []]:=by kernel_rfl
@[go_sem] theorem tb_i237:isSl Tryz.prog 237=true:=by kernel_rfl
@[go_sem] theorem tb_e237:es Tryz.prog 237=some 1:=by kernel_rfl
@[go_sem] theorem tb_y237:byt Tryz.prog 237=some 24:=by kernel_rfl
@[go_sem] theorem tb_w237:zrT Tryz.prog 237=some [.sl []]:=by kernel_rfl
end Go.Proofs.YthkojpnjdpbcgaaGreatDoor
