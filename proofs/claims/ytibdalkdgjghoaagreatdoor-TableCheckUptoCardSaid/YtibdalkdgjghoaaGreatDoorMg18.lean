/- The table of types of this program: how each is read, where fields lie, zero values; by reckoning. Conditions: none. -/
import Derived.Test.YtibdalkdgjghoaaGreatDoorMg12
import Derived.Test.YtibdalkdgjghoaaGreatDoorProg
import Derived.Test.YtibdalkdgjghoaaGreatDoorMg17
set_option linter.unusedVariables false
set_option maxRecDepth 100000
set_option maxHeartbeats 8000000
set_option linter.unusedSimpArgs false
namespace Go.Proofs.YtibdalkdgjghoaaGreatDoor
open Go.RowKit
theorem tb_mix:Tryz.prog.follows .mixedOrders=true:=by kernel_rfl
@[go_sem] theorem tb_l3:ldk Tryz.prog 3=some none:=by kernel_rfl
@[go_sem] theorem tb_s3:szo Tryz.prog 3=some 1:=by kernel_rfl
@[go_sem] theorem tb_b3:isBool Tryz.prog 3=false:=by kernel_rfl
@[go_sem] theorem tb_i3:isSl Tryz.prog 3=false:=by kernel_rfl
@[go_sem] theorem tb_z3:zrow Tryz.prog 3=some [.v (.int .i64 0)]:=by kernel_rfl
@[go_sem] theorem tb_l4:ldk Tryz.prog 4=some none:=by kernel_rfl
@[go_sem] theorem tb_s4:szo Tryz.prog 4=some 1:=by kernel_rfl
@[go_sem] theorem tb_i4:isSl Tryz.prog 4=false:=by kernel_rfl
@[go_sem] theorem tb_z4:zrow Tryz.prog 4=some [.v (.bool false)]:=by kernel_rfl
@[go_sem] theorem tb_l9:ldk Tryz.prog 9=some none:=by kernel_rfl
@[go_sem] theorem tb_s9:szo Tryz.prog 9=some 1:=by kernel_rfl
@[go_sem] theorem tb_b9:isBool Tryz.prog 9=false:=by kernel_rfl
@[go_sem] theorem tb_l22:ldk Tryz.prog 22=some none:=by kernel_rfl
@[go_sem] theorem tb_i22:isSl Tryz.prog 22=true:=by kernel_rfl
@[go_sem] theorem tb_e22:es Tryz.prog 22=some 7:=by kernel_rfl
@[go_sem] theorem tb_y22:byt Tryz.prog 22=some 136:=by kernel_rfl
@[go_sem] theorem tb_w22:zrT Tryz.prog 22=some (Cs.at Cs.zero):=by kernel_rfl
@[go_sem] theorem tb_l25:ldk Tryz.prog 25=some none:=by kernel_rfl
@[go_sem] theorem tb_b25:isBool Tryz.prog 25=false:=by kernel_rfl
@[go_sem] theorem tb_l27:ldk Tryz.prog 27=some (some 2):=by kernel_rfl
@[go_sem] theorem tb_s27:szo Tryz.prog 27=some 2:=by kernel_rfl
@[go_sem] theorem tb_b27:isBool Tryz.prog 27=false:=by kernel_rfl
@[go_sem] theorem tb_i27:isSl Tryz.prog 27=false:=by kernel_rfl
@[go_sem] theorem tb_k27:bOk Tryz.prog 27=true:=by kernel_rfl
@[go_sem] theorem tb_p27_0:plc Tryz.prog 27 0=some (0,1):=by kernel_rfl
@[go_sem] theorem tb_p27_1:plc Tryz.prog 27 1=some (1,1):=by kernel_rfl
@[go_sem] theorem tb_f27_0:fo Tryz.prog 27 0=some 0:=by kernel_rfl
@[go_sem] theorem tb_q27:eqOk Tryz.prog 27=some [1,1]:=by kernel_rfl
@[go_sem] theorem tb_z27:zrow Tryz.prog 27=some [.v (.int .i64 0),.v (.int .i64 0)]:=by kernel_rfl
@[go_sem] theorem tb_l32:ldk Tryz.prog 32=some (some 2):=by kernel_rfl
@[go_sem] theorem tb_s32:szo Tryz.prog 32=some 2:=by kernel_rfl
@[go_sem] theorem tb_b32:isBool Tryz.prog 32=false:=by kernel_rfl
@[go_sem] theorem tb_i32:isSl Tryz.prog 32=false:=by kernel_rfl
@[go_sem] theorem tb_k32:bOk Tryz.prog 32=true:=by kernel_rfl
@[go_sem] theorem tb_f32_0:fo Tryz.prog 32 0=some 0:=by kernel_rfl
@[go_sem] theorem tb_f32_1:fo Tryz.prog 32 1=some 1:=by kernel_rfl
@[go_sem] theorem tb_q32:eqOk Tryz.prog 32=some [1,1]:=by kernel_rfl
@[go_sem] theorem tb_z32:zrow Tryz.prog 32=some (owAt (0,0)):=by kernel_rfl
@[go_sem] theorem tb_l33:ldk Tryz.prog 33=some (some 8):=by kernel_rfl
@[go_sem] theorem tb_s33:szo Tryz.prog 33=some 8:=by kernel_rfl
@[go_sem] theorem tb_i33:isSl Tryz.prog 33=false:=by kernel_rfl
@[go_sem] theorem tb_a33:ar Tryz.prog 33=some (4,2):=by kernel_rfl
@[go_sem] theorem tb_z33:zrow Tryz.prog 33=some [.v (.int .i64 0),.v (.int .i64 0),.v (.int .i64 0),.v (.int .i64 0),.v (.int .i64 0),.v (.int .i64 0),.v (.int .i64 0),.v (.int .i64 0)]:=by kernel_rfl
@[go_sem] theorem tb_l35:ldk Tryz.prog 35=some (some 11):=by kernel_rfl
@[go_sem] theorem tb_s35:szo Tryz.prog 35=some 11:=by kernel_rfl
@[go_sem] theorem tb_b35:isBool Tryz.prog 35=false:=by kernel_rfl
@[go_sem] theorem tb_i35:isSl Tryz.prog 35=false:=by kernel_rfl
@[go_sem] theorem tb_k35:bOk Tryz.prog 35=true:=by kernel_rfl
@[go_sem] theorem tb_p35_0:plc Tryz.prog 35 0=some (0,1):=by kernel_rfl
@[go_sem] theorem tb_f35_0:fo Tryz.prog 35 0=some 0:=by kernel_rfl
@[go_sem] theorem tb_f35_1:fo Tryz.prog 35 1=some 1:=by kernel_rfl
@[go_sem] theorem tb_f35_2:fo Tryz.prog 35 2=some 2:=by kernel_rfl
@[go_sem] theorem tb_f35_3:fo Tryz.prog 35 3=some 3:=by kernel_rfl
@[go_sem] theorem tb_q35:eqOk Tryz.prog 35=some [1,2,1,1,1,1,1,1,1,1,1]:=by kernel_rfl
@[go_sem] theorem tb_z35:zrow Tryz.prog 35=some (Ty.at Ty.zero):=by kernel_rfl
@[go_sem] theorem tb_l36:ldk Tryz.prog 36=some none:=by kernel_rfl
@[go_sem] theorem tb_s36:szo Tryz.prog 36=some 1:=by kernel_rfl
@[go_sem] theorem tb_i36:isSl Tryz.prog 36=true:=by kernel_rfl
@[go_sem] theorem tb_e36:es Tryz.prog 36=some 4:=by kernel_rfl
@[go_sem] theorem tb_y36:byt Tryz.prog 36=some 56:=by kernel_rfl
@[go_sem] theorem tb_w36:zrT Tryz.prog 36=some (Ex.at Ex.zero):=by kernel_rfl
@[go_sem] theorem tb_z36:zrow Tryz.prog 36=some [.sl []]:=by kernel_rfl
@[go_sem] theorem tb_l38:ldk Tryz.prog 38=some (some 4):=by kernel_rfl
@[go_sem] theorem tb_s38:szo Tryz.prog 38=some 4:=by kernel_rfl
@[go_sem] theorem tb_i38:isSl Tryz.prog 38=false:=by kernel_rfl
@[go_sem] theorem tb_k38:bOk Tryz.prog 38=true:=by kernel_rfl
@[go_sem] theorem tb_f38_0:fo Tryz.prog 38 0=some 0:=by kernel_rfl
@[go_sem] theorem tb_f38_1:fo Tryz.prog 38 1=some 1:=by kernel_rfl
@[go_sem] theorem tb_f38_2:fo Tryz.prog 38 2=some 2:=by kernel_rfl
@[go_sem] theorem tb_f38_3:fo Tryz.prog 38 3=some 3:=by kernel_rfl
@[go_sem] theorem tb_z38:zrow Tryz.prog 38=some (Ex.at Ex.zero):=by kernel_rfl
@[go_sem] theorem tb_l39:ldk Tryz.prog 39=some none:=by kernel_rfl
@[go_sem] theorem tb_s39:szo Tryz.prog 39=some 1:=by kernel_rfl
@[go_sem] theorem tb_i39:isSl Tryz.prog 39=true:=by kernel_rfl
@[go_sem] theorem tb_e39:es Tryz.prog 39=some 23:=by kernel_rfl
@[go_sem] theorem tb_l41:ldk Tryz.prog 41=some (some 23):=by kernel_rfl
@[go_sem] theorem tb_s41:szo Tryz.prog 41=some 23:=by kernel_rfl
@[go_sem] theorem tb_i41:isSl Tryz.prog 41=false:=by kernel_rfl
@[go_sem] theorem tb_f41_0:fo Tryz.prog 41 0=some 0:=by kernel_rfl
@[go_sem] theorem tb_f41_1:fo Tryz.prog 41 1=some 1:=by kernel_rfl
@[go_sem] theorem tb_f41_2:fo Tryz.prog 41 2=some 2:=by kernel_rfl
@[go_sem] theorem tb_f41_3:fo Tryz.prog 41 3=some 3:=by kernel_rfl
@[go_sem] theorem tb_f41_4:fo Tryz.prog 41 4=some 4:=by kernel_rfl
@[go_sem] theorem tb_f41_5:fo Tryz.prog 41 5=some 15:=by kernel_rfl
@[go_sem] theorem tb_f41_6:fo Tryz.prog 41 6=some 19:=by kernel_rfl
@[go_sem] theorem tb_f41_7:fo Tryz.prog 41 7=some 20:=by kernel_rfl
@[go_sem] theorem tb_f41_8:fo Tryz.prog 41 8=some 21:=by kernel_rfl
@[go_sem] theorem tb_f41_9:fo Tryz.prog 41 9=some 22:=by kernel_rfl
@[go_sem] theorem tb_z41:zrow Tryz.prog 41=some (St.at St.zero):=by kernel_rfl
@[go_sem] theorem tb_l42:ldk Tryz.prog 42=some none:=by kernel_rfl
@[go_sem] theorem tb_i42:isSl Tryz.prog 42=true:=by kernel_rfl
@[go_sem] theorem tb_e42:es Tryz.prog 42=some 1:=by kernel_rfl
@[go_sem] theorem tb_y42:byt Tryz.prog 42=some 16:=by kernel_rfl
@[go_sem] theorem tb_w42:zrT Tryz.prog 42=some [.v (.string ⟨#[]⟩)]:=by kernel_rfl
@[go_sem] theorem tb_l43:ldk Tryz.prog 43=some none:=by kernel_rfl
@[go_sem] theorem tb_i43:isSl Tryz.prog 43=true:=by kernel_rfl
@[go_sem] theorem tb_e43:es Tryz.prog 43=some 2:=by kernel_rfl
@[go_sem] theorem tb_l44:ldk Tryz.prog 44=some none:=by kernel_rfl
@[go_sem] theorem tb_i44:isSl Tryz.prog 44=true:=by kernel_rfl
@[go_sem] theorem tb_e44:es Tryz.prog 44=some 13:=by kernel_rfl
@[go_sem] theorem tb_y44:byt Tryz.prog 44=some 120:=by kernel_rfl
@[go_sem] theorem tb_w44:zrT Tryz.prog 44=some (Vr.at Vr.zero):=by kernel_rfl
@[go_sem] theorem tb_l45:ldk Tryz.prog 45=some none:=by kernel_rfl
@[go_sem] theorem tb_i45:isSl Tryz.prog 45=true:=by kernel_rfl
@[go_sem] theorem tb_e45:es Tryz.prog 45=some 17:=by kernel_rfl
@[go_sem] theorem tb_l47:ldk Tryz.prog 47=some (some 7):=by kernel_rfl
@[go_sem] theorem tb_s47:szo Tryz.prog 47=some 7:=by kernel_rfl
@[go_sem] theorem tb_i47:isSl Tryz.prog 47=false:=by kernel_rfl
@[go_sem] theorem tb_k47:bOk Tryz.prog 47=true:=by kernel_rfl
@[go_sem] theorem tb_p47_0:plc Tryz.prog 47 0=some (0,1):=by kernel_rfl
@[go_sem] theorem tb_p47_2:plc Tryz.prog 47 2=some (2,1):=by kernel_rfl
@[go_sem] theorem tb_f47_0:fo Tryz.prog 47 0=some 0:=by kernel_rfl
@[go_sem] theorem tb_f47_1:fo Tryz.prog 47 1=some 1:=by kernel_rfl
@[go_sem] theorem tb_f47_2:fo Tryz.prog 47 2=some 2:=by kernel_rfl
@[go_sem] theorem tb_f47_3:fo Tryz.prog 47 3=some 3:=by kernel_rfl
@[go_sem] theorem tb_f47_4:fo Tryz.prog 47 4=some 4:=by kernel_rfl
@[go_sem] theorem tb_f47_5:fo Tryz.prog 47 5=some 5:=by kernel_rfl
@[go_sem] theorem tb_f47_6:fo Tryz.prog 47 6=some 6:=by kernel_rfl
@[go_sem] theorem tb_z47:zrow Tryz.prog 47=some (Cs.at Cs.zero):=by kernel_rfl
@[go_sem] theorem tb_l49:ldk Tryz.prog 49=some (some 17):=by kernel_rfl
@[go_sem] theorem tb_s49:szo Tryz.prog 49=some 17:=by kernel_rfl
@[go_sem] theorem tb_i49:isSl Tryz.prog 49=false:=by kernel_rfl
@[go_sem] theorem tb_f49_0:fo Tryz.prog 49 0=some 0:=by kernel_rfl
@[go_sem] theorem tb_f49_2:fo Tryz.prog 49 2=some 2:=by kernel_rfl
@[go_sem] theorem tb_f49_3:fo Tryz.prog 49 3=some 13:=by kernel_rfl
@[go_sem] theorem tb_f49_4:fo Tryz.prog 49 4=some 14:=by kernel_rfl
@[go_sem] theorem tb_f49_5:fo Tryz.prog 49 5=some 15:=by kernel_rfl
@[go_sem] theorem tb_f49_6:fo Tryz.prog 49 6=some 16:=by kernel_rfl
@[go_sem] theorem tb_z49:zrow Tryz.prog 49=some (Me.at Me.zero):=by kernel_rfl
@[go_sem] theorem tb_l68:ldk Tryz.prog 68=some (some 13):=by kernel_rfl
@[go_sem] theorem tb_s68:szo Tryz.prog 68=some 13:=by kernel_rfl
@[go_sem] theorem tb_i68:isSl Tryz.prog 68=false:=by kernel_rfl
@[go_sem] theorem tb_f68_0:fo Tryz.prog 68 0=some 0:=by kernel_rfl
@[go_sem] theorem tb_f68_1:fo Tryz.prog 68 1=some 1:=by kernel_rfl
@[go_sem] theorem tb_f68_2:fo Tryz.prog 68 2=some 12:=by kernel_rfl
@[go_sem] theorem tb_z68:zrow Tryz.prog 68=some (Vr.at Vr.zero):=by kernel_rfl
@[go_sem] theorem tb_i77:isSl Tryz.prog 77=true:=by kernel_rfl
@[go_sem] theorem tb_e77:es Tryz.prog 77=some 26:=by kernel_rfl
@[go_sem] theorem tb_y77:byt Tryz.prog 77=some 312:=by kernel_rfl
@[go_sem] theorem tb_w77:zrT Tryz.prog 77=some [.v (.int .i64 0),.v (.int .i64 0),.v (.int .i64 0),.v (.int .i64 0),.v (.string ⟨#[]⟩),.v (.string ⟨#[]⟩),.v (.string ⟨#[]⟩),.v (.int .i64 0),.v (.string ⟨#[]⟩),.v (.int .i64 0),.v (.int .i64 0),.v (.int .i64 0),.v (.int .i64 0),.v (.int .i64 0),.v (.int .i64 0),.v (.int .i64 0),.v (.int .i64 0),.v (.int .i64 0),.v (.int .i64 0),.v (.int .i64 0),.v (.string ⟨#[]⟩),.sl [],.sl [],.sl [],.sl [],.v (.int .i64 0)]:=by kernel_rfl
@[go_sem] theorem tb_l80:ldk Tryz.prog 80=some (some 26):=by kernel_rfl
@[go_sem] theorem tb_s80:szo Tryz.prog 80=some 26:=by kernel_rfl
@[go_sem] theorem tb_i80:isSl Tryz.prog 80=false:=by kernel_rfl
@[go_sem] theorem tb_k80:bOk Tryz.prog 80=true:=by kernel_rfl
@[go_sem] theorem tb_f80_2:fo Tryz.prog 80 2=some 2:=by kernel_rfl
@[go_sem] theorem tb_f80_3:fo Tryz.prog 80 3=some 3:=by kernel_rfl
@[go_sem] theorem tb_z80:zrow Tryz.prog 80=some [.v (.int .i64 0),.v (.int .i64 0),.v (.int .i64 0),.v (.int .i64 0),.v (.string ⟨#[]⟩),.v (.string ⟨#[]⟩),.v (.string ⟨#[]⟩),.v (.int .i64 0),.v (.string ⟨#[]⟩),.v (.int .i64 0),.v (.int .i64 0),.v (.int .i64 0),.v (.int .i64 0),.v (.int .i64 0),.v (.int .i64 0),.v (.int .i64 0),.v (.int .i64 0),.v (.int .i64 0),.v (.int .i64 0),.v (.int .i64 0),.v (.string ⟨#[]⟩),.sl [],.sl [],.sl [],.sl [],.v (.int .i64 0)]:=by kernel_rfl
@[go_sem] theorem tb_l88:ldk Tryz.prog 88=some none:=by kernel_rfl
@[go_sem] theorem tb_s88:szo Tryz.prog 88=some 1:=by kernel_rfl
@[go_sem] theorem tb_i88:isSl Tryz.prog 88=false:=by kernel_rfl
@[go_sem] theorem tb_z88:zrow Tryz.prog 88=some [.v (.pointer none)]:=by kernel_rfl
@[go_sem] theorem tb_l89:ldk Tryz.prog 89=some none:=by kernel_rfl
@[go_sem] theorem tb_k91:bOk Tryz.prog 91=true:=by kernel_rfl
@[go_sem] theorem tb_p91_0:plc Tryz.prog 91 0=some (0,1):=by kernel_rfl
@[go_sem] theorem tb_p91_1:plc Tryz.prog 91 1=some (1,1):=by kernel_rfl
@[go_sem] theorem tb_p91_2:plc Tryz.prog 91 2=some (2,1):=by kernel_rfl
@[go_sem] theorem tb_f91_1:fo Tryz.prog 91 1=some 1:=by kernel_rfl
@[go_sem] theorem tb_f91_2:fo Tryz.prog 91 2=some 2:=by kernel_rfl
@[go_sem] theorem tb_f91_3:fo Tryz.prog 91 3=some 3:=by kernel_rfl
@[go_sem] theorem tb_l129:ldk Tryz.prog 129=some (some 7):=by kernel_rfl
@[go_sem] theorem tb_s129:szo Tryz.prog 129=some 7:=by kernel_rfl
@[go_sem] theorem tb_i129:isSl Tryz.prog 129=false:=by kernel_rfl
@[go_sem] theorem tb_k129:bOk Tryz.prog 129=true:=by kernel_rfl
@[go_sem] theorem tb_p129_0:plc Tryz.prog 129 0=some (0,1):=by kernel_rfl
@[go_sem] theorem tb_g129_4:fo2 Tryz.prog 129 4=some (4,none):=by kernel_rfl
@[go_sem] theorem tb_f129_1:fo Tryz.prog 129 1=some 1:=by kernel_rfl
@[go_sem] theorem tb_f129_2:fo Tryz.prog 129 2=some 2:=by kernel_rfl
@[go_sem] theorem tb_f129_3:fo Tryz.prog 129 3=some 3:=by kernel_rfl
@[go_sem] theorem tb_f129_4:fo Tryz.prog 129 4=some 4:=by kernel_rfl
@[go_sem] theorem tb_f129_5:fo Tryz.prog 129 5=some 5:=by kernel_rfl
@[go_sem] theorem tb_f129_6:fo Tryz.prog 129 6=some 6:=by kernel_rfl
@[go_sem] theorem tb_z129:zrow Tryz.prog 129=some [.v (.int .i64 0),.v (.int .i64 0),.v (.int .i64 0),.v (.int .i64 0),.v (.int .i64 0),.v (.int .i64 0),.v (.int .i64 0)]:=by kernel_rfl
@[go_sem] theorem tb_l135:ldk Tryz.prog 135=some none:=by kernel_rfl
@[go_sem] theorem tb_s135:szo Tryz.prog 135=some 1:=by kernel_rfl
@[go_sem] theorem tb_i135:isSl Tryz.prog 135=true:=by kernel_rfl
@[go_sem] theorem tb_e135:es Tryz.prog 135=some 15:=by kernel_rfl
@[go_sem] theorem tb_y135:byt Tryz.prog 135=some 128:=by kernel_rfl
@[go_sem] theorem tb_w135:zrT Tryz.prog 135=some [.v (.int .i64 0),.v (.int .i64 0),.v (.int .i64 0),.v (.int .i64 0),.v (.string ⟨#[]⟩),.v (.int .i64 0),.v (.int .i64 0),.v (.int .i64 0),.v (.int .i64 0),.v (.int .i64 0),.v (.int .i64 0),.v (.int .i64 0),.v (.int .i64 0),.v (.int .i64 0),.v (.int .i64 0)]:=by kernel_rfl
@[go_sem] theorem tb_z135:zrow Tryz.prog 135=some [.sl []]:=by kernel_rfl
@[go_sem] theorem tb_l138:ldk Tryz.prog 138=some (some 15):=by kernel_rfl
@[go_sem] theorem tb_s138:szo Tryz.prog 138=some 15:=by kernel_rfl
@[go_sem] theorem tb_i138:isSl Tryz.prog 138=false:=by kernel_rfl
@[go_sem] theorem tb_k138:bOk Tryz.prog 138=true:=by kernel_rfl
@[go_sem] theorem tb_p138_0:plc Tryz.prog 138 0=some (0,1):=by kernel_rfl
@[go_sem] theorem tb_p138_1:plc Tryz.prog 138 1=some (1,1):=by kernel_rfl
@[go_sem] theorem tb_f138_2:fo Tryz.prog 138 2=some 2:=by kernel_rfl
@[go_sem] theorem tb_f138_3:fo Tryz.prog 138 3=some 3:=by kernel_rfl
@[go_sem] theorem tb_f138_4:fo Tryz.prog 138 4=some 14:=by kernel_rfl
@[go_sem] theorem tb_z138:zrow Tryz.prog 138=some [.v (.int .i64 0),.v (.int .i64 0),.v (.int .i64 0),.v (.int .i64 0),.v (.string ⟨#[]⟩),.v (.int .i64 0),.v (.int .i64 0),.v (.int .i64 0),.v (.int .i64 0),.v (.int .i64 0),.v (.int .i64 0),.v (.int .i64 0),.v (.int .i64 0),.v (.int .i64 0),.v (.int .i64 0)]:=by kernel_rfl
@[go_sem] theorem tb_l155:ldk Tryz.prog 155=some none:=by kernel_rfl
@[go_sem] theorem tb_s187:szo Tryz.prog 187=some 17:=by kernel_rfl
@[go_sem] theorem tb_i187:isSl Tryz.prog 187=false:=by kernel_rfl
@[go_sem] theorem tb_k187:bOk Tryz.prog 187=true:=by kernel_rfl
@[go_sem] theorem tb_p187_0:plc Tryz.prog 187 0=some (0,1):=by kernel_rfl
@[go_sem] theorem tb_p187_1:plc Tryz.prog 187 1=some (1,1):=by kernel_rfl
@[go_sem] theorem tb_p187_2:plc Tryz.prog 187 2=some (2,15):=by kernel_rfl
@[go_sem] theorem tb_f187_0:fo Tryz.prog 187 0=some 0:=by kernel_rfl
@[go_sem] theorem tb_f187_2:fo Tryz.prog 187 2=some 2:=by kernel_rfl
@[go_sem] theorem tb_i190:isSl Tryz.prog 190=true:=by kernel_rfl
@[go_sem] theorem tb_e190:es Tryz.prog 190=some 15:=by kernel_rfl
@[go_sem] theorem tb_y190:byt Tryz.prog 190=some 128:=by kernel_rfl
@[go_sem] theorem tb_w190:zrT Tryz.prog 190=some [.v (.int .i64 0),.v (.int .i64 0),.v (.int .i64 0),.v (.int .i64 0),.v (.string ⟨#[]⟩),.v (.int .i64 0),.v (.int .i64 0),.v (.int .i64 0),.v (.int .i64 0),.v (.int .i64 0),.v (.int .i64 0),.v (.int .i64 0),.v (.int .i64 0),.v (.int .i64 0),.v (.int .i64 0)]:=by kernel_rfl
@[go_sem] theorem tb_k192:bOk Tryz.prog 192=true:=by kernel_rfl
@[go_sem] theorem tb_p192_0:plc Tryz.prog 192 0=some (0,1):=by kernel_rfl
@[go_sem] theorem tb_p192_1:plc Tryz.prog 192 1=some (1,1):=by kernel_rfl
@[go_sem] theorem tb_p192_2:plc Tryz.prog 192 2=some (2,1):=by kernel_rfl
@[go_sem] theorem tb_p192_3:plc Tryz.prog 192 3=some (3,11):=by kernel_rfl
@[go_sem] theorem tb_p192_4:plc Tryz.prog 192 4=some (14,1):=by kernel_rfl
@[go_sem] theorem tb_f192_3:fo Tryz.prog 192 3=some 3:=by kernel_rfl
@[go_sem] theorem tb_f192_4:fo Tryz.prog 192 4=some 14:=by kernel_rfl
@[go_sem] theorem tb_z192:zrow Tryz.prog 192=some [.v (.int .i64 0),.v (.int .i64 0),.v (.int .i64 0),.v (.int .i64 0),.v (.string ⟨#[]⟩),.v (.int .i64 0),.v (.int .i64 0),.v (.int .i64 0),.v (.int .i64 0),.v (.int .i64 0),.v (.int .i64 0),.v (.int .i64 0),.v (.int .i64 0),.v (.int .i64 0),.v (.int .i64 0)]:=by kernel_rfl
@[go_sem] theorem tb_i225:isSl Tryz.prog 225=true:=by kernel_rfl
@[go_sem] theorem tb_e225:es Tryz.prog 225=some 11:=by kernel_rfl
@[go_sem] theorem tb_y225:byt Tryz.prog 225=some 96:=by kernel_rfl
@[go_sem] theorem tb_w225:zrT Tryz.prog 225=some (Ty.at Ty.zero):=by kernel_rfl
@[go_sem] theorem tb_l226:ldk Tryz.prog 226=some none:=by kernel_rfl
@[go_sem] theorem tb_i230:isSl Tryz.prog 230=true:=by kernel_rfl
@[go_sem] theorem tb_e230:es Tryz.prog 230=some 1:=by kernel_rfl
@[go_sem] theorem tb_y230:byt Tryz.prog 230=some 24:=by kernel_rfl
@[go_sem] theorem tb_w230:zrT Tryz.prog 230=some [.sl []]:=by kernel_rfl
theorem pName (t:List UInt8) (h:t.length≤1000000000):DPure Tryz.prog 32 [.a (.v (.string (bs t)))] (.a (.v (.bool (nameB t)))):=by
 have:=DPure.scal (P:=Tryz.prog) (f:=32) (xs:=[.string (bs t)]) (z:=.bool (nameB t)) (callFunc_of Tryz.func32 rfl rfl) rfl fun w _=>by
  have:=r02Name_any w (bs t) h
  rw [bs_data] at this
  exact this
 exact this
def owB (o:Int×Int) (p:Int):Bool :=
 if o.1=3 then decide (0<o.2)&&decide (o.2≤p) else if o.1=7 then decide (0≤o.2) else (o.1==1||o.1==2||o.1==4||o.1==5||o.1==6)&&o.2==0
def Ty.own (t:Ty):List (Int×Int):=[t.o0,t.o1,t.o2,t.o3]
def tyB (t:Ty) (p:Int):Bool :=
 if t.kind=0∨t.kind=1 then decide (t={ Ty.zero with kind:=t.kind })
 else if t.kind=2 then nameB t.cls&&decide (0≤t.n)&&decide (t.n≤3)&&(t.own.take (t.n.toNat+1)).all (fun o=>owB o p)&&((t.own.take (t.n.toNat+1)).drop 1).all (fun o=>o.1 != 6)&&(t.own.drop (t.n.toNat+1)).all (fun o=>decide (o=(0,0)))
 else false
def wrB (t:Ty) (p:Int):Bool:=tyB t p&&t.o1.1 != 7&&t.o2.1 != 7&&t.o3.1 != 7&&(t.o0.1 != 7||t.o0.2==0)
def vrB (p:Int) (v:Vr):Bool:=v.ty.kind != 0&&nameB v.name&&wrB v.ty p
def vrsB (l:List Vr) (most:Nat) (p:Int):Bool:=decide (l.length≤most)&&l.all (vrB p)
def okAt (n p:Int) (i:Nat) (o:Int×Int):Bool:=bif decide (n<(i:Int)) then decide (o=(0,0)) else owB o p&&(i==0||o.1 != 6)
theorem ty2 (t:Ty) (p:Int) (h2:t.kind=2):tyB t p=(nameB t.cls&&(decide (0≤t.n)&&(decide (t.n≤3)&&(okAt t.n p 0 t.o0&&(okAt t.n p 1 t.o1&&(okAt t.n p 2 t.o2&&okAt t.n p 3 t.o3)))))):=by
 obtain⟨k,cls,n,o0,o1,o2,o3⟩:=t
 dsimp only at h2 ⊢
 subst h2
 show (nameB cls&&decide (0≤n)&&decide (n≤3)&&(([o0,o1,o2,o3]:List (Int×Int)).take (n.toNat+1)).all (fun o=>owB o p)&&((([o0,o1,o2,o3]:List (Int×Int)).take (n.toNat+1)).drop 1).all (fun o=>o.1 != 6)&&(([o0,o1,o2,o3]:List (Int×Int)).drop (n.toNat+1)).all (fun o=>decide (o=(0,0))))=_
 by_cases h0:0≤n
 ·by_cases h3:n≤3
  ·have:n=0∨n=1∨n=2∨n=3:=by omega
   rcases this with rfl|rfl|rfl|rfl
   ·show (nameB cls&&true&&true&&(owB o0 p&&true)&&true&&(decide (o1=(0,0))&&(decide (o2=(0,0))&&(decide (o3=(0,0))&&true))))=(nameB cls&&(true&&(true&&((owB o0 p&&true)&&(decide (o1=(0,0))&&(decide (o2=(0,0))&&decide (o3=(0,0))))))))
    cases nameB cls<;>cases owB o0 p<;>cases decide (o1=(0,0))<;>cases decide (o2=(0,0))<;>cases decide (o3=(0,0))<;>rfl
   ·show (nameB cls&&true&&true&&(owB o0 p&&(owB o1 p&&true))&&((o1.1 != 6)&&true)&&(decide (o2=(0,0))&&(decide (o3=(0,0))&&true)))=(nameB cls&&(true&&(true&&((owB o0 p&&true)&&((owB o1 p&&(false||o1.1 != 6))&&(decide (o2=(0,0))&&decide (o3=(0,0))))))))
    cases nameB cls<;>cases owB o0 p<;>cases owB o1 p<;>cases (o1.1 != 6)<;>cases decide (o2=(0,0))<;>cases decide (o3=(0,0))<;>rfl
   ·show (nameB cls&&true&&true&&(owB o0 p&&(owB o1 p&&(owB o2 p&&true)))&&((o1.1 != 6)&&((o2.1 != 6)&&true))&&(decide (o3=(0,0))&&true))=(nameB cls&&(true&&(true&&((owB o0 p&&true)&&((owB o1 p&&(false||o1.1 != 6))&&((owB o2 p&&(false||o2.1 != 6))&&decide (o3=(0,0))))))))
    cases nameB cls<;>cases owB o0 p<;>cases owB o1 p<;>cases (o1.1 != 6)<;>cases owB o2 p<;>cases (o2.1 != 6)<;>cases decide (o3=(0,0))<;>rfl
   ·show (nameB cls&&true&&true&&(owB o0 p&&(owB o1 p&&(owB o2 p&&(owB o3 p&&true))))&&((o1.1 != 6)&&((o2.1 != 6)&&((o3.1 != 6)&&true)))&&true)=(nameB cls&&(true&&(true&&((owB o0 p&&true)&&((owB o1 p&&(false||o1.1 != 6))&&((owB o2 p&&(false||o2.1 != 6))&&(owB o3 p&&(false||o3.1 != 6))))))))
    cases nameB cls<;>cases owB o0 p<;>cases owB o1 p<;>cases (o1.1 != 6)<;>cases owB o2 p<;>cases (o2.1 != 6)<;>cases owB o3 p<;>cases (o3.1 != 6)<;>rfl
  ·rw [decide_eq_false h3];cases nameB cls<;>cases decide (0≤n)<;>rfl
 ·rw [decide_eq_false h0];cases nameB cls<;>rfl
theorem pOwRight (o:Int×Int) (p:Int):DPure Tryz.prog 156 [.r (owAt o),.a (.v (.int .i64 p))] (.a (.v (.bool (owB o p)))):=by
 refine DPure.go Tryz.func156 rfl Tryz.ntmps156 rfl rfl rfl (fun C hro=>?_)
 have fx:=trivial
 repeat' (first|refine stp [0,1,2,4,7,19] ?_|refine WP.cn (fun hc=>?_) (fun hc=>?_)|fail)
 all_goals
  refine bool_eq ?_
  simp only [beq_iff_eq,beq_eq_false_iff_ne] at *
  simp [owB, *]
 ·rfl
 ·exact Bool.and_comm _ _
theorem ty_own_ld (t:Ty):ldRow (some 2) (Ty.at t) 3=some (.r (owAt t.o0))∧ldRow (some 2) (Ty.at t) 5=some (.r (owAt t.o1))∧ldRow (some 2) (Ty.at t) 7=some (.r (owAt t.o2))∧ldRow (some 2) (Ty.at t) 9=some (.r (owAt t.o3)):=by
 obtain⟨k,cls,n,⟨a0,b0⟩,⟨a1,b1⟩,⟨a2,b2⟩,⟨a3,b3⟩⟩:=t
 exact⟨rfl,rfl,rfl,rfl⟩
theorem okc0 (n p:Int) (o:Int×Int):(decide (0>n)&&!(o==(0,0))||decide (0≤n)&&(!owB o p&&true)) = !okAt n p 0 o:=by
 unfold okAt
 by_cases h:n<0
 ·have h2:¬0≤n:=by omega
  have h3:n<((0:Nat):Int):=by omega
  simp only [h,h2,h3,decide_true,decide_false,gt_iff_lt,Bool.true_and,Bool.false_and,Bool.or_false,cond_true]
  rw [Bool.eq_iff_iff];simp
 ·have h2:0≤n:=by omega
  simp [h,h2]
theorem okcs (n p:Int) (i:Nat) (hi:i≠0) (o:Int×Int):(decide ((i:Int)>n)&&!(o==(0,0))||decide ((i:Int)≤n)&&(!owB o p||o.1==6)) = !okAt n p i o:=by
 unfold okAt
 by_cases h:n<(i:Int)
 ·have h2:¬(i:Int)≤n:=by omega
  have h3:=h
  simp only [h,h2,h3,decide_true,decide_false,gt_iff_lt,Bool.true_and,Bool.false_and,Bool.or_false,cond_true]
  rw [Bool.eq_iff_iff];simp
 ·have h2:(i:Int)≤n:=by omega
  have h3:(i==0)=false:=by simpa using hi
  simp [h,h2,h3]
  cases owB o p<;>cases h4:(o.1==6)<;>simp_all
theorem okc1 (n p:Int) (o:Int×Int):(decide (1>n)&&!(o==(0,0))||decide (1≤n)&&(!owB o p||o.1==6)) = !okAt n p 1 o:=okcs n p 1 (by decide) o
theorem okc2 (n p:Int) (o:Int×Int):(decide (2>n)&&!(o==(0,0))||decide (2≤n)&&(!owB o p||o.1==6)) = !okAt n p 2 o:=okcs n p 2 (by decide) o
theorem okc3 (n p:Int) (o:Int×Int):(decide (3>n)&&!(o==(0,0))||decide (3≤n)&&(!owB o p||o.1==6)) = !okAt n p 3 o:=okcs n p 3 (by decide) o
theorem ty_hd (t:Ty) (p:Int) (h:(t.kind != 2||!nameB t.cls||decide (t.n<0)||decide (t.n>3))=false):tyB t p=(okAt t.n p 0 t.o0&&(okAt t.n p 1 t.o1&&(okAt t.n p 2 t.o2&&okAt t.n p 3 t.o3))):=by
 simp only [Bool.or_eq_false_iff,bne_eq_false_iff_eq,Bool.not_eq_false',decide_eq_false_iff_not] at h
 obtain⟨⟨⟨h1,h2⟩,h3⟩,h4⟩:=h
 have h5:0≤t.n:=by omega
 have h6:t.n≤3:=by omega
 rw [ty2 t p h1,h2]
 simp [h5,h6]
theorem ty_no (t:Ty) (p:Int) (h0:(t.kind==0||t.kind==1)=false) (h:(t.kind != 2||!nameB t.cls||decide (t.n<0)||decide (t.n>3))=true):false=tyB t p:=by
 simp only [Bool.or_eq_false_iff,beq_eq_false_iff_ne] at h0
 by_cases h2:t.kind=2
 ·rw [ty2 t p h2]
  simp only [h2,bne_self_eq_false,Bool.false_or,Bool.or_eq_true,Bool.not_eq_true',decide_eq_true_eq] at h
  rcases h with (h|h)|h
  ·rw [h];rfl
  ·have:¬0≤t.n:=by omega
   simp [this]
  ·have:¬t.n≤3:=by omega
   simp [this]
 ·unfold tyB;rw [if_neg (by omega),if_neg h2]
theorem pTyRight (t:Ty) (p:Int) (h:t.cls.length≤1000000000):DPure Tryz.prog 234 [.r (Ty.at t),.a (.v (.int .i64 p))] (.a (.v (.bool (tyB t p)))):=by
 obtain⟨o0,o1,o2,o3⟩:=ty_own_ld t
 refine DPure.go Tryz.func234 rfl Tryz.ntmps234 rfl rfl rfl (fun C hro=>?_)
 have fx:=trivial
 replace fx:=And.intro o0 (And.intro o1 (And.intro o2 (And.intro o3 trivial)))
 repeat' (first|refine stp [0,1,2,4,5,6,14,38,40,76] ?_|(refine stc (r1:=by first|exact pName _ h|exact pOwRight _ _) (r2:=?_);refine rnx ?_)|refine WP.cn (fun hc=>?_) (fun hc=>?_)|refine WP.loop_in ?_|refine WPIn.unroll ?_|fail)
 all_goals
  clear fx
  refine bool_eq ?_
  try simp only [okc0,okc1,okc2,okc3] at *
 ·simp only [Bool.or_eq_true,beq_iff_eq] at hc
  unfold tyB;rw [if_pos hc]
 ·rename_i h1
  exact ty_no t p h1 hc
 all_goals
  rw [ty_hd t p (by assumption)]
  simp_all
theorem take_snocA {α:Type} {l:List α} {m:Nat} {p:α} (h:l[m]? = some p):l.take (m+1)=l.take m++[p]:=by
 rw [List.take_add_one,h];rfl
theorem bb3 (f a b:Bool):(f&&!(a||b)) = !(!f||a||b):=by cases f<;>cases a<;>cases b<;>rfl
namespace Ex
mutual
def sz:Ex→Nat
 | ⟨_,_,s,l⟩=>1+s.length+szs l
def szs:List Ex→Nat
 | []=>0
 | e::r=>e.sz+szs r
end
mutual
def deep:Ex→Nat
 | ⟨_,_,_,l⟩=>1+deeps l
def deeps:List Ex→Nat
 | []=>0
 | e::r=>max e.deep (deeps r)
end
def kidsN (k:Int):Int:=if (decide (k≥6)&&decide (k≤11)||k==14)=true then 2 else if (k==12||k==13)=true then 1 else 0
def plainB (e:Ex):Bool :=
 !(decide (e.kind<1)||decide (e.kind>14)||((e.kids.length:Int) != kidsN e.kind)||(e.kind != 1&&e.num != 0)||(e.kind != 2&&!(e.name==[]))||decide (e.num<0)||decide (e.num>999999999)||(e.kind==2&&!nameB e.name))
def kidB (k z:Int):Bool:=!(k==13&&z != 2&&z != 3||k==14&&z != 2&&z != 3&&z != 4)
mutual
def formB:Ex→Bool
 | ⟨k,n,s,l⟩=>plainB ⟨k,n,s,l⟩&&formsB k l
def formsB (k:Int):List Ex→Bool
 | []=>true
 | e::r=>(e.formB&&kidB k e.kind)&&formsB k r
end
def rightB (e:Ex):Bool:=e.formB&&decide (e.deep≤20)
mutual
def sameB:Ex→Ex→Bool
 | ⟨k,n,s,l⟩,⟨k',n',s',l'⟩=>k==k'&&(n==n'&&(s==s'&&samesB l l'))
def samesB:List Ex→List Ex→Bool
 | [],[]=>true
 | e::r,f::t=>e.sameB f&&samesB r t
 | _,_=>false
end
theorem sz_eq (e:Ex):e.sz=1+e.name.length+szs e.kids:=by cases e;rfl
theorem deep_eq (e:Ex):e.deep=1+deeps e.kids:=by cases e;rfl
theorem form_eq (e:Ex):e.formB=(plainB e&&formsB e.kind e.kids):=by cases e;rfl
theorem same_eq (e f:Ex):e.sameB f=(e.kind==f.kind&&(e.num==f.num&&(e.name==f.name&&samesB e.kids f.kids))):=by cases e;cases f;rfl
theorem szs_mem:∀{l:List Ex} {k:Ex},k∈l→k.sz≤szs l
 | e::r,k,h=>by
  rw [szs]
  rcases List.mem_cons.1 h with rfl|h
  ·omega
  ·have:=szs_mem h;omega
theorem sz_pos (e:Ex):0<e.sz:=by rw [sz_eq];omega
theorem szs_len:∀l:List Ex,l.length≤szs l
 | []=>Nat.le_refl _
 | e::r=>by have:=szs_len r;have:=sz_pos e;rw [szs,List.length_cons];omega
theorem kid_lt {e k:Ex} (h:k∈e.kids):k.sz<e.sz:=by have:=szs_mem h;rw [sz_eq e];omega
theorem deeps_app:∀(l m:List Ex),deeps (l++m)=max (deeps l) (deeps m)
 | [],m=>by rw [List.nil_append,deeps];omega
 | e::r,m=>by rw [List.cons_append,deeps,deeps,deeps_app r m];omega
theorem deeps_one (e:Ex):deeps [e]=e.deep:=by rw [deeps,deeps];omega
theorem deeps_le:∀l:List Ex,(∀e∈l,e.deep≤e.sz)→deeps l≤szs l
 | [],_=>Nat.le_refl _
 | e::r,h=>by
  rw [deeps,szs]
  have:=h e (by simp)
  have:=deeps_le r fun k hk=>h k (by simp [hk])
  omega
theorem deep_le:∀(m:Nat) (e:Ex),e.sz≤m→e.deep≤e.sz
 | 0,e,h=>by have:=sz_pos e;omega
 | m+1,e,h=>by
  rw [deep_eq,sz_eq]
  have:=deeps_le e.kids fun k hk=>deep_le m k (by have:=kid_lt hk;omega)
  omega
theorem formsB_app (k:Int):∀l m:List Ex,formsB k (l++m)=(formsB k l&&formsB k m)
 | [],m=>by rw [List.nil_append,formsB];rfl
 | e::r,m=>by rw [List.cons_append,formsB,formsB,formsB_app k r m];simp only [Bool.and_assoc]
theorem formsB_mem (k:Int):∀{l:List Ex} {e:Ex},e∈l→(e.formB&&kidB k e.kind)=false→formsB k l=false
 | f::r,e,h,hf=>by
  rw [formsB]
  rcases List.mem_cons.1 h with rfl|h
  ·rw [hf];rfl
  ·rw [formsB_mem k h hf,Bool.and_false]
theorem samesB_zip:∀{l m:List Ex},l.length=m.length→samesB l m=(l.zip m).all fun p=>p.1.sameB p.2
 | [],[],_=>rfl
 | e::r,f::t,h=>by rw [samesB,List.zip_cons_cons,List.all_cons,samesB_zip (by simpa using h)]
theorem samesB_len:∀{l m:List Ex},l.length≠m.length→samesB l m=false
 | [],[],h=>absurd rfl h
 | [],_::_,_=>rfl
 | _::_,[],_=>rfl
 | e::r,f::t,h=>by rw [samesB,samesB_len (by simpa using h),Bool.and_false]
end Ex
end Go.Proofs.YtibdalkdgjghoaaGreatDoor
