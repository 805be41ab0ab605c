/- The table of types of this program: how each is read, where fields lie, zero values; by reckoning. Conditions: none. -/
import Derived.Test.YtibdalkdgjghoaaGreatDoorMg9
import Derived.Test.YtibdalkdgjghoaaGreatDoorProg
set_option linter.unusedVariables false
set_option maxRecDepth 100000
set_option maxHeartbeats 8000000
set_option linter.unusedSimpArgs false
namespace Go.Proofs.YtibdalkdgjghoaaGreatDoor
open Go.RowKit
theorem tb_mix:Tryz.prog.follows .mixedOrders=true:=by kernel_rfl
@[go_sem] theorem tb_l3:ldk Tryz.prog 3=some none:=by kernel_rfl
@[go_sem] theorem tb_s3:szo Tryz.prog 3=some 1:=by kernel_rfl
@[go_sem] theorem tb_b3:isBool Tryz.prog 3=false:=by kernel_rfl
@[go_sem] theorem tb_i3:isSl Tryz.prog 3=false:=by kernel_rfl
@[go_sem] theorem tb_z3:zrow Tryz.prog 3=some [.v (.int .i64 0)]:=by kernel_rfl
@[go_sem] theorem tb_l4:ldk Tryz.prog 4=some none:=by kernel_rfl
@[go_sem] theorem tb_s4:szo Tryz.prog 4=some 1:=by kernel_rfl
@[go_sem] theorem tb_b4:isBool Tryz.prog 4=true:=by kernel_rfl
@[go_sem] theorem tb_i4:isSl Tryz.prog 4=false:=by kernel_rfl
@[go_sem] theorem tb_z4:zrow Tryz.prog 4=some [.v (.bool false)]:=by kernel_rfl
@[go_sem] theorem tb_l9:ldk Tryz.prog 9=some none:=by kernel_rfl
@[go_sem] theorem tb_s9:szo Tryz.prog 9=some 1:=by kernel_rfl
@[go_sem] theorem tb_b9:isBool Tryz.prog 9=false:=by kernel_rfl
@[go_sem] theorem tb_l22:ldk Tryz.prog 22=some none:=by kernel_rfl
@[go_sem] theorem tb_i22:isSl Tryz.prog 22=true:=by kernel_rfl
@[go_sem] theorem tb_e22:es Tryz.prog 22=some 7:=by kernel_rfl
@[go_sem] theorem tb_y22:byt Tryz.prog 22=some 136:=by kernel_rfl
@[go_sem] theorem tb_w22:zrT Tryz.prog 22=some (Cs.at Cs.zero):=by kernel_rfl
@[go_sem] theorem tb_b25:isBool Tryz.prog 25=false:=by kernel_rfl
@[go_sem] theorem tb_l30:ldk Tryz.prog 30=some (some 2):=by kernel_rfl
@[go_sem] theorem tb_f30_0:fo Tryz.prog 30 0=some 0:=by kernel_rfl
@[go_sem] theorem tb_f30_1:fo Tryz.prog 30 1=some 1:=by kernel_rfl
@[go_sem] theorem tb_l32:ldk Tryz.prog 32=some (some 2):=by kernel_rfl
@[go_sem] theorem tb_s32:szo Tryz.prog 32=some 2:=by kernel_rfl
@[go_sem] theorem tb_b32:isBool Tryz.prog 32=false:=by kernel_rfl
@[go_sem] theorem tb_i32:isSl Tryz.prog 32=false:=by kernel_rfl
@[go_sem] theorem tb_k32:bOk Tryz.prog 32=true:=by kernel_rfl
@[go_sem] theorem tb_p32_0:plc Tryz.prog 32 0=some (0,1):=by kernel_rfl
@[go_sem] theorem tb_p32_1:plc Tryz.prog 32 1=some (1,1):=by kernel_rfl
@[go_sem] theorem tb_f32_0:fo Tryz.prog 32 0=some 0:=by kernel_rfl
@[go_sem] theorem tb_f32_1:fo Tryz.prog 32 1=some 1:=by kernel_rfl
@[go_sem] theorem tb_q32:eqOk Tryz.prog 32=some [1,1]:=by kernel_rfl
@[go_sem] theorem tb_z32:zrow Tryz.prog 32=some (owAt (0,0)):=by kernel_rfl
@[go_sem] theorem tb_a33:ar Tryz.prog 33=some (4,2):=by kernel_rfl
@[go_sem] theorem tb_p33_0:plc Tryz.prog 33 0=some (0,2):=by kernel_rfl
@[go_sem] theorem tb_k33:bOk Tryz.prog 33=true:=by kernel_rfl
@[go_sem] theorem tb_z33:zrow Tryz.prog 33=some [.v (.int .i64 0),.v (.int .i64 0),.v (.int .i64 0),.v (.int .i64 0),.v (.int .i64 0),.v (.int .i64 0),.v (.int .i64 0),.v (.int .i64 0)]:=by kernel_rfl
@[go_sem] theorem tb_l35:ldk Tryz.prog 35=some (some 11):=by kernel_rfl
@[go_sem] theorem tb_s35:szo Tryz.prog 35=some 11:=by kernel_rfl
@[go_sem] theorem tb_b35:isBool Tryz.prog 35=false:=by kernel_rfl
@[go_sem] theorem tb_i35:isSl Tryz.prog 35=false:=by kernel_rfl
@[go_sem] theorem tb_k35:bOk Tryz.prog 35=true:=by kernel_rfl
@[go_sem] theorem tb_p35_0:plc Tryz.prog 35 0=some (0,1):=by kernel_rfl
@[go_sem] theorem tb_p35_1:plc Tryz.prog 35 1=some (1,1):=by kernel_rfl
@[go_sem] theorem tb_p35_2:plc Tryz.prog 35 2=some (2,1):=by kernel_rfl
@[go_sem] theorem tb_p35_3:plc Tryz.prog 35 3=some (3,8):=by kernel_rfl
@[go_sem] theorem tb_f35_0:fo Tryz.prog 35 0=some 0:=by kernel_rfl
@[go_sem] theorem tb_f35_1:fo Tryz.prog 35 1=some 1:=by kernel_rfl
@[go_sem] theorem tb_f35_2:fo Tryz.prog 35 2=some 2:=by kernel_rfl
@[go_sem] theorem tb_f35_3:fo Tryz.prog 35 3=some 3:=by kernel_rfl
@[go_sem] theorem tb_q35:eqOk Tryz.prog 35=some [1,2,1,1,1,1,1,1,1,1,1]:=by kernel_rfl
@[go_sem] theorem tb_z35:zrow Tryz.prog 35=some (Ty.at Ty.zero):=by kernel_rfl
@[go_sem] theorem tb_l36:ldk Tryz.prog 36=some none:=by kernel_rfl
@[go_sem] theorem tb_s36:szo Tryz.prog 36=some 1:=by kernel_rfl
@[go_sem] theorem tb_i36:isSl Tryz.prog 36=true:=by kernel_rfl
@[go_sem] theorem tb_e36:es Tryz.prog 36=some 4:=by kernel_rfl
@[go_sem] theorem tb_y36:byt Tryz.prog 36=some 56:=by kernel_rfl
@[go_sem] theorem tb_w36:zrT Tryz.prog 36=some (Ex.at Ex.zero):=by kernel_rfl
@[go_sem] theorem tb_z36:zrow Tryz.prog 36=some [.sl []]:=by kernel_rfl
@[go_sem] theorem tb_l38:ldk Tryz.prog 38=some (some 4):=by kernel_rfl
@[go_sem] theorem tb_s38:szo Tryz.prog 38=some 4:=by kernel_rfl
@[go_sem] theorem tb_i38:isSl Tryz.prog 38=false:=by kernel_rfl
@[go_sem] theorem tb_k38:bOk Tryz.prog 38=true:=by kernel_rfl
@[go_sem] theorem tb_p38_0:plc Tryz.prog 38 0=some (0,1):=by kernel_rfl
@[go_sem] theorem tb_f38_0:fo Tryz.prog 38 0=some 0:=by kernel_rfl
@[go_sem] theorem tb_f38_1:fo Tryz.prog 38 1=some 1:=by kernel_rfl
@[go_sem] theorem tb_f38_2:fo Tryz.prog 38 2=some 2:=by kernel_rfl
@[go_sem] theorem tb_f38_3:fo Tryz.prog 38 3=some 3:=by kernel_rfl
@[go_sem] theorem tb_z38:zrow Tryz.prog 38=some (Ex.at Ex.zero):=by kernel_rfl
@[go_sem] theorem tb_l39:ldk Tryz.prog 39=some none:=by kernel_rfl
@[go_sem] theorem tb_s39:szo Tryz.prog 39=some 1:=by kernel_rfl
@[go_sem] theorem tb_i39:isSl Tryz.prog 39=true:=by kernel_rfl
@[go_sem] theorem tb_e39:es Tryz.prog 39=some 23:=by kernel_rfl
@[go_sem] theorem tb_l41:ldk Tryz.prog 41=some (some 23):=by kernel_rfl
@[go_sem] theorem tb_s41:szo Tryz.prog 41=some 23:=by kernel_rfl
@[go_sem] theorem tb_i41:isSl Tryz.prog 41=false:=by kernel_rfl
@[go_sem] theorem tb_k41:bOk Tryz.prog 41=true:=by kernel_rfl
@[go_sem] theorem tb_p41_0:plc Tryz.prog 41 0=some (0,1):=by kernel_rfl
@[go_sem] theorem tb_p41_1:plc Tryz.prog 41 1=some (1,1):=by kernel_rfl
@[go_sem] theorem tb_p41_2:plc Tryz.prog 41 2=some (2,1):=by kernel_rfl
@[go_sem] theorem tb_p41_5:plc Tryz.prog 41 5=some (15,4):=by kernel_rfl
@[go_sem] theorem tb_f41_0:fo Tryz.prog 41 0=some 0:=by kernel_rfl
@[go_sem] theorem tb_f41_1:fo Tryz.prog 41 1=some 1:=by kernel_rfl
@[go_sem] theorem tb_f41_2:fo Tryz.prog 41 2=some 2:=by kernel_rfl
@[go_sem] theorem tb_f41_3:fo Tryz.prog 41 3=some 3:=by kernel_rfl
@[go_sem] theorem tb_f41_4:fo Tryz.prog 41 4=some 4:=by kernel_rfl
@[go_sem] theorem tb_f41_5:fo Tryz.prog 41 5=some 15:=by kernel_rfl
@[go_sem] theorem tb_f41_6:fo Tryz.prog 41 6=some 19:=by kernel_rfl
@[go_sem] theorem tb_f41_7:fo Tryz.prog 41 7=some 20:=by kernel_rfl
@[go_sem] theorem tb_f41_8:fo Tryz.prog 41 8=some 21:=by kernel_rfl
@[go_sem] theorem tb_z41:zrow Tryz.prog 41=some (St.at St.zero):=by kernel_rfl
@[go_sem] theorem tb_l42:ldk Tryz.prog 42=some none:=by kernel_rfl
@[go_sem] theorem tb_i42:isSl Tryz.prog 42=true:=by kernel_rfl
@[go_sem] theorem tb_l43:ldk Tryz.prog 43=some none:=by kernel_rfl
@[go_sem] theorem tb_i43:isSl Tryz.prog 43=true:=by kernel_rfl
@[go_sem] theorem tb_e43:es Tryz.prog 43=some 2:=by kernel_rfl
@[go_sem] theorem tb_y43:byt Tryz.prog 43=some 16:=by kernel_rfl
@[go_sem] theorem tb_w43:zrT Tryz.prog 43=some (owAt (0,0)):=by kernel_rfl
@[go_sem] theorem tb_l44:ldk Tryz.prog 44=some none:=by kernel_rfl
@[go_sem] theorem tb_i44:isSl Tryz.prog 44=true:=by kernel_rfl
@[go_sem] theorem tb_e44:es Tryz.prog 44=some 13:=by kernel_rfl
@[go_sem] theorem tb_y44:byt Tryz.prog 44=some 120:=by kernel_rfl
@[go_sem] theorem tb_w44:zrT Tryz.prog 44=some (Vr.at Vr.zero):=by kernel_rfl
@[go_sem] theorem tb_l45:ldk Tryz.prog 45=some none:=by kernel_rfl
@[go_sem] theorem tb_i45:isSl Tryz.prog 45=true:=by kernel_rfl
@[go_sem] theorem tb_e45:es Tryz.prog 45=some 17:=by kernel_rfl
@[go_sem] theorem tb_l47:ldk Tryz.prog 47=some (some 7):=by kernel_rfl
@[go_sem] theorem tb_s47:szo Tryz.prog 47=some 7:=by kernel_rfl
@[go_sem] theorem tb_i47:isSl Tryz.prog 47=false:=by kernel_rfl
@[go_sem] theorem tb_k47:bOk Tryz.prog 47=true:=by kernel_rfl
@[go_sem] theorem tb_p47_0:plc Tryz.prog 47 0=some (0,1):=by kernel_rfl
@[go_sem] theorem tb_f47_0:fo Tryz.prog 47 0=some 0:=by kernel_rfl
@[go_sem] theorem tb_f47_1:fo Tryz.prog 47 1=some 1:=by kernel_rfl
@[go_sem] theorem tb_f47_2:fo Tryz.prog 47 2=some 2:=by kernel_rfl
@[go_sem] theorem tb_f47_3:fo Tryz.prog 47 3=some 3:=by kernel_rfl
@[go_sem] theorem tb_f47_4:fo Tryz.prog 47 4=some 4:=by kernel_rfl
@[go_sem] theorem tb_f47_5:fo Tryz.prog 47 5=some 5:=by kernel_rfl
@[go_sem] theorem tb_z47:zrow Tryz.prog 47=some (Cs.at Cs.zero):=by kernel_rfl
@[go_sem] theorem tb_l49:ldk Tryz.prog 49=some (some 17):=by kernel_rfl
@[go_sem] theorem tb_s49:szo Tryz.prog 49=some 17:=by kernel_rfl
@[go_sem] theorem tb_i49:isSl Tryz.prog 49=false:=by kernel_rfl
@[go_sem] theorem tb_k49:bOk Tryz.prog 49=true:=by kernel_rfl
@[go_sem] theorem tb_p49_3:plc Tryz.prog 49 3=some (13,1):=by kernel_rfl
@[go_sem] theorem tb_f49_0:fo Tryz.prog 49 0=some 0:=by kernel_rfl
@[go_sem] theorem tb_f49_2:fo Tryz.prog 49 2=some 2:=by kernel_rfl
@[go_sem] theorem tb_f49_3:fo Tryz.prog 49 3=some 13:=by kernel_rfl
@[go_sem] theorem tb_f49_4:fo Tryz.prog 49 4=some 14:=by kernel_rfl
@[go_sem] theorem tb_f49_5:fo Tryz.prog 49 5=some 15:=by kernel_rfl
@[go_sem] theorem tb_z49:zrow Tryz.prog 49=some (Me.at Me.zero):=by kernel_rfl
@[go_sem] theorem tb_l51:ldk Tryz.prog 51=some (some 25):=by kernel_rfl
@[go_sem] theorem tb_s51:szo Tryz.prog 51=some 25:=by kernel_rfl
@[go_sem] theorem tb_i51:isSl Tryz.prog 51=false:=by kernel_rfl
@[go_sem] theorem tb_k51:bOk Tryz.prog 51=true:=by kernel_rfl
@[go_sem] theorem tb_p51_0:plc Tryz.prog 51 0=some (0,1):=by kernel_rfl
@[go_sem] theorem tb_p51_1:plc Tryz.prog 51 1=some (1,7):=by kernel_rfl
@[go_sem] theorem tb_p51_2:plc Tryz.prog 51 2=some (8,17):=by kernel_rfl
@[go_sem] theorem tb_f51_0:fo Tryz.prog 51 0=some 0:=by kernel_rfl
@[go_sem] theorem tb_f51_1:fo Tryz.prog 51 1=some 1:=by kernel_rfl
@[go_sem] theorem tb_f51_2:fo Tryz.prog 51 2=some 8:=by kernel_rfl
@[go_sem] theorem tb_z51:zrow Tryz.prog 51=some [.sl [],.v (.string ⟨#[]⟩),.sl [],.v (.string ⟨#[]⟩),.sl [],.sl [],.sl [],.v (.int .i64 0),.v (.string ⟨#[]⟩),.v (.bool false),.v (.int .i64 0),.v (.string ⟨#[]⟩),.v (.int .i64 0),.v (.int .i64 0),.v (.int .i64 0),.v (.int .i64 0),.v (.int .i64 0),.v (.int .i64 0),.v (.int .i64 0),.v (.int .i64 0),.v (.int .i64 0),.sl [],.sl [],.sl [],.v (.int .i64 0)]:=by kernel_rfl
@[go_sem] theorem tb_l56:ldk Tryz.prog 56=some (some 18):=by kernel_rfl
@[go_sem] theorem tb_s56:szo Tryz.prog 56=some 18:=by kernel_rfl
@[go_sem] theorem tb_i56:isSl Tryz.prog 56=false:=by kernel_rfl
@[go_sem] theorem tb_k56:bOk Tryz.prog 56=true:=by kernel_rfl
@[go_sem] theorem tb_f56_0:fo Tryz.prog 56 0=some 0:=by kernel_rfl
@[go_sem] theorem tb_f56_1:fo Tryz.prog 56 1=some 1:=by kernel_rfl
@[go_sem] theorem tb_z56:zrow Tryz.prog 56=some [.v (.string ⟨#[]⟩),.v (.string ⟨#[]⟩),.v (.bool false),.v (.int .i64 0),.v (.string ⟨#[]⟩),.v (.int .i64 0),.v (.int .i64 0),.v (.int .i64 0),.v (.int .i64 0),.v (.int .i64 0),.v (.int .i64 0),.v (.int .i64 0),.v (.int .i64 0),.v (.int .i64 0),.sl [],.sl [],.sl [],.v (.int .i64 0)]:=by kernel_rfl
@[go_sem] theorem tb_l59:ldk Tryz.prog 59=some (some 18):=by kernel_rfl
@[go_sem] theorem tb_s59:szo Tryz.prog 59=some 18:=by kernel_rfl
@[go_sem] theorem tb_i59:isSl Tryz.prog 59=false:=by kernel_rfl
@[go_sem] theorem tb_k59:bOk Tryz.prog 59=true:=by kernel_rfl
@[go_sem] theorem tb_p59_0:plc Tryz.prog 59 0=some (0,1):=by kernel_rfl
@[go_sem] theorem tb_p59_1:plc Tryz.prog 59 1=some (1,17):=by kernel_rfl
@[go_sem] theorem tb_f59_1:fo Tryz.prog 59 1=some 1:=by kernel_rfl
@[go_sem] theorem tb_z59:zrow Tryz.prog 59=some [.v (.string ⟨#[]⟩),.v (.string ⟨#[]⟩),.v (.bool false),.v (.int .i64 0),.v (.string ⟨#[]⟩),.v (.int .i64 0),.v (.int .i64 0),.v (.int .i64 0),.v (.int .i64 0),.v (.int .i64 0),.v (.int .i64 0),.v (.int .i64 0),.v (.int .i64 0),.v (.int .i64 0),.sl [],.sl [],.sl [],.v (.int .i64 0)]:=by kernel_rfl
@[go_sem] theorem tb_l68:ldk Tryz.prog 68=some (some 13):=by kernel_rfl
@[go_sem] theorem tb_s68:szo Tryz.prog 68=some 13:=by kernel_rfl
@[go_sem] theorem tb_i68:isSl Tryz.prog 68=false:=by kernel_rfl
@[go_sem] theorem tb_k68:bOk Tryz.prog 68=true:=by kernel_rfl
@[go_sem] theorem tb_p68_0:plc Tryz.prog 68 0=some (0,1):=by kernel_rfl
@[go_sem] theorem tb_p68_1:plc Tryz.prog 68 1=some (1,11):=by kernel_rfl
@[go_sem] theorem tb_f68_0:fo Tryz.prog 68 0=some 0:=by kernel_rfl
@[go_sem] theorem tb_f68_1:fo Tryz.prog 68 1=some 1:=by kernel_rfl
@[go_sem] theorem tb_z68:zrow Tryz.prog 68=some (Vr.at Vr.zero):=by kernel_rfl
@[go_sem] theorem tb_l101:ldk Tryz.prog 101=some none:=by kernel_rfl
@[go_sem] theorem tb_k103:bOk Tryz.prog 103=true:=by kernel_rfl
@[go_sem] theorem tb_p103_0:plc Tryz.prog 103 0=some (0,1):=by kernel_rfl
@[go_sem] theorem tb_p103_1:plc Tryz.prog 103 1=some (1,7):=by kernel_rfl
@[go_sem] theorem tb_p103_2:plc Tryz.prog 103 2=some (8,17):=by kernel_rfl
@[go_sem] theorem tb_p103_3:plc Tryz.prog 103 3=some (25,23):=by kernel_rfl
@[go_sem] theorem tb_f103_0:fo Tryz.prog 103 0=some 0:=by kernel_rfl
@[go_sem] theorem tb_f103_1:fo Tryz.prog 103 1=some 1:=by kernel_rfl
@[go_sem] theorem tb_f103_2:fo Tryz.prog 103 2=some 8:=by kernel_rfl
@[go_sem] theorem tb_f103_3:fo Tryz.prog 103 3=some 25:=by kernel_rfl
@[go_sem] theorem tb_f103_4:fo Tryz.prog 103 4=some 48:=by kernel_rfl
@[go_sem] theorem tb_f103_5:fo Tryz.prog 103 5=some 59:=by kernel_rfl
@[go_sem] theorem tb_z103:zrow Tryz.prog 103=some [.sl [],.v (.string ⟨#[]⟩),.sl [],.v (.string ⟨#[]⟩),.sl [],.sl [],.sl [],.v (.int .i64 0),.v (.string ⟨#[]⟩),.v (.bool false),.v (.int .i64 0),.v (.string ⟨#[]⟩),.v (.int .i64 0),.v (.int .i64 0),.v (.int .i64 0),.v (.int .i64 0),.v (.int .i64 0),.v (.int .i64 0),.v (.int .i64 0),.v (.int .i64 0),.v (.int .i64 0),.sl [],.sl [],.sl [],.v (.int .i64 0),.v (.int .i64 0),.v (.string ⟨#[]⟩),.v (.string ⟨#[]⟩),.v (.string ⟨#[]⟩),.v (.int .i64 0),.v (.string ⟨#[]⟩),.v (.int .i64 0),.v (.int .i64 0),.v (.int .i64 0),.v (.int .i64 0),.v (.int .i64 0),.v (.int .i64 0),.v (.int .i64 0),.v (.int .i64 0),.v (.int .i64 0),.v (.int .i64 0),.v (.int .i64 0),.v (.string ⟨#[]⟩),.sl [],.sl [],.sl [],.sl [],.v (.int .i64 0),.v (.int .i64 0),.v (.string ⟨#[]⟩),.v (.int .i64 0),.v (.int .i64 0),.v (.int .i64 0),.v (.int .i64 0),.v (.int .i64 0),.v (.int .i64 0),.v (.int .i64 0),.v (.int .i64 0),.v (.int .i64 0),.v (.int .i64 0),.v (.string ⟨#[]⟩),.v (.int .i64 0),.v (.int .i64 0),.v (.int .i64 0),.v (.int .i64 0),.v (.int .i64 0),.v (.int .i64 0),.v (.int .i64 0),.v (.int .i64 0),.v (.int .i64 0)]:=by kernel_rfl
@[go_sem] theorem tb_l104:ldk Tryz.prog 104=some none:=by kernel_rfl
@[go_sem] theorem tb_l121:ldk Tryz.prog 121=some none:=by kernel_rfl
@[go_sem] theorem tb_s121:szo Tryz.prog 121=some 1:=by kernel_rfl
@[go_sem] theorem tb_i121:isSl Tryz.prog 121=true:=by kernel_rfl
@[go_sem] theorem tb_e121:es Tryz.prog 121=some 1:=by kernel_rfl
@[go_sem] theorem tb_y121:byt Tryz.prog 121=some 8:=by kernel_rfl
@[go_sem] theorem tb_w121:zrT Tryz.prog 121=some [.v (.int .i64 0)]:=by kernel_rfl
@[go_sem] theorem tb_z121:zrow Tryz.prog 121=some [.sl []]:=by kernel_rfl
@[go_sem] theorem tb_l148:ldk Tryz.prog 148=some none:=by kernel_rfl
@[go_sem] theorem tb_s148:szo Tryz.prog 148=some 1:=by kernel_rfl
@[go_sem] theorem tb_i148:isSl Tryz.prog 148=false:=by kernel_rfl
@[go_sem] theorem tb_z148:zrow Tryz.prog 148=some [.v .nilFunc]:=by kernel_rfl
@[go_sem] theorem tb_l155:ldk Tryz.prog 155=some none:=by kernel_rfl
@[go_sem] theorem tb_l161:ldk Tryz.prog 161=some (some 14):=by kernel_rfl
@[go_sem] theorem tb_s161:szo Tryz.prog 161=some 14:=by kernel_rfl
@[go_sem] theorem tb_i161:isSl Tryz.prog 161=false:=by kernel_rfl
@[go_sem] theorem tb_k161:bOk Tryz.prog 161=true:=by kernel_rfl
@[go_sem] theorem tb_p161_0:plc Tryz.prog 161 0=some (0,1):=by kernel_rfl
@[go_sem] theorem tb_p161_1:plc Tryz.prog 161 1=some (1,13):=by kernel_rfl
@[go_sem] theorem tb_f161_1:fo Tryz.prog 161 1=some 1:=by kernel_rfl
@[go_sem] theorem tb_z161:zrow Tryz.prog 161=some [.v (.string ⟨#[]⟩),.v (.string ⟨#[]⟩),.v (.int .i64 0),.v (.string ⟨#[]⟩),.v (.int .i64 0),.v (.int .i64 0),.v (.int .i64 0),.v (.int .i64 0),.v (.int .i64 0),.v (.int .i64 0),.v (.int .i64 0),.v (.int .i64 0),.v (.int .i64 0),.v (.int .i64 0)]:=by kernel_rfl
@[go_sem] theorem tb_k195:bOk Tryz.prog 195=true:=by kernel_rfl
@[go_sem] theorem tb_p195_0:plc Tryz.prog 195 0=some (0,17):=by kernel_rfl
@[go_sem] theorem tb_p195_1:plc Tryz.prog 195 1=some (17,1):=by kernel_rfl
@[go_sem] theorem tb_f195_0:fo Tryz.prog 195 0=some 0:=by kernel_rfl
@[go_sem] theorem tb_f195_1:fo Tryz.prog 195 1=some 17:=by kernel_rfl
@[go_sem] theorem tb_z195:zrow Tryz.prog 195=some [.v (.string ⟨#[]⟩),.v (.bool false),.v (.int .i64 0),.v (.string ⟨#[]⟩),.v (.int .i64 0),.v (.int .i64 0),.v (.int .i64 0),.v (.int .i64 0),.v (.int .i64 0),.v (.int .i64 0),.v (.int .i64 0),.v (.int .i64 0),.v (.int .i64 0),.sl [],.sl [],.sl [],.v (.int .i64 0),.v (.int .i64 0)]:=by kernel_rfl
@[go_sem] theorem tb_i204:isSl Tryz.prog 204=true:=by kernel_rfl
@[go_sem] theorem tb_e204:es Tryz.prog 204=some 1:=by kernel_rfl
@[go_sem] theorem tb_y204:byt Tryz.prog 204=some 8:=by kernel_rfl
@[go_sem] theorem tb_w204:zrT Tryz.prog 204=some [.v .nilFunc]:=by kernel_rfl
@[go_sem] theorem tb_l205:ldk Tryz.prog 205=some (some 14):=by kernel_rfl
@[go_sem] theorem tb_s205:szo Tryz.prog 205=some 14:=by kernel_rfl
@[go_sem] theorem tb_i205:isSl Tryz.prog 205=false:=by kernel_rfl
@[go_sem] theorem tb_k205:bOk Tryz.prog 205=true:=by kernel_rfl
@[go_sem] theorem tb_p205_0:plc Tryz.prog 205 0=some (0,1):=by kernel_rfl
@[go_sem] theorem tb_p205_1:plc Tryz.prog 205 1=some (1,13):=by kernel_rfl
@[go_sem] theorem tb_f205_1:fo Tryz.prog 205 1=some 1:=by kernel_rfl
@[go_sem] theorem tb_z205:zrow Tryz.prog 205=some [.v (.string ⟨#[]⟩),.v (.string ⟨#[]⟩),.v (.int .i64 0),.v (.string ⟨#[]⟩),.v (.int .i64 0),.v (.int .i64 0),.v (.int .i64 0),.v (.int .i64 0),.v (.int .i64 0),.v (.int .i64 0),.v (.int .i64 0),.v (.int .i64 0),.v (.int .i64 0),.v (.int .i64 0)]:=by kernel_rfl
@[go_sem] theorem tb_i210:isSl Tryz.prog 210=true:=by kernel_rfl
@[go_sem] theorem tb_e210:es Tryz.prog 210=some 14:=by kernel_rfl
@[go_sem] theorem tb_y210:byt Tryz.prog 210=some 136:=by kernel_rfl
@[go_sem] theorem tb_w210:zrT Tryz.prog 210=some [.v (.string ⟨#[]⟩),.v (.string ⟨#[]⟩),.v (.int .i64 0),.v (.string ⟨#[]⟩),.v (.int .i64 0),.v (.int .i64 0),.v (.int .i64 0),.v (.int .i64 0),.v (.int .i64 0),.v (.int .i64 0),.v (.int .i64 0),.v (.int .i64 0),.v (.int .i64 0),.v (.int .i64 0)]:=by kernel_rfl
@[go_sem] theorem tb_i230:isSl Tryz.prog 230=true:=by kernel_rfl
@[go_sem] theorem tb_e230:es Tryz.prog 230=some 1:=by kernel_rfl
@[go_sem] theorem tb_y230:byt Tryz.prog 230=some 24:=by kernel_rfl
@[go_sem] theorem tb_w230:zrT Tryz.prog 230=some [.sl []]:=by kernel_rfl
@[go_sem] theorem tb_l239:ldk Tryz.prog 239=some none:=by kernel_rfl
@[go_sem] theorem tb_s239:szo Tryz.prog 239=some 1:=by kernel_rfl
@[go_sem] theorem tb_i239:isSl Tryz.prog 239=true:=by kernel_rfl
@[go_sem] theorem tb_e239:es Tryz.prog 239=some 14:=by kernel_rfl
@[go_sem] theorem tb_y239:byt Tryz.prog 239=some 136:=by kernel_rfl
@[go_sem] theorem tb_w239:zrT Tryz.prog 239=some [.v (.string ⟨#[]⟩),.v (.string ⟨#[]⟩),.v (.int .i64 0),.v (.string ⟨#[]⟩),.v (.int .i64 0),.v (.int .i64 0),.v (.int .i64 0),.v (.int .i64 0),.v (.int .i64 0),.v (.int .i64 0),.v (.int .i64 0),.v (.int .i64 0),.v (.int .i64 0),.v (.int .i64 0)]:=by kernel_rfl
@[go_sem] theorem tb_z239:zrow Tryz.prog 239=some [.sl []]:=by kernel_rfl
end Go.Proofs.YtibdalkdgjghoaaGreatDoor
