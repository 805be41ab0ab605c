/- The table of types of this program: how each is read, where fields lie, zero values; by reckoning. Conditions: none. -/
import Derived.Test.YtfbopaaambkfkaaGreatDoorMg7
import Derived.Test.YtfbopaaambkfkaaGreatDoorProg
set_option linter.unusedVariables false
set_option maxRecDepth 100000
set_option maxHeartbeats 8000000
set_option linter.unusedSimpArgs false
namespace Go.Proofs.YtfbopaaambkfkaaGreatDoor
open Go.RowKit
theorem qll:Tryz.prog.follows .mixedOrders=true:=by kernel_rfl
@[go_sem] theorem tb_l3:ldk Tryz.prog 3=some none:=by kernel_rfl
@[go_sem] theorem tb_s3:szo Tryz.prog 3=some 1:=by kernel_rfl
@[go_sem] theorem tb_b3:qcn Tryz.prog 3=false:=by kernel_rfl
@[go_sem] theorem tb_i3:isSl Tryz.prog 3=false:=by kernel_rfl
@[go_sem] theorem tb_z3:zrow Tryz.prog 3=some [.v (.int .i64 0)]:=by kernel_rfl
@[go_sem] theorem tb_l4:ldk Tryz.prog 4=some none:=by kernel_rfl
@[go_sem] theorem tb_s4:szo Tryz.prog 4=some 1:=by kernel_rfl
@[go_sem] theorem tb_b4:qcn Tryz.prog 4=true:=by kernel_rfl
@[go_sem] theorem tb_i4:isSl Tryz.prog 4=false:=by kernel_rfl
@[go_sem] theorem tb_z4:zrow Tryz.prog 4=some [.v (.bool false)]:=by kernel_rfl
@[go_sem] theorem tb_l9:ldk Tryz.prog 9=some none:=by kernel_rfl
@[go_sem] theorem tb_b9:qcn Tryz.prog 9=false:=by kernel_rfl
@[go_sem] theorem tb_i23:isSl Tryz.prog 23=true:=by kernel_rfl
@[go_sem] theorem tb_e23:es Tryz.prog 23=some 7:=by kernel_rfl
@[go_sem] theorem tb_y23:byt Tryz.prog 23=some 136:=by kernel_rfl
@[go_sem] theorem tb_w23:zrT Tryz.prog 23=some (Cs.at Cs.zero):=by kernel_rfl
@[go_sem] theorem tb_l24:ldk Tryz.prog 24=some none:=by kernel_rfl
@[go_sem] theorem tb_b24:qcn Tryz.prog 24=false:=by kernel_rfl
@[go_sem] theorem tb_l26:ldk Tryz.prog 26=some (some 2):=by kernel_rfl
@[go_sem] theorem tb_k26:bOk Tryz.prog 26=true:=by kernel_rfl
@[go_sem] theorem tb_p26_0:plc Tryz.prog 26 0=some (0,1):=by kernel_rfl
@[go_sem] theorem tb_p26_1:plc Tryz.prog 26 1=some (1,1):=by kernel_rfl
@[go_sem] theorem tb_f26_0:fo Tryz.prog 26 0=some 0:=by kernel_rfl
@[go_sem] theorem tb_z26:zrow Tryz.prog 26=some [.v (.int .i64 0),.v (.int .i64 0)]:=by kernel_rfl
@[go_sem] theorem tb_l30:ldk Tryz.prog 30=some (some 7):=by kernel_rfl
@[go_sem] theorem tb_s30:szo Tryz.prog 30=some 7:=by kernel_rfl
@[go_sem] theorem tb_b30:qcn Tryz.prog 30=false:=by kernel_rfl
@[go_sem] theorem tb_i30:isSl Tryz.prog 30=false:=by kernel_rfl
@[go_sem] theorem tb_k30:bOk Tryz.prog 30=true:=by kernel_rfl
@[go_sem] theorem tb_p30_0:plc Tryz.prog 30 0=some (0,1):=by kernel_rfl
@[go_sem] theorem tb_p30_1:plc Tryz.prog 30 1=some (1,1):=by kernel_rfl
@[go_sem] theorem tb_g30_4:fo2 Tryz.prog 30 4=some (4,none):=by kernel_rfl
@[go_sem] theorem tb_p30_6:plc Tryz.prog 30 6=some (6,1):=by kernel_rfl
@[go_sem] theorem tb_f30_1:fo Tryz.prog 30 1=some 1:=by kernel_rfl
@[go_sem] theorem tb_f30_2:fo Tryz.prog 30 2=some 2:=by kernel_rfl
@[go_sem] theorem tb_f30_3:fo Tryz.prog 30 3=some 3:=by kernel_rfl
@[go_sem] theorem tb_f30_4:fo Tryz.prog 30 4=some 4:=by kernel_rfl
@[go_sem] theorem tb_f30_5:fo Tryz.prog 30 5=some 5:=by kernel_rfl
@[go_sem] theorem tb_f30_6:fo Tryz.prog 30 6=some 6:=by kernel_rfl
@[go_sem] theorem tb_q30:eqOk Tryz.prog 30=some [1,1,1,1,1,1,1]:=by kernel_rfl
@[go_sem] theorem tb_z30:zrow Tryz.prog 30=some [.v (.int .i64 0),.v (.int .i64 0),.v (.int .i64 0),.v (.int .i64 0),.v (.int .i64 0),.v (.int .i64 0),.v (.int .i64 0)]:=by kernel_rfl
@[go_sem] theorem tb_l38:ldk Tryz.prog 38=some (some 2):=by kernel_rfl
@[go_sem] theorem tb_s38:szo Tryz.prog 38=some 2:=by kernel_rfl
@[go_sem] theorem tb_b38:qcn Tryz.prog 38=false:=by kernel_rfl
@[go_sem] theorem tb_i38:isSl Tryz.prog 38=false:=by kernel_rfl
@[go_sem] theorem tb_k38:bOk Tryz.prog 38=true:=by kernel_rfl
@[go_sem] theorem tb_p38_0:plc Tryz.prog 38 0=some (0,1):=by kernel_rfl
@[go_sem] theorem tb_f38_0:fo Tryz.prog 38 0=some 0:=by kernel_rfl
@[go_sem] theorem tb_f38_1:fo Tryz.prog 38 1=some 1:=by kernel_rfl
@[go_sem] theorem tb_q38:eqOk Tryz.prog 38=some [1,1]:=by kernel_rfl
@[go_sem] theorem tb_z38:zrow Tryz.prog 38=some (owAt (0,0)):=by kernel_rfl
@[go_sem] theorem tb_a39:ar Tryz.prog 39=some (4,2):=by kernel_rfl
@[go_sem] theorem tb_k39:bOk Tryz.prog 39=true:=by kernel_rfl
@[go_sem] theorem tb_z39:zrow Tryz.prog 39=some [.v (.int .i64 0),.v (.int .i64 0),.v (.int .i64 0),.v (.int .i64 0),.v (.int .i64 0),.v (.int .i64 0),.v (.int .i64 0),.v (.int .i64 0)]:=by kernel_rfl
@[go_sem] theorem tb_l41:ldk Tryz.prog 41=some (some 11):=by kernel_rfl
@[go_sem] theorem tb_s41:szo Tryz.prog 41=some 11:=by kernel_rfl
@[go_sem] theorem tb_b41:qcn Tryz.prog 41=false:=by kernel_rfl
@[go_sem] theorem tb_i41:isSl Tryz.prog 41=false:=by kernel_rfl
@[go_sem] theorem tb_k41:bOk Tryz.prog 41=true:=by kernel_rfl
@[go_sem] theorem tb_p41_0:plc Tryz.prog 41 0=some (0,1):=by kernel_rfl
@[go_sem] theorem tb_p41_1:plc Tryz.prog 41 1=some (1,1):=by kernel_rfl
@[go_sem] theorem tb_p41_3:plc Tryz.prog 41 3=some (3,8):=by kernel_rfl
@[go_sem] theorem tb_f41_0:fo Tryz.prog 41 0=some 0:=by kernel_rfl
@[go_sem] theorem tb_f41_1:fo Tryz.prog 41 1=some 1:=by kernel_rfl
@[go_sem] theorem tb_f41_2:fo Tryz.prog 41 2=some 2:=by kernel_rfl
@[go_sem] theorem tb_f41_3:fo Tryz.prog 41 3=some 3:=by kernel_rfl
@[go_sem] theorem tb_q41:eqOk Tryz.prog 41=some [1,2,1,1,1,1,1,1,1,1,1]:=by kernel_rfl
@[go_sem] theorem tb_z41:zrow Tryz.prog 41=some (Ty.at Ty.zero):=by kernel_rfl
@[go_sem] theorem tb_l43:ldk Tryz.prog 43=some (some 13):=by kernel_rfl
@[go_sem] theorem tb_s43:szo Tryz.prog 43=some 13:=by kernel_rfl
@[go_sem] theorem tb_i43:isSl Tryz.prog 43=false:=by kernel_rfl
@[go_sem] theorem tb_k43:bOk Tryz.prog 43=true:=by kernel_rfl
@[go_sem] theorem tb_p43_0:plc Tryz.prog 43 0=some (0,1):=by kernel_rfl
@[go_sem] theorem tb_p43_1:plc Tryz.prog 43 1=some (1,11):=by kernel_rfl
@[go_sem] theorem tb_f43_0:fo Tryz.prog 43 0=some 0:=by kernel_rfl
@[go_sem] theorem tb_f43_1:fo Tryz.prog 43 1=some 1:=by kernel_rfl
@[go_sem] theorem tb_f43_2:fo Tryz.prog 43 2=some 12:=by kernel_rfl
@[go_sem] theorem tb_z43:zrow Tryz.prog 43=some (Vr.at Vr.zero):=by kernel_rfl
@[go_sem] theorem tb_l44:ldk Tryz.prog 44=some none:=by kernel_rfl
@[go_sem] theorem tb_s44:szo Tryz.prog 44=some 1:=by kernel_rfl
@[go_sem] theorem tb_i44:isSl Tryz.prog 44=true:=by kernel_rfl
@[go_sem] theorem tb_e44:es Tryz.prog 44=some 13:=by kernel_rfl
@[go_sem] theorem tb_y44:byt Tryz.prog 44=some 120:=by kernel_rfl
@[go_sem] theorem tb_w44:zrT Tryz.prog 44=some (Vr.at Vr.zero):=by kernel_rfl
@[go_sem] theorem tb_l45:ldk Tryz.prog 45=some none:=by kernel_rfl
@[go_sem] theorem tb_s45:szo Tryz.prog 45=some 1:=by kernel_rfl
@[go_sem] theorem tb_b45:qcn Tryz.prog 45=false:=by kernel_rfl
@[go_sem] theorem tb_i45:isSl Tryz.prog 45=true:=by kernel_rfl
@[go_sem] theorem tb_e45:es Tryz.prog 45=some 1:=by kernel_rfl
@[go_sem] theorem tb_y45:byt Tryz.prog 45=some 16:=by kernel_rfl
@[go_sem] theorem tb_w45:zrT Tryz.prog 45=some [.v (.string ⟨#[]⟩)]:=by kernel_rfl
@[go_sem] theorem tb_l46:ldk Tryz.prog 46=some none:=by kernel_rfl
@[go_sem] theorem tb_s46:szo Tryz.prog 46=some 1:=by kernel_rfl
@[go_sem] theorem tb_b46:qcn Tryz.prog 46=false:=by kernel_rfl
@[go_sem] theorem tb_i46:isSl Tryz.prog 46=true:=by kernel_rfl
@[go_sem] theorem tb_e46:es Tryz.prog 46=some 2:=by kernel_rfl
@[go_sem] theorem tb_y46:byt Tryz.prog 46=some 16:=by kernel_rfl
@[go_sem] theorem tb_w46:zrT Tryz.prog 46=some (owAt (0,0)):=by kernel_rfl
@[go_sem] theorem tb_l47:ldk Tryz.prog 47=some none:=by kernel_rfl
@[go_sem] theorem tb_s47:szo Tryz.prog 47=some 1:=by kernel_rfl
@[go_sem] theorem tb_i47:isSl Tryz.prog 47=true:=by kernel_rfl
@[go_sem] theorem tb_e47:es Tryz.prog 47=some 17:=by kernel_rfl
@[go_sem] theorem tb_y47:byt Tryz.prog 47=some 200:=by kernel_rfl
@[go_sem] theorem tb_w47:zrT Tryz.prog 47=some (Me.at Me.zero):=by kernel_rfl
@[go_sem] theorem tb_l49:ldk Tryz.prog 49=some (some 7):=by kernel_rfl
@[go_sem] theorem tb_s49:szo Tryz.prog 49=some 7:=by kernel_rfl
@[go_sem] theorem tb_i49:isSl Tryz.prog 49=false:=by kernel_rfl
@[go_sem] theorem tb_k49:bOk Tryz.prog 49=true:=by kernel_rfl
@[go_sem] theorem tb_p49_0:plc Tryz.prog 49 0=some (0,1):=by kernel_rfl
@[go_sem] theorem tb_p49_4:plc Tryz.prog 49 4=some (4,1):=by kernel_rfl
@[go_sem] theorem tb_f49_0:fo Tryz.prog 49 0=some 0:=by kernel_rfl
@[go_sem] theorem tb_f49_1:fo Tryz.prog 49 1=some 1:=by kernel_rfl
@[go_sem] theorem tb_f49_2:fo Tryz.prog 49 2=some 2:=by kernel_rfl
@[go_sem] theorem tb_f49_3:fo Tryz.prog 49 3=some 3:=by kernel_rfl
@[go_sem] theorem tb_f49_4:fo Tryz.prog 49 4=some 4:=by kernel_rfl
@[go_sem] theorem tb_f49_5:fo Tryz.prog 49 5=some 5:=by kernel_rfl
@[go_sem] theorem tb_f49_6:fo Tryz.prog 49 6=some 6:=by kernel_rfl
@[go_sem] theorem tb_z49:zrow Tryz.prog 49=some (Cs.at Cs.zero):=by kernel_rfl
@[go_sem] theorem tb_i50:isSl Tryz.prog 50=true:=by kernel_rfl
@[go_sem] theorem tb_e50:es Tryz.prog 50=some 3:=by kernel_rfl
@[go_sem] theorem tb_l54:ldk Tryz.prog 54=some (some 3):=by kernel_rfl
@[go_sem] theorem tb_s54:szo Tryz.prog 54=some 3:=by kernel_rfl
@[go_sem] theorem tb_i54:isSl Tryz.prog 54=false:=by kernel_rfl
@[go_sem] theorem tb_k54:bOk Tryz.prog 54=true:=by kernel_rfl
@[go_sem] theorem tb_g54_2:fo2 Tryz.prog 54 2=some (2,none):=by kernel_rfl
@[go_sem] theorem tb_p54_2:plc Tryz.prog 54 2=some (2,1):=by kernel_rfl
@[go_sem] theorem tb_f54_0:fo Tryz.prog 54 0=some 0:=by kernel_rfl
@[go_sem] theorem tb_f54_1:fo Tryz.prog 54 1=some 1:=by kernel_rfl
@[go_sem] theorem tb_f54_2:fo Tryz.prog 54 2=some 2:=by kernel_rfl
@[go_sem] theorem tb_z54:zrow Tryz.prog 54=some [.v (.int .i64 0),.v (.string ⟨#[]⟩),.v (.int .i64 0)]:=by kernel_rfl
@[go_sem] theorem tb_l57:ldk Tryz.prog 57=some none:=by kernel_rfl
@[go_sem] theorem tb_s57:szo Tryz.prog 57=some 1:=by kernel_rfl
@[go_sem] theorem tb_i57:isSl Tryz.prog 57=true:=by kernel_rfl
@[go_sem] theorem tb_e57:es Tryz.prog 57=some 23:=by kernel_rfl
@[go_sem] theorem tb_y57:byt Tryz.prog 57=some 288:=by kernel_rfl
@[go_sem] theorem tb_w57:zrT Tryz.prog 57=some (St.at St.zero):=by kernel_rfl
@[go_sem] theorem tb_l59:ldk Tryz.prog 59=some (some 17):=by kernel_rfl
@[go_sem] theorem tb_s59:szo Tryz.prog 59=some 17:=by kernel_rfl
@[go_sem] theorem tb_i59:isSl Tryz.prog 59=false:=by kernel_rfl
@[go_sem] theorem tb_f59_0:fo Tryz.prog 59 0=some 0:=by kernel_rfl
@[go_sem] theorem tb_f59_1:fo Tryz.prog 59 1=some 1:=by kernel_rfl
@[go_sem] theorem tb_f59_2:fo Tryz.prog 59 2=some 2:=by kernel_rfl
@[go_sem] theorem tb_f59_3:fo Tryz.prog 59 3=some 13:=by kernel_rfl
@[go_sem] theorem tb_f59_4:fo Tryz.prog 59 4=some 14:=by kernel_rfl
@[go_sem] theorem tb_f59_5:fo Tryz.prog 59 5=some 15:=by kernel_rfl
@[go_sem] theorem tb_f59_6:fo Tryz.prog 59 6=some 16:=by kernel_rfl
@[go_sem] theorem tb_z59:zrow Tryz.prog 59=some (Me.at Me.zero):=by kernel_rfl
@[go_sem] theorem tb_l84:ldk Tryz.prog 84=some none:=by kernel_rfl
@[go_sem] theorem tb_s84:szo Tryz.prog 84=some 1:=by kernel_rfl
@[go_sem] theorem tb_i84:isSl Tryz.prog 84=true:=by kernel_rfl
@[go_sem] theorem tb_e84:es Tryz.prog 84=some 4:=by kernel_rfl
@[go_sem] theorem tb_y84:byt Tryz.prog 84=some 56:=by kernel_rfl
@[go_sem] theorem tb_w84:zrT Tryz.prog 84=some (Ex.at Ex.zero):=by kernel_rfl
@[go_sem] theorem tb_z84:zrow Tryz.prog 84=some [.sl []]:=by kernel_rfl
@[go_sem] theorem tb_l86:ldk Tryz.prog 86=some (some 4):=by kernel_rfl
@[go_sem] theorem tb_s86:szo Tryz.prog 86=some 4:=by kernel_rfl
@[go_sem] theorem tb_i86:isSl Tryz.prog 86=false:=by kernel_rfl
@[go_sem] theorem tb_k86:bOk Tryz.prog 86=true:=by kernel_rfl
@[go_sem] theorem tb_p86_0:plc Tryz.prog 86 0=some (0,1):=by kernel_rfl
@[go_sem] theorem tb_p86_1:plc Tryz.prog 86 1=some (1,1):=by kernel_rfl
@[go_sem] theorem tb_p86_2:plc Tryz.prog 86 2=some (2,1):=by kernel_rfl
@[go_sem] theorem tb_p86_3:plc Tryz.prog 86 3=some (3,1):=by kernel_rfl
@[go_sem] theorem tb_f86_0:fo Tryz.prog 86 0=some 0:=by kernel_rfl
@[go_sem] theorem tb_f86_1:fo Tryz.prog 86 1=some 1:=by kernel_rfl
@[go_sem] theorem tb_f86_2:fo Tryz.prog 86 2=some 2:=by kernel_rfl
@[go_sem] theorem tb_f86_3:fo Tryz.prog 86 3=some 3:=by kernel_rfl
@[go_sem] theorem tb_z86:zrow Tryz.prog 86=some (Ex.at Ex.zero):=by kernel_rfl
@[go_sem] theorem tb_l88:ldk Tryz.prog 88=some (some 23):=by kernel_rfl
@[go_sem] theorem tb_s88:szo Tryz.prog 88=some 23:=by kernel_rfl
@[go_sem] theorem tb_i88:isSl Tryz.prog 88=false:=by kernel_rfl
@[go_sem] theorem tb_f88_0:fo Tryz.prog 88 0=some 0:=by kernel_rfl
@[go_sem] theorem tb_f88_1:fo Tryz.prog 88 1=some 1:=by kernel_rfl
@[go_sem] theorem tb_f88_2:fo Tryz.prog 88 2=some 2:=by kernel_rfl
@[go_sem] theorem tb_f88_3:fo Tryz.prog 88 3=some 3:=by kernel_rfl
@[go_sem] theorem tb_f88_4:fo Tryz.prog 88 4=some 4:=by kernel_rfl
@[go_sem] theorem tb_f88_5:fo Tryz.prog 88 5=some 15:=by kernel_rfl
@[go_sem] theorem tb_f88_6:fo Tryz.prog 88 6=some 19:=by kernel_rfl
@[go_sem] theorem tb_f88_7:fo Tryz.prog 88 7=some 20:=by kernel_rfl
@[go_sem] theorem tb_f88_8:fo Tryz.prog 88 8=some 21:=by kernel_rfl
@[go_sem] theorem tb_f88_9:fo Tryz.prog 88 9=some 22:=by kernel_rfl
@[go_sem] theorem tb_z88:zrow Tryz.prog 88=some (St.at St.zero):=by kernel_rfl
@[go_sem] theorem tb_i90:isSl Tryz.prog 90=true:=by kernel_rfl
@[go_sem] theorem tb_e90:es Tryz.prog 90=some 11:=by kernel_rfl
@[go_sem] theorem tb_y90:byt Tryz.prog 90=some 96:=by kernel_rfl
@[go_sem] theorem tb_w90:zrT Tryz.prog 90=some (Ty.at Ty.zero):=by kernel_rfl
@[go_sem] theorem tb_l157:ldk Tryz.prog 157=some (some 7):=by kernel_rfl
@[go_sem] theorem tb_s157:szo Tryz.prog 157=some 7:=by kernel_rfl
@[go_sem] theorem tb_i157:isSl Tryz.prog 157=false:=by kernel_rfl
@[go_sem] theorem tb_k157:bOk Tryz.prog 157=true:=by kernel_rfl
@[go_sem] theorem tb_p157_0:plc Tryz.prog 157 0=some (0,4):=by kernel_rfl
@[go_sem] theorem tb_p157_1:plc Tryz.prog 157 1=some (4,1):=by kernel_rfl
@[go_sem] theorem tb_p157_2:plc Tryz.prog 157 2=some (5,2):=by kernel_rfl
@[go_sem] theorem tb_f157_0:fo Tryz.prog 157 0=some 0:=by kernel_rfl
@[go_sem] theorem tb_f157_1:fo Tryz.prog 157 1=some 4:=by kernel_rfl
@[go_sem] theorem tb_f157_2:fo Tryz.prog 157 2=some 5:=by kernel_rfl
@[go_sem] theorem tb_z157:zrow Tryz.prog 157=some [.v (.int .i64 0),.v (.int .i64 0),.v (.string ⟨#[]⟩),.sl [],.v (.int .i64 0),.v (.int .i64 0),.v (.int .i64 0)]:=by kernel_rfl
@[go_sem] theorem tb_e185:es Tryz.prog 185=some 1:=by kernel_rfl
@[go_sem] theorem tb_y185:byt Tryz.prog 185=some 24:=by kernel_rfl
@[go_sem] theorem tb_w185:zrT Tryz.prog 185=some [.sl []]:=by kernel_rfl
end Go.Proofs.YtfbopaaambkfkaaGreatDoor
