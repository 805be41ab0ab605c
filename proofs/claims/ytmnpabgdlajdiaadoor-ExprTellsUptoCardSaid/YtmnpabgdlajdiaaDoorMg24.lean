/- The contracts of library functions that these claims lean on, laid at this translation by the shelf's program (lay-shelf, lay-plain): strings_Join. -/
import Derived.Shelf.Strings.Builder1
import Derived.Shelf.Strings.Builder2
import Derived.Shelf.Strings.OnBuilder
import Derived.Test.YtmnpabgdlajdiaaDoorProg
set_option linter.unusedVariables false
set_option maxRecDepth 100000
set_option maxHeartbeats 8000000
set_option linter.unusedSimpArgs false
namespace Go.Proofs
open Go.Shelf
def Tryd.lays156_ren:Go.Shelf.Ren:=⟨fun|156=>58|165=>71|166=>72|169=>73|240=>75|241=>76|276=>77|277=>78|n=>n,fun|31=>27|9=>9|3=>3|4=>4|0=>0|20=>20|72=>99|76=>103|70=>97|37=>80|75=>102|127=>106|164=>107|5=>5|80=>105|n=>n,fun|n=>n⟩
theorem Tryd.lays156:Go.Proofs.Lays.n156 Tryd.prog Tryd.lays156_ren:={
 mixed:=by kernel_rfl
 f156:=Tryd.func58.trans (congrArg some (by kernel_rfl))
 f165:=Tryd.func71.trans (congrArg some (by kernel_rfl))
 f166:=Tryd.func72.trans (congrArg some (by kernel_rfl))
 f169:=Tryd.func73.trans (congrArg some (by kernel_rfl))
 f240:=Tryd.func75.trans (congrArg some (by kernel_rfl))
 f241:=Tryd.func76.trans (congrArg some (by kernel_rfl))
 f276:=Tryd.func77.trans (congrArg some (by kernel_rfl))
 f277:=Tryd.func78.trans (congrArg some (by kernel_rfl))
 t0:=Tryd.underlying0
 a0:=Tryd.isAgg0
 z0:=Tryd.sizeOf0
 v0:=Tryd.zeroValue0
 t3:=Tryd.underlying3
 a3:=Tryd.isAgg3
 z3:=Tryd.sizeOf3
 v3:=Tryd.zeroValue3
 t4:=Tryd.underlying4
 a4:=Tryd.isAgg4
 z4:=Tryd.sizeOf4
 v4:=Tryd.zeroValue4
 t9:=Tryd.underlying9
 a9:=Tryd.isAgg9
 z9:=Tryd.sizeOf9
 v9:=Tryd.zeroValue9
 t20:=Tryd.underlying20
 a20:=Tryd.isAgg20
 z20:=Tryd.sizeOf20
 v20:=Tryd.zeroValue20
 t31:=Tryd.underlying27
 a31:=Tryd.isAgg27
 z31:=Tryd.sizeOf27
 v31:=Tryd.zeroValue27
 t37:=Tryd.underlying80
 a37:=Tryd.isAgg80
 z37:=Tryd.sizeOf80
 v37:=Tryd.zeroValue80
 t70:=Tryd.underlying97
 a70:=Tryd.isAgg97
 z70:=Tryd.sizeOf97
 v70:=Tryd.zeroValue97
 t72:=Tryd.underlying99
 a72:=Tryd.isAgg99
 z72:=Tryd.sizeOf99
 v72:=Tryd.zeroValue99
 t75:=Tryd.underlying102
 a75:=Tryd.isAgg102
 z75:=Tryd.sizeOf102
 v75:=Tryd.zeroValue102
 t76:=Tryd.underlying103
 a76:=Tryd.isAgg103
 z76:=Tryd.sizeOf103
 v76:=Tryd.zeroValue103
 t127:=Tryd.underlying106
 a127:=Tryd.isAgg106
 z127:=Tryd.sizeOf106
 v127:=Tryd.zeroValue106
 t164:=Tryd.underlying107
 a164:=Tryd.isAgg107
 z164:=Tryd.sizeOf107
 v164:=Tryd.zeroValue107 }
theorem Tryd.Builder_Extra_156:Builder.Extra Tryd.prog Tryd.lays156_ren:={
 sizeBuilder:=by kernel_rfl
 liesBuilder:=by kernel_rfl
 t5:=Tryd.underlying5
 a5:=Tryd.isAgg5
 z5:=Tryd.sizeOf5
 v5:=Tryd.zeroValue5
 infoByte:=by kernel_rfl
 cellsByte:=by kernel_rfl
 sizeByte:=by kernel_rfl
 neB5:=by decide }
open Go.RowKit in
theorem Tryd.strings_Join (bk o c:Nat) (xs:List ByteArray) (sep:ByteArray) (w:World) (hcells:∀(j:Nat) x,xs[j]? = some x→w.cell? ⟨bk,o+j,none⟩=some (.string x)) (hbk:bk<w.heap.size) (hN:xs.length≤140737488355328) (hcap:xs.length≤c) (hlen:(Lib.join (xs.map (·.data.toList)) sep.data.toList).length≤140737488355328) :
  Calls Tryd.prog 58 #[.slice (some ⟨bk,o,none⟩) xs.length c,.string sep] w fun e w'=>e=.returned (.string ⟨(Lib.join (xs.map (·.data.toList)) sep.data.toList).toArray⟩)∧Below w.heap.size w w':=Any.strings_Join Tryd.lays156 Tryd.Builder_Extra_156 bk o c xs sep w hcells hbk hN hcap hlen
end Go.Proofs
