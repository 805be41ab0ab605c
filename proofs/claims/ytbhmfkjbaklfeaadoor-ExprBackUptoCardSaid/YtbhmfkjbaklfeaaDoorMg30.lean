/- The contracts of library functions that these claims lean on, laid at this translation by the shelf's program (lay-shelf, lay-plain): strings_Join. -/
import Derived.Shelf.Strings.Builder1
import Derived.Shelf.Strings.Builder2
import Derived.Shelf.Strings.OnBuilder
import Derived.Shelf.Strings.BuilderF
import Derived.Shelf.Strings.Builder2Cap
import Derived.Test.YtbhmfkjbaklfeaaDoorProg
set_option linter.unusedVariables false
set_option maxRecDepth 100000
set_option maxHeartbeats 8000000
set_option linter.unusedSimpArgs false
namespace Go.Proofs
open Go.Shelf
def Tryd.lays156_ren:Go.Shelf.Ren:=⟨fun|156=>55|165=>59|166=>60|169=>61|240=>63|241=>64|276=>65|277=>66|n=>n,fun|31=>76|9=>9|3=>3|4=>4|0=>0|20=>20|72=>98|76=>102|70=>96|37=>85|75=>101|127=>105|164=>106|5=>5|80=>104|n=>n,fun|n=>n⟩
theorem Tryd.lays156:Go.Proofs.Lays.n156 Tryd.prog Tryd.lays156_ren:={
 mixed:=by kernel_rfl
 f156:=Tryd.func55.trans (congrArg some (by kernel_rfl))
 f165:=Tryd.func59.trans (congrArg some (by kernel_rfl))
 f166:=Tryd.func60.trans (congrArg some (by kernel_rfl))
 f169:=Tryd.func61.trans (congrArg some (by kernel_rfl))
 f240:=Tryd.func63.trans (congrArg some (by kernel_rfl))
 f241:=Tryd.func64.trans (congrArg some (by kernel_rfl))
 f276:=Tryd.func65.trans (congrArg some (by kernel_rfl))
 f277:=Tryd.func66.trans (congrArg some (by kernel_rfl))
 t0:=Tryd.underlying0
 a0:=Tryd.isAgg0
 z0:=Tryd.sizeOf0
 v0:=Tryd.zeroValue0
 t3:=Tryd.underlying3
 a3:=Tryd.isAgg3
 z3:=Tryd.sizeOf3
 v3:=Tryd.zeroValue3
 t4:=Tryd.underlying4
 a4:=Tryd.isAgg4
 z4:=Tryd.sizeOf4
 v4:=Tryd.zeroValue4
 t9:=Tryd.underlying9
 a9:=Tryd.isAgg9
 z9:=Tryd.sizeOf9
 v9:=Tryd.zeroValue9
 t20:=Tryd.underlying20
 a20:=Tryd.isAgg20
 z20:=Tryd.sizeOf20
 v20:=Tryd.zeroValue20
 t31:=Tryd.underlying76
 a31:=Tryd.isAgg76
 z31:=Tryd.sizeOf76
 v31:=Tryd.zeroValue76
 t37:=Tryd.underlying85
 a37:=Tryd.isAgg85
 z37:=Tryd.sizeOf85
 v37:=Tryd.zeroValue85
 t70:=Tryd.underlying96
 a70:=Tryd.isAgg96
 z70:=Tryd.sizeOf96
 v70:=Tryd.zeroValue96
 t72:=Tryd.underlying98
 a72:=Tryd.isAgg98
 z72:=Tryd.sizeOf98
 v72:=Tryd.zeroValue98
 t75:=Tryd.underlying101
 a75:=Tryd.isAgg101
 z75:=Tryd.sizeOf101
 v75:=Tryd.zeroValue101
 t76:=Tryd.underlying102
 a76:=Tryd.isAgg102
 z76:=Tryd.sizeOf102
 v76:=Tryd.zeroValue102
 t127:=Tryd.underlying105
 a127:=Tryd.isAgg105
 z127:=Tryd.sizeOf105
 v127:=Tryd.zeroValue105
 t164:=Tryd.underlying106
 a164:=Tryd.isAgg106
 z164:=Tryd.sizeOf106
 v164:=Tryd.zeroValue106 }
theorem Tryd.Builder_Extra_156:Builder.Extra Tryd.prog Tryd.lays156_ren:={
 sizeBuilder:=by kernel_rfl
 liesBuilder:=by kernel_rfl
 t5:=Tryd.underlying5
 a5:=Tryd.isAgg5
 z5:=Tryd.sizeOf5
 v5:=Tryd.zeroValue5
 infoByte:=by kernel_rfl
 cellsByte:=by kernel_rfl
 sizeByte:=by kernel_rfl
 neB5:=by decide }
open Go.RowKit in
theorem Tryd.strings_Join (bk o c:Nat) (xs:List ByteArray) (sep:ByteArray) (w:World) (hcells:∀(j:Nat) x,xs[j]? = some x→w.cell? ⟨bk,o+j,none⟩=some (.string x)) (hbk:bk<w.heap.size) (hN:xs.length≤140737488355328) (hcap:xs.length≤c) (hlen:(Lib.join (xs.map (·.data.toList)) sep.data.toList).length≤140737488355328) :
  Calls Tryd.prog 55 #[.slice (some ⟨bk,o,none⟩) xs.length c,.string sep] w fun e w'=>e=.returned (.string ⟨(Lib.join (xs.map (·.data.toList)) sep.data.toList).toArray⟩)∧Below w.heap.size w w':=Any.strings_Join Tryd.lays156 Tryd.Builder_Extra_156 bk o c xs sep w hcells hbk hN hcap hlen
end Go.Proofs
