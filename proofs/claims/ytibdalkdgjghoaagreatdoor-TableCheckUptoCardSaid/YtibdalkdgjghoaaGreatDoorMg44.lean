/- The document's classes above classes, on plain data. Conditions: at most 2^20 classes. -/
import Derived.Test.YtibdalkdgjghoaaGreatDoorMg42
import Derived.Test.YtibdalkdgjghoaaGreatDoorMg16
set_option linter.unusedVariables false
set_option maxRecDepth 100000
set_option maxHeartbeats 8000000
set_option linter.unusedSimpArgs false
namespace Go.Proofs.YtibdalkdgjghoaaGreatDoor
open Go.RowKit
def PlN (p:List Cs) (l:List Int):Prop:=l.Nodup∧∀i∈l,∃(k:Nat) (c:Cs),i=(k:Int)∧p[k]? = some c
theorem PlN.len {p:List Cs} {l:List Int} (h:PlN p l):l.length≤p.length:=by
 have h2:l.length≤((List.range p.length).map fun k:Nat=>(k:Int)).length:=List.Nodup.length_le_of_subset h.1 fun i hi=>by
  obtain⟨k,c,rfl,hc⟩:=h.2 i hi
  exact List.mem_map.2 ⟨k,by simpa using (List.getElem?_eq_some_iff.1 hc).1,rfl⟩
 simpa using h2
end Go.Proofs.YtibdalkdgjghoaaGreatDoor
