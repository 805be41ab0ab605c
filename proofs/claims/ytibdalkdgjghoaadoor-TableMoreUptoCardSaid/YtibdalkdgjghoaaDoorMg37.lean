/- Rows of nothing, written out. Conditions: none. -/
import Derived.Test.YtibdalkdgjghoaaDoorMg5
set_option linter.unusedVariables false
set_option maxRecDepth 100000
set_option maxHeartbeats 8000000
set_option linter.unusedSimpArgs false
namespace Go.Proofs.YtibdalkdgjghoaaDoor
theorem zrTy:Ty.at Ty.zero=[A.v (.int .i64 0),.v (.string (bs [])),.v (.int .i64 0),.v (.int .i64 0),.v (.int .i64 0),.v (.int .i64 0),.v (.int .i64 0),.v (.int .i64 0),.v (.int .i64 0),.v (.int .i64 0),.v (.int .i64 0)]:=by unfold Ty.zero;simp only [Ty.zero,Ex.zero,Ty.at,Ex.at,Ex.ats_map,St.at,St.ats_map,Vr.at,Me.at,Cs.at,List.map_nil]<;>rfl
theorem zrVr:Vr.at Vr.zero=[A.v (.string (bs [])),.v (.int .i64 0),.v (.string (bs [])),.v (.int .i64 0),.v (.int .i64 0),.v (.int .i64 0),.v (.int .i64 0),.v (.int .i64 0),.v (.int .i64 0),.v (.int .i64 0),.v (.int .i64 0),.v (.int .i64 0),.v (.int .i64 0)]:=by unfold Vr.zero;simp only [Ty.zero,Ex.zero,Ty.at,Ex.at,Ex.ats_map,St.at,St.ats_map,Vr.at,Me.at,Cs.at,List.map_nil]<;>rfl
theorem zrCs:Cs.at Cs.zero=[A.v (.string (bs [])),.sl [],.v (.string (bs [])),.sl [],.sl [],.sl [],.v (.int .i64 0)]:=by unfold Cs.zero;simp only [Ty.zero,Ex.zero,Ty.at,Ex.at,Ex.ats_map,St.at,St.ats_map,Vr.at,Me.at,Cs.at,List.map_nil]<;>rfl
theorem zrOw:owAt (0,0)=[A.v (.int .i64 0),.v (.int .i64 0)]:=rfl
end Go.Proofs.YtibdalkdgjghoaaDoor
