/- The document's programs on plain data: whether they may be. Conditions: at most 2^20 of anything. -/
import Derived.Test.YtibdalkdgjghoaaDoorMg21
set_option linter.unusedVariables false
set_option maxRecDepth 100000
set_option maxHeartbeats 8000000
set_option linter.unusedSimpArgs false
namespace Go.Proofs.YtibdalkdgjghoaaDoor
open Go.RowKit
def o4At (t:Ty):List A:=[.v (.int .i64 t.o0.1),.v (.int .i64 t.o0.2),.v (.int .i64 t.o1.1),.v (.int .i64 t.o1.2),.v (.int .i64 t.o2.1),.v (.int .i64 t.o2.2),.v (.int .i64 t.o3.1),.v (.int .i64 t.o3.2)]
@[go_sem] theorem o4_ld (t:Ty):ldRow (some 8) (Ty.at t) 3=some (.r (o4At t)):=by obtain⟨k,cls,n,⟨a0,b0⟩,⟨a1,b1⟩,⟨a2,b2⟩,⟨a3,b3⟩⟩:=t;rfl
@[go_sem] theorem o4_len (t:Ty):(o4At t).length=8:=rfl
@[go_sem] theorem o4_cl (t:Ty):(o4At t).all clA=true:=rfl
@[go_sem] theorem o4_see (t:Ty) (st:List Bx):(o4At t).map (seeA st)=o4At t:=rfl
@[go_sem] theorem o4_w (t:Ty):ldRow (some 8) (o4At t) 0=some (.r (o4At t)):=rfl
@[go_sem] theorem o4_z (t:Ty) (a b c d e f g h:A):putRow [a,b,c,d,e,f,g,h] 0 (o4At t)=o4At t:=rfl
@[go_sem] theorem o4_0 (t:Ty):ldRow none (o4At t) 0=some (.a (.v (.int .i64 t.o0.1))):=rfl
@[go_sem] theorem o4_1 (t:Ty):ldRow none (o4At t) 1=some (.a (.v (.int .i64 t.o0.2))):=rfl
@[go_sem] theorem o4_2 (t:Ty):ldRow none (o4At t) 2=some (.a (.v (.int .i64 t.o1.1))):=rfl
@[go_sem] theorem o4_4 (t:Ty):ldRow none (o4At t) 4=some (.a (.v (.int .i64 t.o2.1))):=rfl
@[go_sem] theorem o4_6 (t:Ty):ldRow none (o4At t) 6=some (.a (.v (.int .i64 t.o3.1))):=rfl
end Go.Proofs.YtibdalkdgjghoaaDoor
