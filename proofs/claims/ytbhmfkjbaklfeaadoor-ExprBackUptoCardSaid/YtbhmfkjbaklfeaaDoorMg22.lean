/- The signs between two kids as plain data. No program in sight. Conditions: none. -/
import Derived.Test.YtbhmfkjbaklfeaaDoorMg6
import Derived.Test.YtbhmfkjbaklfeaaDoorMg18
set_option linter.unusedVariables false
set_option maxRecDepth 100000
set_option maxHeartbeats 8000000
set_option linter.unusedSimpArgs false
namespace Go.Proofs.YtbhmfkjbaklfeaaDoor
open Go.RowKit
structure Bd where
 sign:List UInt8
 level:Int
 kind:Int
def Bd.at:Bd→List A
 | ⟨sign,level,kind⟩=>[.v (.string (bs sign)),.v (.int .i64 level),.v (.int .i64 kind)]
section
variable (s:Bd)
@[go_sem] theorem Bd.len:(Bd.at s).length=3:=by obtain⟨sign,level,kind⟩:=s;rfl
@[go_sem] theorem Bd.cl:(Bd.at s).all clA=true:=by obtain⟨sign,level,kind⟩:=s;rfl
@[go_sem] theorem Bd.see (st:List Bx):(Bd.at s).map (seeA st)=Bd.at s:=by obtain⟨sign,level,kind⟩:=s;rfl
@[go_sem] theorem Bd.w:ldRow (some 3) (Bd.at s) 0=some (.r (Bd.at s)):=ldRow_all (Bd.len s)
@[go_sem] theorem Bd.pw (t:Bd):putRow (Bd.at s) 0 (Bd.at t)=Bd.at t:=putRow_all (by rw [Bd.len,Bd.len])
@[go_sem] theorem Bd.g0:ldRow none (Bd.at s) 0=some (.a (.v (.string (bs s.sign)))):=by obtain⟨sign,level,kind⟩:=s;rfl
@[go_sem] theorem Bd.g1:ldRow none (Bd.at s) 1=some (.a (.v (.int .i64 s.level))):=by obtain⟨sign,level,kind⟩:=s;rfl
@[go_sem] theorem Bd.g2:ldRow none (Bd.at s) 2=some (.a (.v (.int .i64 s.kind))):=by obtain⟨sign,level,kind⟩:=s;rfl
@[go_sem] theorem Bd.p0_0 (z:ByteArray):putRow (Bd.at s) 0 [.v (.string z)]=Bd.at { s with sign:=z.data.toList }:=by obtain⟨sign,level,kind⟩:=s;rfl
@[go_sem] theorem Bd.p1_1 (z:Int):putRow (Bd.at s) 1 [.v (.int .i64 z)]=Bd.at { s with level:=z }:=by obtain⟨sign,level,kind⟩:=s;rfl
@[go_sem] theorem Bd.p2_2 (z:Int):putRow (Bd.at s) 2 [.v (.int .i64 z)]=Bd.at { s with kind:=z }:=by obtain⟨sign,level,kind⟩:=s;rfl
end
def Bd.zero:Bd:=⟨[],0,0⟩
@[go_sem] theorem Bd.nr (m:Nat) (s:Bd):(Bd.at s).all (nrA m)=true:=by obtain⟨sign,level,kind⟩:=s;rfl
def sgnL:List Bd:=[⟨[38,38],1,11⟩,⟨[60],2,9⟩,⟨[61,61],2,10⟩,⟨[43],3,6⟩,⟨[45],3,7⟩,⟨[42],4,8⟩]
end Go.Proofs.YtbhmfkjbaklfeaaDoor
