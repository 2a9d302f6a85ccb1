import Derived.Test.YtcfkfhaedllcpaaGreatW39
set_option linter.all false
set_option linter.defProp false
set_option maxHeartbeats 8000000
noncomputable section
namespace Go.Gl
variable {P:Program} {Y Y':Ren} {Z:AE}
def Xf (sz:Nat) (vs:List V) (s:St):Option (R×St):=
 match vs with
 | [.l es f]=>match Ie s sz (.l es f)with
   | some []=>some (.ret (.l [] true),s)
   | some (y::ys)=>bif (y::ys).all (fun e=>e.all CC)&&Nat.ble (y::ys).length 1073741824 then s.new (.arr sz (y::ys)) fun i s'=>some (.ret (.sl i (y::ys).length 0),s')else none
   | none=>none
 | [.sl n len c]=>match Ie s sz (.sl n len c)with
   | some []=>some (.ret (.l [] true),s)
   | some (y::ys)=>bif (y::ys).all (fun e=>e.all CC)&&Nat.ble (y::ys).length 1073741824 then s.new (.arr sz (y::ys)) fun i s'=>some (.ret (.sl i (y::ys).length 0),s')else none
   | none=>none
 | _=>none
def Y4 {α:Type} (p:Nat->α->Prop) (f:Nat->Nat) (t:Tr α):Prop:= ∀j a,t.get j=some a->p (f j) a
def na {α:Type} {p:Nat->α->Prop} {f:Nat->Nat}:Y4 p f .leaf:=fun _ _ h=>by cases h
def iX:G3 P (fun _=>[]):=fun _ _ h=>by cases h
end Go.Gl
