import Derived.Test.YtcfkfhaedllcpaaGreatV41
set_option linter.all false
set_option linter.defProp false
set_option maxHeartbeats 8000000
noncomputable section
namespace Go.Gl
variable {P:Program} {Y Y':Ren} {Z:AE}
def X3 (sz:Nat) (vs:List V) (s:St):Option (R×St):=
 match vs with
 | [.l es f]=>match Iv s sz (.l es f)with
   | some []=>some (.ret (.l [] true),s)
   | some (y::ys)=>bif (y::ys).all (fun e=>e.all CE)&&Nat.ble (y::ys).length 1073741824 then s.new (.arr sz (y::ys)) fun i s'=>some (.ret (.sl i (y::ys).length 0),s')else none
   | none=>none
 | [.sl n len c]=>match Iv s sz (.sl n len c)with
   | some []=>some (.ret (.l [] true),s)
   | some (y::ys)=>bif (y::ys).all (fun e=>e.all CE)&&Nat.ble (y::ys).length 1073741824 then s.new (.arr sz (y::ys)) fun i s'=>some (.ret (.sl i (y::ys).length 0),s')else none
   | none=>none
 | _=>none
def ZV {α:Type} (p:Nat->α->Prop) (f:Nat->Nat) (t:Tr α):Prop:= ∀j a,t.get j=some a->p (f j) a
def od {α:Type} {p:Nat->α->Prop} {f:Nat->Nat}:ZV p f .leaf:=fun _ _ h=>by cases h
def jY:HK P (fun _=>[]):=fun _ _ h=>by cases h
end Go.Gl
