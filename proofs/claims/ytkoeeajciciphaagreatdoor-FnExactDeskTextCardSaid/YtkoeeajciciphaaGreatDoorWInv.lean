import Derived.Test.YtkoeeajciciphaaGreatDoorWTab
namespace Go.Proofs.YtkoeeajciciphaaGreatDoorW.PrintLast
def up (b : Nat → Bool) (i : Nat) : Nat → Bool := fun j => if j = i then true else b j
end Go.Proofs.YtkoeeajciciphaaGreatDoorW.PrintLast
