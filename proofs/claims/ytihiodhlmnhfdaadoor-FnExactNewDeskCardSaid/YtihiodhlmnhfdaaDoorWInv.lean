import Derived.Test.YtihiodhlmnhfdaaDoorWTab
namespace Go.Proofs.YtihiodhlmnhfdaaDoorW.PrintLast
def up (b : Nat → Bool) (i : Nat) : Nat → Bool := fun j => if j = i then true else b j
end Go.Proofs.YtihiodhlmnhfdaaDoorW.PrintLast
