import Derived.Test.YtfllapokfdianaaDoorWTab
namespace Go.Proofs.YtfllapokfdianaaDoorW.PrintLast
def up (b : Nat → Bool) (i : Nat) : Nat → Bool := fun j => if j = i then true else b j
end Go.Proofs.YtfllapokfdianaaDoorW.PrintLast
