import Derived.Test.YtlcgonaapmmnkaaDoorWTab
namespace Go.Proofs.YtlcgonaapmmnkaaDoorW.PrintLast
def up (b : Nat → Bool) (i : Nat) : Nat → Bool := fun j => if j = i then true else b j
end Go.Proofs.YtlcgonaapmmnkaaDoorW.PrintLast
