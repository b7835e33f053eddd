import Derived.Test.YtlcgonaapmmnkaaDoorWInv
import Derived.Test.YtlcgonaapmmnkaaDoorWFootNe
namespace Go.Proofs.YtlcgonaapmmnkaaDoorW.PrintWords
open Go.RowKit
end Go.Proofs.YtlcgonaapmmnkaaDoorW.PrintWords
namespace Go.Proofs.YtlcgonaapmmnkaaDoorW.PrintLast
end Go.Proofs.YtlcgonaapmmnkaaDoorW.PrintLast
