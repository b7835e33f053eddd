import Derived.Test.YtlcgonaapmmnkaaDoorWWords
import Derived.Test.YtlcgonaapmmnkaaDoorWLast
namespace Go.Proofs.YtlcgonaapmmnkaaDoorW.PrintWords
open Go.RowKit
namespace Kd
end Kd
end Go.Proofs.YtlcgonaapmmnkaaDoorW.PrintWords
