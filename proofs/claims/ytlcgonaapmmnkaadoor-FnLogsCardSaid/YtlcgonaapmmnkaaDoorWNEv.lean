import Derived.Test.YtlcgonaapmmnkaaDoorWN
namespace Go.Proofs.YtlcgonaapmmnkaaDoorW.PrintWords
open Go.RowKit
namespace Kd
end Kd
end Go.Proofs.YtlcgonaapmmnkaaDoorW.PrintWords
