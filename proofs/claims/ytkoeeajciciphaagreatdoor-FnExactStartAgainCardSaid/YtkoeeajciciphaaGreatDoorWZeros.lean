import Derived.Test.YtkoeeajciciphaaGreatDoorWApart
import Derived.Test.YtkoeeajciciphaaGreatDoorWArr
namespace Go.Proofs.YtkoeeajciciphaaGreatDoorW.PrintWords
open Go.RowKit
namespace Kd
end Kd
end Go.Proofs.YtkoeeajciciphaaGreatDoorW.PrintWords
