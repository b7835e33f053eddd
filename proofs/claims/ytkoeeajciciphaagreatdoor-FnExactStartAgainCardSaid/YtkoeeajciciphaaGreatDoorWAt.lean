import Derived.Test.YtkoeeajciciphaaGreatDoorWFootNe
namespace Go.Proofs.YtkoeeajciciphaaGreatDoorW.PrintWords
open Go.RowKit
namespace Kd
end Kd
end Go.Proofs.YtkoeeajciciphaaGreatDoorW.PrintWords
