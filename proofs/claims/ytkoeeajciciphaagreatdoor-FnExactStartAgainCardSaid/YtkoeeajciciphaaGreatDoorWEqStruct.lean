import Derived.Test.YtkoeeajciciphaaGreatDoorWWords
import Derived.Laws.StructEq
namespace Go.Proofs.YtkoeeajciciphaaGreatDoorW.PrintWords
open Go.RowKit
end Go.Proofs.YtkoeeajciciphaaGreatDoorW.PrintWords
