import Derived.Test.YtihiodhlmnhfdaaDoorWWords
import Derived.Laws.StructEq
namespace Go.Proofs.YtihiodhlmnhfdaaDoorW.PrintWords
open Go.RowKit
end Go.Proofs.YtihiodhlmnhfdaaDoorW.PrintWords
