import Derived.Test.YtihiodhlmnhfdaaDoorWInv
import Derived.Test.YtihiodhlmnhfdaaDoorWFootNe
namespace Go.Proofs.YtihiodhlmnhfdaaDoorW.PrintWords
open Go.RowKit
end Go.Proofs.YtihiodhlmnhfdaaDoorW.PrintWords
namespace Go.Proofs.YtihiodhlmnhfdaaDoorW.PrintLast
end Go.Proofs.YtihiodhlmnhfdaaDoorW.PrintLast
