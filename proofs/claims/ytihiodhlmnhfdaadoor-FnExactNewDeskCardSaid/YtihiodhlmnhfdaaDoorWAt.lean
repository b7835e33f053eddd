import Derived.Test.YtihiodhlmnhfdaaDoorWFootNe
namespace Go.Proofs.YtihiodhlmnhfdaaDoorW.PrintWords
open Go.RowKit
namespace Kd
end Kd
end Go.Proofs.YtihiodhlmnhfdaaDoorW.PrintWords
