import Derived.Test.YtihiodhlmnhfdaaDoorWWords
namespace Go.Proofs.YtihiodhlmnhfdaaDoorW.PrintWords
open Go.RowKit
end Go.Proofs.YtihiodhlmnhfdaaDoorW.PrintWords
