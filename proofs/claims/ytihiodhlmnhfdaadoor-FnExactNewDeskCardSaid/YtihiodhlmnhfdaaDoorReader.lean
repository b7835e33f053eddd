import Derived.Test.YtihiodhlmnhfdaaDoorWWords
import Derived.Deep.Slices
import Derived.Deep.Fields
import Derived.ChangeSame
import Derived.ChangeArms
namespace Go.Proofs.YtihiodhlmnhfdaaDoor.Reader
open Go.ChangeShapes Go.WideShapes Go.Deep Go.RowKit Go.Proofs.YtihiodhlmnhfdaaDoorW.PrintWords
end Go.Proofs.YtihiodhlmnhfdaaDoor.Reader
