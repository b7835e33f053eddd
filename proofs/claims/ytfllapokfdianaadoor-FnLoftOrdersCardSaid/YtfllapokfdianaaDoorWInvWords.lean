import Derived.Test.YtfllapokfdianaaDoorWInv
import Derived.Test.YtfllapokfdianaaDoorWFootNe
namespace Go.Proofs.YtfllapokfdianaaDoorW.PrintWords
open Go.RowKit
end Go.Proofs.YtfllapokfdianaaDoorW.PrintWords
namespace Go.Proofs.YtfllapokfdianaaDoorW.PrintLast
end Go.Proofs.YtfllapokfdianaaDoorW.PrintLast
