import Derived.Test.YtfllapokfdianaaDoorWWords
namespace Go.Proofs.YtfllapokfdianaaDoorW.PrintWords
open Go.RowKit
namespace Kd
end Kd
end Go.Proofs.YtfllapokfdianaaDoorW.PrintWords
