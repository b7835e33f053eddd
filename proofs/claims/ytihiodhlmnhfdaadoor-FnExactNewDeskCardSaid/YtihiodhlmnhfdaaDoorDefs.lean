import Derived.Test.YtihiodhlmnhfdaaDoorBase
import Derived.Test.YtihiodhlmnhfdaaDoorWMore
namespace Go.Proofs.YtihiodhlmnhfdaaDoor.Base
open Go.RowKit Go.Proofs.YtihiodhlmnhfdaaDoorW.PrintWords Go.Proofs.YtihiodhlmnhfdaaDoorW.PrintLast
def nameByte (b : Int) : Bool := decide ((97 ≤ b ∧ b ≤ 122) ∨ (48 ≤ b ∧ b ≤ 57) ∨ b = 45)
def isNameB (s : ByteArray) : Bool := decide (0 < s.size ∧ s.size ≤ 12 ∧ 97 ≤ bt s 0 ∧ bt s 0 ≤ 122) && (List.range s.size).all fun i => nameByte (bt s i)
theorem size_toList (s : ByteArray) : s.toList.length = s.size := by rw [ByteArray.toList_eq, Array.length_toList]; rfl
end Go.Proofs.YtihiodhlmnhfdaaDoor.Base
