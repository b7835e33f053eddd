import Derived.Test.YtkoeeajciciphaaGreatDoorBase
import Derived.Test.YtkoeeajciciphaaGreatDoorWMore
namespace Go.Proofs.YtkoeeajciciphaaGreatDoor.Base
open Go.RowKit Go.Proofs.YtkoeeajciciphaaGreatDoorW.PrintWords Go.Proofs.YtkoeeajciciphaaGreatDoorW.PrintLast
def nameByte (b : Int) : Bool := decide ((97 ≤ b ∧ b ≤ 122) ∨ (48 ≤ b ∧ b ≤ 57) ∨ b = 45)
def isNameB (s : ByteArray) : Bool := decide (0 < s.size ∧ s.size ≤ 12 ∧ 97 ≤ bt s 0 ∧ bt s 0 ≤ 122) && (List.range s.size).all fun i => nameByte (bt s i)
theorem size_toList (s : ByteArray) : s.toList.length = s.size := by rw [ByteArray.toList_eq, Array.length_toList]; rfl
def plainB (s : ByteArray) : Bool := (List.range s.size).all fun i => decide (32 ≤ bt s i ∧ bt s i ≤ 126)
def entryV (f0 : Int) (f1 f2 : ByteArray) : Bool := decide (0 ≤ f0 ∧ f0 ≤ 20000) && (isNameB f1 && (plainB f2 && decide (f2.size ≤ 60)))
end Go.Proofs.YtkoeeajciciphaaGreatDoor.Base
