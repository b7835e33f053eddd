import Derived.Test.YtkoeeajciciphaaGreatDoorSq
import Derived.Test.YtkoeeajciciphaaGreatDoorQFnExactDeskTextx0
import Derived.Test.YtkoeeajciciphaaGreatDoorQFnExactDeskTextx8
namespace Go.Proofs.YtkoeeajciciphaaGreatDoor.QFnExactDeskText
open Sq (fl pu_ gl_ b20_ b21_ b30_ b31_ b32_ od_ rr_ be_)
open Base (bwl_ bst_ bsz_ bkb_ nbl_ nbr_ kbl_ bkm_)
open Go.RowKit Go.Proofs.YtkoeeajciciphaaGreatDoorW.PrintWords Go.Proofs.YtkoeeajciciphaaGreatDoorW.PrintLast Go.Proofs.YtkoeeajciciphaaGreatDoorW.PrintMore
attribute [local go_sem] max2_int min2_int max_two min_two max_three min_three max_four min_four
set_option linter.unusedVariables false
set_option linter.unusedSimpArgs false
def spec_l28Whole.f (k : Nat) (s0_0 : ByteArray) (s0_1 : ByteArray) : Option (Bool × ByteArray × ByteArray) := (spec_l27All.f k s0_0 s0_1).bind fun bt306 => (some ((bt306.2.1 == 0), bt306.2.2.1, bt306.2.2.2))
theorem spec_l28Whole.mono : ∀ a0 a1 k, LeO (spec_l28Whole.f k a0 a1) (spec_l28Whole.f (k + 1) a0 a1) := by
 intro a0 a1 k
 unfold spec_l28Whole.f
 repeat' first
   | (with_reducible exact spec_l27All.mono _ _ _)
   | (with_reducible exact LeO.refl _)
   | (with_reducible exact LeO.none _)
   | (with_reducible refine LeO.ite ?_ ?_)
   | (with_reducible refine LeO.bind ?_ (fun _ => ?_))
   | exact spec_l27All.mono _ _ _
   | exact LeO.none _
   | refine LeO.ite ?_ ?_
   | refine LeO.bind ?_ (fun _ => ?_)
end Go.Proofs.YtkoeeajciciphaaGreatDoor.QFnExactDeskText
