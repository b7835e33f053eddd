/- Functions and contracts of one law, printed by this session's own program (contracts by hand among them). -/
import Derived.Test.YtedidhfmknhlkaaQFnLoftDaysx0
import Derived.Test.YtedidhfmknhlkaaQFnLoftDaysx3
import Derived.Test.YtedidhfmknhlkaaQFnLoftDaysx4
import Derived.Test.YtedidhfmknhlkaaQFnLoftDaysx5
import Derived.Test.YtedidhfmknhlkaaQFnLoftDaysx8
namespace Go.Proofs.Ytedidhfmknhlkaa.QFnLoftDays
open Go.RowKit Go.Proofs.YtedidhfmknhlkaaW.PrintWords Go.Proofs.YtedidhfmknhlkaaW.PrintLast Go.Proofs.YtedidhfmknhlkaaW.PrintMore
attribute [local go_sem] max2_int min2_int max_two min_two max_three min_three max_four min_four   -- for this text's walks alone
set_option linter.unusedVariables false
set_option linter.unusedSimpArgs false

/-! ### laws_FnLoftDays: function 9 -/
mutual
def laws_FnLoftDays.j0 : Nat → List (S49) → Int → Int → List Int → List Int → Int → Int → Bool → Option (Bool)
 | 0, _, _, _, _, _, _, _, _ => none
 | k + 1, x5, x6, x7, x8, x10, x12, x13, x70 => if x70 = true then (some false) else (laws_FnLoftDays.l0 k x5 x6 x7 x8 x10 x12 x13 0 (-1) 0)
def laws_FnLoftDays.l0 : Nat → List (S49) → Int → Int → List Int → List Int → Int → Int → Int → Int → Int → Option (Bool)
 | 0, _, _, _, _, _, _, _, _, _, _ => none
 | k + 1, x5, x6, x7, x8, x10, x12, x13, x14, x15, x16 => if x16 < (x5.length : Int) then (if 0 ≤ x16 then (laws_FnLoftDays.l1 k x5 x6 x7 x8 x10 x12 x13 x14 x15 x16 0 (wrap64 (((rd_T49 x5 x16).f2) - ((rd_T49 x5 x16).f3))) 0) else (none)) else (if x14 = (x10.length : Int) then (if x15 < 0 then (if x13 = 3 then (if x15 ≥ 0 then (if x13 = 0 then (if 0 ≤ x15 then (if x15 < (x5.length : Int) then (laws_FnLoftDays.j5 k x5 x6 (x12 != ((rd_T49 x5 x15).f0))) else (none)) else (none)) else (laws_FnLoftDays.j5 k x5 x6 true)) else (laws_FnLoftDays.j5 k x5 x6 false)) else (laws_FnLoftDays.j5 k x5 x6 true)) else (if x15 ≥ 0 then (if x13 = 0 then (if 0 ≤ x15 then (if x15 < (x5.length : Int) then (laws_FnLoftDays.j5 k x5 x6 (x12 != ((rd_T49 x5 x15).f0))) else (none)) else (none)) else (laws_FnLoftDays.j5 k x5 x6 true)) else (laws_FnLoftDays.j5 k x5 x6 false))) else (laws_FnLoftDays.j5 k x5 x6 true))
def laws_FnLoftDays.l1 : Nat → List (S49) → Int → Int → List Int → List Int → Int → Int → Int → Int → Int → Int → Int → Int → Option (Bool)
 | 0, _, _, _, _, _, _, _, _, _, _, _, _, _ => none
 | k + 1, x5, x6, x7, x8, x10, x12, x13, x14, x15, x16, x17, x18, x19 => if x19 < (x5.length : Int) then (if 0 ≤ x19 then (if 0 ≤ x16 then (if x16 < (x5.length : Int) then (if ((rd_T49 x5 x19).f4) < ((rd_T49 x5 x16).f4) then (laws_FnLoftDays.l1 k x5 x6 x7 x8 x10 x12 x13 x14 x15 x16 (wrap64 (x17 + (wrap64 (((rd_T49 x5 x19).f2) - ((rd_T49 x5 x19).f3))))) x18 (wrap64 (x19 + 1))) else (if ((rd_T49 x5 x19).f4) = ((rd_T49 x5 x16).f4) then (if x19 < x16 then (laws_FnLoftDays.l1 k x5 x6 x7 x8 x10 x12 x13 x14 x15 x16 (wrap64 (x17 + (wrap64 (((rd_T49 x5 x19).f2) - ((rd_T49 x5 x19).f3))))) x18 (wrap64 (x19 + 1))) else (laws_FnLoftDays.l1 k x5 x6 x7 x8 x10 x12 x13 x14 x15 x16 x17 x18 (wrap64 (x19 + 1)))) else (laws_FnLoftDays.l1 k x5 x6 x7 x8 x10 x12 x13 x14 x15 x16 x17 x18 (wrap64 (x19 + 1))))) else (none)) else (none)) else (none)) else (if x18 > 0 then (if x7 = 0 then (none) else (if x17 = 0 then (laws_FnLoftDays.j3 k x5 x6 x7 x8 x10 x12 x13 x14 x16 x16 x18 (wrap64 (x6 + (wrap64 (Int.tdiv (wrap64 ((wrap64 (x17 + x18)) - 1)) x7))))) else (laws_FnLoftDays.j3 k x5 x6 x7 x8 x10 x12 x13 x14 x15 x16 x18 (wrap64 (x6 + (wrap64 (Int.tdiv (wrap64 ((wrap64 (x17 + x18)) - 1)) x7))))))) else (laws_FnLoftDays.j3 k x5 x6 x7 x8 x10 x12 x13 x14 x15 x16 x18 x6))
def laws_FnLoftDays.j3 : Nat → List (S49) → Int → Int → List Int → List Int → Int → Int → Int → Int → Int → Int → Int → Option (Bool)
 | 0, _, _, _, _, _, _, _, _, _, _, _, _ => none
 | k + 1, x5, x6, x7, x8, x10, x12, x13, x14, x15, x16, x18, x20 => if 0 ≤ x16 then (if x16 < (x8.length : Int) then (if (rd x8 x16) = x20 then (if x18 > 0 then (if x16 < (x5.length : Int) then (laws_FnLoftDays.j4 k x5 x6 x7 x8 x10 x12 x13 x14 x15 x16 (decide ((rd x8 x16) > ((rd_T49 x5 x16).f4)))) else (none)) else (laws_FnLoftDays.j4 k x5 x6 x7 x8 x10 x12 x13 x14 x15 x16 false)) else (some false)) else (none)) else (none)
def laws_FnLoftDays.j4 : Nat → List (S49) → Int → Int → List Int → List Int → Int → Int → Int → Int → Int → Bool → Option (Bool)
 | 0, _, _, _, _, _, _, _, _, _, _, _ => none
 | k + 1, x5, x6, x7, x8, x10, x12, x13, x14, x15, x16, x169 => if x169 = true then (if x14 ≥ (x10.length : Int) then (some false) else (if 0 ≤ x14 then (if x14 < (x10.length : Int) then (if 0 ≤ x16 then (if x16 < (x5.length : Int) then (if (rd x10 x14) = ((rd_T49 x5 x16).f0) then (laws_FnLoftDays.l0 k x5 x6 x7 x8 x10 x12 x13 (wrap64 (x14 + 1)) x15 (wrap64 (x16 + 1))) else (some false)) else (none)) else (none)) else (none)) else (none))) else (laws_FnLoftDays.l0 k x5 x6 x7 x8 x10 x12 x13 x14 x15 (wrap64 (x16 + 1)))
def laws_FnLoftDays.j5 : Nat → List (S49) → Int → Bool → Option (Bool)
 | 0, _, _, _ => none
 | k + 1, x5, x6, x216 => if x216 = true then (some false) else ((impl_HoursEachDay.f k x5 x6).bind fun bt348 => (if bt348.2 = 0 then (if bt348.1 < 1 then (laws_FnLoftDays.j6 k x5 x6 bt348.1 true) else (laws_FnLoftDays.j6 k x5 x6 bt348.1 (decide (bt348.1 > 500)))) else ((spec_LateOrders.f k x5 x6 500).bind fun bt350 => (if bt348.2 = 3 then (if bt350.2 = 0 then (some (decide ((bt350.1.length : Int) > 0))) else (some false)) else (some false)))))
def laws_FnLoftDays.j6 : Nat → List (S49) → Int → Int → Bool → Option (Bool)
 | 0, _, _, _, _ => none
 | k + 1, x5, x6, x21, x247 => if x247 = true then (some false) else ((spec_LateOrders.f k x5 x6 x21).bind fun bt354 => (if bt354.2 = 0 then (laws_FnLoftDays.j7 k x5 x6 x21 ((bt354.1.length : Int) != 0)) else (laws_FnLoftDays.j7 k x5 x6 x21 true)))
def laws_FnLoftDays.j7 : Nat → List (S49) → Int → Int → Bool → Option (Bool)
 | 0, _, _, _, _ => none
 | k + 1, x5, x6, x21, x261 => if x261 = true then (some false) else (if x21 = 1 then (some true) else ((spec_LateOrders.f k x5 x6 (wrap64 (x21 - 1))).bind fun bt358 => (if bt358.2 = 0 then (some (decide ((bt358.1.length : Int) > 0))) else (some false))))
end
def laws_FnLoftDays.f (k : Nat) (l0 : List Int) (l1 : List Int) : Option (Bool) := (laws_a2Long.f l0 l1).bind fun t315 => (if t315 = true then (some true) else ((spec_A2Orders.f k l0).bind fun t316 => ((laws_a2At.f l1 0 10).bind fun t319 => ((laws_a2At.f l1 1 12).bind fun t320 => ((impl_DaysOfOrders.f k t316 t319 (wrap64 (1 + t320))).bind fun bt321 => ((impl_LateOrders.f k t316 t319 (wrap64 (1 + t320))).bind fun bt325 => ((impl_NextOrder.f k t316).bind fun bt329 => (if bt321.2 = 0 then (if (bt321.1.length : Int) = (t316.length : Int) then (laws_FnLoftDays.j0 k t316 t319 (wrap64 (1 + t320)) bt321.1 bt325.1 bt329.1 bt329.2 (bt325.2 != 0)) else (laws_FnLoftDays.j0 k t316 t319 (wrap64 (1 + t320)) bt321.1 bt325.1 bt329.1 bt329.2 true)) else (laws_FnLoftDays.j0 k t316 t319 (wrap64 (1 + t320)) bt321.1 bt325.1 bt329.1 bt329.2 true)))))))))
theorem laws_FnLoftDays.mono_l : ∀ k, (∀ y0 y1 y2 y3 y4 y5 y6 y7, LeO (laws_FnLoftDays.j0 k y0 y1 y2 y3 y4 y5 y6 y7) (laws_FnLoftDays.j0 (k + 1) y0 y1 y2 y3 y4 y5 y6 y7)) ∧ (∀ y0 y1 y2 y3 y4 y5 y6 y7 y8 y9, LeO (laws_FnLoftDays.l0 k y0 y1 y2 y3 y4 y5 y6 y7 y8 y9) (laws_FnLoftDays.l0 (k + 1) y0 y1 y2 y3 y4 y5 y6 y7 y8 y9)) ∧ (∀ y0 y1 y2 y3 y4 y5 y6 y7 y8 y9 y10 y11 y12, LeO (laws_FnLoftDays.l1 k y0 y1 y2 y3 y4 y5 y6 y7 y8 y9 y10 y11 y12) (laws_FnLoftDays.l1 (k + 1) y0 y1 y2 y3 y4 y5 y6 y7 y8 y9 y10 y11 y12)) ∧ (∀ y0 y1 y2 y3 y4 y5 y6 y7 y8 y9 y10 y11, LeO (laws_FnLoftDays.j3 k y0 y1 y2 y3 y4 y5 y6 y7 y8 y9 y10 y11) (laws_FnLoftDays.j3 (k + 1) y0 y1 y2 y3 y4 y5 y6 y7 y8 y9 y10 y11)) ∧ (∀ y0 y1 y2 y3 y4 y5 y6 y7 y8 y9 y10, LeO (laws_FnLoftDays.j4 k y0 y1 y2 y3 y4 y5 y6 y7 y8 y9 y10) (laws_FnLoftDays.j4 (k + 1) y0 y1 y2 y3 y4 y5 y6 y7 y8 y9 y10)) ∧ (∀ y0 y1 y2, LeO (laws_FnLoftDays.j5 k y0 y1 y2) (laws_FnLoftDays.j5 (k + 1) y0 y1 y2)) ∧ (∀ y0 y1 y2 y3, LeO (laws_FnLoftDays.j6 k y0 y1 y2 y3) (laws_FnLoftDays.j6 (k + 1) y0 y1 y2 y3)) ∧ (∀ y0 y1 y2 y3, LeO (laws_FnLoftDays.j7 k y0 y1 y2 y3) (laws_FnLoftDays.j7 (k + 1) y0 y1 y2 y3))
 | 0 => ⟨fun _ _ _ _ _ _ _ _ r h => by simp [laws_FnLoftDays.j0] at h, fun _ _ _ _ _ _ _ _ _ _ r h => by simp [laws_FnLoftDays.l0] at h, fun _ _ _ _ _ _ _ _ _ _ _ _ _ r h => by simp [laws_FnLoftDays.l1] at h, fun _ _ _ _ _ _ _ _ _ _ _ _ r h => by simp [laws_FnLoftDays.j3] at h, fun _ _ _ _ _ _ _ _ _ _ _ r h => by simp [laws_FnLoftDays.j4] at h, fun _ _ _ r h => by simp [laws_FnLoftDays.j5] at h, fun _ _ _ _ r h => by simp [laws_FnLoftDays.j6] at h, fun _ _ _ _ r h => by simp [laws_FnLoftDays.j7] at h⟩
 | k + 1 => by
  obtain ⟨ih0, ih1, ih2, ih3, ih4, ih5, ih6, ih7⟩ := laws_FnLoftDays.mono_l k
  refine ⟨?_, ?_, ?_, ?_, ?_, ?_, ?_, ?_⟩
  ·intro y0 y1 y2 y3 y4 y5 y6 y7
   unfold laws_FnLoftDays.j0
   repeat' first
   | (with_reducible exact ih0 _ _ _ _ _ _ _ _)
   | (with_reducible exact ih1 _ _ _ _ _ _ _ _ _ _)
   | (with_reducible exact ih2 _ _ _ _ _ _ _ _ _ _ _ _ _)
   | (with_reducible exact ih3 _ _ _ _ _ _ _ _ _ _ _ _)
   | (with_reducible exact ih4 _ _ _ _ _ _ _ _ _ _ _)
   | (with_reducible exact ih5 _ _ _)
   | (with_reducible exact ih6 _ _ _ _)
   | (with_reducible exact ih7 _ _ _ _)
   | (with_reducible exact impl_DaysOfOrders.mono _ _ _ _)
   | (with_reducible exact impl_HoursEachDay.mono _ _ _)
   | (with_reducible exact impl_LateOrders.mono _ _ _ _)
   | (with_reducible exact impl_NextOrder.mono _ _)
   | (with_reducible exact spec_A2Orders.mono _ _)
   | (with_reducible exact spec_LateOrders.mono _ _ _ _)
   | (with_reducible exact LeO.refl _)
   | (with_reducible exact LeO.none _)
   | (with_reducible refine LeO.ite ?_ ?_)
   | (with_reducible refine LeO.bind ?_ (fun _ => ?_))
   | exact ih0 _ _ _ _ _ _ _ _
   | exact ih1 _ _ _ _ _ _ _ _ _ _
   | exact ih2 _ _ _ _ _ _ _ _ _ _ _ _ _
   | exact ih3 _ _ _ _ _ _ _ _ _ _ _ _
   | exact ih4 _ _ _ _ _ _ _ _ _ _ _
   | exact ih5 _ _ _
   | exact ih6 _ _ _ _
   | exact ih7 _ _ _ _
   | exact impl_DaysOfOrders.mono _ _ _ _
   | exact impl_HoursEachDay.mono _ _ _
   | exact impl_LateOrders.mono _ _ _ _
   | exact impl_NextOrder.mono _ _
   | exact spec_A2Orders.mono _ _
   | exact spec_LateOrders.mono _ _ _ _
   | exact LeO.none _
   | refine LeO.ite ?_ ?_
   | refine LeO.bind ?_ (fun _ => ?_)
  ·intro y0 y1 y2 y3 y4 y5 y6 y7 y8 y9
   unfold laws_FnLoftDays.l0
   repeat' first
   | (with_reducible exact ih0 _ _ _ _ _ _ _ _)
   | (with_reducible exact ih1 _ _ _ _ _ _ _ _ _ _)
   | (with_reducible exact ih2 _ _ _ _ _ _ _ _ _ _ _ _ _)
   | (with_reducible exact ih3 _ _ _ _ _ _ _ _ _ _ _ _)
   | (with_reducible exact ih4 _ _ _ _ _ _ _ _ _ _ _)
   | (with_reducible exact ih5 _ _ _)
   | (with_reducible exact ih6 _ _ _ _)
   | (with_reducible exact ih7 _ _ _ _)
   | (with_reducible exact impl_DaysOfOrders.mono _ _ _ _)
   | (with_reducible exact impl_HoursEachDay.mono _ _ _)
   | (with_reducible exact impl_LateOrders.mono _ _ _ _)
   | (with_reducible exact impl_NextOrder.mono _ _)
   | (with_reducible exact spec_A2Orders.mono _ _)
   | (with_reducible exact spec_LateOrders.mono _ _ _ _)
   | (with_reducible exact LeO.refl _)
   | (with_reducible exact LeO.none _)
   | (with_reducible refine LeO.ite ?_ ?_)
   | (with_reducible refine LeO.bind ?_ (fun _ => ?_))
   | exact ih0 _ _ _ _ _ _ _ _
   | exact ih1 _ _ _ _ _ _ _ _ _ _
   | exact ih2 _ _ _ _ _ _ _ _ _ _ _ _ _
   | exact ih3 _ _ _ _ _ _ _ _ _ _ _ _
   | exact ih4 _ _ _ _ _ _ _ _ _ _ _
   | exact ih5 _ _ _
   | exact ih6 _ _ _ _
   | exact ih7 _ _ _ _
   | exact impl_DaysOfOrders.mono _ _ _ _
   | exact impl_HoursEachDay.mono _ _ _
   | exact impl_LateOrders.mono _ _ _ _
   | exact impl_NextOrder.mono _ _
   | exact spec_A2Orders.mono _ _
   | exact spec_LateOrders.mono _ _ _ _
   | exact LeO.none _
   | refine LeO.ite ?_ ?_
   | refine LeO.bind ?_ (fun _ => ?_)
  ·intro y0 y1 y2 y3 y4 y5 y6 y7 y8 y9 y10 y11 y12
   unfold laws_FnLoftDays.l1
   repeat' first
   | (with_reducible exact ih0 _ _ _ _ _ _ _ _)
   | (with_reducible exact ih1 _ _ _ _ _ _ _ _ _ _)
   | (with_reducible exact ih2 _ _ _ _ _ _ _ _ _ _ _ _ _)
   | (with_reducible exact ih3 _ _ _ _ _ _ _ _ _ _ _ _)
   | (with_reducible exact ih4 _ _ _ _ _ _ _ _ _ _ _)
   | (with_reducible exact ih5 _ _ _)
   | (with_reducible exact ih6 _ _ _ _)
   | (with_reducible exact ih7 _ _ _ _)
   | (with_reducible exact impl_DaysOfOrders.mono _ _ _ _)
   | (with_reducible exact impl_HoursEachDay.mono _ _ _)
   | (with_reducible exact impl_LateOrders.mono _ _ _ _)
   | (with_reducible exact impl_NextOrder.mono _ _)
   | (with_reducible exact spec_A2Orders.mono _ _)
   | (with_reducible exact spec_LateOrders.mono _ _ _ _)
   | (with_reducible exact LeO.refl _)
   | (with_reducible exact LeO.none _)
   | (with_reducible refine LeO.ite ?_ ?_)
   | (with_reducible refine LeO.bind ?_ (fun _ => ?_))
   | exact ih0 _ _ _ _ _ _ _ _
   | exact ih1 _ _ _ _ _ _ _ _ _ _
   | exact ih2 _ _ _ _ _ _ _ _ _ _ _ _ _
   | exact ih3 _ _ _ _ _ _ _ _ _ _ _ _
   | exact ih4 _ _ _ _ _ _ _ _ _ _ _
   | exact ih5 _ _ _
   | exact ih6 _ _ _ _
   | exact ih7 _ _ _ _
   | exact impl_DaysOfOrders.mono _ _ _ _
   | exact impl_HoursEachDay.mono _ _ _
   | exact impl_LateOrders.mono _ _ _ _
   | exact impl_NextOrder.mono _ _
   | exact spec_A2Orders.mono _ _
   | exact spec_LateOrders.mono _ _ _ _
   | exact LeO.none _
   | refine LeO.ite ?_ ?_
   | refine LeO.bind ?_ (fun _ => ?_)
  ·intro y0 y1 y2 y3 y4 y5 y6 y7 y8 y9 y10 y11
   unfold laws_FnLoftDays.j3
   repeat' first
   | (with_reducible exact ih0 _ _ _ _ _ _ _ _)
   | (with_reducible exact ih1 _ _ _ _ _ _ _ _ _ _)
   | (with_reducible exact ih2 _ _ _ _ _ _ _ _ _ _ _ _ _)
   | (with_reducible exact ih3 _ _ _ _ _ _ _ _ _ _ _ _)
   | (with_reducible exact ih4 _ _ _ _ _ _ _ _ _ _ _)
   | (with_reducible exact ih5 _ _ _)
   | (with_reducible exact ih6 _ _ _ _)
   | (with_reducible exact ih7 _ _ _ _)
   | (with_reducible exact impl_DaysOfOrders.mono _ _ _ _)
   | (with_reducible exact impl_HoursEachDay.mono _ _ _)
   | (with_reducible exact impl_LateOrders.mono _ _ _ _)
   | (with_reducible exact impl_NextOrder.mono _ _)
   | (with_reducible exact spec_A2Orders.mono _ _)
   | (with_reducible exact spec_LateOrders.mono _ _ _ _)
   | (with_reducible exact LeO.refl _)
   | (with_reducible exact LeO.none _)
   | (with_reducible refine LeO.ite ?_ ?_)
   | (with_reducible refine LeO.bind ?_ (fun _ => ?_))
   | exact ih0 _ _ _ _ _ _ _ _
   | exact ih1 _ _ _ _ _ _ _ _ _ _
   | exact ih2 _ _ _ _ _ _ _ _ _ _ _ _ _
   | exact ih3 _ _ _ _ _ _ _ _ _ _ _ _
   | exact ih4 _ _ _ _ _ _ _ _ _ _ _
   | exact ih5 _ _ _
   | exact ih6 _ _ _ _
   | exact ih7 _ _ _ _
   | exact impl_DaysOfOrders.mono _ _ _ _
   | exact impl_HoursEachDay.mono _ _ _
   | exact impl_LateOrders.mono _ _ _ _
   | exact impl_NextOrder.mono _ _
   | exact spec_A2Orders.mono _ _
   | exact spec_LateOrders.mono _ _ _ _
   | exact LeO.none _
   | refine LeO.ite ?_ ?_
   | refine LeO.bind ?_ (fun _ => ?_)
  ·intro y0 y1 y2 y3 y4 y5 y6 y7 y8 y9 y10
   unfold laws_FnLoftDays.j4
   repeat' first
   | (with_reducible exact ih0 _ _ _ _ _ _ _ _)
   | (with_reducible exact ih1 _ _ _ _ _ _ _ _ _ _)
   | (with_reducible exact ih2 _ _ _ _ _ _ _ _ _ _ _ _ _)
   | (with_reducible exact ih3 _ _ _ _ _ _ _ _ _ _ _ _)
   | (with_reducible exact ih4 _ _ _ _ _ _ _ _ _ _ _)
   | (with_reducible exact ih5 _ _ _)
   | (with_reducible exact ih6 _ _ _ _)
   | (with_reducible exact ih7 _ _ _ _)
   | (with_reducible exact impl_DaysOfOrders.mono _ _ _ _)
   | (with_reducible exact impl_HoursEachDay.mono _ _ _)
   | (with_reducible exact impl_LateOrders.mono _ _ _ _)
   | (with_reducible exact impl_NextOrder.mono _ _)
   | (with_reducible exact spec_A2Orders.mono _ _)
   | (with_reducible exact spec_LateOrders.mono _ _ _ _)
   | (with_reducible exact LeO.refl _)
   | (with_reducible exact LeO.none _)
   | (with_reducible refine LeO.ite ?_ ?_)
   | (with_reducible refine LeO.bind ?_ (fun _ => ?_))
   | exact ih0 _ _ _ _ _ _ _ _
   | exact ih1 _ _ _ _ _ _ _ _ _ _
   | exact ih2 _ _ _ _ _ _ _ _ _ _ _ _ _
   | exact ih3 _ _ _ _ _ _ _ _ _ _ _ _
   | exact ih4 _ _ _ _ _ _ _ _ _ _ _
   | exact ih5 _ _ _
   | exact ih6 _ _ _ _
   | exact ih7 _ _ _ _
   | exact impl_DaysOfOrders.mono _ _ _ _
   | exact impl_HoursEachDay.mono _ _ _
   | exact impl_LateOrders.mono _ _ _ _
   | exact impl_NextOrder.mono _ _
   | exact spec_A2Orders.mono _ _
   | exact spec_LateOrders.mono _ _ _ _
   | exact LeO.none _
   | refine LeO.ite ?_ ?_
   | refine LeO.bind ?_ (fun _ => ?_)
  ·intro y0 y1 y2
   unfold laws_FnLoftDays.j5
   repeat' first
   | (with_reducible exact ih0 _ _ _ _ _ _ _ _)
   | (with_reducible exact ih1 _ _ _ _ _ _ _ _ _ _)
   | (with_reducible exact ih2 _ _ _ _ _ _ _ _ _ _ _ _ _)
   | (with_reducible exact ih3 _ _ _ _ _ _ _ _ _ _ _ _)
   | (with_reducible exact ih4 _ _ _ _ _ _ _ _ _ _ _)
   | (with_reducible exact ih5 _ _ _)
   | (with_reducible exact ih6 _ _ _ _)
   | (with_reducible exact ih7 _ _ _ _)
   | (with_reducible exact impl_DaysOfOrders.mono _ _ _ _)
   | (with_reducible exact impl_HoursEachDay.mono _ _ _)
   | (with_reducible exact impl_LateOrders.mono _ _ _ _)
   | (with_reducible exact impl_NextOrder.mono _ _)
   | (with_reducible exact spec_A2Orders.mono _ _)
   | (with_reducible exact spec_LateOrders.mono _ _ _ _)
   | (with_reducible exact LeO.refl _)
   | (with_reducible exact LeO.none _)
   | (with_reducible refine LeO.ite ?_ ?_)
   | (with_reducible refine LeO.bind ?_ (fun _ => ?_))
   | exact ih0 _ _ _ _ _ _ _ _
   | exact ih1 _ _ _ _ _ _ _ _ _ _
   | exact ih2 _ _ _ _ _ _ _ _ _ _ _ _ _
   | exact ih3 _ _ _ _ _ _ _ _ _ _ _ _
   | exact ih4 _ _ _ _ _ _ _ _ _ _ _
   | exact ih5 _ _ _
   | exact ih6 _ _ _ _
   | exact ih7 _ _ _ _
   | exact impl_DaysOfOrders.mono _ _ _ _
   | exact impl_HoursEachDay.mono _ _ _
   | exact impl_LateOrders.mono _ _ _ _
   | exact impl_NextOrder.mono _ _
   | exact spec_A2Orders.mono _ _
   | exact spec_LateOrders.mono _ _ _ _
   | exact LeO.none _
   | refine LeO.ite ?_ ?_
   | refine LeO.bind ?_ (fun _ => ?_)
  ·intro y0 y1 y2 y3
   unfold laws_FnLoftDays.j6
   repeat' first
   | (with_reducible exact ih0 _ _ _ _ _ _ _ _)
   | (with_reducible exact ih1 _ _ _ _ _ _ _ _ _ _)
   | (with_reducible exact ih2 _ _ _ _ _ _ _ _ _ _ _ _ _)
   | (with_reducible exact ih3 _ _ _ _ _ _ _ _ _ _ _ _)
   | (with_reducible exact ih4 _ _ _ _ _ _ _ _ _ _ _)
   | (with_reducible exact ih5 _ _ _)
   | (with_reducible exact ih6 _ _ _ _)
   | (with_reducible exact ih7 _ _ _ _)
   | (with_reducible exact impl_DaysOfOrders.mono _ _ _ _)
   | (with_reducible exact impl_HoursEachDay.mono _ _ _)
   | (with_reducible exact impl_LateOrders.mono _ _ _ _)
   | (with_reducible exact impl_NextOrder.mono _ _)
   | (with_reducible exact spec_A2Orders.mono _ _)
   | (with_reducible exact spec_LateOrders.mono _ _ _ _)
   | (with_reducible exact LeO.refl _)
   | (with_reducible exact LeO.none _)
   | (with_reducible refine LeO.ite ?_ ?_)
   | (with_reducible refine LeO.bind ?_ (fun _ => ?_))
   | exact ih0 _ _ _ _ _ _ _ _
   | exact ih1 _ _ _ _ _ _ _ _ _ _
   | exact ih2 _ _ _ _ _ _ _ _ _ _ _ _ _
   | exact ih3 _ _ _ _ _ _ _ _ _ _ _ _
   | exact ih4 _ _ _ _ _ _ _ _ _ _ _
   | exact ih5 _ _ _
   | exact ih6 _ _ _ _
   | exact ih7 _ _ _ _
   | exact impl_DaysOfOrders.mono _ _ _ _
   | exact impl_HoursEachDay.mono _ _ _
   | exact impl_LateOrders.mono _ _ _ _
   | exact impl_NextOrder.mono _ _
   | exact spec_A2Orders.mono _ _
   | exact spec_LateOrders.mono _ _ _ _
   | exact LeO.none _
   | refine LeO.ite ?_ ?_
   | refine LeO.bind ?_ (fun _ => ?_)
  ·intro y0 y1 y2 y3
   unfold laws_FnLoftDays.j7
   repeat' first
   | (with_reducible exact ih0 _ _ _ _ _ _ _ _)
   | (with_reducible exact ih1 _ _ _ _ _ _ _ _ _ _)
   | (with_reducible exact ih2 _ _ _ _ _ _ _ _ _ _ _ _ _)
   | (with_reducible exact ih3 _ _ _ _ _ _ _ _ _ _ _ _)
   | (with_reducible exact ih4 _ _ _ _ _ _ _ _ _ _ _)
   | (with_reducible exact ih5 _ _ _)
   | (with_reducible exact ih6 _ _ _ _)
   | (with_reducible exact ih7 _ _ _ _)
   | (with_reducible exact impl_DaysOfOrders.mono _ _ _ _)
   | (with_reducible exact impl_HoursEachDay.mono _ _ _)
   | (with_reducible exact impl_LateOrders.mono _ _ _ _)
   | (with_reducible exact impl_NextOrder.mono _ _)
   | (with_reducible exact spec_A2Orders.mono _ _)
   | (with_reducible exact spec_LateOrders.mono _ _ _ _)
   | (with_reducible exact LeO.refl _)
   | (with_reducible exact LeO.none _)
   | (with_reducible refine LeO.ite ?_ ?_)
   | (with_reducible refine LeO.bind ?_ (fun _ => ?_))
   | exact ih0 _ _ _ _ _ _ _ _
   | exact ih1 _ _ _ _ _ _ _ _ _ _
   | exact ih2 _ _ _ _ _ _ _ _ _ _ _ _ _
   | exact ih3 _ _ _ _ _ _ _ _ _ _ _ _
   | exact ih4 _ _ _ _ _ _ _ _ _ _ _
   | exact ih5 _ _ _
   | exact ih6 _ _ _ _
   | exact ih7 _ _ _ _
   | exact impl_DaysOfOrders.mono _ _ _ _
   | exact impl_HoursEachDay.mono _ _ _
   | exact impl_LateOrders.mono _ _ _ _
   | exact impl_NextOrder.mono _ _
   | exact spec_A2Orders.mono _ _
   | exact spec_LateOrders.mono _ _ _ _
   | exact LeO.none _
   | refine LeO.ite ?_ ?_
   | refine LeO.bind ?_ (fun _ => ?_)
theorem laws_FnLoftDays.mono : ∀ a0 a1 k, LeO (laws_FnLoftDays.f k a0 a1) (laws_FnLoftDays.f (k + 1) a0 a1) := by
 intro a0 a1 k
 obtain ⟨ih0, ih1, ih2, ih3, ih4, ih5, ih6, ih7⟩ := laws_FnLoftDays.mono_l k
 unfold laws_FnLoftDays.f
 repeat' first
   | (with_reducible exact ih0 _ _ _ _ _ _ _ _)
   | (with_reducible exact ih1 _ _ _ _ _ _ _ _ _ _)
   | (with_reducible exact ih2 _ _ _ _ _ _ _ _ _ _ _ _ _)
   | (with_reducible exact ih3 _ _ _ _ _ _ _ _ _ _ _ _)
   | (with_reducible exact ih4 _ _ _ _ _ _ _ _ _ _ _)
   | (with_reducible exact ih5 _ _ _)
   | (with_reducible exact ih6 _ _ _ _)
   | (with_reducible exact ih7 _ _ _ _)
   | (with_reducible exact impl_DaysOfOrders.mono _ _ _ _)
   | (with_reducible exact impl_HoursEachDay.mono _ _ _)
   | (with_reducible exact impl_LateOrders.mono _ _ _ _)
   | (with_reducible exact impl_NextOrder.mono _ _)
   | (with_reducible exact spec_A2Orders.mono _ _)
   | (with_reducible exact spec_LateOrders.mono _ _ _ _)
   | (with_reducible exact LeO.refl _)
   | (with_reducible exact LeO.none _)
   | (with_reducible refine LeO.ite ?_ ?_)
   | (with_reducible refine LeO.bind ?_ (fun _ => ?_))
   | exact ih0 _ _ _ _ _ _ _ _
   | exact ih1 _ _ _ _ _ _ _ _ _ _
   | exact ih2 _ _ _ _ _ _ _ _ _ _ _ _ _
   | exact ih3 _ _ _ _ _ _ _ _ _ _ _ _
   | exact ih4 _ _ _ _ _ _ _ _ _ _ _
   | exact ih5 _ _ _
   | exact ih6 _ _ _ _
   | exact ih7 _ _ _ _
   | exact impl_DaysOfOrders.mono _ _ _ _
   | exact impl_HoursEachDay.mono _ _ _
   | exact impl_LateOrders.mono _ _ _ _
   | exact impl_NextOrder.mono _ _
   | exact spec_A2Orders.mono _ _
   | exact spec_LateOrders.mono _ _ _ _
   | exact LeO.none _
   | refine LeO.ite ?_ ?_
   | refine LeO.bind ?_ (fun _ => ?_)
set_option maxHeartbeats 8000000 in
set_option maxRecDepth 100000 in
theorem laws_FnLoftDays.calls (k : Nat) (A0 : Option Addr) (c0 : Nat) (l0 : List Int) (A1 : Option Addr) (c1 : Nat) (l1 : List Int) (r : Bool) (w : World) (hr0 : Kd.C (Kd.int .u8) w A0 l0.length l0) (hc0 : l0.length ≤ c0) (hr1 : Kd.C (Kd.int .u8) w A1 l1.length l1) (hc1 : l1.length ≤ c1) (h : laws_FnLoftDays.f k l0 l1 = some r) :
  Calls Try.prog 9 #[.slice A0 l0.length c0, .slice A1 l1.length c1] w fun e w' => e = .returned (.bool r) ∧ Below w.heap.size w w' := by
 have HR0 := Aside0.mk hr0
 have HC0 := Aside0.mk hc0
 clear hr0 hc0
 have HR1 := Aside0.mk hr1
 have HC1 := Aside0.mk hc1
 clear hr1 hc1
 have HB := Aside0.mk (Below.refl w.heap.size w)
 have H : ((laws_a2Long.f l0 l1).bind fun t315 => (if t315 = true then (some true) else ((spec_A2Orders.f k l0).bind fun t316 => ((laws_a2At.f l1 0 10).bind fun t319 => ((laws_a2At.f l1 1 12).bind fun t320 => ((impl_DaysOfOrders.f k t316 t319 (wrap64 (1 + t320))).bind fun bt321 => ((impl_LateOrders.f k t316 t319 (wrap64 (1 + t320))).bind fun bt325 => ((impl_NextOrder.f k t316).bind fun bt329 => (if bt321.2 = 0 then (if (bt321.1.length : Int) = (t316.length : Int) then (laws_FnLoftDays.j0 k t316 t319 (wrap64 (1 + t320)) bt321.1 bt325.1 bt329.1 bt329.2 (bt325.2 != 0)) else (laws_FnLoftDays.j0 k t316 t319 (wrap64 (1 + t320)) bt321.1 bt325.1 bt329.1 bt329.2 true)) else (laws_FnLoftDays.j0 k t316 t319 (wrap64 (1 + t320)) bt321.1 bt325.1 bt329.1 bt329.2 true)))))))))) = some r := h
 clear h
 replace H := Option.bind_eq_some_iff.mp H
 obtain ⟨t315, A30, H⟩ := H
 replace H : (if t315 = true then (some true) else ((spec_A2Orders.f k l0).bind fun t316 => ((laws_a2At.f l1 0 10).bind fun t319 => ((laws_a2At.f l1 1 12).bind fun t320 => ((impl_DaysOfOrders.f k t316 t319 (wrap64 (1 + t320))).bind fun bt321 => ((impl_LateOrders.f k t316 t319 (wrap64 (1 + t320))).bind fun bt325 => ((impl_NextOrder.f k t316).bind fun bt329 => (if bt321.2 = 0 then (if (bt321.1.length : Int) = (t316.length : Int) then (laws_FnLoftDays.j0 k t316 t319 (wrap64 (1 + t320)) bt321.1 bt325.1 bt329.1 bt329.2 (bt325.2 != 0)) else (laws_FnLoftDays.j0 k t316 t319 (wrap64 (1 + t320)) bt321.1 bt325.1 bt329.1 bt329.2 true)) else (laws_FnLoftDays.j0 k t316 t319 (wrap64 (1 + t320)) bt321.1 bt325.1 bt329.1 bt329.2 true))))))))) = some r := H
 have A3 := Aside0.mk A30
 clear A30
 by_cases c4 : t315 = true
 ·subst c4
  have H1 : (some true) = some r := by rw [if_pos rfl] at H; exact H
  clear H
  have H := H1
  clear H1
  obtain rfl := Option.some.inj H
  go_enter Try.func9, Try.ntmps9
  go_wp2_with (first | (go_at_call 33; (with_reducible refine (laws_a2Long.calls _ _ l0 _ _ l1 true _ ?side1 ?side2 ?side3 ?side4 A3.out).mono ?_); (case side1 => repeat (first | exact HR0.out | (with_reducible refine Kd.C_alloc ?_ _) | (with_reducible refine Kd.C_drewN ?_ _) | (with_reducible refine Kd.C_drew ?_))); (case side2 => exact HC0.out); (case side3 => repeat (first | exact HR1.out | (with_reducible refine Kd.C_alloc ?_ _) | (with_reducible refine Kd.C_drewN ?_ _) | (with_reducible refine Kd.C_drew ?_))); (case side4 => exact HC1.out); rintro e w' ⟨rfl, ⟨nd, rfl⟩⟩; (try first | exact ⟨rfl, _, World.drewN_drewN _ _ _⟩ | exact ⟨rfl, _, Eq.trans (World.drewN_drewN _ _ _) (congrArg (World.drewN _) (Nat.add_assoc _ _ _))⟩)))
  repeat (go_quiet (first | (go_at_call 33; (with_reducible refine (laws_a2Long.calls _ _ l0 _ _ l1 true _ ?side1 ?side2 ?side3 ?side4 A3.out).mono ?_); (case side1 => repeat (first | exact HR0.out | (with_reducible refine Kd.C_alloc ?_ _) | (with_reducible refine Kd.C_drewN ?_ _) | (with_reducible refine Kd.C_drew ?_))); (case side2 => exact HC0.out); (case side3 => repeat (first | exact HR1.out | (with_reducible refine Kd.C_alloc ?_ _) | (with_reducible refine Kd.C_drewN ?_ _) | (with_reducible refine Kd.C_drew ?_))); (case side4 => exact HC1.out); rintro e w' ⟨rfl, ⟨nd, rfl⟩⟩; (try first | exact ⟨rfl, _, World.drewN_drewN _ _ _⟩ | exact ⟨rfl, _, Eq.trans (World.drewN_drewN _ _ _) (congrArg (World.drewN _) (Nat.add_assoc _ _ _))⟩))); try go_wp2_with (first | (go_at_call 33; (with_reducible refine (laws_a2Long.calls _ _ l0 _ _ l1 true _ ?side1 ?side2 ?side3 ?side4 A3.out).mono ?_); (case side1 => repeat (first | exact HR0.out | (with_reducible refine Kd.C_alloc ?_ _) | (with_reducible refine Kd.C_drewN ?_ _) | (with_reducible refine Kd.C_drew ?_))); (case side2 => exact HC0.out); (case side3 => repeat (first | exact HR1.out | (with_reducible refine Kd.C_alloc ?_ _) | (with_reducible refine Kd.C_drewN ?_ _) | (with_reducible refine Kd.C_drew ?_))); (case side4 => exact HC1.out); rintro e w' ⟨rfl, ⟨nd, rfl⟩⟩; (try first | exact ⟨rfl, _, World.drewN_drewN _ _ _⟩ | exact ⟨rfl, _, Eq.trans (World.drewN_drewN _ _ _) (congrArg (World.drewN _) (Nat.add_assoc _ _ _))⟩))))
  go_ret
  exact ⟨by first | rfl | (simp [errW_none, errW_some] <;> rfl) | (simp [*, errW_none, errW_some] <;> rfl), by repeat (first | (with_reducible first | exact HB.out | apply below_alloc | apply pw_below_drewN | apply below_drew1) | exact HB.out)⟩
 ·replace c4 := Bool.eq_false_iff.mpr c4
  subst c4
  have H1 : ((spec_A2Orders.f k l0).bind fun t316 => ((laws_a2At.f l1 0 10).bind fun t319 => ((laws_a2At.f l1 1 12).bind fun t320 => ((impl_DaysOfOrders.f k t316 t319 (wrap64 (1 + t320))).bind fun bt321 => ((impl_LateOrders.f k t316 t319 (wrap64 (1 + t320))).bind fun bt325 => ((impl_NextOrder.f k t316).bind fun bt329 => (if bt321.2 = 0 then (if (bt321.1.length : Int) = (t316.length : Int) then (laws_FnLoftDays.j0 k t316 t319 (wrap64 (1 + t320)) bt321.1 bt325.1 bt329.1 bt329.2 (bt325.2 != 0)) else (laws_FnLoftDays.j0 k t316 t319 (wrap64 (1 + t320)) bt321.1 bt325.1 bt329.1 bt329.2 true)) else (laws_FnLoftDays.j0 k t316 t319 (wrap64 (1 + t320)) bt321.1 bt325.1 bt329.1 bt329.2 true)))))))) = some r := by rw [if_neg (show ¬ (false = true) by decide)] at H; exact H
  clear H
  have H := H1
  clear H1
  replace H := Option.bind_eq_some_iff.mp H
  obtain ⟨t316, A50, H⟩ := H
  replace H : ((laws_a2At.f l1 0 10).bind fun t319 => ((laws_a2At.f l1 1 12).bind fun t320 => ((impl_DaysOfOrders.f k t316 t319 (wrap64 (1 + t320))).bind fun bt321 => ((impl_LateOrders.f k t316 t319 (wrap64 (1 + t320))).bind fun bt325 => ((impl_NextOrder.f k t316).bind fun bt329 => (if bt321.2 = 0 then (if (bt321.1.length : Int) = (t316.length : Int) then (laws_FnLoftDays.j0 k t316 t319 (wrap64 (1 + t320)) bt321.1 bt325.1 bt329.1 bt329.2 (bt325.2 != 0)) else (laws_FnLoftDays.j0 k t316 t319 (wrap64 (1 + t320)) bt321.1 bt325.1 bt329.1 bt329.2 true)) else (laws_FnLoftDays.j0 k t316 t319 (wrap64 (1 + t320)) bt321.1 bt325.1 bt329.1 bt329.2 true))))))) = some r := H
  have A5 := Aside0.mk A50
  clear A50
  replace H := Option.bind_eq_some_iff.mp H
  obtain ⟨t319, A60, H⟩ := H
  replace H : ((laws_a2At.f l1 1 12).bind fun t320 => ((impl_DaysOfOrders.f k t316 t319 (wrap64 (1 + t320))).bind fun bt321 => ((impl_LateOrders.f k t316 t319 (wrap64 (1 + t320))).bind fun bt325 => ((impl_NextOrder.f k t316).bind fun bt329 => (if bt321.2 = 0 then (if (bt321.1.length : Int) = (t316.length : Int) then (laws_FnLoftDays.j0 k t316 t319 (wrap64 (1 + t320)) bt321.1 bt325.1 bt329.1 bt329.2 (bt325.2 != 0)) else (laws_FnLoftDays.j0 k t316 t319 (wrap64 (1 + t320)) bt321.1 bt325.1 bt329.1 bt329.2 true)) else (laws_FnLoftDays.j0 k t316 t319 (wrap64 (1 + t320)) bt321.1 bt325.1 bt329.1 bt329.2 true)))))) = some r := H
  have A6 := Aside0.mk A60
  clear A60
  replace H := Option.bind_eq_some_iff.mp H
  obtain ⟨t320, A70, H⟩ := H
  replace H : ((impl_DaysOfOrders.f k t316 t319 (wrap64 (1 + t320))).bind fun bt321 => ((impl_LateOrders.f k t316 t319 (wrap64 (1 + t320))).bind fun bt325 => ((impl_NextOrder.f k t316).bind fun bt329 => (if bt321.2 = 0 then (if (bt321.1.length : Int) = (t316.length : Int) then (laws_FnLoftDays.j0 k t316 t319 (wrap64 (1 + t320)) bt321.1 bt325.1 bt329.1 bt329.2 (bt325.2 != 0)) else (laws_FnLoftDays.j0 k t316 t319 (wrap64 (1 + t320)) bt321.1 bt325.1 bt329.1 bt329.2 true)) else (laws_FnLoftDays.j0 k t316 t319 (wrap64 (1 + t320)) bt321.1 bt325.1 bt329.1 bt329.2 true))))) = some r := H
  have A7 := Aside0.mk A70
  clear A70
  replace H := Option.bind_eq_some_iff.mp H
  obtain ⟨⟨t321, t322⟩, A80, H⟩ := H
  replace H : ((impl_LateOrders.f k t316 t319 (wrap64 (1 + t320))).bind fun bt325 => ((impl_NextOrder.f k t316).bind fun bt329 => (if t322 = 0 then (if (t321.length : Int) = (t316.length : Int) then (laws_FnLoftDays.j0 k t316 t319 (wrap64 (1 + t320)) t321 bt325.1 bt329.1 bt329.2 (bt325.2 != 0)) else (laws_FnLoftDays.j0 k t316 t319 (wrap64 (1 + t320)) t321 bt325.1 bt329.1 bt329.2 true)) else (laws_FnLoftDays.j0 k t316 t319 (wrap64 (1 + t320)) t321 bt325.1 bt329.1 bt329.2 true)))) = some r := H
  have A8 := Aside0.mk A80
  clear A80
  replace H := Option.bind_eq_some_iff.mp H
  obtain ⟨⟨t325, t326⟩, A90, H⟩ := H
  replace H : ((impl_NextOrder.f k t316).bind fun bt329 => (if t322 = 0 then (if (t321.length : Int) = (t316.length : Int) then (laws_FnLoftDays.j0 k t316 t319 (wrap64 (1 + t320)) t321 t325 bt329.1 bt329.2 (t326 != 0)) else (laws_FnLoftDays.j0 k t316 t319 (wrap64 (1 + t320)) t321 t325 bt329.1 bt329.2 true)) else (laws_FnLoftDays.j0 k t316 t319 (wrap64 (1 + t320)) t321 t325 bt329.1 bt329.2 true))) = some r := H
  have A9 := Aside0.mk A90
  clear A90
  replace H := Option.bind_eq_some_iff.mp H
  obtain ⟨⟨t329, t330⟩, A100, H⟩ := H
  replace H : (if t322 = 0 then (if (t321.length : Int) = (t316.length : Int) then (laws_FnLoftDays.j0 k t316 t319 (wrap64 (1 + t320)) t321 t325 t329 t330 (t326 != 0)) else (laws_FnLoftDays.j0 k t316 t319 (wrap64 (1 + t320)) t321 t325 t329 t330 true)) else (laws_FnLoftDays.j0 k t316 t319 (wrap64 (1 + t320)) t321 t325 t329 t330 true)) = some r := H
  have A10 := Aside0.mk A100
  clear A100
  have HC11 := Aside0.mk H
  clear H
  go_enter Try.func9, Try.ntmps9
  go_upto_region 9 with (first | (go_at_call 33; (with_reducible refine (laws_a2Long.calls _ _ l0 _ _ l1 false _ ?side1 ?side2 ?side3 ?side4 A3.out).mono ?_); (case side1 => repeat (first | exact HR0.out | (with_reducible refine Kd.C_alloc ?_ _) | (with_reducible refine Kd.C_drewN ?_ _) | (with_reducible refine Kd.C_drew ?_))); (case side2 => exact HC0.out); (case side3 => repeat (first | exact HR1.out | (with_reducible refine Kd.C_alloc ?_ _) | (with_reducible refine Kd.C_drewN ?_ _) | (with_reducible refine Kd.C_drew ?_))); (case side4 => exact HC1.out); rintro e w' ⟨rfl, ⟨nd, rfl⟩⟩; (try first | exact ⟨rfl, _, World.drewN_drewN _ _ _⟩ | exact ⟨rfl, _, Eq.trans (World.drewN_drewN _ _ _) (congrArg (World.drewN _) (Nat.add_assoc _ _ _))⟩)) | (go_at_call 34; (with_reducible refine (spec_A2Orders.calls k _ _ l0 t316 _ ?side1 ?side2 A5.out).mono ?_); (case side1 => repeat (first | exact HR0.out | (with_reducible refine Kd.C_alloc ?_ _) | (with_reducible refine Kd.C_drewN ?_ _) | (with_reducible refine Kd.C_drew ?_))); (case side2 => exact HC0.out); rintro e w12 ⟨v317, rfl, ho0, hb⟩; have n0_ := Aside0.mk (Kd.R_lower ho0 (below_size (by repeat (first | (with_reducible first | exact HB.out | apply below_alloc | apply pw_below_drewN | apply below_drew1) | exact HB.out)))); have n1_ := Aside0.mk (below_step (by repeat (first | (with_reducible first | exact HB.out | apply below_alloc | apply pw_below_drewN | apply below_drew1) | exact HB.out)) hb); clear HB; have HO318 := n0_; have HB := n1_; clear n0_ n1_; (try clear hb); (try clear hb2); (try clear hk); (try clear hi); (try clear ho0)) | (go_at_call 35; (with_reducible refine (laws_a2At.calls _ _ l1 0 10 t319 _ ?side1 ?side2 A6.out).mono ?_); (case side1 => repeat (first | exact (Kd.C_below HR1.out HB.out) | (with_reducible refine Kd.C_alloc ?_ _) | (with_reducible refine Kd.C_drewN ?_ _) | (with_reducible refine Kd.C_drew ?_))); (case side2 => exact HC1.out); rintro e w' ⟨rfl, ⟨nd, rfl⟩⟩; (try first | exact ⟨rfl, _, World.drewN_drewN _ _ _⟩ | exact ⟨rfl, _, Eq.trans (World.drewN_drewN _ _ _) (congrArg (World.drewN _) (Nat.add_assoc _ _ _))⟩)) | (go_at_call 35; (with_reducible refine (laws_a2At.calls _ _ l1 1 12 t320 _ ?side1 ?side2 A7.out).mono ?_); (case side1 => repeat (first | exact (Kd.C_below HR1.out (by repeat (first | (with_reducible first | exact HB.out | apply below_alloc | apply pw_below_drewN | apply below_drew1) | exact HB.out))) | (with_reducible refine Kd.C_alloc ?_ _) | (with_reducible refine Kd.C_drewN ?_ _) | (with_reducible refine Kd.C_drew ?_))); (case side2 => exact HC1.out); rintro e w' ⟨rfl, ⟨nd, rfl⟩⟩; (try first | exact ⟨rfl, _, World.drewN_drewN _ _ _⟩ | exact ⟨rfl, _, Eq.trans (World.drewN_drewN _ _ _) (congrArg (World.drewN _) (Nat.add_assoc _ _ _))⟩); obtain ⟨Ao13, co13, eo13⟩ := Kd.R_slice HO318.out; subst eo13) | (go_at_call 36; (with_reducible refine (impl_DaysOfOrders.calls k _ _ t316 t319 (wrap64 (1 + t320)) t321 t322 _ ?side1 ?side2 A8.out).mono ?_); (case side1 => repeat (first | exact (Kd.R_reads' HO318.out).2.2 | (with_reducible refine Kd.C_alloc ?_ _) | (with_reducible refine Kd.C_drewN ?_ _) | (with_reducible refine Kd.C_drew ?_))); (case side2 => exact (Kd.R_reads' HO318.out).2.1); rintro e w14 ⟨v323, rfl, ho0, hb⟩; have n0_ := Aside0.mk (Kd.R_below (by (with_reducible repeat (first | apply Kd.R_alloc | apply Kd.R_drewN | apply Kd.R_drew)); exact HO318.out) hb); have n1_ := Aside0.mk (Kd.R_lower ho0 (below_size (by repeat (first | (with_reducible first | exact HB.out | apply below_alloc | apply pw_below_drewN | apply below_drew1) | exact HB.out)))); have n2_ := Aside0.mk (below_step (by repeat (first | (with_reducible first | exact HB.out | apply below_alloc | apply pw_below_drewN | apply below_drew1) | exact HB.out)) hb); clear HO318; clear HB; have HO318 := n0_; have HO324 := n1_; have HB := n2_; clear n0_ n1_ n2_; (try clear hb); (try clear hb2); (try clear hk); (try clear hi); (try clear ho0)) | (go_at_call 37; (with_reducible refine (impl_LateOrders.calls k _ _ t316 t319 (wrap64 (1 + t320)) t325 t326 _ ?side1 ?side2 A9.out).mono ?_); (case side1 => repeat (first | exact (Kd.R_reads' HO318.out).2.2 | (with_reducible refine Kd.C_alloc ?_ _) | (with_reducible refine Kd.C_drewN ?_ _) | (with_reducible refine Kd.C_drew ?_))); (case side2 => exact (Kd.R_reads' HO318.out).2.1); rintro e w15 ⟨v327, rfl, ho0, hb⟩; have n0_ := Aside0.mk (Kd.R_below (by (with_reducible repeat (first | apply Kd.R_alloc | apply Kd.R_drewN | apply Kd.R_drew)); exact HO318.out) hb); have n1_ := Aside0.mk (Kd.R_elder' (by (with_reducible repeat (first | apply Kd.R_alloc | apply Kd.R_drewN | apply Kd.R_drew)); exact HO324.out) (Kd.R_base ho0) hb); have n2_ := Aside0.mk (Kd.R_lower (Kd.R_new' ho0 (Kd.R_lt (by (with_reducible repeat (first | apply Kd.R_alloc | apply Kd.R_drewN | apply Kd.R_drew)); exact HO324.out))) (below_size (by repeat (first | (with_reducible first | exact HB.out | apply below_alloc | apply pw_below_drewN | apply below_drew1) | exact HB.out)))); have n3_ := Aside0.mk (below_step (by repeat (first | (with_reducible first | exact HB.out | apply below_alloc | apply pw_below_drewN | apply below_drew1) | exact HB.out)) hb); clear HO318; clear HO324; clear HB; have HO318 := n0_; have HO324 := n1_; have HO328 := n2_; have HB := n3_; clear n0_ n1_ n2_ n3_; (try clear hb); (try clear hb2); (try clear hk); (try clear hi); (try clear ho0)) | (go_at_call 30; (with_reducible refine (impl_NextOrder.calls k _ _ t316 t329 t330 _ ?side1 ?side2 A10.out).mono ?_); (case side1 => repeat (first | exact (Kd.R_reads' HO318.out).2.2 | (with_reducible refine Kd.C_alloc ?_ _) | (with_reducible refine Kd.C_drewN ?_ _) | (with_reducible refine Kd.C_drew ?_))); (case side2 => exact (Kd.R_reads' HO318.out).2.1); rintro e w16 ⟨rfl, hb⟩; have n0_ := Aside0.mk (Kd.R_below (by (with_reducible repeat (first | apply Kd.R_alloc | apply Kd.R_drewN | apply Kd.R_drew)); exact HO318.out) hb); have n1_ := Aside0.mk (Kd.R_below (by (with_reducible repeat (first | apply Kd.R_alloc | apply Kd.R_drewN | apply Kd.R_drew)); exact HO324.out) hb); have n2_ := Aside0.mk (Kd.R_below (by (with_reducible repeat (first | apply Kd.R_alloc | apply Kd.R_drewN | apply Kd.R_drew)); exact HO328.out) hb); have n3_ := Aside0.mk (below_step (by repeat (first | (with_reducible first | exact HB.out | apply below_alloc | apply pw_below_drewN | apply below_drew1) | exact HB.out)) hb); clear HO318; clear HO324; clear HO328; clear HB; have HO318 := n0_; have HO324 := n1_; have HO328 := n2_; have HB := n3_; clear n0_ n1_ n2_ n3_; (try clear hb); (try clear hb2); (try clear hk); (try clear hi)))
  repeat (go_quiet (first | (go_at_call 33; (with_reducible refine (laws_a2Long.calls _ _ l0 _ _ l1 false _ ?side1 ?side2 ?side3 ?side4 A3.out).mono ?_); (case side1 => repeat (first | exact HR0.out | (with_reducible refine Kd.C_alloc ?_ _) | (with_reducible refine Kd.C_drewN ?_ _) | (with_reducible refine Kd.C_drew ?_))); (case side2 => exact HC0.out); (case side3 => repeat (first | exact HR1.out | (with_reducible refine Kd.C_alloc ?_ _) | (with_reducible refine Kd.C_drewN ?_ _) | (with_reducible refine Kd.C_drew ?_))); (case side4 => exact HC1.out); rintro e w' ⟨rfl, ⟨nd, rfl⟩⟩; (try first | exact ⟨rfl, _, World.drewN_drewN _ _ _⟩ | exact ⟨rfl, _, Eq.trans (World.drewN_drewN _ _ _) (congrArg (World.drewN _) (Nat.add_assoc _ _ _))⟩)) | (go_at_call 34; (with_reducible refine (spec_A2Orders.calls k _ _ l0 t316 _ ?side1 ?side2 A5.out).mono ?_); (case side1 => repeat (first | exact HR0.out | (with_reducible refine Kd.C_alloc ?_ _) | (with_reducible refine Kd.C_drewN ?_ _) | (with_reducible refine Kd.C_drew ?_))); (case side2 => exact HC0.out); rintro e w12 ⟨v317, rfl, ho0, hb⟩; have n0_ := Aside0.mk (Kd.R_lower ho0 (below_size (by repeat (first | (with_reducible first | exact HB.out | apply below_alloc | apply pw_below_drewN | apply below_drew1) | exact HB.out)))); have n1_ := Aside0.mk (below_step (by repeat (first | (with_reducible first | exact HB.out | apply below_alloc | apply pw_below_drewN | apply below_drew1) | exact HB.out)) hb); clear HB; have HO318 := n0_; have HB := n1_; clear n0_ n1_; (try clear hb); (try clear hb2); (try clear hk); (try clear hi); (try clear ho0)) | (go_at_call 35; (with_reducible refine (laws_a2At.calls _ _ l1 0 10 t319 _ ?side1 ?side2 A6.out).mono ?_); (case side1 => repeat (first | exact (Kd.C_below HR1.out HB.out) | (with_reducible refine Kd.C_alloc ?_ _) | (with_reducible refine Kd.C_drewN ?_ _) | (with_reducible refine Kd.C_drew ?_))); (case side2 => exact HC1.out); rintro e w' ⟨rfl, ⟨nd, rfl⟩⟩; (try first | exact ⟨rfl, _, World.drewN_drewN _ _ _⟩ | exact ⟨rfl, _, Eq.trans (World.drewN_drewN _ _ _) (congrArg (World.drewN _) (Nat.add_assoc _ _ _))⟩)) | (go_at_call 35; (with_reducible refine (laws_a2At.calls _ _ l1 1 12 t320 _ ?side1 ?side2 A7.out).mono ?_); (case side1 => repeat (first | exact (Kd.C_below HR1.out (by repeat (first | (with_reducible first | exact HB.out | apply below_alloc | apply pw_below_drewN | apply below_drew1) | exact HB.out))) | (with_reducible refine Kd.C_alloc ?_ _) | (with_reducible refine Kd.C_drewN ?_ _) | (with_reducible refine Kd.C_drew ?_))); (case side2 => exact HC1.out); rintro e w' ⟨rfl, ⟨nd, rfl⟩⟩; (try first | exact ⟨rfl, _, World.drewN_drewN _ _ _⟩ | exact ⟨rfl, _, Eq.trans (World.drewN_drewN _ _ _) (congrArg (World.drewN _) (Nat.add_assoc _ _ _))⟩); obtain ⟨Ao13, co13, eo13⟩ := Kd.R_slice HO318.out; subst eo13) | (go_at_call 36; (with_reducible refine (impl_DaysOfOrders.calls k _ _ t316 t319 (wrap64 (1 + t320)) t321 t322 _ ?side1 ?side2 A8.out).mono ?_); (case side1 => repeat (first | exact (Kd.R_reads' HO318.out).2.2 | (with_reducible refine Kd.C_alloc ?_ _) | (with_reducible refine Kd.C_drewN ?_ _) | (with_reducible refine Kd.C_drew ?_))); (case side2 => exact (Kd.R_reads' HO318.out).2.1); rintro e w14 ⟨v323, rfl, ho0, hb⟩; have n0_ := Aside0.mk (Kd.R_below (by (with_reducible repeat (first | apply Kd.R_alloc | apply Kd.R_drewN | apply Kd.R_drew)); exact HO318.out) hb); have n1_ := Aside0.mk (Kd.R_lower ho0 (below_size (by repeat (first | (with_reducible first | exact HB.out | apply below_alloc | apply pw_below_drewN | apply below_drew1) | exact HB.out)))); have n2_ := Aside0.mk (below_step (by repeat (first | (with_reducible first | exact HB.out | apply below_alloc | apply pw_below_drewN | apply below_drew1) | exact HB.out)) hb); clear HO318; clear HB; have HO318 := n0_; have HO324 := n1_; have HB := n2_; clear n0_ n1_ n2_; (try clear hb); (try clear hb2); (try clear hk); (try clear hi); (try clear ho0)) | (go_at_call 37; (with_reducible refine (impl_LateOrders.calls k _ _ t316 t319 (wrap64 (1 + t320)) t325 t326 _ ?side1 ?side2 A9.out).mono ?_); (case side1 => repeat (first | exact (Kd.R_reads' HO318.out).2.2 | (with_reducible refine Kd.C_alloc ?_ _) | (with_reducible refine Kd.C_drewN ?_ _) | (with_reducible refine Kd.C_drew ?_))); (case side2 => exact (Kd.R_reads' HO318.out).2.1); rintro e w15 ⟨v327, rfl, ho0, hb⟩; have n0_ := Aside0.mk (Kd.R_below (by (with_reducible repeat (first | apply Kd.R_alloc | apply Kd.R_drewN | apply Kd.R_drew)); exact HO318.out) hb); have n1_ := Aside0.mk (Kd.R_elder' (by (with_reducible repeat (first | apply Kd.R_alloc | apply Kd.R_drewN | apply Kd.R_drew)); exact HO324.out) (Kd.R_base ho0) hb); have n2_ := Aside0.mk (Kd.R_lower (Kd.R_new' ho0 (Kd.R_lt (by (with_reducible repeat (first | apply Kd.R_alloc | apply Kd.R_drewN | apply Kd.R_drew)); exact HO324.out))) (below_size (by repeat (first | (with_reducible first | exact HB.out | apply below_alloc | apply pw_below_drewN | apply below_drew1) | exact HB.out)))); have n3_ := Aside0.mk (below_step (by repeat (first | (with_reducible first | exact HB.out | apply below_alloc | apply pw_below_drewN | apply below_drew1) | exact HB.out)) hb); clear HO318; clear HO324; clear HB; have HO318 := n0_; have HO324 := n1_; have HO328 := n2_; have HB := n3_; clear n0_ n1_ n2_ n3_; (try clear hb); (try clear hb2); (try clear hk); (try clear hi); (try clear ho0)) | (go_at_call 30; (with_reducible refine (impl_NextOrder.calls k _ _ t316 t329 t330 _ ?side1 ?side2 A10.out).mono ?_); (case side1 => repeat (first | exact (Kd.R_reads' HO318.out).2.2 | (with_reducible refine Kd.C_alloc ?_ _) | (with_reducible refine Kd.C_drewN ?_ _) | (with_reducible refine Kd.C_drew ?_))); (case side2 => exact (Kd.R_reads' HO318.out).2.1); rintro e w16 ⟨rfl, hb⟩; have n0_ := Aside0.mk (Kd.R_below (by (with_reducible repeat (first | apply Kd.R_alloc | apply Kd.R_drewN | apply Kd.R_drew)); exact HO318.out) hb); have n1_ := Aside0.mk (Kd.R_below (by (with_reducible repeat (first | apply Kd.R_alloc | apply Kd.R_drewN | apply Kd.R_drew)); exact HO324.out) hb); have n2_ := Aside0.mk (Kd.R_below (by (with_reducible repeat (first | apply Kd.R_alloc | apply Kd.R_drewN | apply Kd.R_drew)); exact HO328.out) hb); have n3_ := Aside0.mk (below_step (by repeat (first | (with_reducible first | exact HB.out | apply below_alloc | apply pw_below_drewN | apply below_drew1) | exact HB.out)) hb); clear HO318; clear HO324; clear HO328; clear HB; have HO318 := n0_; have HO324 := n1_; have HO328 := n2_; have HB := n3_; clear n0_ n1_ n2_ n3_; (try clear hb); (try clear hb2); (try clear hk); (try clear hi))); go_upto_region 9 with (first | (go_at_call 33; (with_reducible refine (laws_a2Long.calls _ _ l0 _ _ l1 false _ ?side1 ?side2 ?side3 ?side4 A3.out).mono ?_); (case side1 => repeat (first | exact HR0.out | (with_reducible refine Kd.C_alloc ?_ _) | (with_reducible refine Kd.C_drewN ?_ _) | (with_reducible refine Kd.C_drew ?_))); (case side2 => exact HC0.out); (case side3 => repeat (first | exact HR1.out | (with_reducible refine Kd.C_alloc ?_ _) | (with_reducible refine Kd.C_drewN ?_ _) | (with_reducible refine Kd.C_drew ?_))); (case side4 => exact HC1.out); rintro e w' ⟨rfl, ⟨nd, rfl⟩⟩; (try first | exact ⟨rfl, _, World.drewN_drewN _ _ _⟩ | exact ⟨rfl, _, Eq.trans (World.drewN_drewN _ _ _) (congrArg (World.drewN _) (Nat.add_assoc _ _ _))⟩)) | (go_at_call 34; (with_reducible refine (spec_A2Orders.calls k _ _ l0 t316 _ ?side1 ?side2 A5.out).mono ?_); (case side1 => repeat (first | exact HR0.out | (with_reducible refine Kd.C_alloc ?_ _) | (with_reducible refine Kd.C_drewN ?_ _) | (with_reducible refine Kd.C_drew ?_))); (case side2 => exact HC0.out); rintro e w12 ⟨v317, rfl, ho0, hb⟩; have n0_ := Aside0.mk (Kd.R_lower ho0 (below_size (by repeat (first | (with_reducible first | exact HB.out | apply below_alloc | apply pw_below_drewN | apply below_drew1) | exact HB.out)))); have n1_ := Aside0.mk (below_step (by repeat (first | (with_reducible first | exact HB.out | apply below_alloc | apply pw_below_drewN | apply below_drew1) | exact HB.out)) hb); clear HB; have HO318 := n0_; have HB := n1_; clear n0_ n1_; (try clear hb); (try clear hb2); (try clear hk); (try clear hi); (try clear ho0)) | (go_at_call 35; (with_reducible refine (laws_a2At.calls _ _ l1 0 10 t319 _ ?side1 ?side2 A6.out).mono ?_); (case side1 => repeat (first | exact (Kd.C_below HR1.out HB.out) | (with_reducible refine Kd.C_alloc ?_ _) | (with_reducible refine Kd.C_drewN ?_ _) | (with_reducible refine Kd.C_drew ?_))); (case side2 => exact HC1.out); rintro e w' ⟨rfl, ⟨nd, rfl⟩⟩; (try first | exact ⟨rfl, _, World.drewN_drewN _ _ _⟩ | exact ⟨rfl, _, Eq.trans (World.drewN_drewN _ _ _) (congrArg (World.drewN _) (Nat.add_assoc _ _ _))⟩)) | (go_at_call 35; (with_reducible refine (laws_a2At.calls _ _ l1 1 12 t320 _ ?side1 ?side2 A7.out).mono ?_); (case side1 => repeat (first | exact (Kd.C_below HR1.out (by repeat (first | (with_reducible first | exact HB.out | apply below_alloc | apply pw_below_drewN | apply below_drew1) | exact HB.out))) | (with_reducible refine Kd.C_alloc ?_ _) | (with_reducible refine Kd.C_drewN ?_ _) | (with_reducible refine Kd.C_drew ?_))); (case side2 => exact HC1.out); rintro e w' ⟨rfl, ⟨nd, rfl⟩⟩; (try first | exact ⟨rfl, _, World.drewN_drewN _ _ _⟩ | exact ⟨rfl, _, Eq.trans (World.drewN_drewN _ _ _) (congrArg (World.drewN _) (Nat.add_assoc _ _ _))⟩); obtain ⟨Ao13, co13, eo13⟩ := Kd.R_slice HO318.out; subst eo13) | (go_at_call 36; (with_reducible refine (impl_DaysOfOrders.calls k _ _ t316 t319 (wrap64 (1 + t320)) t321 t322 _ ?side1 ?side2 A8.out).mono ?_); (case side1 => repeat (first | exact (Kd.R_reads' HO318.out).2.2 | (with_reducible refine Kd.C_alloc ?_ _) | (with_reducible refine Kd.C_drewN ?_ _) | (with_reducible refine Kd.C_drew ?_))); (case side2 => exact (Kd.R_reads' HO318.out).2.1); rintro e w14 ⟨v323, rfl, ho0, hb⟩; have n0_ := Aside0.mk (Kd.R_below (by (with_reducible repeat (first | apply Kd.R_alloc | apply Kd.R_drewN | apply Kd.R_drew)); exact HO318.out) hb); have n1_ := Aside0.mk (Kd.R_lower ho0 (below_size (by repeat (first | (with_reducible first | exact HB.out | apply below_alloc | apply pw_below_drewN | apply below_drew1) | exact HB.out)))); have n2_ := Aside0.mk (below_step (by repeat (first | (with_reducible first | exact HB.out | apply below_alloc | apply pw_below_drewN | apply below_drew1) | exact HB.out)) hb); clear HO318; clear HB; have HO318 := n0_; have HO324 := n1_; have HB := n2_; clear n0_ n1_ n2_; (try clear hb); (try clear hb2); (try clear hk); (try clear hi); (try clear ho0)) | (go_at_call 37; (with_reducible refine (impl_LateOrders.calls k _ _ t316 t319 (wrap64 (1 + t320)) t325 t326 _ ?side1 ?side2 A9.out).mono ?_); (case side1 => repeat (first | exact (Kd.R_reads' HO318.out).2.2 | (with_reducible refine Kd.C_alloc ?_ _) | (with_reducible refine Kd.C_drewN ?_ _) | (with_reducible refine Kd.C_drew ?_))); (case side2 => exact (Kd.R_reads' HO318.out).2.1); rintro e w15 ⟨v327, rfl, ho0, hb⟩; have n0_ := Aside0.mk (Kd.R_below (by (with_reducible repeat (first | apply Kd.R_alloc | apply Kd.R_drewN | apply Kd.R_drew)); exact HO318.out) hb); have n1_ := Aside0.mk (Kd.R_elder' (by (with_reducible repeat (first | apply Kd.R_alloc | apply Kd.R_drewN | apply Kd.R_drew)); exact HO324.out) (Kd.R_base ho0) hb); have n2_ := Aside0.mk (Kd.R_lower (Kd.R_new' ho0 (Kd.R_lt (by (with_reducible repeat (first | apply Kd.R_alloc | apply Kd.R_drewN | apply Kd.R_drew)); exact HO324.out))) (below_size (by repeat (first | (with_reducible first | exact HB.out | apply below_alloc | apply pw_below_drewN | apply below_drew1) | exact HB.out)))); have n3_ := Aside0.mk (below_step (by repeat (first | (with_reducible first | exact HB.out | apply below_alloc | apply pw_below_drewN | apply below_drew1) | exact HB.out)) hb); clear HO318; clear HO324; clear HB; have HO318 := n0_; have HO324 := n1_; have HO328 := n2_; have HB := n3_; clear n0_ n1_ n2_ n3_; (try clear hb); (try clear hb2); (try clear hk); (try clear hi); (try clear ho0)) | (go_at_call 30; (with_reducible refine (impl_NextOrder.calls k _ _ t316 t329 t330 _ ?side1 ?side2 A10.out).mono ?_); (case side1 => repeat (first | exact (Kd.R_reads' HO318.out).2.2 | (with_reducible refine Kd.C_alloc ?_ _) | (with_reducible refine Kd.C_drewN ?_ _) | (with_reducible refine Kd.C_drew ?_))); (case side2 => exact (Kd.R_reads' HO318.out).2.1); rintro e w16 ⟨rfl, hb⟩; have n0_ := Aside0.mk (Kd.R_below (by (with_reducible repeat (first | apply Kd.R_alloc | apply Kd.R_drewN | apply Kd.R_drew)); exact HO318.out) hb); have n1_ := Aside0.mk (Kd.R_below (by (with_reducible repeat (first | apply Kd.R_alloc | apply Kd.R_drewN | apply Kd.R_drew)); exact HO324.out) hb); have n2_ := Aside0.mk (Kd.R_below (by (with_reducible repeat (first | apply Kd.R_alloc | apply Kd.R_drewN | apply Kd.R_drew)); exact HO328.out) hb); have n3_ := Aside0.mk (below_step (by repeat (first | (with_reducible first | exact HB.out | apply below_alloc | apply pw_below_drewN | apply below_drew1) | exact HB.out)) hb); clear HO318; clear HO324; clear HO328; clear HB; have HO318 := n0_; have HO324 := n1_; have HO328 := n2_; have HB := n3_; clear n0_ n1_ n2_ n3_; (try clear hb); (try clear hb2); (try clear hk); (try clear hi))))
  (try simp only [Act.put, List.setIfInBounds_toArray, List.set_cons_zero, List.set_cons_succ])
  go_cut [70] (fun v70 wc => ∃ (kq : Nat) (x70_10 : Bool), v70 = .bool x70_10 ∧ Aside0 (laws_FnLoftDays.j0 kq t316 t319 (wrap64 (1 + t320)) t321 t325 t329 t330 x70_10 = some r) ∧ Aside0 (kq ≤ k) ∧ Aside0 (Kd.R k49 49 wc w.heap.size (fun _ => True) (.slice Ao13 t316.length co13) t316) ∧ Aside0 (Kd.R (Kd.int .i64) 2 wc w.heap.size (fun k_ => some k_ ≠ (v327 : Value).ownBlock) v323 t321) ∧ Aside0 (Kd.R (Kd.int .i64) 2 wc w.heap.size (fun k_ => some k_ ≠ (v323 : Value).ownBlock) v327 t325) ∧ Aside0 (Below w.heap.size w wc))
  case first => as_aux_lemma =>
   have H := HC11.out
   clear HC11
   by_cases c17 : t322 = 0
   ·rw [if_pos c17] at H
    have c17b0 : (t322 == 0) = true := beq_iff_eq.mpr c17
    have c17b1 : (t322 != 0) = false := bne_eq_false_iff_eq.mpr c17
    clear c17
    (first | rw [c17b0] | (simp only [i64_w, i32_w]; rw [c17b0]) | skip)
    by_cases c18 : (t321.length : Int) = (t316.length : Int)
    ·rw [if_pos c18] at H
     have c18b0 : ((t321.length : Int) == (t316.length : Int)) = true := beq_iff_eq.mpr c18
     have c18b1 : ((t321.length : Int) != (t316.length : Int)) = false := bne_eq_false_iff_eq.mpr c18
     have c18b2 : (t321.length == t316.length) = true := by first | simpa using c18 | (simp at c18 ⊢; omega)
     clear c18
     have H' := Aside0.mk H
     clear H
     obtain ⟨Ao19, co19, eo19⟩ := Kd.R_slice HO324.out
     subst eo19
     go_wp2
     repeat (go_quiet (fail); try go_wp2)
     go_meet
     case rel => exact ⟨_, ((t326 != 0)), (by first | rfl | (simp; done) | (simp [*]; done)), H', ⟨by first | omega | exact Nat.le_refl _⟩, ⟨by (with_reducible repeat (first | apply Kd.R_alloc | apply Kd.R_drewN | apply Kd.R_drew)); exact HO318.out⟩, ⟨by (with_reducible repeat (first | apply Kd.R_alloc | apply Kd.R_drewN | apply Kd.R_drew)); exact Kd.R_mono HO324.out (fun _ hk => hk.2)⟩, ⟨by (with_reducible repeat (first | apply Kd.R_alloc | apply Kd.R_drewN | apply Kd.R_drew)); exact Kd.R_mono HO328.out (fun _ hk => hk.2)⟩, ⟨by repeat (first | (with_reducible first | exact HB.out | apply below_alloc | apply pw_below_drewN | apply below_drew1) | exact HB.out)⟩⟩
    ·rw [if_neg c18] at H
     have c18b0 : ((t321.length : Int) == (t316.length : Int)) = false := beq_eq_false_iff_ne.mpr c18
     have c18b1 : ((t321.length : Int) != (t316.length : Int)) = true := bne_iff_ne.mpr c18
     have c18b2 : (t321.length == t316.length) = false := by first | simpa using c18 | (simp at c18 ⊢; omega)
     have H' := Aside0.mk H
     clear H
     obtain ⟨Ao20, co20, eo20⟩ := Kd.R_slice HO324.out
     subst eo20
     go_wp2
     repeat (go_quiet (fail); try go_wp2)
     go_meet
     case rel => exact ⟨_, (true), (by first | rfl | (simp; done) | (simp [*]; done)), H', ⟨by first | omega | exact Nat.le_refl _⟩, ⟨by (with_reducible repeat (first | apply Kd.R_alloc | apply Kd.R_drewN | apply Kd.R_drew)); exact HO318.out⟩, ⟨by (with_reducible repeat (first | apply Kd.R_alloc | apply Kd.R_drewN | apply Kd.R_drew)); exact Kd.R_mono HO324.out (fun _ hk => hk.2)⟩, ⟨by (with_reducible repeat (first | apply Kd.R_alloc | apply Kd.R_drewN | apply Kd.R_drew)); exact Kd.R_mono HO328.out (fun _ hk => hk.2)⟩, ⟨by repeat (first | (with_reducible first | exact HB.out | apply below_alloc | apply pw_below_drewN | apply below_drew1) | exact HB.out)⟩⟩
   ·rw [if_neg c17] at H
    have c17b0 : (t322 == 0) = false := beq_eq_false_iff_ne.mpr c17
    have c17b1 : (t322 != 0) = true := bne_iff_ne.mpr c17
    (first | rw [c17b0] | (simp only [i64_w, i32_w]; rw [c17b0]) | skip)
    have H' := Aside0.mk H
    clear H
    go_wp2
    repeat (go_quiet (fail); try go_wp2)
    go_meet
    case rel => exact ⟨_, (true), (by first | rfl | (simp; done) | (simp [*]; done)), H', ⟨by first | omega | exact Nat.le_refl _⟩, ⟨by (with_reducible repeat (first | apply Kd.R_alloc | apply Kd.R_drewN | apply Kd.R_drew)); exact HO318.out⟩, ⟨by (with_reducible repeat (first | apply Kd.R_alloc | apply Kd.R_drewN | apply Kd.R_drew)); exact Kd.R_mono HO324.out (fun _ hk => hk.2)⟩, ⟨by (with_reducible repeat (first | apply Kd.R_alloc | apply Kd.R_drewN | apply Kd.R_drew)); exact Kd.R_mono HO328.out (fun _ hk => hk.2)⟩, ⟨by repeat (first | (with_reducible first | exact HB.out | apply below_alloc | apply pw_below_drewN | apply below_drew1) | exact HB.out)⟩⟩
  case rest => as_aux_lemma =>
   clear HC11
   (try clear c1);(try clear p2);(try clear c4);(try clear p6);(try clear c9);(try clear c17);(try clear c17b0);(try clear c17b1);(try clear c18);(try clear c18b0);(try clear c18b1);(try clear c18b2)
   obtain ⟨kq, x70_10, rfl, HA, HJ10, HO_5, HO_8, HO_10, HB⟩ := hcut
   cases kq with
   | zero => exact absurd HA.out (by simp [laws_FnLoftDays.j0])
   | succ kj10 =>
    have H := HA.out
    clear HA
    simp only [laws_FnLoftDays.j0] at H
    by_cases c21 : x70_10 = true
    ·subst c21
     have H1 : (some false) = some r := by rw [if_pos rfl] at H; exact H
     clear H
     have H := H1
     clear H1
     obtain rfl := Option.some.inj H
     go_wp2
     repeat (go_quiet (fail); try go_wp2)
     go_ret
     exact ⟨by first | rfl | (simp [errW_none, errW_some] <;> rfl) | (simp [*, errW_none, errW_some] <;> rfl), by repeat (first | (with_reducible first | exact HB.out | apply below_alloc | apply pw_below_drewN | apply below_drew1) | exact HB.out)⟩
    ·replace c21 := Bool.eq_false_iff.mpr c21
     subst c21
     have H1 : (laws_FnLoftDays.l0 kj10 t316 t319 (wrap64 (1 + t320)) t321 t325 t329 t330 0 (-1) 0) = some r := by rw [if_neg (show ¬ (false = true) by decide)] at H; exact H
     clear H
     have H := H1
     clear H1
     have H' := Aside0.mk H
     clear H
     go_wp2
     repeat (go_quiet (fail); try go_wp2)
     go_loopg [14, 15, 16] kj10 (fun kq v14 v15 v16 w' => ∃ (x14_2 : Int) (x15_2 : Int) (x16_2 : Int), v14 = .int .i64 x14_2 ∧ v15 = .int .i64 x15_2 ∧ v16 = .int .i64 x16_2 ∧ Aside0 (laws_FnLoftDays.l0 kq t316 t319 (wrap64 (1 + t320)) t321 t325 t329 t330 x14_2 x15_2 x16_2 = some r) ∧ Aside0 (kq ≤ kj10) ∧ Aside0 (Kd.R k49 49 w' w.heap.size (fun _ => True) (.slice Ao13 t316.length co13) t316) ∧ Aside0 (Kd.R (Kd.int .i64) 2 w' w.heap.size (fun k_ => some k_ ≠ (v327 : Value).ownBlock) v323 t321) ∧ Aside0 (Kd.R (Kd.int .i64) 2 w' w.heap.size (fun k_ => some k_ ≠ (v323 : Value).ownBlock) v327 t325) ∧ Aside0 (Below w.heap.size w w'))
     case atStart => exact ⟨(0), ((-1)), (0), (by first | rfl | (simp; done) | (simp [*]; done)), (by first | rfl | (simp; done) | (simp [*]; done)), (by first | rfl | (simp; done) | (simp [*]; done)), H', ⟨Nat.le_refl _⟩, ⟨by (with_reducible repeat (first | apply Kd.R_alloc | apply Kd.R_drewN | apply Kd.R_drew)); exact HO_5.out⟩, ⟨by (with_reducible repeat (first | apply Kd.R_alloc | apply Kd.R_drewN | apply Kd.R_drew)); exact HO_8.out⟩, ⟨by (with_reducible repeat (first | apply Kd.R_alloc | apply Kd.R_drewN | apply Kd.R_drew)); exact HO_10.out⟩, ⟨by repeat (first | (with_reducible first | exact HB.out | apply below_alloc | apply pw_below_drewN | apply below_drew1) | exact HB.out)⟩⟩
     case round =>
      clear H'
      (try clear c1);(try clear c2);(try clear p2);(try clear c4);(try clear p6);(try clear c9);(try clear c17);(try clear c17b0);(try clear c17b1);(try clear c18);(try clear c18b0);(try clear c18b1);(try clear c18b2);(try clear c21);(try clear p2);(try clear p6)
      obtain ⟨x14_2, x15_2, x16_2, rfl, rfl, rfl, HA, HK2, HO_5, HO_8, HO_10, HB⟩ := hrel
      cases gk with
      | zero => exact absurd HA.out (by simp [laws_FnLoftDays.l0])
      | succ k2 =>
       have H := HA.out
       clear HA
       simp only [laws_FnLoftDays.l0] at H
       by_cases c22 : x16_2 < (t316.length : Int)
       ·rw [if_pos c22] at H
        have c22b0 : decide (x16_2 < (t316.length : Int)) = true := decide_eq_true c22
        clear c22
        by_cases c23 : 0 ≤ x16_2
        ·rw [if_pos c23] at H
         have c23b0 : decide (0 ≤ x16_2) = true := decide_eq_true c23
         clear c23
         have H' := Aside0.mk H
         clear H
         have p331 : 0 ≤ (x16_2 : Int) := of_decide_eq_true (by first | (with_reducible assumption) | assumption)
         have q331 : x16_2 < (t316.length : Int) := of_decide_eq_true (by first | (with_reducible assumption) | assumption)
         obtain ⟨ad331, e331, hx331_0, hx331_1, hx331_2, hx331_3, hx331_4⟩ := at_T49 (Kd.R_reads' HO_5.out).2.2 x16_2 p331 q331
         cases e331
         replace p331 := eq_true p331
         replace q331 := eq_true q331
         have p332 : 0 ≤ (x16_2 : Int) := of_decide_eq_true (by first | (with_reducible assumption) | assumption)
         have q332 : x16_2 < (t316.length : Int) := of_decide_eq_true (by first | (with_reducible assumption) | assumption)
         obtain ⟨ad332, e332, hx332_0, hx332_1, hx332_2, hx332_3, hx332_4⟩ := at_T49 (Kd.R_reads' HO_5.out).2.2 x16_2 p332 q332
         obtain rfl : ad331 = ad332 := (by injection e332)
         replace p332 := eq_true p332
         replace q332 := eq_true q332
         go_wp2
         repeat (go_quiet (fail); try go_wp2)
         go_loopg [17, 19] k2 (fun kq v17 v19 w' => ∃ (x17_3 : Int) (x19_3 : Int), v17 = .int .i64 x17_3 ∧ v19 = .int .i64 x19_3 ∧ Aside0 (laws_FnLoftDays.l1 kq t316 t319 (wrap64 (1 + t320)) t321 t325 t329 t330 x14_2 x15_2 x16_2 x17_3 (wrap64 (((rd_T49 t316 x16_2).f2) - ((rd_T49 t316 x16_2).f3))) x19_3 = some r) ∧ Aside0 (kq ≤ k2) ∧ Aside0 (Kd.R k49 49 w' w.heap.size (fun _ => True) (.slice (some ad331) t316.length co13) t316) ∧ Aside0 (Kd.R (Kd.int .i64) 2 w' w.heap.size (fun k_ => some k_ ≠ (v327 : Value).ownBlock) v323 t321) ∧ Aside0 (Kd.R (Kd.int .i64) 2 w' w.heap.size (fun k_ => some k_ ≠ (v323 : Value).ownBlock) v327 t325) ∧ Aside0 (Below w.heap.size w w'))
         case atStart => exact ⟨(0), (0), (by first | rfl | (simp; done) | (simp [*]; done)), (by first | rfl | (simp; done) | (simp [*]; done)), H', ⟨Nat.le_refl _⟩, ⟨by (with_reducible repeat (first | apply Kd.R_alloc | apply Kd.R_drewN | apply Kd.R_drew)); exact HO_5.out⟩, ⟨by (with_reducible repeat (first | apply Kd.R_alloc | apply Kd.R_drewN | apply Kd.R_drew)); exact HO_8.out⟩, ⟨by (with_reducible repeat (first | apply Kd.R_alloc | apply Kd.R_drewN | apply Kd.R_drew)); exact HO_10.out⟩, ⟨by repeat (first | (with_reducible first | exact HB.out | apply below_alloc | apply pw_below_drewN | apply below_drew1) | exact HB.out)⟩⟩
         case round =>
          clear H'
          (try clear c1);(try clear c2);(try clear p2);(try clear p3);(try clear q3);(try clear hx3);(try clear c4);(try clear p6);(try clear c9);(try clear c17);(try clear c17b0);(try clear c17b1);(try clear c18);(try clear c18b0);(try clear c18b1);(try clear c18b2);(try clear c21);(try clear c22);(try clear c22b0);(try clear c23);(try clear c23b0);(try clear hx331_0);(try clear hx331_1);(try clear hx331_2)
          (try clear hx331_3);(try clear hx331_4);(try clear hx332_0);(try clear hx332_1);(try clear hx332_2);(try clear hx332_3);(try clear hx332_4);(try clear p2);(try clear p331);(try clear p332);(try clear p6);(try clear q331);(try clear q332)
          obtain ⟨x17_3, x19_3, rfl, rfl, HA, HK3, HO_5, HO_8, HO_10, HB⟩ := hrel
          cases gk with
          | zero => exact absurd HA.out (by simp [laws_FnLoftDays.l1])
          | succ k3 =>
           have H := HA.out
           clear HA
           simp only [laws_FnLoftDays.l1] at H
           by_cases c24 : x19_3 < (t316.length : Int)
           ·rw [if_pos c24] at H
            have c24b0 : decide (x19_3 < (t316.length : Int)) = true := decide_eq_true c24
            clear c24
            by_cases c25 : 0 ≤ x19_3
            ·rw [if_pos c25] at H
             have c25b0 : decide (0 ≤ x19_3) = true := decide_eq_true c25
             clear c25
             by_cases c26 : 0 ≤ x16_2
             ·rw [if_pos c26] at H
              have c26b0 : decide (0 ≤ x16_2) = true := decide_eq_true c26
              clear c26
              by_cases c27 : x16_2 < (t316.length : Int)
              ·rw [if_pos c27] at H
               have c27b0 : decide (x16_2 < (t316.length : Int)) = true := decide_eq_true c27
               clear c27
               by_cases c28 : ((rd_T49 t316 x19_3).f4) < ((rd_T49 t316 x16_2).f4)
               ·rw [if_pos c28] at H
                have c28b0 : decide (((rd_T49 t316 x19_3).f4) < ((rd_T49 t316 x16_2).f4)) = true := decide_eq_true c28
                clear c28
                have H' := Aside0.mk H
                clear H
                have p333 : 0 ≤ (x19_3 : Int) := of_decide_eq_true (by first | (with_reducible assumption) | assumption)
                have q333 : x19_3 < (t316.length : Int) := of_decide_eq_true (by first | (with_reducible assumption) | assumption)
                obtain ⟨ad333, e333, hx333_0, hx333_1, hx333_2, hx333_3, hx333_4⟩ := at_T49 (Kd.R_reads' HO_5.out).2.2 x19_3 p333 q333
                obtain rfl : ad331 = ad333 := (by injection e333)
                replace p333 := eq_true p333
                replace q333 := eq_true q333
                have p334 : 0 ≤ (x16_2 : Int) := of_decide_eq_true (by first | (with_reducible assumption) | assumption)
                have q334 : x16_2 < (t316.length : Int) := of_decide_eq_true (by first | (with_reducible assumption) | assumption)
                obtain ⟨ad334, e334, hx334_0, hx334_1, hx334_2, hx334_3, hx334_4⟩ := at_T49 (Kd.R_reads' HO_5.out).2.2 x16_2 p334 q334
                obtain rfl : ad331 = ad334 := (by injection e334)
                replace p334 := eq_true p334
                replace q334 := eq_true q334
                have p335 : 0 ≤ (x19_3 : Int) := of_decide_eq_true (by first | (with_reducible assumption) | assumption)
                have q335 : x19_3 < (t316.length : Int) := of_decide_eq_true (by first | (with_reducible assumption) | assumption)
                obtain ⟨ad335, e335, hx335_0, hx335_1, hx335_2, hx335_3, hx335_4⟩ := at_T49 (Kd.R_reads' HO_5.out).2.2 x19_3 p335 q335
                obtain rfl : ad331 = ad335 := (by injection e335)
                replace p335 := eq_true p335
                replace q335 := eq_true q335
                have p336 : 0 ≤ (x19_3 : Int) := of_decide_eq_true (by first | (with_reducible assumption) | assumption)
                have q336 : x19_3 < (t316.length : Int) := of_decide_eq_true (by first | (with_reducible assumption) | assumption)
                obtain ⟨ad336, e336, hx336_0, hx336_1, hx336_2, hx336_3, hx336_4⟩ := at_T49 (Kd.R_reads' HO_5.out).2.2 x19_3 p336 q336
                obtain rfl : ad331 = ad336 := (by injection e336)
                replace p336 := eq_true p336
                replace q336 := eq_true q336
                go_wp2
                repeat (go_quiet (fail); try go_wp2)
                go_roundg k3
                case measure => have := HJ10.out; have := HK2.out; have := HK3.out; omega
                case rel => exact ⟨(wrap64 (x17_3 + (wrap64 (((rd_T49 t316 x19_3).f2) - ((rd_T49 t316 x19_3).f3))))), (wrap64 (x19_3 + 1)), (by first | rfl | (simp; done) | (simp [*]; done)), (by first | rfl | (simp; done) | (simp [*]; done)), H', ⟨by have := HJ10.out; have := HK2.out; have := HK3.out; omega⟩, ⟨by (with_reducible repeat (first | apply Kd.R_alloc | apply Kd.R_drewN | apply Kd.R_drew)); exact HO_5.out⟩, ⟨by (with_reducible repeat (first | apply Kd.R_alloc | apply Kd.R_drewN | apply Kd.R_drew)); exact HO_8.out⟩, ⟨by (with_reducible repeat (first | apply Kd.R_alloc | apply Kd.R_drewN | apply Kd.R_drew)); exact HO_10.out⟩, ⟨by repeat (first | (with_reducible first | exact HB.out | apply below_alloc | apply pw_below_drewN | apply below_drew1) | exact HB.out)⟩⟩
               ·rw [if_neg c28] at H
                have c28b0 : decide (((rd_T49 t316 x19_3).f4) < ((rd_T49 t316 x16_2).f4)) = false := decide_eq_false c28
                clear c28
                by_cases c29 : ((rd_T49 t316 x19_3).f4) = ((rd_T49 t316 x16_2).f4)
                ·rw [if_pos c29] at H
                 have c29b0 : (((rd_T49 t316 x19_3).f4) == ((rd_T49 t316 x16_2).f4)) = true := beq_iff_eq.mpr c29
                 have c29b1 : (((rd_T49 t316 x19_3).f4) != ((rd_T49 t316 x16_2).f4)) = false := bne_eq_false_iff_eq.mpr c29
                 clear c29
                 by_cases c30 : x19_3 < x16_2
                 ·rw [if_pos c30] at H
                  have c30b0 : decide (x19_3 < x16_2) = true := decide_eq_true c30
                  clear c30
                  have H' := Aside0.mk H
                  clear H
                  have p333 : 0 ≤ (x19_3 : Int) := of_decide_eq_true (by first | (with_reducible assumption) | assumption)
                  have q333 : x19_3 < (t316.length : Int) := of_decide_eq_true (by first | (with_reducible assumption) | assumption)
                  obtain ⟨ad333, e333, hx333_0, hx333_1, hx333_2, hx333_3, hx333_4⟩ := at_T49 (Kd.R_reads' HO_5.out).2.2 x19_3 p333 q333
                  obtain rfl : ad331 = ad333 := (by injection e333)
                  replace p333 := eq_true p333
                  replace q333 := eq_true q333
                  have p334 : 0 ≤ (x16_2 : Int) := of_decide_eq_true (by first | (with_reducible assumption) | assumption)
                  have q334 : x16_2 < (t316.length : Int) := of_decide_eq_true (by first | (with_reducible assumption) | assumption)
                  obtain ⟨ad334, e334, hx334_0, hx334_1, hx334_2, hx334_3, hx334_4⟩ := at_T49 (Kd.R_reads' HO_5.out).2.2 x16_2 p334 q334
                  obtain rfl : ad331 = ad334 := (by injection e334)
                  replace p334 := eq_true p334
                  replace q334 := eq_true q334
                  have p337 : 0 ≤ (x19_3 : Int) := of_decide_eq_true (by first | (with_reducible assumption) | assumption)
                  have q337 : x19_3 < (t316.length : Int) := of_decide_eq_true (by first | (with_reducible assumption) | assumption)
                  obtain ⟨ad337, e337, hx337_0, hx337_1, hx337_2, hx337_3, hx337_4⟩ := at_T49 (Kd.R_reads' HO_5.out).2.2 x19_3 p337 q337
                  obtain rfl : ad331 = ad337 := (by injection e337)
                  replace p337 := eq_true p337
                  replace q337 := eq_true q337
                  have p338 : 0 ≤ (x16_2 : Int) := of_decide_eq_true (by first | (with_reducible assumption) | assumption)
                  have q338 : x16_2 < (t316.length : Int) := of_decide_eq_true (by first | (with_reducible assumption) | assumption)
                  obtain ⟨ad338, e338, hx338_0, hx338_1, hx338_2, hx338_3, hx338_4⟩ := at_T49 (Kd.R_reads' HO_5.out).2.2 x16_2 p338 q338
                  obtain rfl : ad331 = ad338 := (by injection e338)
                  replace p338 := eq_true p338
                  replace q338 := eq_true q338
                  have p339 : 0 ≤ (x19_3 : Int) := of_decide_eq_true (by first | (with_reducible assumption) | assumption)
                  have q339 : x19_3 < (t316.length : Int) := of_decide_eq_true (by first | (with_reducible assumption) | assumption)
                  obtain ⟨ad339, e339, hx339_0, hx339_1, hx339_2, hx339_3, hx339_4⟩ := at_T49 (Kd.R_reads' HO_5.out).2.2 x19_3 p339 q339
                  obtain rfl : ad331 = ad339 := (by injection e339)
                  replace p339 := eq_true p339
                  replace q339 := eq_true q339
                  have p340 : 0 ≤ (x19_3 : Int) := of_decide_eq_true (by first | (with_reducible assumption) | assumption)
                  have q340 : x19_3 < (t316.length : Int) := of_decide_eq_true (by first | (with_reducible assumption) | assumption)
                  obtain ⟨ad340, e340, hx340_0, hx340_1, hx340_2, hx340_3, hx340_4⟩ := at_T49 (Kd.R_reads' HO_5.out).2.2 x19_3 p340 q340
                  obtain rfl : ad331 = ad340 := (by injection e340)
                  replace p340 := eq_true p340
                  replace q340 := eq_true q340
                  go_wp2
                  repeat (go_quiet (fail); try go_wp2)
                  go_roundg k3
                  case measure => have := HJ10.out; have := HK2.out; have := HK3.out; omega
                  case rel => exact ⟨(wrap64 (x17_3 + (wrap64 (((rd_T49 t316 x19_3).f2) - ((rd_T49 t316 x19_3).f3))))), (wrap64 (x19_3 + 1)), (by first | rfl | (simp; done) | (simp [*]; done)), (by first | rfl | (simp; done) | (simp [*]; done)), H', ⟨by have := HJ10.out; have := HK2.out; have := HK3.out; omega⟩, ⟨by (with_reducible repeat (first | apply Kd.R_alloc | apply Kd.R_drewN | apply Kd.R_drew)); exact HO_5.out⟩, ⟨by (with_reducible repeat (first | apply Kd.R_alloc | apply Kd.R_drewN | apply Kd.R_drew)); exact HO_8.out⟩, ⟨by (with_reducible repeat (first | apply Kd.R_alloc | apply Kd.R_drewN | apply Kd.R_drew)); exact HO_10.out⟩, ⟨by repeat (first | (with_reducible first | exact HB.out | apply below_alloc | apply pw_below_drewN | apply below_drew1) | exact HB.out)⟩⟩
                 ·rw [if_neg c30] at H
                  have c30b0 : decide (x19_3 < x16_2) = false := decide_eq_false c30
                  clear c30
                  have H' := Aside0.mk H
                  clear H
                  have p333 : 0 ≤ (x19_3 : Int) := of_decide_eq_true (by first | (with_reducible assumption) | assumption)
                  have q333 : x19_3 < (t316.length : Int) := of_decide_eq_true (by first | (with_reducible assumption) | assumption)
                  obtain ⟨ad333, e333, hx333_0, hx333_1, hx333_2, hx333_3, hx333_4⟩ := at_T49 (Kd.R_reads' HO_5.out).2.2 x19_3 p333 q333
                  obtain rfl : ad331 = ad333 := (by injection e333)
                  replace p333 := eq_true p333
                  replace q333 := eq_true q333
                  have p334 : 0 ≤ (x16_2 : Int) := of_decide_eq_true (by first | (with_reducible assumption) | assumption)
                  have q334 : x16_2 < (t316.length : Int) := of_decide_eq_true (by first | (with_reducible assumption) | assumption)
                  obtain ⟨ad334, e334, hx334_0, hx334_1, hx334_2, hx334_3, hx334_4⟩ := at_T49 (Kd.R_reads' HO_5.out).2.2 x16_2 p334 q334
                  obtain rfl : ad331 = ad334 := (by injection e334)
                  replace p334 := eq_true p334
                  replace q334 := eq_true q334
                  have p337 : 0 ≤ (x19_3 : Int) := of_decide_eq_true (by first | (with_reducible assumption) | assumption)
                  have q337 : x19_3 < (t316.length : Int) := of_decide_eq_true (by first | (with_reducible assumption) | assumption)
                  obtain ⟨ad337, e337, hx337_0, hx337_1, hx337_2, hx337_3, hx337_4⟩ := at_T49 (Kd.R_reads' HO_5.out).2.2 x19_3 p337 q337
                  obtain rfl : ad331 = ad337 := (by injection e337)
                  replace p337 := eq_true p337
                  replace q337 := eq_true q337
                  have p338 : 0 ≤ (x16_2 : Int) := of_decide_eq_true (by first | (with_reducible assumption) | assumption)
                  have q338 : x16_2 < (t316.length : Int) := of_decide_eq_true (by first | (with_reducible assumption) | assumption)
                  obtain ⟨ad338, e338, hx338_0, hx338_1, hx338_2, hx338_3, hx338_4⟩ := at_T49 (Kd.R_reads' HO_5.out).2.2 x16_2 p338 q338
                  obtain rfl : ad331 = ad338 := (by injection e338)
                  replace p338 := eq_true p338
                  replace q338 := eq_true q338
                  go_wp2
                  repeat (go_quiet (fail); try go_wp2)
                  go_roundg k3
                  case measure => have := HJ10.out; have := HK2.out; have := HK3.out; omega
                  case rel => exact ⟨(x17_3), (wrap64 (x19_3 + 1)), (by first | rfl | (simp; done) | (simp [*]; done)), (by first | rfl | (simp; done) | (simp [*]; done)), H', ⟨by have := HJ10.out; have := HK2.out; have := HK3.out; omega⟩, ⟨by (with_reducible repeat (first | apply Kd.R_alloc | apply Kd.R_drewN | apply Kd.R_drew)); exact HO_5.out⟩, ⟨by (with_reducible repeat (first | apply Kd.R_alloc | apply Kd.R_drewN | apply Kd.R_drew)); exact HO_8.out⟩, ⟨by (with_reducible repeat (first | apply Kd.R_alloc | apply Kd.R_drewN | apply Kd.R_drew)); exact HO_10.out⟩, ⟨by repeat (first | (with_reducible first | exact HB.out | apply below_alloc | apply pw_below_drewN | apply below_drew1) | exact HB.out)⟩⟩
                ·rw [if_neg c29] at H
                 have c29b0 : (((rd_T49 t316 x19_3).f4) == ((rd_T49 t316 x16_2).f4)) = false := beq_eq_false_iff_ne.mpr c29
                 have c29b1 : (((rd_T49 t316 x19_3).f4) != ((rd_T49 t316 x16_2).f4)) = true := bne_iff_ne.mpr c29
                 have H' := Aside0.mk H
                 clear H
                 have p333 : 0 ≤ (x19_3 : Int) := of_decide_eq_true (by first | (with_reducible assumption) | assumption)
                 have q333 : x19_3 < (t316.length : Int) := of_decide_eq_true (by first | (with_reducible assumption) | assumption)
                 obtain ⟨ad333, e333, hx333_0, hx333_1, hx333_2, hx333_3, hx333_4⟩ := at_T49 (Kd.R_reads' HO_5.out).2.2 x19_3 p333 q333
                 obtain rfl : ad331 = ad333 := (by injection e333)
                 replace p333 := eq_true p333
                 replace q333 := eq_true q333
                 have p334 : 0 ≤ (x16_2 : Int) := of_decide_eq_true (by first | (with_reducible assumption) | assumption)
                 have q334 : x16_2 < (t316.length : Int) := of_decide_eq_true (by first | (with_reducible assumption) | assumption)
                 obtain ⟨ad334, e334, hx334_0, hx334_1, hx334_2, hx334_3, hx334_4⟩ := at_T49 (Kd.R_reads' HO_5.out).2.2 x16_2 p334 q334
                 obtain rfl : ad331 = ad334 := (by injection e334)
                 replace p334 := eq_true p334
                 replace q334 := eq_true q334
                 have p337 : 0 ≤ (x19_3 : Int) := of_decide_eq_true (by first | (with_reducible assumption) | assumption)
                 have q337 : x19_3 < (t316.length : Int) := of_decide_eq_true (by first | (with_reducible assumption) | assumption)
                 obtain ⟨ad337, e337, hx337_0, hx337_1, hx337_2, hx337_3, hx337_4⟩ := at_T49 (Kd.R_reads' HO_5.out).2.2 x19_3 p337 q337
                 obtain rfl : ad331 = ad337 := (by injection e337)
                 replace p337 := eq_true p337
                 replace q337 := eq_true q337
                 have p338 : 0 ≤ (x16_2 : Int) := of_decide_eq_true (by first | (with_reducible assumption) | assumption)
                 have q338 : x16_2 < (t316.length : Int) := of_decide_eq_true (by first | (with_reducible assumption) | assumption)
                 obtain ⟨ad338, e338, hx338_0, hx338_1, hx338_2, hx338_3, hx338_4⟩ := at_T49 (Kd.R_reads' HO_5.out).2.2 x16_2 p338 q338
                 obtain rfl : ad331 = ad338 := (by injection e338)
                 replace p338 := eq_true p338
                 replace q338 := eq_true q338
                 go_wp2
                 repeat (go_quiet (fail); try go_wp2)
                 go_roundg k3
                 case measure => have := HJ10.out; have := HK2.out; have := HK3.out; omega
                 case rel => exact ⟨(x17_3), (wrap64 (x19_3 + 1)), (by first | rfl | (simp; done) | (simp [*]; done)), (by first | rfl | (simp; done) | (simp [*]; done)), H', ⟨by have := HJ10.out; have := HK2.out; have := HK3.out; omega⟩, ⟨by (with_reducible repeat (first | apply Kd.R_alloc | apply Kd.R_drewN | apply Kd.R_drew)); exact HO_5.out⟩, ⟨by (with_reducible repeat (first | apply Kd.R_alloc | apply Kd.R_drewN | apply Kd.R_drew)); exact HO_8.out⟩, ⟨by (with_reducible repeat (first | apply Kd.R_alloc | apply Kd.R_drewN | apply Kd.R_drew)); exact HO_10.out⟩, ⟨by repeat (first | (with_reducible first | exact HB.out | apply below_alloc | apply pw_below_drewN | apply below_drew1) | exact HB.out)⟩⟩
              ·rw [if_neg c27] at H
               exact absurd H (by simp)
             ·rw [if_neg c26] at H
              exact absurd H (by simp)
            ·rw [if_neg c25] at H
             exact absurd H (by simp)
           ·rw [if_neg c24] at H
            have c24b0 : decide (x19_3 < (t316.length : Int)) = false := decide_eq_false c24
            clear c24
            have HC31 := Aside0.mk H
            clear H
            go_upto_if 138 with (fail)
            repeat (go_quiet (fail); go_upto_if 138 with (fail))
            go_cut [15, 20] (fun v15 v20 wc => ∃ (kq : Nat) (x15_30 : Int) (x20_30 : Int), v15 = .int .i64 x15_30 ∧ v20 = .int .i64 x20_30 ∧ Aside0 (laws_FnLoftDays.j3 kq t316 t319 (wrap64 (1 + t320)) t321 t325 t329 t330 x14_2 x15_30 x16_2 (wrap64 (((rd_T49 t316 x16_2).f2) - ((rd_T49 t316 x16_2).f3))) x20_30 = some r) ∧ Aside0 (kq ≤ k3) ∧ Aside0 (Kd.R k49 49 wc w.heap.size (fun _ => True) (.slice (some ad331) t316.length co13) t316) ∧ Aside0 (Kd.R (Kd.int .i64) 2 wc w.heap.size (fun k_ => some k_ ≠ (v327 : Value).ownBlock) v323 t321) ∧ Aside0 (Kd.R (Kd.int .i64) 2 wc w.heap.size (fun k_ => some k_ ≠ (v323 : Value).ownBlock) v327 t325) ∧ Aside0 (Below w.heap.size w wc))
            case first => as_aux_lemma =>
             have H := HC31.out
             clear HC31
             by_cases c32 : (wrap64 (((rd_T49 t316 x16_2).f2) - ((rd_T49 t316 x16_2).f3))) > 0
             ·rw [if_pos c32] at H
              have c32b0 : decide (0 < (wrap64 (((rd_T49 t316 x16_2).f2) - ((rd_T49 t316 x16_2).f3)))) = true := decide_eq_true c32
              clear c32
              (first | rw [c32b0] | (simp only [i64_w, i32_w]; rw [c32b0]) | skip)
              by_cases c33 : (wrap64 (1 + t320)) = 0
              ·rw [if_pos c33] at H
               exact absurd H (by simp)
              ·rw [if_neg c33] at H
               have c33b0 : ((wrap64 (1 + t320)) == 0) = false := beq_eq_false_iff_ne.mpr c33
               have c33b1 : ((wrap64 (1 + t320)) != 0) = true := bne_iff_ne.mpr c33
               by_cases c34 : x17_3 = 0
               ·rw [if_pos c34] at H
                have c34b0 : (x17_3 == 0) = true := beq_iff_eq.mpr c34
                have c34b1 : (x17_3 != 0) = false := bne_eq_false_iff_eq.mpr c34
                clear c34
                have H' := Aside0.mk H
                clear H
                go_wp2
                repeat (go_quiet (fail); try go_wp2)
                go_meet
                case rel => exact ⟨_, (x16_2), (wrap64 (t319 + (wrap64 (Int.tdiv (wrap64 ((wrap64 (x17_3 + (wrap64 (((rd_T49 t316 x16_2).f2) - ((rd_T49 t316 x16_2).f3))))) - 1)) (wrap64 (1 + t320)))))), (by first | rfl | (simp; done) | (simp [*]; done)), (by first | rfl | (simp; done) | (simp [*]; done)), H', ⟨by have := HJ10.out; have := HK2.out; have := HK3.out; first | omega | exact Nat.le_refl _⟩, ⟨by (with_reducible repeat (first | apply Kd.R_alloc | apply Kd.R_drewN | apply Kd.R_drew)); exact HO_5.out⟩, ⟨by (with_reducible repeat (first | apply Kd.R_alloc | apply Kd.R_drewN | apply Kd.R_drew)); exact HO_8.out⟩, ⟨by (with_reducible repeat (first | apply Kd.R_alloc | apply Kd.R_drewN | apply Kd.R_drew)); exact HO_10.out⟩, ⟨by repeat (first | (with_reducible first | exact HB.out | apply below_alloc | apply pw_below_drewN | apply below_drew1) | exact HB.out)⟩⟩
               ·rw [if_neg c34] at H
                have c34b0 : (x17_3 == 0) = false := beq_eq_false_iff_ne.mpr c34
                have c34b1 : (x17_3 != 0) = true := bne_iff_ne.mpr c34
                have H' := Aside0.mk H
                clear H
                go_wp2
                repeat (go_quiet (fail); try go_wp2)
                go_meet
                case rel => exact ⟨_, (x15_2), (wrap64 (t319 + (wrap64 (Int.tdiv (wrap64 ((wrap64 (x17_3 + (wrap64 (((rd_T49 t316 x16_2).f2) - ((rd_T49 t316 x16_2).f3))))) - 1)) (wrap64 (1 + t320)))))), (by first | rfl | (simp; done) | (simp [*]; done)), (by first | rfl | (simp; done) | (simp [*]; done)), H', ⟨by have := HJ10.out; have := HK2.out; have := HK3.out; first | omega | exact Nat.le_refl _⟩, ⟨by (with_reducible repeat (first | apply Kd.R_alloc | apply Kd.R_drewN | apply Kd.R_drew)); exact HO_5.out⟩, ⟨by (with_reducible repeat (first | apply Kd.R_alloc | apply Kd.R_drewN | apply Kd.R_drew)); exact HO_8.out⟩, ⟨by (with_reducible repeat (first | apply Kd.R_alloc | apply Kd.R_drewN | apply Kd.R_drew)); exact HO_10.out⟩, ⟨by repeat (first | (with_reducible first | exact HB.out | apply below_alloc | apply pw_below_drewN | apply below_drew1) | exact HB.out)⟩⟩
             ·rw [if_neg c32] at H
              have c32b0 : decide (0 < (wrap64 (((rd_T49 t316 x16_2).f2) - ((rd_T49 t316 x16_2).f3)))) = false := decide_eq_false c32
              clear c32
              (first | rw [c32b0] | (simp only [i64_w, i32_w]; rw [c32b0]) | skip)
              have H' := Aside0.mk H
              clear H
              go_wp2
              repeat (go_quiet (fail); try go_wp2)
              go_meet
              case rel => exact ⟨_, (x15_2), (t319), (by first | rfl | (simp; done) | (simp [*]; done)), (by first | rfl | (simp; done) | (simp [*]; done)), H', ⟨by have := HJ10.out; have := HK2.out; have := HK3.out; first | omega | exact Nat.le_refl _⟩, ⟨by (with_reducible repeat (first | apply Kd.R_alloc | apply Kd.R_drewN | apply Kd.R_drew)); exact HO_5.out⟩, ⟨by (with_reducible repeat (first | apply Kd.R_alloc | apply Kd.R_drewN | apply Kd.R_drew)); exact HO_8.out⟩, ⟨by (with_reducible repeat (first | apply Kd.R_alloc | apply Kd.R_drewN | apply Kd.R_drew)); exact HO_10.out⟩, ⟨by repeat (first | (with_reducible first | exact HB.out | apply below_alloc | apply pw_below_drewN | apply below_drew1) | exact HB.out)⟩⟩
            case rest => as_aux_lemma =>
             clear HC31
             (try clear c1);(try clear c2);(try clear p2);(try clear c3);(try clear p3);(try clear q3);(try clear hx3);(try clear c4);(try clear p6);(try clear c9);(try clear c17);(try clear c17b0);(try clear c17b1);(try clear c18);(try clear c18b0);(try clear c18b1);(try clear c18b2);(try clear c21);(try clear c22);(try clear c22b0);(try clear c23);(try clear c23b0);(try clear c24);(try clear c24b0)
             (try clear c25);(try clear c25b0);(try clear c26);(try clear c26b0);(try clear c27);(try clear c27b0);(try clear c28);(try clear c28b0);(try clear c29);(try clear c29b0);(try clear c29b1);(try clear c30);(try clear c30b0);(try clear c32);(try clear c32b0);(try clear c33);(try clear c33b0);(try clear c33b1);(try clear p33);(try clear q33);(try clear hx33);(try clear c34);(try clear c34b0)
             (try clear c34b1);(try clear p34);(try clear q34);(try clear hx34);(try clear hx331_0);(try clear hx331_1);(try clear hx331_2);(try clear hx331_3);(try clear hx331_4);(try clear hx332_0);(try clear hx332_1);(try clear hx332_2);(try clear hx332_3);(try clear hx332_4);(try clear hx333_0);(try clear hx333_1);(try clear hx333_2);(try clear hx333_3);(try clear hx333_4);(try clear hx334_0);(try clear hx334_1)
             (try clear hx334_2);(try clear hx334_3);(try clear hx334_4);(try clear hx335_0);(try clear hx335_1);(try clear hx335_2);(try clear hx335_3);(try clear hx335_4);(try clear hx336_0);(try clear hx336_1);(try clear hx336_2);(try clear hx336_3);(try clear hx336_4);(try clear hx337_0);(try clear hx337_1);(try clear hx337_2);(try clear hx337_3);(try clear hx337_4);(try clear hx338_0);(try clear hx338_1)
             (try clear hx338_2);(try clear hx338_3);(try clear hx338_4);(try clear hx339_0);(try clear hx339_1);(try clear hx339_2);(try clear hx339_3);(try clear hx339_4);(try clear hx340_0);(try clear hx340_1);(try clear hx340_2);(try clear hx340_3);(try clear hx340_4);(try clear p2);(try clear p3);(try clear p331);(try clear p332);(try clear p333);(try clear p334);(try clear p335);(try clear p336)
             (try clear p337);(try clear p338);(try clear p339);(try clear p340);(try clear p6);(try clear q3);(try clear q331);(try clear q332);(try clear q333);(try clear q334);(try clear q335);(try clear q336);(try clear q337);(try clear q338);(try clear q339);(try clear q340)
             obtain ⟨kq, x15_30, x20_30, rfl, rfl, HA, HJ30, HO_5, HO_8, HO_10, HB⟩ := hcut
             cases kq with
             | zero => exact absurd HA.out (by simp [laws_FnLoftDays.j3])
             | succ kj30 =>
              have H := HA.out
              clear HA
              simp only [laws_FnLoftDays.j3] at H
              by_cases c35 : 0 ≤ x16_2
              ·rw [if_pos c35] at H
               have c35b0 : decide (0 ≤ x16_2) = true := decide_eq_true c35
               clear c35
               by_cases c36 : x16_2 < (t321.length : Int)
               ·rw [if_pos c36] at H
                have c36b0 : decide (x16_2 < (t321.length : Int)) = true := decide_eq_true c36
                clear c36
                by_cases c37 : (rd t321 x16_2) = x20_30
                ·rw [if_pos c37] at H
                 have c37b0 : ((rd t321 x16_2) == x20_30) = true := beq_iff_eq.mpr c37
                 have c37b1 : ((rd t321 x16_2) != x20_30) = false := bne_eq_false_iff_eq.mpr c37
                 clear c37
                 have HC38 := Aside0.mk H
                 clear H
                 obtain ⟨Ao39, co39, eo39⟩ := Kd.R_slice HO_8.out
                 subst eo39
                 have p341 : 0 ≤ (x16_2 : Int) := of_decide_eq_true (by first | (with_reducible assumption) | assumption)
                 have q341 : x16_2 < (t321.length : Int) := of_decide_eq_true (by first | (with_reducible assumption) | assumption)
                 obtain ⟨ad341, e341, hx341_0⟩ := Kd.at_int (Kd.R_reads' HO_8.out).2.2 x16_2 p341 q341
                 cases e341
                 replace p341 := eq_true p341
                 replace q341 := eq_true q341
                 go_upto_region 30 with (fail)
                 repeat (go_quiet (fail); go_upto_region 30 with (fail))
                 go_cut [169] (fun v169 wc => ∃ (kq : Nat) (x169_37 : Bool), v169 = .bool x169_37 ∧ Aside0 (laws_FnLoftDays.j4 kq t316 t319 (wrap64 (1 + t320)) t321 t325 t329 t330 x14_2 x15_30 x16_2 x169_37 = some r) ∧ Aside0 (kq ≤ kj30) ∧ Aside0 (Kd.R k49 49 wc w.heap.size (fun _ => True) (.slice (some ad331) t316.length co13) t316) ∧ Aside0 (Kd.R (Kd.int .i64) 2 wc w.heap.size (fun k_ => some k_ ≠ (v327 : Value).ownBlock) (.slice (some ad341) t321.length co39) t321) ∧ Aside0 (Kd.R (Kd.int .i64) 2 wc w.heap.size (fun k_ => some k_ ≠ ((.slice (some ad341) t321.length co39) : Value).ownBlock) v327 t325) ∧ Aside0 (Below w.heap.size w wc))
                 case first => as_aux_lemma =>
                  have H := HC38.out
                  clear HC38
                  by_cases c40 : (wrap64 (((rd_T49 t316 x16_2).f2) - ((rd_T49 t316 x16_2).f3))) > 0
                  ·rw [if_pos c40] at H
                   have c40b0 : decide (0 < (wrap64 (((rd_T49 t316 x16_2).f2) - ((rd_T49 t316 x16_2).f3)))) = true := decide_eq_true c40
                   clear c40
                   (first | rw [c40b0] | (simp only [i64_w, i32_w]; rw [c40b0]) | skip)
                   by_cases c41 : x16_2 < (t316.length : Int)
                   ·rw [if_pos c41] at H
                    have c41b0 : decide (x16_2 < (t316.length : Int)) = true := decide_eq_true c41
                    clear c41
                    have H' := Aside0.mk H
                    clear H
                    have p342 : 0 ≤ (x16_2 : Int) := of_decide_eq_true (by first | (with_reducible assumption) | assumption)
                    have q342 : x16_2 < (t321.length : Int) := of_decide_eq_true (by first | (with_reducible assumption) | assumption)
                    obtain ⟨ad342, e342, hx342_0⟩ := Kd.at_int (Kd.R_reads' HO_8.out).2.2 x16_2 p342 q342
                    obtain rfl : ad341 = ad342 := (by injection e342)
                    replace p342 := eq_true p342
                    replace q342 := eq_true q342
                    have p343 : 0 ≤ (x16_2 : Int) := of_decide_eq_true (by first | (with_reducible assumption) | assumption)
                    have q343 : x16_2 < (t316.length : Int) := of_decide_eq_true (by first | (with_reducible assumption) | assumption)
                    obtain ⟨ad343, e343, hx343_0, hx343_1, hx343_2, hx343_3, hx343_4⟩ := at_T49 (Kd.R_reads' HO_5.out).2.2 x16_2 p343 q343
                    obtain rfl : ad331 = ad343 := (by injection e343)
                    replace p343 := eq_true p343
                    replace q343 := eq_true q343
                    go_wp2
                    repeat (go_quiet (fail); try go_wp2)
                    go_meet
                    case rel => exact ⟨_, (decide ((rd t321 x16_2) > ((rd_T49 t316 x16_2).f4))), (by first | rfl | (simp; done) | (simp [*]; done)), H', ⟨by have := HJ10.out; have := HK2.out; have := HK3.out; have := HJ30.out; first | omega | exact Nat.le_refl _⟩, ⟨by (with_reducible repeat (first | apply Kd.R_alloc | apply Kd.R_drewN | apply Kd.R_drew)); exact HO_5.out⟩, ⟨by (with_reducible repeat (first | apply Kd.R_alloc | apply Kd.R_drewN | apply Kd.R_drew)); exact HO_8.out⟩, ⟨by (with_reducible repeat (first | apply Kd.R_alloc | apply Kd.R_drewN | apply Kd.R_drew)); exact HO_10.out⟩, ⟨by repeat (first | (with_reducible first | exact HB.out | apply below_alloc | apply pw_below_drewN | apply below_drew1) | exact HB.out)⟩⟩
                   ·rw [if_neg c41] at H
                    exact absurd H (by simp)
                  ·rw [if_neg c40] at H
                   have c40b0 : decide (0 < (wrap64 (((rd_T49 t316 x16_2).f2) - ((rd_T49 t316 x16_2).f3)))) = false := decide_eq_false c40
                   clear c40
                   (first | rw [c40b0] | (simp only [i64_w, i32_w]; rw [c40b0]) | skip)
                   have H' := Aside0.mk H
                   clear H
                   go_wp2
                   repeat (go_quiet (fail); try go_wp2)
                   go_meet
                   case rel => exact ⟨_, (false), (by first | rfl | (simp; done) | (simp [*]; done)), H', ⟨by have := HJ10.out; have := HK2.out; have := HK3.out; have := HJ30.out; first | omega | exact Nat.le_refl _⟩, ⟨by (with_reducible repeat (first | apply Kd.R_alloc | apply Kd.R_drewN | apply Kd.R_drew)); exact HO_5.out⟩, ⟨by (with_reducible repeat (first | apply Kd.R_alloc | apply Kd.R_drewN | apply Kd.R_drew)); exact HO_8.out⟩, ⟨by (with_reducible repeat (first | apply Kd.R_alloc | apply Kd.R_drewN | apply Kd.R_drew)); exact HO_10.out⟩, ⟨by repeat (first | (with_reducible first | exact HB.out | apply below_alloc | apply pw_below_drewN | apply below_drew1) | exact HB.out)⟩⟩
                 case rest => as_aux_lemma =>
                  clear HC38
                  (try clear c1);(try clear c2);(try clear p2);(try clear c3);(try clear p3);(try clear q3);(try clear hx3);(try clear c4);(try clear p6);(try clear c9);(try clear c17);(try clear c17b0);(try clear c17b1);(try clear c18);(try clear c18b0);(try clear c18b1);(try clear c18b2);(try clear c21);(try clear c22);(try clear c22b0);(try clear c23);(try clear c23b0);(try clear c24);(try clear c24b0)
                  (try clear c25);(try clear c25b0);(try clear c26);(try clear c26b0);(try clear c27);(try clear c27b0);(try clear c28);(try clear c28b0);(try clear c29);(try clear c29b0);(try clear c29b1);(try clear c30);(try clear c30b0);(try clear c32);(try clear c32b0);(try clear c33);(try clear c33b0);(try clear c33b1);(try clear p33);(try clear q33);(try clear hx33);(try clear c34);(try clear c34b0)
                  (try clear c34b1);(try clear p34);(try clear q34);(try clear hx34);(try clear c35);(try clear c35b0);(try clear c36);(try clear c36b0);(try clear c37);(try clear c37b0);(try clear c37b1);(try clear c40);(try clear c40b0);(try clear c41);(try clear c41b0);(try clear hx331_0);(try clear hx331_1);(try clear hx331_2);(try clear hx331_3);(try clear hx331_4);(try clear hx332_0);(try clear hx332_1)
                  (try clear hx332_2);(try clear hx332_3);(try clear hx332_4);(try clear hx333_0);(try clear hx333_1);(try clear hx333_2);(try clear hx333_3);(try clear hx333_4);(try clear hx334_0);(try clear hx334_1);(try clear hx334_2);(try clear hx334_3);(try clear hx334_4);(try clear hx335_0);(try clear hx335_1);(try clear hx335_2);(try clear hx335_3);(try clear hx335_4);(try clear hx336_0);(try clear hx336_1)
                  (try clear hx336_2);(try clear hx336_3);(try clear hx336_4);(try clear hx337_0);(try clear hx337_1);(try clear hx337_2);(try clear hx337_3);(try clear hx337_4);(try clear hx338_0);(try clear hx338_1);(try clear hx338_2);(try clear hx338_3);(try clear hx338_4);(try clear hx339_0);(try clear hx339_1);(try clear hx339_2);(try clear hx339_3);(try clear hx339_4);(try clear hx340_0);(try clear hx340_1)
                  (try clear hx340_2);(try clear hx340_3);(try clear hx340_4);(try clear hx341_0);(try clear hx342_0);(try clear hx343_0);(try clear hx343_1);(try clear hx343_2);(try clear hx343_3);(try clear hx343_4);(try clear p2);(try clear p3);(try clear p33);(try clear p331);(try clear p332);(try clear p333);(try clear p334);(try clear p335);(try clear p336);(try clear p337);(try clear p338);(try clear p339)
                  (try clear p34);(try clear p340);(try clear p341);(try clear p342);(try clear p343);(try clear p6);(try clear q3);(try clear q33);(try clear q331);(try clear q332);(try clear q333);(try clear q334);(try clear q335);(try clear q336);(try clear q337);(try clear q338);(try clear q339);(try clear q34);(try clear q340);(try clear q341);(try clear q342);(try clear q343)
                  obtain ⟨kq, x169_37, rfl, HA, HJ37, HO_5, HO_8, HO_10, HB⟩ := hcut
                  cases kq with
                  | zero => exact absurd HA.out (by simp [laws_FnLoftDays.j4])
                  | succ kj37 =>
                   have H := HA.out
                   clear HA
                   simp only [laws_FnLoftDays.j4] at H
                   by_cases c42 : x169_37 = true
                   ·subst c42
                    have H1 : (if x14_2 ≥ (t325.length : Int) then (some false) else (if 0 ≤ x14_2 then (if x14_2 < (t325.length : Int) then (if 0 ≤ x16_2 then (if x16_2 < (t316.length : Int) then (if (rd t325 x14_2) = ((rd_T49 t316 x16_2).f0) then (laws_FnLoftDays.l0 kj37 t316 t319 (wrap64 (1 + t320)) t321 t325 t329 t330 (wrap64 (x14_2 + 1)) x15_30 (wrap64 (x16_2 + 1))) else (some false)) else (none)) else (none)) else (none)) else (none))) = some r := by rw [if_pos rfl] at H; exact H
                    clear H
                    have H := H1
                    clear H1
                    by_cases c43 : x14_2 ≥ (t325.length : Int)
                    ·rw [if_pos c43] at H
                     have c43b0 : decide ((t325.length : Int) ≤ x14_2) = true := decide_eq_true c43
                     clear c43
                     obtain rfl := Option.some.inj H
                     obtain ⟨Ao44, co44, eo44⟩ := Kd.R_slice HO_10.out
                     subst eo44
                     go_wp2
                     repeat (go_quiet (fail); try go_wp2)
                     go_ret
                     exact ⟨by first | rfl | (simp [errW_none, errW_some] <;> rfl) | (simp [*, errW_none, errW_some] <;> rfl), by repeat (first | (with_reducible first | exact HB.out | apply below_alloc | apply pw_below_drewN | apply below_drew1) | exact HB.out)⟩
                    ·rw [if_neg c43] at H
                     have c43b0 : decide ((t325.length : Int) ≤ x14_2) = false := decide_eq_false c43
                     clear c43
                     by_cases c45 : 0 ≤ x14_2
                     ·rw [if_pos c45] at H
                      have c45b0 : decide (0 ≤ x14_2) = true := decide_eq_true c45
                      clear c45
                      by_cases c46 : x14_2 < (t325.length : Int)
                      ·rw [if_pos c46] at H
                       have c46b0 : decide (x14_2 < (t325.length : Int)) = true := decide_eq_true c46
                       clear c46
                       by_cases c47 : 0 ≤ x16_2
                       ·rw [if_pos c47] at H
                        have c47b0 : decide (0 ≤ x16_2) = true := decide_eq_true c47
                        clear c47
                        by_cases c48 : x16_2 < (t316.length : Int)
                        ·rw [if_pos c48] at H
                         have c48b0 : decide (x16_2 < (t316.length : Int)) = true := decide_eq_true c48
                         clear c48
                         by_cases c49 : (rd t325 x14_2) = ((rd_T49 t316 x16_2).f0)
                         ·rw [if_pos c49] at H
                          have c49b0 : ((rd t325 x14_2) == ((rd_T49 t316 x16_2).f0)) = true := beq_iff_eq.mpr c49
                          have c49b1 : ((rd t325 x14_2) != ((rd_T49 t316 x16_2).f0)) = false := bne_eq_false_iff_eq.mpr c49
                          clear c49
                          have H' := Aside0.mk H
                          clear H
                          obtain ⟨Ao50, co50, eo50⟩ := Kd.R_slice HO_10.out
                          subst eo50
                          have p344 : 0 ≤ (x14_2 : Int) := of_decide_eq_true (by first | (with_reducible assumption) | assumption)
                          have q344 : x14_2 < (t325.length : Int) := of_decide_eq_true (by first | (with_reducible assumption) | assumption)
                          obtain ⟨ad344, e344, hx344_0⟩ := Kd.at_int (Kd.R_reads' HO_10.out).2.2 x14_2 p344 q344
                          cases e344
                          replace p344 := eq_true p344
                          replace q344 := eq_true q344
                          have p345 : 0 ≤ (x16_2 : Int) := of_decide_eq_true (by first | (with_reducible assumption) | assumption)
                          have q345 : x16_2 < (t316.length : Int) := of_decide_eq_true (by first | (with_reducible assumption) | assumption)
                          obtain ⟨ad345, e345, hx345_0, hx345_1, hx345_2, hx345_3, hx345_4⟩ := at_T49 (Kd.R_reads' HO_5.out).2.2 x16_2 p345 q345
                          obtain rfl : ad331 = ad345 := (by injection e345)
                          replace p345 := eq_true p345
                          replace q345 := eq_true q345
                          go_wp2
                          repeat (go_quiet (fail); try go_wp2)
                          go_roundg kj37
                          case measure => have := HJ10.out; have := HK2.out; have := HK3.out; have := HJ30.out; have := HJ37.out; omega
                          case rel => exact ⟨(wrap64 (x14_2 + 1)), (x15_30), (wrap64 (x16_2 + 1)), (by first | rfl | (simp; done) | (simp [*]; done)), (by first | rfl | (simp; done) | (simp [*]; done)), (by first | rfl | (simp; done) | (simp [*]; done)), H', ⟨by have := HJ10.out; have := HK2.out; have := HK3.out; have := HJ30.out; have := HJ37.out; omega⟩, ⟨by (with_reducible repeat (first | apply Kd.R_alloc | apply Kd.R_drewN | apply Kd.R_drew)); exact HO_5.out⟩, ⟨by (with_reducible repeat (first | apply Kd.R_alloc | apply Kd.R_drewN | apply Kd.R_drew)); exact HO_8.out⟩, ⟨by (with_reducible repeat (first | apply Kd.R_alloc | apply Kd.R_drewN | apply Kd.R_drew)); exact HO_10.out⟩, ⟨by repeat (first | (with_reducible first | exact HB.out | apply below_alloc | apply pw_below_drewN | apply below_drew1) | exact HB.out)⟩⟩
                         ·rw [if_neg c49] at H
                          have c49b0 : ((rd t325 x14_2) == ((rd_T49 t316 x16_2).f0)) = false := beq_eq_false_iff_ne.mpr c49
                          have c49b1 : ((rd t325 x14_2) != ((rd_T49 t316 x16_2).f0)) = true := bne_iff_ne.mpr c49
                          obtain rfl := Option.some.inj H
                          obtain ⟨Ao51, co51, eo51⟩ := Kd.R_slice HO_10.out
                          subst eo51
                          have p344 : 0 ≤ (x14_2 : Int) := of_decide_eq_true (by first | (with_reducible assumption) | assumption)
                          have q344 : x14_2 < (t325.length : Int) := of_decide_eq_true (by first | (with_reducible assumption) | assumption)
                          obtain ⟨ad344, e344, hx344_0⟩ := Kd.at_int (Kd.R_reads' HO_10.out).2.2 x14_2 p344 q344
                          cases e344
                          replace p344 := eq_true p344
                          replace q344 := eq_true q344
                          have p345 : 0 ≤ (x16_2 : Int) := of_decide_eq_true (by first | (with_reducible assumption) | assumption)
                          have q345 : x16_2 < (t316.length : Int) := of_decide_eq_true (by first | (with_reducible assumption) | assumption)
                          obtain ⟨ad345, e345, hx345_0, hx345_1, hx345_2, hx345_3, hx345_4⟩ := at_T49 (Kd.R_reads' HO_5.out).2.2 x16_2 p345 q345
                          obtain rfl : ad331 = ad345 := (by injection e345)
                          replace p345 := eq_true p345
                          replace q345 := eq_true q345
                          go_wp2
                          repeat (go_quiet (fail); try go_wp2)
                          go_ret
                          exact ⟨by first | rfl | (simp [errW_none, errW_some] <;> rfl) | (simp [*, errW_none, errW_some] <;> rfl), by repeat (first | (with_reducible first | exact HB.out | apply below_alloc | apply pw_below_drewN | apply below_drew1) | exact HB.out)⟩
                        ·rw [if_neg c48] at H
                         exact absurd H (by simp)
                       ·rw [if_neg c47] at H
                        exact absurd H (by simp)
                      ·rw [if_neg c46] at H
                       exact absurd H (by simp)
                     ·rw [if_neg c45] at H
                      exact absurd H (by simp)
                   ·replace c42 := Bool.eq_false_iff.mpr c42
                    subst c42
                    have H1 : (laws_FnLoftDays.l0 kj37 t316 t319 (wrap64 (1 + t320)) t321 t325 t329 t330 x14_2 x15_30 (wrap64 (x16_2 + 1))) = some r := by rw [if_neg (show ¬ (false = true) by decide)] at H; exact H
                    clear H
                    have H := H1
                    clear H1
                    have H' := Aside0.mk H
                    clear H
                    go_wp2
                    repeat (go_quiet (fail); try go_wp2)
                    go_roundg kj37
                    case measure => have := HJ10.out; have := HK2.out; have := HK3.out; have := HJ30.out; have := HJ37.out; omega
                    case rel => exact ⟨(x14_2), (x15_30), (wrap64 (x16_2 + 1)), (by first | rfl | (simp; done) | (simp [*]; done)), (by first | rfl | (simp; done) | (simp [*]; done)), (by first | rfl | (simp; done) | (simp [*]; done)), H', ⟨by have := HJ10.out; have := HK2.out; have := HK3.out; have := HJ30.out; have := HJ37.out; omega⟩, ⟨by (with_reducible repeat (first | apply Kd.R_alloc | apply Kd.R_drewN | apply Kd.R_drew)); exact HO_5.out⟩, ⟨by (with_reducible repeat (first | apply Kd.R_alloc | apply Kd.R_drewN | apply Kd.R_drew)); exact HO_8.out⟩, ⟨by (with_reducible repeat (first | apply Kd.R_alloc | apply Kd.R_drewN | apply Kd.R_drew)); exact HO_10.out⟩, ⟨by repeat (first | (with_reducible first | exact HB.out | apply below_alloc | apply pw_below_drewN | apply below_drew1) | exact HB.out)⟩⟩
                ·rw [if_neg c37] at H
                 have c37b0 : ((rd t321 x16_2) == x20_30) = false := beq_eq_false_iff_ne.mpr c37
                 have c37b1 : ((rd t321 x16_2) != x20_30) = true := bne_iff_ne.mpr c37
                 obtain rfl := Option.some.inj H
                 obtain ⟨Ao52, co52, eo52⟩ := Kd.R_slice HO_8.out
                 subst eo52
                 have p341 : 0 ≤ (x16_2 : Int) := of_decide_eq_true (by first | (with_reducible assumption) | assumption)
                 have q341 : x16_2 < (t321.length : Int) := of_decide_eq_true (by first | (with_reducible assumption) | assumption)
                 obtain ⟨ad341, e341, hx341_0⟩ := Kd.at_int (Kd.R_reads' HO_8.out).2.2 x16_2 p341 q341
                 cases e341
                 replace p341 := eq_true p341
                 replace q341 := eq_true q341
                 go_wp2
                 repeat (go_quiet (fail); try go_wp2)
                 go_ret
                 exact ⟨by first | rfl | (simp [errW_none, errW_some] <;> rfl) | (simp [*, errW_none, errW_some] <;> rfl), by repeat (first | (with_reducible first | exact HB.out | apply below_alloc | apply pw_below_drewN | apply below_drew1) | exact HB.out)⟩
               ·rw [if_neg c36] at H
                exact absurd H (by simp)
              ·rw [if_neg c35] at H
               exact absurd H (by simp)
        ·rw [if_neg c23] at H
         exact absurd H (by simp)
       ·rw [if_neg c22] at H
        have c22b0 : decide (x16_2 < (t316.length : Int)) = false := decide_eq_false c22
        clear c22
        have HC53 := Aside0.mk H
        clear H
        go_upto_region 34 with (fail)
        repeat (go_quiet (fail); go_upto_region 34 with (fail))
        go_cut [216] (fun v216 wc => ∃ (kq : Nat) (x216_52 : Bool), v216 = .bool x216_52 ∧ Aside0 (laws_FnLoftDays.j5 kq t316 t319 x216_52 = some r) ∧ Aside0 (kq ≤ k2) ∧ Aside0 (Kd.R k49 49 wc w.heap.size (fun _ => True) (.slice Ao13 t316.length co13) t316) ∧ Aside0 (Below w.heap.size w wc))
        case first => as_aux_lemma =>
         have H := HC53.out
         clear HC53
         by_cases c54 : x14_2 = (t325.length : Int)
         ·rw [if_pos c54] at H
          have c54b0 : (x14_2 == (t325.length : Int)) = true := beq_iff_eq.mpr c54
          have c54b1 : (x14_2 != (t325.length : Int)) = false := bne_eq_false_iff_eq.mpr c54
          clear c54
          (first | rw [c54b0] | (simp only [i64_w, i32_w]; rw [c54b0]) | skip)
          by_cases c55 : x15_2 < 0
          ·rw [if_pos c55] at H
           have c55b0 : decide (x15_2 < 0) = true := decide_eq_true c55
           clear c55
           by_cases c56 : t330 = 3
           ·rw [if_pos c56] at H
            have c56b0 : (t330 == 3) = true := beq_iff_eq.mpr c56
            have c56b1 : (t330 != 3) = false := bne_eq_false_iff_eq.mpr c56
            clear c56
            by_cases c57 : x15_2 ≥ 0
            ·rw [if_pos c57] at H
             have c57b0 : decide (0 ≤ x15_2) = true := decide_eq_true c57
             clear c57
             by_cases c58 : t330 = 0
             ·rw [if_pos c58] at H
              have c58b0 : (t330 == 0) = true := beq_iff_eq.mpr c58
              have c58b1 : (t330 != 0) = false := bne_eq_false_iff_eq.mpr c58
              clear c58
              by_cases c59 : 0 ≤ x15_2
              ·rw [if_pos c59] at H
               have c59b0 : decide (0 ≤ x15_2) = true := decide_eq_true c59
               clear c59
               by_cases c60 : x15_2 < (t316.length : Int)
               ·rw [if_pos c60] at H
                have c60b0 : decide (x15_2 < (t316.length : Int)) = true := decide_eq_true c60
                clear c60
                have H' := Aside0.mk H
                clear H
                obtain ⟨Ao61, co61, eo61⟩ := Kd.R_slice HO_10.out
                subst eo61
                have p346 : 0 ≤ (x15_2 : Int) := of_decide_eq_true (by first | (with_reducible assumption) | assumption)
                have q346 : x15_2 < (t316.length : Int) := of_decide_eq_true (by first | (with_reducible assumption) | assumption)
                obtain ⟨ad346, e346, hx346_0, hx346_1, hx346_2, hx346_3, hx346_4⟩ := at_T49 (Kd.R_reads' HO_5.out).2.2 x15_2 p346 q346
                cases e346
                replace p346 := eq_true p346
                replace q346 := eq_true q346
                go_wp2
                repeat (go_quiet (fail); try go_wp2)
                go_meet
                case rel => exact ⟨_, ((t329 != ((rd_T49 t316 x15_2).f0))), (by first | rfl | (simp; done) | (simp [*]; done)), H', ⟨by have := HJ10.out; have := HK2.out; first | omega | exact Nat.le_refl _⟩, ⟨by (with_reducible repeat (first | apply Kd.R_alloc | apply Kd.R_drewN | apply Kd.R_drew)); exact HO_5.out⟩, ⟨by repeat (first | (with_reducible first | exact HB.out | apply below_alloc | apply pw_below_drewN | apply below_drew1) | exact HB.out)⟩⟩
               ·rw [if_neg c60] at H
                exact absurd H (by simp)
              ·rw [if_neg c59] at H
               exact absurd H (by simp)
             ·rw [if_neg c58] at H
              have c58b0 : (t330 == 0) = false := beq_eq_false_iff_ne.mpr c58
              have c58b1 : (t330 != 0) = true := bne_iff_ne.mpr c58
              have H' := Aside0.mk H
              clear H
              obtain ⟨Ao62, co62, eo62⟩ := Kd.R_slice HO_10.out
              subst eo62
              go_wp2
              repeat (go_quiet (fail); try go_wp2)
              go_meet
              case rel => exact ⟨_, (true), (by first | rfl | (simp; done) | (simp [*]; done)), H', ⟨by have := HJ10.out; have := HK2.out; first | omega | exact Nat.le_refl _⟩, ⟨by (with_reducible repeat (first | apply Kd.R_alloc | apply Kd.R_drewN | apply Kd.R_drew)); exact HO_5.out⟩, ⟨by repeat (first | (with_reducible first | exact HB.out | apply below_alloc | apply pw_below_drewN | apply below_drew1) | exact HB.out)⟩⟩
            ·rw [if_neg c57] at H
             have c57b0 : decide (0 ≤ x15_2) = false := decide_eq_false c57
             clear c57
             have H' := Aside0.mk H
             clear H
             obtain ⟨Ao63, co63, eo63⟩ := Kd.R_slice HO_10.out
             subst eo63
             go_wp2
             repeat (go_quiet (fail); try go_wp2)
             go_meet
             case rel => exact ⟨_, (false), (by first | rfl | (simp; done) | (simp [*]; done)), H', ⟨by have := HJ10.out; have := HK2.out; first | omega | exact Nat.le_refl _⟩, ⟨by (with_reducible repeat (first | apply Kd.R_alloc | apply Kd.R_drewN | apply Kd.R_drew)); exact HO_5.out⟩, ⟨by repeat (first | (with_reducible first | exact HB.out | apply below_alloc | apply pw_below_drewN | apply below_drew1) | exact HB.out)⟩⟩
           ·rw [if_neg c56] at H
            have c56b0 : (t330 == 3) = false := beq_eq_false_iff_ne.mpr c56
            have c56b1 : (t330 != 3) = true := bne_iff_ne.mpr c56
            have H' := Aside0.mk H
            clear H
            obtain ⟨Ao64, co64, eo64⟩ := Kd.R_slice HO_10.out
            subst eo64
            go_wp2
            repeat (go_quiet (fail); try go_wp2)
            go_meet
            case rel => exact ⟨_, (true), (by first | rfl | (simp; done) | (simp [*]; done)), H', ⟨by have := HJ10.out; have := HK2.out; first | omega | exact Nat.le_refl _⟩, ⟨by (with_reducible repeat (first | apply Kd.R_alloc | apply Kd.R_drewN | apply Kd.R_drew)); exact HO_5.out⟩, ⟨by repeat (first | (with_reducible first | exact HB.out | apply below_alloc | apply pw_below_drewN | apply below_drew1) | exact HB.out)⟩⟩
          ·rw [if_neg c55] at H
           have c55b0 : decide (x15_2 < 0) = false := decide_eq_false c55
           clear c55
           by_cases c65 : x15_2 ≥ 0
           ·rw [if_pos c65] at H
            have c65b0 : decide (0 ≤ x15_2) = true := decide_eq_true c65
            clear c65
            by_cases c66 : t330 = 0
            ·rw [if_pos c66] at H
             have c66b0 : (t330 == 0) = true := beq_iff_eq.mpr c66
             have c66b1 : (t330 != 0) = false := bne_eq_false_iff_eq.mpr c66
             clear c66
             by_cases c67 : 0 ≤ x15_2
             ·rw [if_pos c67] at H
              have c67b0 : decide (0 ≤ x15_2) = true := decide_eq_true c67
              clear c67
              by_cases c68 : x15_2 < (t316.length : Int)
              ·rw [if_pos c68] at H
               have c68b0 : decide (x15_2 < (t316.length : Int)) = true := decide_eq_true c68
               clear c68
               have H' := Aside0.mk H
               clear H
               obtain ⟨Ao69, co69, eo69⟩ := Kd.R_slice HO_10.out
               subst eo69
               have p347 : 0 ≤ (x15_2 : Int) := of_decide_eq_true (by first | (with_reducible assumption) | assumption)
               have q347 : x15_2 < (t316.length : Int) := of_decide_eq_true (by first | (with_reducible assumption) | assumption)
               obtain ⟨ad347, e347, hx347_0, hx347_1, hx347_2, hx347_3, hx347_4⟩ := at_T49 (Kd.R_reads' HO_5.out).2.2 x15_2 p347 q347
               cases e347
               replace p347 := eq_true p347
               replace q347 := eq_true q347
               go_wp2
               repeat (go_quiet (fail); try go_wp2)
               go_meet
               case rel => exact ⟨_, ((t329 != ((rd_T49 t316 x15_2).f0))), (by first | rfl | (simp; done) | (simp [*]; done)), H', ⟨by have := HJ10.out; have := HK2.out; first | omega | exact Nat.le_refl _⟩, ⟨by (with_reducible repeat (first | apply Kd.R_alloc | apply Kd.R_drewN | apply Kd.R_drew)); exact HO_5.out⟩, ⟨by repeat (first | (with_reducible first | exact HB.out | apply below_alloc | apply pw_below_drewN | apply below_drew1) | exact HB.out)⟩⟩
              ·rw [if_neg c68] at H
               exact absurd H (by simp)
             ·rw [if_neg c67] at H
              exact absurd H (by simp)
            ·rw [if_neg c66] at H
             have c66b0 : (t330 == 0) = false := beq_eq_false_iff_ne.mpr c66
             have c66b1 : (t330 != 0) = true := bne_iff_ne.mpr c66
             have H' := Aside0.mk H
             clear H
             obtain ⟨Ao70, co70, eo70⟩ := Kd.R_slice HO_10.out
             subst eo70
             go_wp2
             repeat (go_quiet (fail); try go_wp2)
             go_meet
             case rel => exact ⟨_, (true), (by first | rfl | (simp; done) | (simp [*]; done)), H', ⟨by have := HJ10.out; have := HK2.out; first | omega | exact Nat.le_refl _⟩, ⟨by (with_reducible repeat (first | apply Kd.R_alloc | apply Kd.R_drewN | apply Kd.R_drew)); exact HO_5.out⟩, ⟨by repeat (first | (with_reducible first | exact HB.out | apply below_alloc | apply pw_below_drewN | apply below_drew1) | exact HB.out)⟩⟩
           ·rw [if_neg c65] at H
            have c65b0 : decide (0 ≤ x15_2) = false := decide_eq_false c65
            clear c65
            have H' := Aside0.mk H
            clear H
            obtain ⟨Ao71, co71, eo71⟩ := Kd.R_slice HO_10.out
            subst eo71
            go_wp2
            repeat (go_quiet (fail); try go_wp2)
            go_meet
            case rel => exact ⟨_, (false), (by first | rfl | (simp; done) | (simp [*]; done)), H', ⟨by have := HJ10.out; have := HK2.out; first | omega | exact Nat.le_refl _⟩, ⟨by (with_reducible repeat (first | apply Kd.R_alloc | apply Kd.R_drewN | apply Kd.R_drew)); exact HO_5.out⟩, ⟨by repeat (first | (with_reducible first | exact HB.out | apply below_alloc | apply pw_below_drewN | apply below_drew1) | exact HB.out)⟩⟩
         ·rw [if_neg c54] at H
          have c54b0 : (x14_2 == (t325.length : Int)) = false := beq_eq_false_iff_ne.mpr c54
          have c54b1 : (x14_2 != (t325.length : Int)) = true := bne_iff_ne.mpr c54
          (first | rw [c54b0] | (simp only [i64_w, i32_w]; rw [c54b0]) | skip)
          have H' := Aside0.mk H
          clear H
          obtain ⟨Ao72, co72, eo72⟩ := Kd.R_slice HO_10.out
          subst eo72
          go_wp2
          repeat (go_quiet (fail); try go_wp2)
          go_meet
          case rel => exact ⟨_, (true), (by first | rfl | (simp; done) | (simp [*]; done)), H', ⟨by have := HJ10.out; have := HK2.out; first | omega | exact Nat.le_refl _⟩, ⟨by (with_reducible repeat (first | apply Kd.R_alloc | apply Kd.R_drewN | apply Kd.R_drew)); exact HO_5.out⟩, ⟨by repeat (first | (with_reducible first | exact HB.out | apply below_alloc | apply pw_below_drewN | apply below_drew1) | exact HB.out)⟩⟩
        case rest => as_aux_lemma =>
         clear HC53
         (try clear c1);(try clear c2);(try clear p2);(try clear c3);(try clear p3);(try clear q3);(try clear hx3);(try clear c4);(try clear c5);(try clear c6);(try clear p6);(try clear c9);(try clear c17);(try clear c17b0);(try clear c17b1);(try clear c18);(try clear c18b0);(try clear c18b1);(try clear c18b2);(try clear c21);(try clear c22);(try clear c22b0);(try clear c23);(try clear c23b0);(try clear c24)
         (try clear c24b0);(try clear c25);(try clear c25b0);(try clear c26);(try clear c26b0);(try clear c27);(try clear c27b0);(try clear c28);(try clear c28b0);(try clear c29);(try clear c29b0);(try clear c29b1);(try clear c30);(try clear c30b0);(try clear c32);(try clear c32b0);(try clear c33);(try clear c33b0);(try clear c33b1);(try clear p33);(try clear q33);(try clear hx33);(try clear c34);(try clear c34b0)
         (try clear c34b1);(try clear p34);(try clear q34);(try clear hx34);(try clear c35);(try clear c35b0);(try clear c36);(try clear c36b0);(try clear c37);(try clear c37b0);(try clear c37b1);(try clear c40);(try clear c40b0);(try clear c41);(try clear c41b0);(try clear c42);(try clear c43);(try clear c43b0);(try clear c45);(try clear c45b0);(try clear c46);(try clear c46b0);(try clear c47);(try clear c47b0)
         (try clear c48);(try clear c48b0);(try clear c49);(try clear c49b0);(try clear c49b1);(try clear c54);(try clear c54b0);(try clear c54b1);(try clear c55);(try clear c55b0);(try clear c56);(try clear c56b0);(try clear c56b1);(try clear c57);(try clear c57b0);(try clear c58);(try clear c58b0);(try clear c58b1);(try clear c59);(try clear c59b0);(try clear c60);(try clear c60b0);(try clear p64)
         (try clear c65);(try clear c65b0);(try clear c66);(try clear c66b0);(try clear c66b1);(try clear c67);(try clear c67b0);(try clear c68);(try clear c68b0);(try clear hx331_0);(try clear hx331_1);(try clear hx331_2);(try clear hx331_3);(try clear hx331_4);(try clear hx332_0);(try clear hx332_1);(try clear hx332_2);(try clear hx332_3);(try clear hx332_4);(try clear hx333_0);(try clear hx333_1)
         (try clear hx333_2);(try clear hx333_3);(try clear hx333_4);(try clear hx334_0);(try clear hx334_1);(try clear hx334_2);(try clear hx334_3);(try clear hx334_4);(try clear hx335_0);(try clear hx335_1);(try clear hx335_2);(try clear hx335_3);(try clear hx335_4);(try clear hx336_0);(try clear hx336_1);(try clear hx336_2);(try clear hx336_3);(try clear hx336_4);(try clear hx337_0);(try clear hx337_1)
         (try clear hx337_2);(try clear hx337_3);(try clear hx337_4);(try clear hx338_0);(try clear hx338_1);(try clear hx338_2);(try clear hx338_3);(try clear hx338_4);(try clear hx339_0);(try clear hx339_1);(try clear hx339_2);(try clear hx339_3);(try clear hx339_4);(try clear hx340_0);(try clear hx340_1);(try clear hx340_2);(try clear hx340_3);(try clear hx340_4);(try clear hx341_0);(try clear hx342_0)
         (try clear hx343_0);(try clear hx343_1);(try clear hx343_2);(try clear hx343_3);(try clear hx343_4);(try clear hx344_0);(try clear hx345_0);(try clear hx345_1);(try clear hx345_2);(try clear hx345_3);(try clear hx345_4);(try clear hx346_0);(try clear hx346_1);(try clear hx346_2);(try clear hx346_3);(try clear hx346_4);(try clear hx347_0);(try clear hx347_1);(try clear hx347_2);(try clear hx347_3)
         (try clear hx347_4);(try clear p2);(try clear p3);(try clear p33);(try clear p331);(try clear p332);(try clear p333);(try clear p334);(try clear p335);(try clear p336);(try clear p337);(try clear p338);(try clear p339);(try clear p34);(try clear p340);(try clear p341);(try clear p342);(try clear p343);(try clear p344);(try clear p345);(try clear p346);(try clear p347);(try clear p6);(try clear q3)
         (try clear q33);(try clear q331);(try clear q332);(try clear q333);(try clear q334);(try clear q335);(try clear q336);(try clear q337);(try clear q338);(try clear q339);(try clear q34);(try clear q340);(try clear q341);(try clear q342);(try clear q343);(try clear q344);(try clear q345);(try clear q346);(try clear q347)
         obtain ⟨kq, x216_52, rfl, HA, HJ52, HO_5, HB⟩ := hcut
         cases kq with
         | zero => exact absurd HA.out (by simp [laws_FnLoftDays.j5])
         | succ kj52 =>
          have H := HA.out
          clear HA
          simp only [laws_FnLoftDays.j5] at H
          by_cases c73 : x216_52 = true
          ·subst c73
           have H1 : (some false) = some r := by rw [if_pos rfl] at H; exact H
           clear H
           have H := H1
           clear H1
           obtain rfl := Option.some.inj H
           go_wp2
           repeat (go_quiet (fail); try go_wp2)
           go_ret
           exact ⟨by first | rfl | (simp [errW_none, errW_some] <;> rfl) | (simp [*, errW_none, errW_some] <;> rfl), by repeat (first | (with_reducible first | exact HB.out | apply below_alloc | apply pw_below_drewN | apply below_drew1) | exact HB.out)⟩
          ·replace c73 := Bool.eq_false_iff.mpr c73
           subst c73
           have H1 : ((impl_HoursEachDay.f kj52 t316 t319).bind fun bt348 => (if bt348.2 = 0 then (if bt348.1 < 1 then (laws_FnLoftDays.j6 kj52 t316 t319 bt348.1 true) else (laws_FnLoftDays.j6 kj52 t316 t319 bt348.1 (decide (bt348.1 > 500)))) else ((spec_LateOrders.f kj52 t316 t319 500).bind fun bt350 => (if bt348.2 = 3 then (if bt350.2 = 0 then (some (decide ((bt350.1.length : Int) > 0))) else (some false)) else (some false))))) = some r := by rw [if_neg (show ¬ (false = true) by decide)] at H; exact H
           clear H
           have H := H1
           clear H1
           replace H := Option.bind_eq_some_iff.mp H
           obtain ⟨⟨t348, t349⟩, A740, H⟩ := H
           replace H : (if t349 = 0 then (if t348 < 1 then (laws_FnLoftDays.j6 kj52 t316 t319 t348 true) else (laws_FnLoftDays.j6 kj52 t316 t319 t348 (decide (t348 > 500)))) else ((spec_LateOrders.f kj52 t316 t319 500).bind fun bt350 => (if t349 = 3 then (if bt350.2 = 0 then (some (decide ((bt350.1.length : Int) > 0))) else (some false)) else (some false)))) = some r := H
           have A74 := Aside0.mk A740
           clear A740
           by_cases c75 : t349 = 0
           ·rw [if_pos c75] at H
            have c75b0 : (t349 == 0) = true := beq_iff_eq.mpr c75
            have c75b1 : (t349 != 0) = false := bne_eq_false_iff_eq.mpr c75
            clear c75
            have HC76 := Aside0.mk H
            clear H
            go_upto_region 40 with (first | (go_at_call 32; (with_reducible refine (impl_HoursEachDay.calls kj52 _ _ t316 t319 t348 t349 _ ?side1 ?side2 A74.out).mono ?_); (case side1 => repeat (first | exact (Kd.R_reads' HO_5.out).2.2 | (with_reducible refine Kd.C_alloc ?_ _) | (with_reducible refine Kd.C_drewN ?_ _) | (with_reducible refine Kd.C_drew ?_))); (case side2 => exact (Kd.R_reads' HO_5.out).2.1); rintro e w77 ⟨rfl, hb⟩; have n0_ := Aside0.mk (Kd.R_below (by (with_reducible repeat (first | apply Kd.R_alloc | apply Kd.R_drewN | apply Kd.R_drew)); exact HO_5.out) hb); have n1_ := Aside0.mk (below_step (by repeat (first | (with_reducible first | exact HB.out | apply below_alloc | apply pw_below_drewN | apply below_drew1) | exact HB.out)) hb); clear HO_5; clear HB; have HO_5 := n0_; have HB := n1_; clear n0_ n1_; (try clear hb); (try clear hb2); (try clear hk); (try clear hi)))
            repeat (go_quiet (first | (go_at_call 32; (with_reducible refine (impl_HoursEachDay.calls kj52 _ _ t316 t319 t348 t349 _ ?side1 ?side2 A74.out).mono ?_); (case side1 => repeat (first | exact (Kd.R_reads' HO_5.out).2.2 | (with_reducible refine Kd.C_alloc ?_ _) | (with_reducible refine Kd.C_drewN ?_ _) | (with_reducible refine Kd.C_drew ?_))); (case side2 => exact (Kd.R_reads' HO_5.out).2.1); rintro e w77 ⟨rfl, hb⟩; have n0_ := Aside0.mk (Kd.R_below (by (with_reducible repeat (first | apply Kd.R_alloc | apply Kd.R_drewN | apply Kd.R_drew)); exact HO_5.out) hb); have n1_ := Aside0.mk (below_step (by repeat (first | (with_reducible first | exact HB.out | apply below_alloc | apply pw_below_drewN | apply below_drew1) | exact HB.out)) hb); clear HO_5; clear HB; have HO_5 := n0_; have HB := n1_; clear n0_ n1_; (try clear hb); (try clear hb2); (try clear hk); (try clear hi))); go_upto_region 40 with (first | (go_at_call 32; (with_reducible refine (impl_HoursEachDay.calls kj52 _ _ t316 t319 t348 t349 _ ?side1 ?side2 A74.out).mono ?_); (case side1 => repeat (first | exact (Kd.R_reads' HO_5.out).2.2 | (with_reducible refine Kd.C_alloc ?_ _) | (with_reducible refine Kd.C_drewN ?_ _) | (with_reducible refine Kd.C_drew ?_))); (case side2 => exact (Kd.R_reads' HO_5.out).2.1); rintro e w77 ⟨rfl, hb⟩; have n0_ := Aside0.mk (Kd.R_below (by (with_reducible repeat (first | apply Kd.R_alloc | apply Kd.R_drewN | apply Kd.R_drew)); exact HO_5.out) hb); have n1_ := Aside0.mk (below_step (by repeat (first | (with_reducible first | exact HB.out | apply below_alloc | apply pw_below_drewN | apply below_drew1) | exact HB.out)) hb); clear HO_5; clear HB; have HO_5 := n0_; have HB := n1_; clear n0_ n1_; (try clear hb); (try clear hb2); (try clear hk); (try clear hi))))
            (try simp only [Act.put, List.setIfInBounds_toArray, List.set_cons_zero, List.set_cons_succ])
            go_cut [247] (fun v247 wc => ∃ (kq : Nat) (x247_75 : Bool), v247 = .bool x247_75 ∧ Aside0 (laws_FnLoftDays.j6 kq t316 t319 t348 x247_75 = some r) ∧ Aside0 (kq ≤ kj52) ∧ Aside0 (Kd.R k49 49 wc w.heap.size (fun _ => True) (.slice Ao13 t316.length co13) t316) ∧ Aside0 (Below w.heap.size w wc))
            case first => as_aux_lemma =>
             have H := HC76.out
             clear HC76
             by_cases c78 : t348 < 1
             ·rw [if_pos c78] at H
              have c78b0 : decide (t348 < 1) = true := decide_eq_true c78
              clear c78
              (first | rw [c78b0] | (simp only [i64_w, i32_w]; rw [c78b0]) | skip)
              have H' := Aside0.mk H
              clear H
              go_wp2
              repeat (go_quiet (fail); try go_wp2)
              go_meet
              case rel => exact ⟨_, (true), (by first | rfl | (simp; done) | (simp [*]; done)), H', ⟨by have := HJ10.out; have := HK2.out; have := HJ52.out; first | omega | exact Nat.le_refl _⟩, ⟨by (with_reducible repeat (first | apply Kd.R_alloc | apply Kd.R_drewN | apply Kd.R_drew)); exact HO_5.out⟩, ⟨by repeat (first | (with_reducible first | exact HB.out | apply below_alloc | apply pw_below_drewN | apply below_drew1) | exact HB.out)⟩⟩
             ·rw [if_neg c78] at H
              have c78b0 : decide (t348 < 1) = false := decide_eq_false c78
              clear c78
              (first | rw [c78b0] | (simp only [i64_w, i32_w]; rw [c78b0]) | skip)
              have H' := Aside0.mk H
              clear H
              go_wp2
              repeat (go_quiet (fail); try go_wp2)
              go_meet
              case rel => exact ⟨_, (decide (t348 > 500)), (by first | rfl | (simp; done) | (simp [*]; done)), H', ⟨by have := HJ10.out; have := HK2.out; have := HJ52.out; first | omega | exact Nat.le_refl _⟩, ⟨by (with_reducible repeat (first | apply Kd.R_alloc | apply Kd.R_drewN | apply Kd.R_drew)); exact HO_5.out⟩, ⟨by repeat (first | (with_reducible first | exact HB.out | apply below_alloc | apply pw_below_drewN | apply below_drew1) | exact HB.out)⟩⟩
            case rest => as_aux_lemma =>
             clear HC76
             (try clear c1);(try clear c2);(try clear p2);(try clear c3);(try clear p3);(try clear q3);(try clear hx3);(try clear c4);(try clear c5);(try clear c6);(try clear p6);(try clear c7);(try clear c9);(try clear c17);(try clear c17b0);(try clear c17b1);(try clear c18);(try clear c18b0);(try clear c18b1);(try clear c18b2);(try clear c21);(try clear c22);(try clear c22b0);(try clear c23);(try clear c23b0)
             (try clear c24);(try clear c24b0);(try clear c25);(try clear c25b0);(try clear c26);(try clear c26b0);(try clear c27);(try clear c27b0);(try clear c28);(try clear c28b0);(try clear c29);(try clear c29b0);(try clear c29b1);(try clear c30);(try clear c30b0);(try clear c32);(try clear c32b0);(try clear c33);(try clear c33b0);(try clear c33b1);(try clear p33);(try clear q33);(try clear hx33)
             (try clear c34);(try clear c34b0);(try clear c34b1);(try clear p34);(try clear q34);(try clear hx34);(try clear c35);(try clear c35b0);(try clear c36);(try clear c36b0);(try clear c37);(try clear c37b0);(try clear c37b1);(try clear c40);(try clear c40b0);(try clear c41);(try clear c41b0);(try clear c42);(try clear c43);(try clear c43b0);(try clear c45);(try clear c45b0);(try clear c46)
             (try clear c46b0);(try clear c47);(try clear c47b0);(try clear c48);(try clear c48b0);(try clear c49);(try clear c49b0);(try clear c49b1);(try clear c54);(try clear c54b0);(try clear c54b1);(try clear c55);(try clear c55b0);(try clear c56);(try clear c56b0);(try clear c56b1);(try clear c57);(try clear c57b0);(try clear c58);(try clear c58b0);(try clear c58b1);(try clear c59);(try clear c59b0)
             (try clear c60);(try clear c60b0);(try clear p64);(try clear c65);(try clear c65b0);(try clear c66);(try clear c66b0);(try clear c66b1);(try clear c67);(try clear c67b0);(try clear c68);(try clear c68b0);(try clear c73);(try clear c75);(try clear c75b0);(try clear c75b1);(try clear c78);(try clear c78b0);(try clear hx331_0);(try clear hx331_1);(try clear hx331_2);(try clear hx331_3);(try clear hx331_4)
             (try clear hx332_0);(try clear hx332_1);(try clear hx332_2);(try clear hx332_3);(try clear hx332_4);(try clear hx333_0);(try clear hx333_1);(try clear hx333_2);(try clear hx333_3);(try clear hx333_4);(try clear hx334_0);(try clear hx334_1);(try clear hx334_2);(try clear hx334_3);(try clear hx334_4);(try clear hx335_0);(try clear hx335_1);(try clear hx335_2);(try clear hx335_3);(try clear hx335_4)
             (try clear hx336_0);(try clear hx336_1);(try clear hx336_2);(try clear hx336_3);(try clear hx336_4);(try clear hx337_0);(try clear hx337_1);(try clear hx337_2);(try clear hx337_3);(try clear hx337_4);(try clear hx338_0);(try clear hx338_1);(try clear hx338_2);(try clear hx338_3);(try clear hx338_4);(try clear hx339_0);(try clear hx339_1);(try clear hx339_2);(try clear hx339_3);(try clear hx339_4)
             (try clear hx340_0);(try clear hx340_1);(try clear hx340_2);(try clear hx340_3);(try clear hx340_4);(try clear hx341_0);(try clear hx342_0);(try clear hx343_0);(try clear hx343_1);(try clear hx343_2);(try clear hx343_3);(try clear hx343_4);(try clear hx344_0);(try clear hx345_0);(try clear hx345_1);(try clear hx345_2);(try clear hx345_3);(try clear hx345_4);(try clear hx346_0);(try clear hx346_1)
             (try clear hx346_2);(try clear hx346_3);(try clear hx346_4);(try clear hx347_0);(try clear hx347_1);(try clear hx347_2);(try clear hx347_3);(try clear hx347_4);(try clear p2);(try clear p3);(try clear p33);(try clear p331);(try clear p332);(try clear p333);(try clear p334);(try clear p335);(try clear p336);(try clear p337);(try clear p338);(try clear p339);(try clear p34);(try clear p340)
             (try clear p341);(try clear p342);(try clear p343);(try clear p344);(try clear p345);(try clear p346);(try clear p347);(try clear p6);(try clear p64);(try clear q3);(try clear q33);(try clear q331);(try clear q332);(try clear q333);(try clear q334);(try clear q335);(try clear q336);(try clear q337);(try clear q338);(try clear q339);(try clear q34);(try clear q340);(try clear q341);(try clear q342)
             (try clear q343);(try clear q344);(try clear q345);(try clear q346);(try clear q347)
             obtain ⟨kq, x247_75, rfl, HA, HJ75, HO_5, HB⟩ := hcut
             cases kq with
             | zero => exact absurd HA.out (by simp [laws_FnLoftDays.j6])
             | succ kj75 =>
              have H := HA.out
              clear HA
              simp only [laws_FnLoftDays.j6] at H
              by_cases c79 : x247_75 = true
              ·subst c79
               have H1 : (some false) = some r := by rw [if_pos rfl] at H; exact H
               clear H
               have H := H1
               clear H1
               obtain rfl := Option.some.inj H
               go_wp2
               repeat (go_quiet (fail); try go_wp2)
               go_ret
               exact ⟨by first | rfl | (simp [errW_none, errW_some] <;> rfl) | (simp [*, errW_none, errW_some] <;> rfl), by repeat (first | (with_reducible first | exact HB.out | apply below_alloc | apply pw_below_drewN | apply below_drew1) | exact HB.out)⟩
              ·replace c79 := Bool.eq_false_iff.mpr c79
               subst c79
               have H1 : ((spec_LateOrders.f kj75 t316 t319 t348).bind fun bt354 => (if bt354.2 = 0 then (laws_FnLoftDays.j7 kj75 t316 t319 t348 ((bt354.1.length : Int) != 0)) else (laws_FnLoftDays.j7 kj75 t316 t319 t348 true))) = some r := by rw [if_neg (show ¬ (false = true) by decide)] at H; exact H
               clear H
               have H := H1
               clear H1
               replace H := Option.bind_eq_some_iff.mp H
               obtain ⟨⟨t354, t355⟩, A800, H⟩ := H
               replace H : (if t355 = 0 then (laws_FnLoftDays.j7 kj75 t316 t319 t348 ((t354.length : Int) != 0)) else (laws_FnLoftDays.j7 kj75 t316 t319 t348 true)) = some r := H
               have A80 := Aside0.mk A800
               clear A800
               have HC81 := Aside0.mk H
               clear H
               go_upto_region 43 with (first | (go_at_call 38; (with_reducible refine (spec_LateOrders.calls kj75 _ _ t316 t319 t348 t354 t355 _ ?side1 ?side2 A80.out).mono ?_); (case side1 => repeat (first | exact (Kd.R_reads' HO_5.out).2.2 | (with_reducible refine Kd.C_alloc ?_ _) | (with_reducible refine Kd.C_drewN ?_ _) | (with_reducible refine Kd.C_drew ?_))); (case side2 => exact (Kd.R_reads' HO_5.out).2.1); rintro e w82 ⟨v356, rfl, ho0, hb⟩; have n0_ := Aside0.mk (Kd.R_below (by (with_reducible repeat (first | apply Kd.R_alloc | apply Kd.R_drewN | apply Kd.R_drew)); exact HO_5.out) hb); have n1_ := Aside0.mk (Kd.R_lower ho0 (below_size (by repeat (first | (with_reducible first | exact HB.out | apply below_alloc | apply pw_below_drewN | apply below_drew1) | exact HB.out)))); have n2_ := Aside0.mk (below_step (by repeat (first | (with_reducible first | exact HB.out | apply below_alloc | apply pw_below_drewN | apply below_drew1) | exact HB.out)) hb); clear HO_5; clear HB; have HO_5 := n0_; have HO357 := n1_; have HB := n2_; clear n0_ n1_ n2_; (try clear hb); (try clear hb2); (try clear hk); (try clear hi); (try clear ho0)))
               repeat (go_quiet (first | (go_at_call 38; (with_reducible refine (spec_LateOrders.calls kj75 _ _ t316 t319 t348 t354 t355 _ ?side1 ?side2 A80.out).mono ?_); (case side1 => repeat (first | exact (Kd.R_reads' HO_5.out).2.2 | (with_reducible refine Kd.C_alloc ?_ _) | (with_reducible refine Kd.C_drewN ?_ _) | (with_reducible refine Kd.C_drew ?_))); (case side2 => exact (Kd.R_reads' HO_5.out).2.1); rintro e w82 ⟨v356, rfl, ho0, hb⟩; have n0_ := Aside0.mk (Kd.R_below (by (with_reducible repeat (first | apply Kd.R_alloc | apply Kd.R_drewN | apply Kd.R_drew)); exact HO_5.out) hb); have n1_ := Aside0.mk (Kd.R_lower ho0 (below_size (by repeat (first | (with_reducible first | exact HB.out | apply below_alloc | apply pw_below_drewN | apply below_drew1) | exact HB.out)))); have n2_ := Aside0.mk (below_step (by repeat (first | (with_reducible first | exact HB.out | apply below_alloc | apply pw_below_drewN | apply below_drew1) | exact HB.out)) hb); clear HO_5; clear HB; have HO_5 := n0_; have HO357 := n1_; have HB := n2_; clear n0_ n1_ n2_; (try clear hb); (try clear hb2); (try clear hk); (try clear hi); (try clear ho0))); go_upto_region 43 with (first | (go_at_call 38; (with_reducible refine (spec_LateOrders.calls kj75 _ _ t316 t319 t348 t354 t355 _ ?side1 ?side2 A80.out).mono ?_); (case side1 => repeat (first | exact (Kd.R_reads' HO_5.out).2.2 | (with_reducible refine Kd.C_alloc ?_ _) | (with_reducible refine Kd.C_drewN ?_ _) | (with_reducible refine Kd.C_drew ?_))); (case side2 => exact (Kd.R_reads' HO_5.out).2.1); rintro e w82 ⟨v356, rfl, ho0, hb⟩; have n0_ := Aside0.mk (Kd.R_below (by (with_reducible repeat (first | apply Kd.R_alloc | apply Kd.R_drewN | apply Kd.R_drew)); exact HO_5.out) hb); have n1_ := Aside0.mk (Kd.R_lower ho0 (below_size (by repeat (first | (with_reducible first | exact HB.out | apply below_alloc | apply pw_below_drewN | apply below_drew1) | exact HB.out)))); have n2_ := Aside0.mk (below_step (by repeat (first | (with_reducible first | exact HB.out | apply below_alloc | apply pw_below_drewN | apply below_drew1) | exact HB.out)) hb); clear HO_5; clear HB; have HO_5 := n0_; have HO357 := n1_; have HB := n2_; clear n0_ n1_ n2_; (try clear hb); (try clear hb2); (try clear hk); (try clear hi); (try clear ho0))))
               (try simp only [Act.put, List.setIfInBounds_toArray, List.set_cons_zero, List.set_cons_succ])
               go_cut [261] (fun v261 wc => ∃ (kq : Nat) (x261_80 : Bool), v261 = .bool x261_80 ∧ Aside0 (laws_FnLoftDays.j7 kq t316 t319 t348 x261_80 = some r) ∧ Aside0 (kq ≤ kj75) ∧ Aside0 (Kd.R k49 49 wc w.heap.size (fun _ => True) (.slice Ao13 t316.length co13) t316) ∧ Aside0 (Below w.heap.size w wc))
               case first => as_aux_lemma =>
                have H := HC81.out
                clear HC81
                by_cases c83 : t355 = 0
                ·rw [if_pos c83] at H
                 have c83b0 : (t355 == 0) = true := beq_iff_eq.mpr c83
                 have c83b1 : (t355 != 0) = false := bne_eq_false_iff_eq.mpr c83
                 clear c83
                 (first | rw [c83b0] | (simp only [i64_w, i32_w]; rw [c83b0]) | skip)
                 have H' := Aside0.mk H
                 clear H
                 obtain ⟨Ao84, co84, eo84⟩ := Kd.R_slice HO357.out
                 subst eo84
                 go_wp2
                 repeat (go_quiet (fail); try go_wp2)
                 go_meet
                 case rel => exact ⟨_, (((t354.length : Int) != 0)), (by first | rfl | (simp; done) | (simp [*]; done)), H', ⟨by have := HJ10.out; have := HK2.out; have := HJ52.out; have := HJ75.out; first | omega | exact Nat.le_refl _⟩, ⟨by (with_reducible repeat (first | apply Kd.R_alloc | apply Kd.R_drewN | apply Kd.R_drew)); exact HO_5.out⟩, ⟨by repeat (first | (with_reducible first | exact HB.out | apply below_alloc | apply pw_below_drewN | apply below_drew1) | exact HB.out)⟩⟩
                ·rw [if_neg c83] at H
                 have c83b0 : (t355 == 0) = false := beq_eq_false_iff_ne.mpr c83
                 have c83b1 : (t355 != 0) = true := bne_iff_ne.mpr c83
                 (first | rw [c83b0] | (simp only [i64_w, i32_w]; rw [c83b0]) | skip)
                 have H' := Aside0.mk H
                 clear H
                 go_wp2
                 repeat (go_quiet (fail); try go_wp2)
                 go_meet
                 case rel => exact ⟨_, (true), (by first | rfl | (simp; done) | (simp [*]; done)), H', ⟨by have := HJ10.out; have := HK2.out; have := HJ52.out; have := HJ75.out; first | omega | exact Nat.le_refl _⟩, ⟨by (with_reducible repeat (first | apply Kd.R_alloc | apply Kd.R_drewN | apply Kd.R_drew)); exact HO_5.out⟩, ⟨by repeat (first | (with_reducible first | exact HB.out | apply below_alloc | apply pw_below_drewN | apply below_drew1) | exact HB.out)⟩⟩
               case rest => as_aux_lemma =>
                clear HC81
                (try clear c1);(try clear c2);(try clear p2);(try clear c3);(try clear p3);(try clear q3);(try clear hx3);(try clear c4);(try clear c5);(try clear c6);(try clear p6);(try clear c7);(try clear c8);(try clear c9);(try clear c17);(try clear c17b0);(try clear c17b1);(try clear c18);(try clear c18b0);(try clear c18b1);(try clear c18b2);(try clear c21);(try clear c22);(try clear c22b0);(try clear c23)
                (try clear c23b0);(try clear c24);(try clear c24b0);(try clear c25);(try clear c25b0);(try clear c26);(try clear c26b0);(try clear c27);(try clear c27b0);(try clear c28);(try clear c28b0);(try clear c29);(try clear c29b0);(try clear c29b1);(try clear c30);(try clear c30b0);(try clear c32);(try clear c32b0);(try clear c33);(try clear c33b0);(try clear c33b1);(try clear p33);(try clear q33)
                (try clear hx33);(try clear c34);(try clear c34b0);(try clear c34b1);(try clear p34);(try clear q34);(try clear hx34);(try clear c35);(try clear c35b0);(try clear c36);(try clear c36b0);(try clear c37);(try clear c37b0);(try clear c37b1);(try clear c40);(try clear c40b0);(try clear c41);(try clear c41b0);(try clear c42);(try clear c43);(try clear c43b0);(try clear c45);(try clear c45b0)
                (try clear c46);(try clear c46b0);(try clear c47);(try clear c47b0);(try clear c48);(try clear c48b0);(try clear c49);(try clear c49b0);(try clear c49b1);(try clear c54);(try clear c54b0);(try clear c54b1);(try clear c55);(try clear c55b0);(try clear c56);(try clear c56b0);(try clear c56b1);(try clear c57);(try clear c57b0);(try clear c58);(try clear c58b0);(try clear c58b1);(try clear c59)
                (try clear c59b0);(try clear c60);(try clear c60b0);(try clear p64);(try clear c65);(try clear c65b0);(try clear c66);(try clear c66b0);(try clear c66b1);(try clear c67);(try clear c67b0);(try clear c68);(try clear c68b0);(try clear c73);(try clear c75);(try clear c75b0);(try clear c75b1);(try clear c78);(try clear c78b0);(try clear c79);(try clear c83);(try clear c83b0);(try clear c83b1)
                (try clear hx331_0);(try clear hx331_1);(try clear hx331_2);(try clear hx331_3);(try clear hx331_4);(try clear hx332_0);(try clear hx332_1);(try clear hx332_2);(try clear hx332_3);(try clear hx332_4);(try clear hx333_0);(try clear hx333_1);(try clear hx333_2);(try clear hx333_3);(try clear hx333_4);(try clear hx334_0);(try clear hx334_1);(try clear hx334_2);(try clear hx334_3);(try clear hx334_4)
                (try clear hx335_0);(try clear hx335_1);(try clear hx335_2);(try clear hx335_3);(try clear hx335_4);(try clear hx336_0);(try clear hx336_1);(try clear hx336_2);(try clear hx336_3);(try clear hx336_4);(try clear hx337_0);(try clear hx337_1);(try clear hx337_2);(try clear hx337_3);(try clear hx337_4);(try clear hx338_0);(try clear hx338_1);(try clear hx338_2);(try clear hx338_3);(try clear hx338_4)
                (try clear hx339_0);(try clear hx339_1);(try clear hx339_2);(try clear hx339_3);(try clear hx339_4);(try clear hx340_0);(try clear hx340_1);(try clear hx340_2);(try clear hx340_3);(try clear hx340_4);(try clear hx341_0);(try clear hx342_0);(try clear hx343_0);(try clear hx343_1);(try clear hx343_2);(try clear hx343_3);(try clear hx343_4);(try clear hx344_0);(try clear hx345_0);(try clear hx345_1)
                (try clear hx345_2);(try clear hx345_3);(try clear hx345_4);(try clear hx346_0);(try clear hx346_1);(try clear hx346_2);(try clear hx346_3);(try clear hx346_4);(try clear hx347_0);(try clear hx347_1);(try clear hx347_2);(try clear hx347_3);(try clear hx347_4);(try clear p2);(try clear p3);(try clear p33);(try clear p331);(try clear p332);(try clear p333);(try clear p334);(try clear p335)
                (try clear p336);(try clear p337);(try clear p338);(try clear p339);(try clear p34);(try clear p340);(try clear p341);(try clear p342);(try clear p343);(try clear p344);(try clear p345);(try clear p346);(try clear p347);(try clear p6);(try clear p64);(try clear q3);(try clear q33);(try clear q331);(try clear q332);(try clear q333);(try clear q334);(try clear q335);(try clear q336);(try clear q337)
                (try clear q338);(try clear q339);(try clear q34);(try clear q340);(try clear q341);(try clear q342);(try clear q343);(try clear q344);(try clear q345);(try clear q346);(try clear q347)
                obtain ⟨kq, x261_80, rfl, HA, HJ80, HO_5, HB⟩ := hcut
                cases kq with
                | zero => exact absurd HA.out (by simp [laws_FnLoftDays.j7])
                | succ kj80 =>
                 have H := HA.out
                 clear HA
                 simp only [laws_FnLoftDays.j7] at H
                 by_cases c85 : x261_80 = true
                 ·subst c85
                  have H1 : (some false) = some r := by rw [if_pos rfl] at H; exact H
                  clear H
                  have H := H1
                  clear H1
                  obtain rfl := Option.some.inj H
                  go_wp2
                  repeat (go_quiet (fail); try go_wp2)
                  go_ret
                  exact ⟨by first | rfl | (simp [errW_none, errW_some] <;> rfl) | (simp [*, errW_none, errW_some] <;> rfl), by repeat (first | (with_reducible first | exact HB.out | apply below_alloc | apply pw_below_drewN | apply below_drew1) | exact HB.out)⟩
                 ·replace c85 := Bool.eq_false_iff.mpr c85
                  subst c85
                  have H1 : (if t348 = 1 then (some true) else ((spec_LateOrders.f kj80 t316 t319 (wrap64 (t348 - 1))).bind fun bt358 => (if bt358.2 = 0 then (some (decide ((bt358.1.length : Int) > 0))) else (some false)))) = some r := by rw [if_neg (show ¬ (false = true) by decide)] at H; exact H
                  clear H
                  have H := H1
                  clear H1
                  by_cases c86 : t348 = 1
                  ·rw [if_pos c86] at H
                   have c86b0 : (t348 == 1) = true := beq_iff_eq.mpr c86
                   have c86b1 : (t348 != 1) = false := bne_eq_false_iff_eq.mpr c86
                   clear c86
                   obtain rfl := Option.some.inj H
                   go_wp2
                   repeat (go_quiet (fail); try go_wp2)
                   go_ret
                   exact ⟨by first | rfl | (simp [errW_none, errW_some] <;> rfl) | (simp [*, errW_none, errW_some] <;> rfl), by repeat (first | (with_reducible first | exact HB.out | apply below_alloc | apply pw_below_drewN | apply below_drew1) | exact HB.out)⟩
                  ·rw [if_neg c86] at H
                   have c86b0 : (t348 == 1) = false := beq_eq_false_iff_ne.mpr c86
                   have c86b1 : (t348 != 1) = true := bne_iff_ne.mpr c86
                   replace H := Option.bind_eq_some_iff.mp H
                   obtain ⟨⟨t358, t359⟩, A870, H⟩ := H
                   replace H : (if t359 = 0 then (some (decide ((t358.length : Int) > 0))) else (some false)) = some r := H
                   have A87 := Aside0.mk A870
                   clear A870
                   by_cases c88 : t359 = 0
                   ·rw [if_pos c88] at H
                    have c88b0 : (t359 == 0) = true := beq_iff_eq.mpr c88
                    have c88b1 : (t359 != 0) = false := bne_eq_false_iff_eq.mpr c88
                    clear c88
                    obtain rfl := Option.some.inj H
                    go_wp2_with (first | (go_at_call 38; (with_reducible refine (spec_LateOrders.calls kj80 _ _ t316 t319 (wrap64 (t348 - 1)) t358 t359 _ ?side1 ?side2 A87.out).mono ?_); (case side1 => repeat (first | exact (Kd.R_reads' HO_5.out).2.2 | (with_reducible refine Kd.C_alloc ?_ _) | (with_reducible refine Kd.C_drewN ?_ _) | (with_reducible refine Kd.C_drew ?_))); (case side2 => exact (Kd.R_reads' HO_5.out).2.1); rintro e w89 ⟨v360, rfl, ho0, hb⟩; have n0_ := Aside0.mk (Kd.R_below (by (with_reducible repeat (first | apply Kd.R_alloc | apply Kd.R_drewN | apply Kd.R_drew)); exact HO_5.out) hb); have n1_ := Aside0.mk (Kd.R_lower ho0 (below_size (by repeat (first | (with_reducible first | exact HB.out | apply below_alloc | apply pw_below_drewN | apply below_drew1) | exact HB.out)))); have n2_ := Aside0.mk (below_step (by repeat (first | (with_reducible first | exact HB.out | apply below_alloc | apply pw_below_drewN | apply below_drew1) | exact HB.out)) hb); clear HO_5; clear HB; have HO_5 := n0_; have HO361 := n1_; have HB := n2_; clear n0_ n1_ n2_; (try clear hb); (try clear hb2); (try clear hk); (try clear hi); (try clear ho0); obtain ⟨Ao90, co90, eo90⟩ := Kd.R_slice HO361.out; subst eo90))
                    repeat (go_quiet (first | (go_at_call 38; (with_reducible refine (spec_LateOrders.calls kj80 _ _ t316 t319 (wrap64 (t348 - 1)) t358 t359 _ ?side1 ?side2 A87.out).mono ?_); (case side1 => repeat (first | exact (Kd.R_reads' HO_5.out).2.2 | (with_reducible refine Kd.C_alloc ?_ _) | (with_reducible refine Kd.C_drewN ?_ _) | (with_reducible refine Kd.C_drew ?_))); (case side2 => exact (Kd.R_reads' HO_5.out).2.1); rintro e w89 ⟨v360, rfl, ho0, hb⟩; have n0_ := Aside0.mk (Kd.R_below (by (with_reducible repeat (first | apply Kd.R_alloc | apply Kd.R_drewN | apply Kd.R_drew)); exact HO_5.out) hb); have n1_ := Aside0.mk (Kd.R_lower ho0 (below_size (by repeat (first | (with_reducible first | exact HB.out | apply below_alloc | apply pw_below_drewN | apply below_drew1) | exact HB.out)))); have n2_ := Aside0.mk (below_step (by repeat (first | (with_reducible first | exact HB.out | apply below_alloc | apply pw_below_drewN | apply below_drew1) | exact HB.out)) hb); clear HO_5; clear HB; have HO_5 := n0_; have HO361 := n1_; have HB := n2_; clear n0_ n1_ n2_; (try clear hb); (try clear hb2); (try clear hk); (try clear hi); (try clear ho0); obtain ⟨Ao90, co90, eo90⟩ := Kd.R_slice HO361.out; subst eo90)); try go_wp2_with (first | (go_at_call 38; (with_reducible refine (spec_LateOrders.calls kj80 _ _ t316 t319 (wrap64 (t348 - 1)) t358 t359 _ ?side1 ?side2 A87.out).mono ?_); (case side1 => repeat (first | exact (Kd.R_reads' HO_5.out).2.2 | (with_reducible refine Kd.C_alloc ?_ _) | (with_reducible refine Kd.C_drewN ?_ _) | (with_reducible refine Kd.C_drew ?_))); (case side2 => exact (Kd.R_reads' HO_5.out).2.1); rintro e w89 ⟨v360, rfl, ho0, hb⟩; have n0_ := Aside0.mk (Kd.R_below (by (with_reducible repeat (first | apply Kd.R_alloc | apply Kd.R_drewN | apply Kd.R_drew)); exact HO_5.out) hb); have n1_ := Aside0.mk (Kd.R_lower ho0 (below_size (by repeat (first | (with_reducible first | exact HB.out | apply below_alloc | apply pw_below_drewN | apply below_drew1) | exact HB.out)))); have n2_ := Aside0.mk (below_step (by repeat (first | (with_reducible first | exact HB.out | apply below_alloc | apply pw_below_drewN | apply below_drew1) | exact HB.out)) hb); clear HO_5; clear HB; have HO_5 := n0_; have HO361 := n1_; have HB := n2_; clear n0_ n1_ n2_; (try clear hb); (try clear hb2); (try clear hk); (try clear hi); (try clear ho0); obtain ⟨Ao90, co90, eo90⟩ := Kd.R_slice HO361.out; subst eo90)))
                    go_ret
                    exact ⟨by first | rfl | (simp [errW_none, errW_some] <;> rfl) | (simp [*, errW_none, errW_some] <;> rfl), by repeat (first | (with_reducible first | exact HB.out | apply below_alloc | apply pw_below_drewN | apply below_drew1) | exact HB.out)⟩
                   ·rw [if_neg c88] at H
                    have c88b0 : (t359 == 0) = false := beq_eq_false_iff_ne.mpr c88
                    have c88b1 : (t359 != 0) = true := bne_iff_ne.mpr c88
                    obtain rfl := Option.some.inj H
                    go_wp2_with (first | (go_at_call 38; (with_reducible refine (spec_LateOrders.calls kj80 _ _ t316 t319 (wrap64 (t348 - 1)) t358 t359 _ ?side1 ?side2 A87.out).mono ?_); (case side1 => repeat (first | exact (Kd.R_reads' HO_5.out).2.2 | (with_reducible refine Kd.C_alloc ?_ _) | (with_reducible refine Kd.C_drewN ?_ _) | (with_reducible refine Kd.C_drew ?_))); (case side2 => exact (Kd.R_reads' HO_5.out).2.1); rintro e w91 ⟨v360, rfl, ho0, hb⟩; have n0_ := Aside0.mk (Kd.R_below (by (with_reducible repeat (first | apply Kd.R_alloc | apply Kd.R_drewN | apply Kd.R_drew)); exact HO_5.out) hb); have n1_ := Aside0.mk (Kd.R_lower ho0 (below_size (by repeat (first | (with_reducible first | exact HB.out | apply below_alloc | apply pw_below_drewN | apply below_drew1) | exact HB.out)))); have n2_ := Aside0.mk (below_step (by repeat (first | (with_reducible first | exact HB.out | apply below_alloc | apply pw_below_drewN | apply below_drew1) | exact HB.out)) hb); clear HO_5; clear HB; have HO_5 := n0_; have HO361 := n1_; have HB := n2_; clear n0_ n1_ n2_; (try clear hb); (try clear hb2); (try clear hk); (try clear hi); (try clear ho0)))
                    repeat (go_quiet (first | (go_at_call 38; (with_reducible refine (spec_LateOrders.calls kj80 _ _ t316 t319 (wrap64 (t348 - 1)) t358 t359 _ ?side1 ?side2 A87.out).mono ?_); (case side1 => repeat (first | exact (Kd.R_reads' HO_5.out).2.2 | (with_reducible refine Kd.C_alloc ?_ _) | (with_reducible refine Kd.C_drewN ?_ _) | (with_reducible refine Kd.C_drew ?_))); (case side2 => exact (Kd.R_reads' HO_5.out).2.1); rintro e w91 ⟨v360, rfl, ho0, hb⟩; have n0_ := Aside0.mk (Kd.R_below (by (with_reducible repeat (first | apply Kd.R_alloc | apply Kd.R_drewN | apply Kd.R_drew)); exact HO_5.out) hb); have n1_ := Aside0.mk (Kd.R_lower ho0 (below_size (by repeat (first | (with_reducible first | exact HB.out | apply below_alloc | apply pw_below_drewN | apply below_drew1) | exact HB.out)))); have n2_ := Aside0.mk (below_step (by repeat (first | (with_reducible first | exact HB.out | apply below_alloc | apply pw_below_drewN | apply below_drew1) | exact HB.out)) hb); clear HO_5; clear HB; have HO_5 := n0_; have HO361 := n1_; have HB := n2_; clear n0_ n1_ n2_; (try clear hb); (try clear hb2); (try clear hk); (try clear hi); (try clear ho0))); try go_wp2_with (first | (go_at_call 38; (with_reducible refine (spec_LateOrders.calls kj80 _ _ t316 t319 (wrap64 (t348 - 1)) t358 t359 _ ?side1 ?side2 A87.out).mono ?_); (case side1 => repeat (first | exact (Kd.R_reads' HO_5.out).2.2 | (with_reducible refine Kd.C_alloc ?_ _) | (with_reducible refine Kd.C_drewN ?_ _) | (with_reducible refine Kd.C_drew ?_))); (case side2 => exact (Kd.R_reads' HO_5.out).2.1); rintro e w91 ⟨v360, rfl, ho0, hb⟩; have n0_ := Aside0.mk (Kd.R_below (by (with_reducible repeat (first | apply Kd.R_alloc | apply Kd.R_drewN | apply Kd.R_drew)); exact HO_5.out) hb); have n1_ := Aside0.mk (Kd.R_lower ho0 (below_size (by repeat (first | (with_reducible first | exact HB.out | apply below_alloc | apply pw_below_drewN | apply below_drew1) | exact HB.out)))); have n2_ := Aside0.mk (below_step (by repeat (first | (with_reducible first | exact HB.out | apply below_alloc | apply pw_below_drewN | apply below_drew1) | exact HB.out)) hb); clear HO_5; clear HB; have HO_5 := n0_; have HO361 := n1_; have HB := n2_; clear n0_ n1_ n2_; (try clear hb); (try clear hb2); (try clear hk); (try clear hi); (try clear ho0))))
                    go_ret
                    exact ⟨by first | rfl | (simp [errW_none, errW_some] <;> rfl) | (simp [*, errW_none, errW_some] <;> rfl), by repeat (first | (with_reducible first | exact HB.out | apply below_alloc | apply pw_below_drewN | apply below_drew1) | exact HB.out)⟩
           ·rw [if_neg c75] at H
            have c75b0 : (t349 == 0) = false := beq_eq_false_iff_ne.mpr c75
            have c75b1 : (t349 != 0) = true := bne_iff_ne.mpr c75
            replace H := Option.bind_eq_some_iff.mp H
            obtain ⟨⟨t350, t351⟩, A920, H⟩ := H
            replace H : (if t349 = 3 then (if t351 = 0 then (some (decide ((t350.length : Int) > 0))) else (some false)) else (some false)) = some r := H
            have A92 := Aside0.mk A920
            clear A920
            by_cases c93 : t349 = 3
            ·rw [if_pos c93] at H
             have c93b0 : (t349 == 3) = true := beq_iff_eq.mpr c93
             have c93b1 : (t349 != 3) = false := bne_eq_false_iff_eq.mpr c93
             clear c93
             by_cases c94 : t351 = 0
             ·rw [if_pos c94] at H
              have c94b0 : (t351 == 0) = true := beq_iff_eq.mpr c94
              have c94b1 : (t351 != 0) = false := bne_eq_false_iff_eq.mpr c94
              clear c94
              obtain rfl := Option.some.inj H
              go_wp2_with (first | (go_at_call 32; (with_reducible refine (impl_HoursEachDay.calls kj52 _ _ t316 t319 t348 t349 _ ?side1 ?side2 A74.out).mono ?_); (case side1 => repeat (first | exact (Kd.R_reads' HO_5.out).2.2 | (with_reducible refine Kd.C_alloc ?_ _) | (with_reducible refine Kd.C_drewN ?_ _) | (with_reducible refine Kd.C_drew ?_))); (case side2 => exact (Kd.R_reads' HO_5.out).2.1); rintro e w95 ⟨rfl, hb⟩; have n0_ := Aside0.mk (Kd.R_below (by (with_reducible repeat (first | apply Kd.R_alloc | apply Kd.R_drewN | apply Kd.R_drew)); exact HO_5.out) hb); have n1_ := Aside0.mk (below_step (by repeat (first | (with_reducible first | exact HB.out | apply below_alloc | apply pw_below_drewN | apply below_drew1) | exact HB.out)) hb); clear HO_5; clear HB; have HO_5 := n0_; have HB := n1_; clear n0_ n1_; (try clear hb); (try clear hb2); (try clear hk); (try clear hi)) | (go_at_call 38; (with_reducible refine (spec_LateOrders.calls kj52 _ _ t316 t319 500 t350 t351 _ ?side1 ?side2 A92.out).mono ?_); (case side1 => repeat (first | exact (Kd.R_reads' HO_5.out).2.2 | (with_reducible refine Kd.C_alloc ?_ _) | (with_reducible refine Kd.C_drewN ?_ _) | (with_reducible refine Kd.C_drew ?_))); (case side2 => exact (Kd.R_reads' HO_5.out).2.1); rintro e w96 ⟨v352, rfl, ho0, hb⟩; have n0_ := Aside0.mk (Kd.R_below (by (with_reducible repeat (first | apply Kd.R_alloc | apply Kd.R_drewN | apply Kd.R_drew)); exact HO_5.out) hb); have n1_ := Aside0.mk (Kd.R_lower ho0 (below_size (by repeat (first | (with_reducible first | exact HB.out | apply below_alloc | apply pw_below_drewN | apply below_drew1) | exact HB.out)))); have n2_ := Aside0.mk (below_step (by repeat (first | (with_reducible first | exact HB.out | apply below_alloc | apply pw_below_drewN | apply below_drew1) | exact HB.out)) hb); clear HO_5; clear HB; have HO_5 := n0_; have HO353 := n1_; have HB := n2_; clear n0_ n1_ n2_; (try clear hb); (try clear hb2); (try clear hk); (try clear hi); (try clear ho0); obtain ⟨Ao97, co97, eo97⟩ := Kd.R_slice HO353.out; subst eo97))
              repeat (go_quiet (first | (go_at_call 32; (with_reducible refine (impl_HoursEachDay.calls kj52 _ _ t316 t319 t348 t349 _ ?side1 ?side2 A74.out).mono ?_); (case side1 => repeat (first | exact (Kd.R_reads' HO_5.out).2.2 | (with_reducible refine Kd.C_alloc ?_ _) | (with_reducible refine Kd.C_drewN ?_ _) | (with_reducible refine Kd.C_drew ?_))); (case side2 => exact (Kd.R_reads' HO_5.out).2.1); rintro e w95 ⟨rfl, hb⟩; have n0_ := Aside0.mk (Kd.R_below (by (with_reducible repeat (first | apply Kd.R_alloc | apply Kd.R_drewN | apply Kd.R_drew)); exact HO_5.out) hb); have n1_ := Aside0.mk (below_step (by repeat (first | (with_reducible first | exact HB.out | apply below_alloc | apply pw_below_drewN | apply below_drew1) | exact HB.out)) hb); clear HO_5; clear HB; have HO_5 := n0_; have HB := n1_; clear n0_ n1_; (try clear hb); (try clear hb2); (try clear hk); (try clear hi)) | (go_at_call 38; (with_reducible refine (spec_LateOrders.calls kj52 _ _ t316 t319 500 t350 t351 _ ?side1 ?side2 A92.out).mono ?_); (case side1 => repeat (first | exact (Kd.R_reads' HO_5.out).2.2 | (with_reducible refine Kd.C_alloc ?_ _) | (with_reducible refine Kd.C_drewN ?_ _) | (with_reducible refine Kd.C_drew ?_))); (case side2 => exact (Kd.R_reads' HO_5.out).2.1); rintro e w96 ⟨v352, rfl, ho0, hb⟩; have n0_ := Aside0.mk (Kd.R_below (by (with_reducible repeat (first | apply Kd.R_alloc | apply Kd.R_drewN | apply Kd.R_drew)); exact HO_5.out) hb); have n1_ := Aside0.mk (Kd.R_lower ho0 (below_size (by repeat (first | (with_reducible first | exact HB.out | apply below_alloc | apply pw_below_drewN | apply below_drew1) | exact HB.out)))); have n2_ := Aside0.mk (below_step (by repeat (first | (with_reducible first | exact HB.out | apply below_alloc | apply pw_below_drewN | apply below_drew1) | exact HB.out)) hb); clear HO_5; clear HB; have HO_5 := n0_; have HO353 := n1_; have HB := n2_; clear n0_ n1_ n2_; (try clear hb); (try clear hb2); (try clear hk); (try clear hi); (try clear ho0); obtain ⟨Ao97, co97, eo97⟩ := Kd.R_slice HO353.out; subst eo97)); try go_wp2_with (first | (go_at_call 32; (with_reducible refine (impl_HoursEachDay.calls kj52 _ _ t316 t319 t348 t349 _ ?side1 ?side2 A74.out).mono ?_); (case side1 => repeat (first | exact (Kd.R_reads' HO_5.out).2.2 | (with_reducible refine Kd.C_alloc ?_ _) | (with_reducible refine Kd.C_drewN ?_ _) | (with_reducible refine Kd.C_drew ?_))); (case side2 => exact (Kd.R_reads' HO_5.out).2.1); rintro e w95 ⟨rfl, hb⟩; have n0_ := Aside0.mk (Kd.R_below (by (with_reducible repeat (first | apply Kd.R_alloc | apply Kd.R_drewN | apply Kd.R_drew)); exact HO_5.out) hb); have n1_ := Aside0.mk (below_step (by repeat (first | (with_reducible first | exact HB.out | apply below_alloc | apply pw_below_drewN | apply below_drew1) | exact HB.out)) hb); clear HO_5; clear HB; have HO_5 := n0_; have HB := n1_; clear n0_ n1_; (try clear hb); (try clear hb2); (try clear hk); (try clear hi)) | (go_at_call 38; (with_reducible refine (spec_LateOrders.calls kj52 _ _ t316 t319 500 t350 t351 _ ?side1 ?side2 A92.out).mono ?_); (case side1 => repeat (first | exact (Kd.R_reads' HO_5.out).2.2 | (with_reducible refine Kd.C_alloc ?_ _) | (with_reducible refine Kd.C_drewN ?_ _) | (with_reducible refine Kd.C_drew ?_))); (case side2 => exact (Kd.R_reads' HO_5.out).2.1); rintro e w96 ⟨v352, rfl, ho0, hb⟩; have n0_ := Aside0.mk (Kd.R_below (by (with_reducible repeat (first | apply Kd.R_alloc | apply Kd.R_drewN | apply Kd.R_drew)); exact HO_5.out) hb); have n1_ := Aside0.mk (Kd.R_lower ho0 (below_size (by repeat (first | (with_reducible first | exact HB.out | apply below_alloc | apply pw_below_drewN | apply below_drew1) | exact HB.out)))); have n2_ := Aside0.mk (below_step (by repeat (first | (with_reducible first | exact HB.out | apply below_alloc | apply pw_below_drewN | apply below_drew1) | exact HB.out)) hb); clear HO_5; clear HB; have HO_5 := n0_; have HO353 := n1_; have HB := n2_; clear n0_ n1_ n2_; (try clear hb); (try clear hb2); (try clear hk); (try clear hi); (try clear ho0); obtain ⟨Ao97, co97, eo97⟩ := Kd.R_slice HO353.out; subst eo97)))
              go_ret
              exact ⟨by first | rfl | (simp [errW_none, errW_some] <;> rfl) | (simp [*, errW_none, errW_some] <;> rfl), by repeat (first | (with_reducible first | exact HB.out | apply below_alloc | apply pw_below_drewN | apply below_drew1) | exact HB.out)⟩
             ·rw [if_neg c94] at H
              have c94b0 : (t351 == 0) = false := beq_eq_false_iff_ne.mpr c94
              have c94b1 : (t351 != 0) = true := bne_iff_ne.mpr c94
              obtain rfl := Option.some.inj H
              go_wp2_with (first | (go_at_call 32; (with_reducible refine (impl_HoursEachDay.calls kj52 _ _ t316 t319 t348 t349 _ ?side1 ?side2 A74.out).mono ?_); (case side1 => repeat (first | exact (Kd.R_reads' HO_5.out).2.2 | (with_reducible refine Kd.C_alloc ?_ _) | (with_reducible refine Kd.C_drewN ?_ _) | (with_reducible refine Kd.C_drew ?_))); (case side2 => exact (Kd.R_reads' HO_5.out).2.1); rintro e w98 ⟨rfl, hb⟩; have n0_ := Aside0.mk (Kd.R_below (by (with_reducible repeat (first | apply Kd.R_alloc | apply Kd.R_drewN | apply Kd.R_drew)); exact HO_5.out) hb); have n1_ := Aside0.mk (below_step (by repeat (first | (with_reducible first | exact HB.out | apply below_alloc | apply pw_below_drewN | apply below_drew1) | exact HB.out)) hb); clear HO_5; clear HB; have HO_5 := n0_; have HB := n1_; clear n0_ n1_; (try clear hb); (try clear hb2); (try clear hk); (try clear hi)) | (go_at_call 38; (with_reducible refine (spec_LateOrders.calls kj52 _ _ t316 t319 500 t350 t351 _ ?side1 ?side2 A92.out).mono ?_); (case side1 => repeat (first | exact (Kd.R_reads' HO_5.out).2.2 | (with_reducible refine Kd.C_alloc ?_ _) | (with_reducible refine Kd.C_drewN ?_ _) | (with_reducible refine Kd.C_drew ?_))); (case side2 => exact (Kd.R_reads' HO_5.out).2.1); rintro e w99 ⟨v352, rfl, ho0, hb⟩; have n0_ := Aside0.mk (Kd.R_below (by (with_reducible repeat (first | apply Kd.R_alloc | apply Kd.R_drewN | apply Kd.R_drew)); exact HO_5.out) hb); have n1_ := Aside0.mk (Kd.R_lower ho0 (below_size (by repeat (first | (with_reducible first | exact HB.out | apply below_alloc | apply pw_below_drewN | apply below_drew1) | exact HB.out)))); have n2_ := Aside0.mk (below_step (by repeat (first | (with_reducible first | exact HB.out | apply below_alloc | apply pw_below_drewN | apply below_drew1) | exact HB.out)) hb); clear HO_5; clear HB; have HO_5 := n0_; have HO353 := n1_; have HB := n2_; clear n0_ n1_ n2_; (try clear hb); (try clear hb2); (try clear hk); (try clear hi); (try clear ho0)))
              repeat (go_quiet (first | (go_at_call 32; (with_reducible refine (impl_HoursEachDay.calls kj52 _ _ t316 t319 t348 t349 _ ?side1 ?side2 A74.out).mono ?_); (case side1 => repeat (first | exact (Kd.R_reads' HO_5.out).2.2 | (with_reducible refine Kd.C_alloc ?_ _) | (with_reducible refine Kd.C_drewN ?_ _) | (with_reducible refine Kd.C_drew ?_))); (case side2 => exact (Kd.R_reads' HO_5.out).2.1); rintro e w98 ⟨rfl, hb⟩; have n0_ := Aside0.mk (Kd.R_below (by (with_reducible repeat (first | apply Kd.R_alloc | apply Kd.R_drewN | apply Kd.R_drew)); exact HO_5.out) hb); have n1_ := Aside0.mk (below_step (by repeat (first | (with_reducible first | exact HB.out | apply below_alloc | apply pw_below_drewN | apply below_drew1) | exact HB.out)) hb); clear HO_5; clear HB; have HO_5 := n0_; have HB := n1_; clear n0_ n1_; (try clear hb); (try clear hb2); (try clear hk); (try clear hi)) | (go_at_call 38; (with_reducible refine (spec_LateOrders.calls kj52 _ _ t316 t319 500 t350 t351 _ ?side1 ?side2 A92.out).mono ?_); (case side1 => repeat (first | exact (Kd.R_reads' HO_5.out).2.2 | (with_reducible refine Kd.C_alloc ?_ _) | (with_reducible refine Kd.C_drewN ?_ _) | (with_reducible refine Kd.C_drew ?_))); (case side2 => exact (Kd.R_reads' HO_5.out).2.1); rintro e w99 ⟨v352, rfl, ho0, hb⟩; have n0_ := Aside0.mk (Kd.R_below (by (with_reducible repeat (first | apply Kd.R_alloc | apply Kd.R_drewN | apply Kd.R_drew)); exact HO_5.out) hb); have n1_ := Aside0.mk (Kd.R_lower ho0 (below_size (by repeat (first | (with_reducible first | exact HB.out | apply below_alloc | apply pw_below_drewN | apply below_drew1) | exact HB.out)))); have n2_ := Aside0.mk (below_step (by repeat (first | (with_reducible first | exact HB.out | apply below_alloc | apply pw_below_drewN | apply below_drew1) | exact HB.out)) hb); clear HO_5; clear HB; have HO_5 := n0_; have HO353 := n1_; have HB := n2_; clear n0_ n1_ n2_; (try clear hb); (try clear hb2); (try clear hk); (try clear hi); (try clear ho0))); try go_wp2_with (first | (go_at_call 32; (with_reducible refine (impl_HoursEachDay.calls kj52 _ _ t316 t319 t348 t349 _ ?side1 ?side2 A74.out).mono ?_); (case side1 => repeat (first | exact (Kd.R_reads' HO_5.out).2.2 | (with_reducible refine Kd.C_alloc ?_ _) | (with_reducible refine Kd.C_drewN ?_ _) | (with_reducible refine Kd.C_drew ?_))); (case side2 => exact (Kd.R_reads' HO_5.out).2.1); rintro e w98 ⟨rfl, hb⟩; have n0_ := Aside0.mk (Kd.R_below (by (with_reducible repeat (first | apply Kd.R_alloc | apply Kd.R_drewN | apply Kd.R_drew)); exact HO_5.out) hb); have n1_ := Aside0.mk (below_step (by repeat (first | (with_reducible first | exact HB.out | apply below_alloc | apply pw_below_drewN | apply below_drew1) | exact HB.out)) hb); clear HO_5; clear HB; have HO_5 := n0_; have HB := n1_; clear n0_ n1_; (try clear hb); (try clear hb2); (try clear hk); (try clear hi)) | (go_at_call 38; (with_reducible refine (spec_LateOrders.calls kj52 _ _ t316 t319 500 t350 t351 _ ?side1 ?side2 A92.out).mono ?_); (case side1 => repeat (first | exact (Kd.R_reads' HO_5.out).2.2 | (with_reducible refine Kd.C_alloc ?_ _) | (with_reducible refine Kd.C_drewN ?_ _) | (with_reducible refine Kd.C_drew ?_))); (case side2 => exact (Kd.R_reads' HO_5.out).2.1); rintro e w99 ⟨v352, rfl, ho0, hb⟩; have n0_ := Aside0.mk (Kd.R_below (by (with_reducible repeat (first | apply Kd.R_alloc | apply Kd.R_drewN | apply Kd.R_drew)); exact HO_5.out) hb); have n1_ := Aside0.mk (Kd.R_lower ho0 (below_size (by repeat (first | (with_reducible first | exact HB.out | apply below_alloc | apply pw_below_drewN | apply below_drew1) | exact HB.out)))); have n2_ := Aside0.mk (below_step (by repeat (first | (with_reducible first | exact HB.out | apply below_alloc | apply pw_below_drewN | apply below_drew1) | exact HB.out)) hb); clear HO_5; clear HB; have HO_5 := n0_; have HO353 := n1_; have HB := n2_; clear n0_ n1_ n2_; (try clear hb); (try clear hb2); (try clear hk); (try clear hi); (try clear ho0))))
              go_ret
              exact ⟨by first | rfl | (simp [errW_none, errW_some] <;> rfl) | (simp [*, errW_none, errW_some] <;> rfl), by repeat (first | (with_reducible first | exact HB.out | apply below_alloc | apply pw_below_drewN | apply below_drew1) | exact HB.out)⟩
            ·rw [if_neg c93] at H
             have c93b0 : (t349 == 3) = false := beq_eq_false_iff_ne.mpr c93
             have c93b1 : (t349 != 3) = true := bne_iff_ne.mpr c93
             obtain rfl := Option.some.inj H
             go_wp2_with (first | (go_at_call 32; (with_reducible refine (impl_HoursEachDay.calls kj52 _ _ t316 t319 t348 t349 _ ?side1 ?side2 A74.out).mono ?_); (case side1 => repeat (first | exact (Kd.R_reads' HO_5.out).2.2 | (with_reducible refine Kd.C_alloc ?_ _) | (with_reducible refine Kd.C_drewN ?_ _) | (with_reducible refine Kd.C_drew ?_))); (case side2 => exact (Kd.R_reads' HO_5.out).2.1); rintro e w100 ⟨rfl, hb⟩; have n0_ := Aside0.mk (Kd.R_below (by (with_reducible repeat (first | apply Kd.R_alloc | apply Kd.R_drewN | apply Kd.R_drew)); exact HO_5.out) hb); have n1_ := Aside0.mk (below_step (by repeat (first | (with_reducible first | exact HB.out | apply below_alloc | apply pw_below_drewN | apply below_drew1) | exact HB.out)) hb); clear HO_5; clear HB; have HO_5 := n0_; have HB := n1_; clear n0_ n1_; (try clear hb); (try clear hb2); (try clear hk); (try clear hi)) | (go_at_call 38; (with_reducible refine (spec_LateOrders.calls kj52 _ _ t316 t319 500 t350 t351 _ ?side1 ?side2 A92.out).mono ?_); (case side1 => repeat (first | exact (Kd.R_reads' HO_5.out).2.2 | (with_reducible refine Kd.C_alloc ?_ _) | (with_reducible refine Kd.C_drewN ?_ _) | (with_reducible refine Kd.C_drew ?_))); (case side2 => exact (Kd.R_reads' HO_5.out).2.1); rintro e w101 ⟨v352, rfl, ho0, hb⟩; have n0_ := Aside0.mk (Kd.R_below (by (with_reducible repeat (first | apply Kd.R_alloc | apply Kd.R_drewN | apply Kd.R_drew)); exact HO_5.out) hb); have n1_ := Aside0.mk (Kd.R_lower ho0 (below_size (by repeat (first | (with_reducible first | exact HB.out | apply below_alloc | apply pw_below_drewN | apply below_drew1) | exact HB.out)))); have n2_ := Aside0.mk (below_step (by repeat (first | (with_reducible first | exact HB.out | apply below_alloc | apply pw_below_drewN | apply below_drew1) | exact HB.out)) hb); clear HO_5; clear HB; have HO_5 := n0_; have HO353 := n1_; have HB := n2_; clear n0_ n1_ n2_; (try clear hb); (try clear hb2); (try clear hk); (try clear hi); (try clear ho0)))
             repeat (go_quiet (first | (go_at_call 32; (with_reducible refine (impl_HoursEachDay.calls kj52 _ _ t316 t319 t348 t349 _ ?side1 ?side2 A74.out).mono ?_); (case side1 => repeat (first | exact (Kd.R_reads' HO_5.out).2.2 | (with_reducible refine Kd.C_alloc ?_ _) | (with_reducible refine Kd.C_drewN ?_ _) | (with_reducible refine Kd.C_drew ?_))); (case side2 => exact (Kd.R_reads' HO_5.out).2.1); rintro e w100 ⟨rfl, hb⟩; have n0_ := Aside0.mk (Kd.R_below (by (with_reducible repeat (first | apply Kd.R_alloc | apply Kd.R_drewN | apply Kd.R_drew)); exact HO_5.out) hb); have n1_ := Aside0.mk (below_step (by repeat (first | (with_reducible first | exact HB.out | apply below_alloc | apply pw_below_drewN | apply below_drew1) | exact HB.out)) hb); clear HO_5; clear HB; have HO_5 := n0_; have HB := n1_; clear n0_ n1_; (try clear hb); (try clear hb2); (try clear hk); (try clear hi)) | (go_at_call 38; (with_reducible refine (spec_LateOrders.calls kj52 _ _ t316 t319 500 t350 t351 _ ?side1 ?side2 A92.out).mono ?_); (case side1 => repeat (first | exact (Kd.R_reads' HO_5.out).2.2 | (with_reducible refine Kd.C_alloc ?_ _) | (with_reducible refine Kd.C_drewN ?_ _) | (with_reducible refine Kd.C_drew ?_))); (case side2 => exact (Kd.R_reads' HO_5.out).2.1); rintro e w101 ⟨v352, rfl, ho0, hb⟩; have n0_ := Aside0.mk (Kd.R_below (by (with_reducible repeat (first | apply Kd.R_alloc | apply Kd.R_drewN | apply Kd.R_drew)); exact HO_5.out) hb); have n1_ := Aside0.mk (Kd.R_lower ho0 (below_size (by repeat (first | (with_reducible first | exact HB.out | apply below_alloc | apply pw_below_drewN | apply below_drew1) | exact HB.out)))); have n2_ := Aside0.mk (below_step (by repeat (first | (with_reducible first | exact HB.out | apply below_alloc | apply pw_below_drewN | apply below_drew1) | exact HB.out)) hb); clear HO_5; clear HB; have HO_5 := n0_; have HO353 := n1_; have HB := n2_; clear n0_ n1_ n2_; (try clear hb); (try clear hb2); (try clear hk); (try clear hi); (try clear ho0))); try go_wp2_with (first | (go_at_call 32; (with_reducible refine (impl_HoursEachDay.calls kj52 _ _ t316 t319 t348 t349 _ ?side1 ?side2 A74.out).mono ?_); (case side1 => repeat (first | exact (Kd.R_reads' HO_5.out).2.2 | (with_reducible refine Kd.C_alloc ?_ _) | (with_reducible refine Kd.C_drewN ?_ _) | (with_reducible refine Kd.C_drew ?_))); (case side2 => exact (Kd.R_reads' HO_5.out).2.1); rintro e w100 ⟨rfl, hb⟩; have n0_ := Aside0.mk (Kd.R_below (by (with_reducible repeat (first | apply Kd.R_alloc | apply Kd.R_drewN | apply Kd.R_drew)); exact HO_5.out) hb); have n1_ := Aside0.mk (below_step (by repeat (first | (with_reducible first | exact HB.out | apply below_alloc | apply pw_below_drewN | apply below_drew1) | exact HB.out)) hb); clear HO_5; clear HB; have HO_5 := n0_; have HB := n1_; clear n0_ n1_; (try clear hb); (try clear hb2); (try clear hk); (try clear hi)) | (go_at_call 38; (with_reducible refine (spec_LateOrders.calls kj52 _ _ t316 t319 500 t350 t351 _ ?side1 ?side2 A92.out).mono ?_); (case side1 => repeat (first | exact (Kd.R_reads' HO_5.out).2.2 | (with_reducible refine Kd.C_alloc ?_ _) | (with_reducible refine Kd.C_drewN ?_ _) | (with_reducible refine Kd.C_drew ?_))); (case side2 => exact (Kd.R_reads' HO_5.out).2.1); rintro e w101 ⟨v352, rfl, ho0, hb⟩; have n0_ := Aside0.mk (Kd.R_below (by (with_reducible repeat (first | apply Kd.R_alloc | apply Kd.R_drewN | apply Kd.R_drew)); exact HO_5.out) hb); have n1_ := Aside0.mk (Kd.R_lower ho0 (below_size (by repeat (first | (with_reducible first | exact HB.out | apply below_alloc | apply pw_below_drewN | apply below_drew1) | exact HB.out)))); have n2_ := Aside0.mk (below_step (by repeat (first | (with_reducible first | exact HB.out | apply below_alloc | apply pw_below_drewN | apply below_drew1) | exact HB.out)) hb); clear HO_5; clear HB; have HO_5 := n0_; have HO353 := n1_; have HB := n2_; clear n0_ n1_ n2_; (try clear hb); (try clear hb2); (try clear hk); (try clear hi); (try clear ho0))))
             go_ret
             exact ⟨by first | rfl | (simp [errW_none, errW_some] <;> rfl) | (simp [*, errW_none, errW_some] <;> rfl), by repeat (first | (with_reducible first | exact HB.out | apply below_alloc | apply pw_below_drewN | apply below_drew1) | exact HB.out)⟩

/-- THE ONE PURE STATEMENT of laws_FnLoftDays: yours. -/
def laws_FnLoftDays.Pure : Prop := ∀ (l0 : List Int) (l1 : List Int), l0.length ≤ maxLen → l0.length * 1 ≤ 140737488351232 → (∀ x ∈ l0, (Lit.int .u8 x).wf = true) → l1.length ≤ maxLen → l1.length * 1 ≤ 140737488351232 → (∀ x ∈ l1, (Lit.int .u8 x).wf = true) → ∃ k, laws_FnLoftDays.f k l0 l1 = some true
theorem laws_FnLoftDays.walk (P : laws_FnLoftDays.Pure) (a0 : Option Addr) (len0 cap0 : Nat) (z0 : List Int) (a1 : Option Addr) (len1 cap1 : Nat) (z1 : List Int) (w : World) (w0 : (a0 = none ∧ len0 = 0 ∧ cap0 = 0 ∧ z0 = []) ∨ ∃ x, a0 = some x ∧ len0 ≤ cap0 ∧ cap0 ≤ maxLen ∧ z0.length = cap0 ∧ (∀ i, i < z0.length → w.cell? (x.add i) = some (.int .u8 (z0.getD i 0))) ∧ ∀ n ∈ z0, (Lit.int .u8 n).wf = true) (y0 : len0 * 1 ≤ 140737488351232) (w1 : (a1 = none ∧ len1 = 0 ∧ cap1 = 0 ∧ z1 = []) ∨ ∃ x, a1 = some x ∧ len1 ≤ cap1 ∧ cap1 ≤ maxLen ∧ z1.length = cap1 ∧ (∀ i, i < z1.length → w.cell? (x.add i) = some (.int .u8 (z1.getD i 0))) ∧ ∀ n ∈ z1, (Lit.int .u8 n).wf = true) (y1 : len1 * 1 ≤ 140737488351232) :
  Calls Try.prog 9 #[.slice a0 len0 cap0, .slice a1 len1 cap1] w fun e w' => e = .returned (.bool true) ∧ Below w.heap.size w w' := by
 obtain ⟨l0, rfl, hr0, hm0, hw0, hc0⟩ := ReadsInt.ofRowC w0
 obtain ⟨l1, rfl, hr1, hm1, hw1, hc1⟩ := ReadsInt.ofRowC w1
 obtain ⟨k, h⟩ := P l0 l1 hm0 y0 hw0 hm1 y1 hw1
 refine (laws_FnLoftDays.calls k _ _ l0 _ _ l1 true w (Kd.C_of_reads (d := (0 : Int)) (h1 := fun _ => rfl) hr0) hc0 (Kd.C_of_reads (d := (0 : Int)) (h1 := fun _ => rfl) hr1) hc1 h).mono ?_
 rintro e w' ⟨rfl, hd⟩
 exact ⟨rfl, hd⟩

end Go.Proofs.Ytedidhfmknhlkaa.QFnLoftDays
