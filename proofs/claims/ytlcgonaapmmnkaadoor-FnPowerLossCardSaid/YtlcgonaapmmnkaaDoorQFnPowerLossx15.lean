import Derived.Test.YtlcgonaapmmnkaaDoorQFnPowerLossx0
import Derived.Test.YtlcgonaapmmnkaaDoorQFnPowerLossx1
import Derived.Test.YtlcgonaapmmnkaaDoorQFnPowerLossx2
import Derived.Test.YtlcgonaapmmnkaaDoorQFnPowerLossx5
import Derived.Test.YtlcgonaapmmnkaaDoorQFnPowerLossx10
import Derived.Test.YtlcgonaapmmnkaaDoorQFnPowerLossx11
import Derived.Test.YtlcgonaapmmnkaaDoorQFnPowerLossx12
import Derived.Test.YtlcgonaapmmnkaaDoorQFnPowerLossx14
namespace Go.Proofs.YtlcgonaapmmnkaaDoor.QFnPowerLoss
open Base (bwl_ bst_ bsz_ bkb_ nbl_ nbr_)
open Go.RowKit Go.Proofs.YtlcgonaapmmnkaaDoorW.PrintWords Go.Proofs.YtlcgonaapmmnkaaDoorW.PrintLast Go.Proofs.YtlcgonaapmmnkaaDoorW.PrintMore
attribute [local go_sem] max2_int min2_int max_two min_two max_three min_three max_four min_four
set_option linter.unusedVariables false
set_option linter.unusedSimpArgs false
attribute [local go_sem high] eqA26 eqA32
mutual
def laws_FnPowerLoss.j0 : Nat → Int → Int → Int → Int → Int → Bool → ByteArray → ByteArray → ByteArray → ByteArray → ByteArray → ByteArray → ByteArray → ByteArray → ByteArray → ByteArray → ByteArray → ByteArray → ByteArray → ByteArray → Option (Bool)
  | 0, _, _, _, _, _, _, _, _, _, _, _, _, _, _, _, _, _, _, _, _ => none
  | k + 1, x4, x6, x11, x17, x19, x114, x361000, x361001, x365000, x365001, x372000, x372001, x376000, x376001, x383000, x383001, x388000, x388001, x393000, x393001 => if x114 = true then (some false) else (if x17 = 0 then ((impl_EntriesOf.f k x388000 x388001).bind fun bt393 => (if bt393.2 = 0 then (if x19 < 0 then (some false) else (if (wrap64 ((x393000.size : Int) + x19)) = (x383000.size : Int) then (laws_FnPowerLoss.j1 k x4 x6 x11 x361000 x361001 x365000 x365001 x372000 x372001 x376000 x376001) else (some false))) else (some false))) else (laws_FnPowerLoss.j1 k x4 x6 x11 x361000 x361001 x365000 x365001 x372000 x372001 x376000 x376001))
def laws_FnPowerLoss.j1 : Nat → Int → Int → Int → ByteArray → ByteArray → ByteArray → ByteArray → ByteArray → ByteArray → ByteArray → ByteArray → Option (Bool)
  | 0, _, _, _, _, _, _, _, _, _, _, _ => none
  | k + 1, x4, x6, x11, x361000, x361001, x365000, x365001, x372000, x372001, x376000, x376001 => if x11 = 0 then ((spec_EntriesOf.f k x372000 x372001).bind fun bt397 => ((impl_EntriesOf.f k x376000 x376001).bind fun bt401 => (if bt397.2 = 0 then (if bt401.2 = 0 then ((spec_SameEntries.f k bt397.1 bt401.1).bind fun t405 => (if t405 = true then (laws_FnPowerLoss.j2 k x4 x6 x361000 x361001 x365000 x365001) else (some false))) else (some false)) else (laws_FnPowerLoss.j2 k x4 x6 x361000 x361001 x365000 x365001)))) else (laws_FnPowerLoss.j2 k x4 x6 x361000 x361001 x365000 x365001)
def laws_FnPowerLoss.j2 : Nat → Int → Int → ByteArray → ByteArray → ByteArray → ByteArray → Option (Bool)
  | 0, _, _, _, _, _, _ => none
  | k + 1, x4, x6, x361000, x361001, x365000, x365001 => if x6 = 0 then ((spec_EntriesOf.f k x361000 x361001).bind fun bt406 => (if bt406.2 = 0 then ((impl_RecoverLog.f k x365000 x365001).bind fun bt410 => ((impl_EntriesOf.f k bt410.1 bt410.2.1).bind fun bt415 => ((spec_ReadFrames.f k x361000).bind fun bt419 => (if bt410.2.2.2 = 0 then (if bt415.2 = 0 then (if (bt415.1.length : Int) < (bt419.1.length : Int) then (laws_FnPowerLoss.j3 k bt406.1 bt415.1 true) else (if (bt415.1.length : Int) > (bt406.1.length : Int) then (laws_FnPowerLoss.j3 k bt406.1 bt415.1 true) else (if x4 = (x361001.size : Int) then (laws_FnPowerLoss.j3 k bt406.1 bt415.1 ((bt415.1.length : Int) != (bt406.1.length : Int))) else (laws_FnPowerLoss.j3 k bt406.1 bt415.1 false)))) else (laws_FnPowerLoss.j3 k bt406.1 bt415.1 true)) else (laws_FnPowerLoss.j3 k bt406.1 bt415.1 true))))) else (some true))) else (some true)
def laws_FnPowerLoss.j3 : Nat → List (S26) → List (S26) → Bool → Option (Bool)
  | 0, _, _, _ => none
  | k + 1, x27, x32, x222 => if x222 = true then (some false) else (laws_FnPowerLoss.l0 k x27 x32 0)
def laws_FnPowerLoss.l0 : Nat → List (S26) → List (S26) → Int → Option (Bool)
  | 0, _, _, _ => none
  | k + 1, x27, x32, x36 => if x36 < (x32.length : Int) then (if 0 ≤ x36 then (if x36 < (x27.length : Int) then (if (!(((rd_T26 x32 x36).f0) == ((rd_T26 x27 x36).f0)) || (!((((rd_T26 x32 x36).f1).toList) == (((rd_T26 x27 x36).f1).toList)) || (!((((rd_T26 x32 x36).f2).toList) == (((rd_T26 x27 x36).f2).toList))))) = true then (some false) else (laws_FnPowerLoss.l0 k x27 x32 (wrap64 (x36 + 1)))) else (none)) else (none)) else (some true)
end
def laws_FnPowerLoss.f (k : Nat) (l0 : List Int) : Option (Bool) := (laws_f6big.f l0).bind fun t356 => (if t356 = true then (some true) else ((spec_DrawLosePower.f k l0).bind fun bt357 => ((impl_LosePower.f k bt357.1 bt357.2.1 bt357.2.2).bind fun bt361 => ((spec_LosePower.f k bt357.1 bt357.2.1 bt357.2.2).bind fun bt365 => ((spec_DrawFlushLog.f k l0).bind fun bt369 => ((impl_FlushLog.f k bt369.1 bt369.2).bind fun bt372 => ((spec_FlushLog.f k bt369.1 bt369.2).bind fun bt376 => ((spec_DrawRecoverLog.f k l0).bind fun bt380 => ((impl_RecoverLog.f k bt380.1 bt380.2).bind fun bt383 => ((spec_RecoverLog.f k bt380.1 bt380.2).bind fun bt388 => (if bt361.2.2 = bt365.2.2 then (if (!(bt361.1.toList == bt365.1.toList) || (!(bt361.2.1.toList == bt365.2.1.toList))) = true then (laws_FnPowerLoss.j0 k bt357.2.2 bt361.2.2 bt372.2.2 bt383.2.2.2 bt388.2.2.1 true bt357.1 bt357.2.1 bt361.1 bt361.2.1 bt369.1 bt369.2 bt372.1 bt372.2.1 bt380.1 bt380.2 bt383.1 bt383.2.1 bt388.1 bt388.2.1) else (if bt372.2.2 = bt376.2.2 then (if (!(bt372.1.toList == bt376.1.toList) || (!(bt372.2.1.toList == bt376.2.1.toList))) = true then (laws_FnPowerLoss.j0 k bt357.2.2 bt361.2.2 bt372.2.2 bt383.2.2.2 bt388.2.2.1 true bt357.1 bt357.2.1 bt361.1 bt361.2.1 bt369.1 bt369.2 bt372.1 bt372.2.1 bt380.1 bt380.2 bt383.1 bt383.2.1 bt388.1 bt388.2.1) else (if bt383.2.2.2 = bt388.2.2.2 then (if (!(bt383.1.toList == bt388.1.toList) || (!(bt383.2.1.toList == bt388.2.1.toList))) = true then (laws_FnPowerLoss.j0 k bt357.2.2 bt361.2.2 bt372.2.2 bt383.2.2.2 bt388.2.2.1 true bt357.1 bt357.2.1 bt361.1 bt361.2.1 bt369.1 bt369.2 bt372.1 bt372.2.1 bt380.1 bt380.2 bt383.1 bt383.2.1 bt388.1 bt388.2.1) else (laws_FnPowerLoss.j0 k bt357.2.2 bt361.2.2 bt372.2.2 bt383.2.2.2 bt388.2.2.1 (bt383.2.2.1 != bt388.2.2.1) bt357.1 bt357.2.1 bt361.1 bt361.2.1 bt369.1 bt369.2 bt372.1 bt372.2.1 bt380.1 bt380.2 bt383.1 bt383.2.1 bt388.1 bt388.2.1)) else (laws_FnPowerLoss.j0 k bt357.2.2 bt361.2.2 bt372.2.2 bt383.2.2.2 bt388.2.2.1 true bt357.1 bt357.2.1 bt361.1 bt361.2.1 bt369.1 bt369.2 bt372.1 bt372.2.1 bt380.1 bt380.2 bt383.1 bt383.2.1 bt388.1 bt388.2.1))) else (laws_FnPowerLoss.j0 k bt357.2.2 bt361.2.2 bt372.2.2 bt383.2.2.2 bt388.2.2.1 true bt357.1 bt357.2.1 bt361.1 bt361.2.1 bt369.1 bt369.2 bt372.1 bt372.2.1 bt380.1 bt380.2 bt383.1 bt383.2.1 bt388.1 bt388.2.1))) else (laws_FnPowerLoss.j0 k bt357.2.2 bt361.2.2 bt372.2.2 bt383.2.2.2 bt388.2.2.1 true bt357.1 bt357.2.1 bt361.1 bt361.2.1 bt369.1 bt369.2 bt372.1 bt372.2.1 bt380.1 bt380.2 bt383.1 bt383.2.1 bt388.1 bt388.2.1))))))))))))
theorem laws_FnPowerLoss.mono_l : ∀ k, (∀ y0 y1 y2 y3 y4 y5 y6 y7 y8 y9 y10 y11 y12 y13 y14 y15 y16 y17 y18 y19, LeO (laws_FnPowerLoss.j0 k y0 y1 y2 y3 y4 y5 y6 y7 y8 y9 y10 y11 y12 y13 y14 y15 y16 y17 y18 y19) (laws_FnPowerLoss.j0 (k + 1) y0 y1 y2 y3 y4 y5 y6 y7 y8 y9 y10 y11 y12 y13 y14 y15 y16 y17 y18 y19)) ∧ (∀ y0 y1 y2 y3 y4 y5 y6 y7 y8 y9 y10, LeO (laws_FnPowerLoss.j1 k y0 y1 y2 y3 y4 y5 y6 y7 y8 y9 y10) (laws_FnPowerLoss.j1 (k + 1) y0 y1 y2 y3 y4 y5 y6 y7 y8 y9 y10)) ∧ (∀ y0 y1 y2 y3 y4 y5, LeO (laws_FnPowerLoss.j2 k y0 y1 y2 y3 y4 y5) (laws_FnPowerLoss.j2 (k + 1) y0 y1 y2 y3 y4 y5)) ∧ (∀ y0 y1 y2, LeO (laws_FnPowerLoss.j3 k y0 y1 y2) (laws_FnPowerLoss.j3 (k + 1) y0 y1 y2)) ∧ (∀ y0 y1 y2, LeO (laws_FnPowerLoss.l0 k y0 y1 y2) (laws_FnPowerLoss.l0 (k + 1) y0 y1 y2))
  | 0 => ⟨fun _ _ _ _ _ _ _ _ _ _ _ _ _ _ _ _ _ _ _ _ r h => by simp [laws_FnPowerLoss.j0] at h, fun _ _ _ _ _ _ _ _ _ _ _ r h => by simp [laws_FnPowerLoss.j1] at h, fun _ _ _ _ _ _ r h => by simp [laws_FnPowerLoss.j2] at h, fun _ _ _ r h => by simp [laws_FnPowerLoss.j3] at h, fun _ _ _ r h => by simp [laws_FnPowerLoss.l0] at h⟩
  | k + 1 => by
    obtain ⟨ih0, ih1, ih2, ih3, ih4⟩ := laws_FnPowerLoss.mono_l k
    refine ⟨?_, ?_, ?_, ?_, ?_⟩
    · intro y0 y1 y2 y3 y4 y5 y6 y7 y8 y9 y10 y11 y12 y13 y14 y15 y16 y17 y18 y19
      unfold laws_FnPowerLoss.j0
      repeat' first
      | (with_reducible exact ih0 _ _ _ _ _ _ _ _ _ _ _ _ _ _ _ _ _ _ _ _)
      | (with_reducible exact ih1 _ _ _ _ _ _ _ _ _ _ _)
      | (with_reducible exact ih2 _ _ _ _ _ _)
      | (with_reducible exact ih3 _ _ _)
      | (with_reducible exact ih4 _ _ _)
      | (with_reducible exact impl_EntriesOf.mono _ _ _)
      | (with_reducible exact impl_FlushLog.mono _ _ _)
      | (with_reducible exact impl_LosePower.mono _ _ _ _)
      | (with_reducible exact impl_RecoverLog.mono _ _ _)
      | (with_reducible exact spec_DrawFlushLog.mono _ _)
      | (with_reducible exact spec_DrawLosePower.mono _ _)
      | (with_reducible exact spec_DrawRecoverLog.mono _ _)
      | (with_reducible exact spec_EntriesOf.mono _ _ _)
      | (with_reducible exact spec_FlushLog.mono _ _ _)
      | (with_reducible exact spec_LosePower.mono _ _ _ _)
      | (with_reducible exact spec_ReadFrames.mono _ _)
      | (with_reducible exact spec_RecoverLog.mono _ _ _)
      | (with_reducible exact spec_SameEntries.mono _ _ _)
      | (with_reducible exact LeO.refl _)
      | (with_reducible exact LeO.none _)
      | (with_reducible refine LeO.ite ?_ ?_)
      | (with_reducible refine LeO.bind ?_ (fun _ => ?_))
      | exact ih0 _ _ _ _ _ _ _ _ _ _ _ _ _ _ _ _ _ _ _ _
      | exact ih1 _ _ _ _ _ _ _ _ _ _ _
      | exact ih2 _ _ _ _ _ _
      | exact ih3 _ _ _
      | exact ih4 _ _ _
      | exact impl_EntriesOf.mono _ _ _
      | exact impl_FlushLog.mono _ _ _
      | exact impl_LosePower.mono _ _ _ _
      | exact impl_RecoverLog.mono _ _ _
      | exact spec_DrawFlushLog.mono _ _
      | exact spec_DrawLosePower.mono _ _
      | exact spec_DrawRecoverLog.mono _ _
      | exact spec_EntriesOf.mono _ _ _
      | exact spec_FlushLog.mono _ _ _
      | exact spec_LosePower.mono _ _ _ _
      | exact spec_ReadFrames.mono _ _
      | exact spec_RecoverLog.mono _ _ _
      | exact spec_SameEntries.mono _ _ _
      | exact LeO.none _
      | refine LeO.ite ?_ ?_
      | refine LeO.bind ?_ (fun _ => ?_)
    · intro y0 y1 y2 y3 y4 y5 y6 y7 y8 y9 y10
      unfold laws_FnPowerLoss.j1
      repeat' first
      | (with_reducible exact ih0 _ _ _ _ _ _ _ _ _ _ _ _ _ _ _ _ _ _ _ _)
      | (with_reducible exact ih1 _ _ _ _ _ _ _ _ _ _ _)
      | (with_reducible exact ih2 _ _ _ _ _ _)
      | (with_reducible exact ih3 _ _ _)
      | (with_reducible exact ih4 _ _ _)
      | (with_reducible exact impl_EntriesOf.mono _ _ _)
      | (with_reducible exact impl_FlushLog.mono _ _ _)
      | (with_reducible exact impl_LosePower.mono _ _ _ _)
      | (with_reducible exact impl_RecoverLog.mono _ _ _)
      | (with_reducible exact spec_DrawFlushLog.mono _ _)
      | (with_reducible exact spec_DrawLosePower.mono _ _)
      | (with_reducible exact spec_DrawRecoverLog.mono _ _)
      | (with_reducible exact spec_EntriesOf.mono _ _ _)
      | (with_reducible exact spec_FlushLog.mono _ _ _)
      | (with_reducible exact spec_LosePower.mono _ _ _ _)
      | (with_reducible exact spec_ReadFrames.mono _ _)
      | (with_reducible exact spec_RecoverLog.mono _ _ _)
      | (with_reducible exact spec_SameEntries.mono _ _ _)
      | (with_reducible exact LeO.refl _)
      | (with_reducible exact LeO.none _)
      | (with_reducible refine LeO.ite ?_ ?_)
      | (with_reducible refine LeO.bind ?_ (fun _ => ?_))
      | exact ih0 _ _ _ _ _ _ _ _ _ _ _ _ _ _ _ _ _ _ _ _
      | exact ih1 _ _ _ _ _ _ _ _ _ _ _
      | exact ih2 _ _ _ _ _ _
      | exact ih3 _ _ _
      | exact ih4 _ _ _
      | exact impl_EntriesOf.mono _ _ _
      | exact impl_FlushLog.mono _ _ _
      | exact impl_LosePower.mono _ _ _ _
      | exact impl_RecoverLog.mono _ _ _
      | exact spec_DrawFlushLog.mono _ _
      | exact spec_DrawLosePower.mono _ _
      | exact spec_DrawRecoverLog.mono _ _
      | exact spec_EntriesOf.mono _ _ _
      | exact spec_FlushLog.mono _ _ _
      | exact spec_LosePower.mono _ _ _ _
      | exact spec_ReadFrames.mono _ _
      | exact spec_RecoverLog.mono _ _ _
      | exact spec_SameEntries.mono _ _ _
      | exact LeO.none _
      | refine LeO.ite ?_ ?_
      | refine LeO.bind ?_ (fun _ => ?_)
    · intro y0 y1 y2 y3 y4 y5
      unfold laws_FnPowerLoss.j2
      repeat' first
      | (with_reducible exact ih0 _ _ _ _ _ _ _ _ _ _ _ _ _ _ _ _ _ _ _ _)
      | (with_reducible exact ih1 _ _ _ _ _ _ _ _ _ _ _)
      | (with_reducible exact ih2 _ _ _ _ _ _)
      | (with_reducible exact ih3 _ _ _)
      | (with_reducible exact ih4 _ _ _)
      | (with_reducible exact impl_EntriesOf.mono _ _ _)
      | (with_reducible exact impl_FlushLog.mono _ _ _)
      | (with_reducible exact impl_LosePower.mono _ _ _ _)
      | (with_reducible exact impl_RecoverLog.mono _ _ _)
      | (with_reducible exact spec_DrawFlushLog.mono _ _)
      | (with_reducible exact spec_DrawLosePower.mono _ _)
      | (with_reducible exact spec_DrawRecoverLog.mono _ _)
      | (with_reducible exact spec_EntriesOf.mono _ _ _)
      | (with_reducible exact spec_FlushLog.mono _ _ _)
      | (with_reducible exact spec_LosePower.mono _ _ _ _)
      | (with_reducible exact spec_ReadFrames.mono _ _)
      | (with_reducible exact spec_RecoverLog.mono _ _ _)
      | (with_reducible exact spec_SameEntries.mono _ _ _)
      | (with_reducible exact LeO.refl _)
      | (with_reducible exact LeO.none _)
      | (with_reducible refine LeO.ite ?_ ?_)
      | (with_reducible refine LeO.bind ?_ (fun _ => ?_))
      | exact ih0 _ _ _ _ _ _ _ _ _ _ _ _ _ _ _ _ _ _ _ _
      | exact ih1 _ _ _ _ _ _ _ _ _ _ _
      | exact ih2 _ _ _ _ _ _
      | exact ih3 _ _ _
      | exact ih4 _ _ _
      | exact impl_EntriesOf.mono _ _ _
      | exact impl_FlushLog.mono _ _ _
      | exact impl_LosePower.mono _ _ _ _
      | exact impl_RecoverLog.mono _ _ _
      | exact spec_DrawFlushLog.mono _ _
      | exact spec_DrawLosePower.mono _ _
      | exact spec_DrawRecoverLog.mono _ _
      | exact spec_EntriesOf.mono _ _ _
      | exact spec_FlushLog.mono _ _ _
      | exact spec_LosePower.mono _ _ _ _
      | exact spec_ReadFrames.mono _ _
      | exact spec_RecoverLog.mono _ _ _
      | exact spec_SameEntries.mono _ _ _
      | exact LeO.none _
      | refine LeO.ite ?_ ?_
      | refine LeO.bind ?_ (fun _ => ?_)
    · intro y0 y1 y2
      unfold laws_FnPowerLoss.j3
      repeat' first
      | (with_reducible exact ih0 _ _ _ _ _ _ _ _ _ _ _ _ _ _ _ _ _ _ _ _)
      | (with_reducible exact ih1 _ _ _ _ _ _ _ _ _ _ _)
      | (with_reducible exact ih2 _ _ _ _ _ _)
      | (with_reducible exact ih3 _ _ _)
      | (with_reducible exact ih4 _ _ _)
      | (with_reducible exact impl_EntriesOf.mono _ _ _)
      | (with_reducible exact impl_FlushLog.mono _ _ _)
      | (with_reducible exact impl_LosePower.mono _ _ _ _)
      | (with_reducible exact impl_RecoverLog.mono _ _ _)
      | (with_reducible exact spec_DrawFlushLog.mono _ _)
      | (with_reducible exact spec_DrawLosePower.mono _ _)
      | (with_reducible exact spec_DrawRecoverLog.mono _ _)
      | (with_reducible exact spec_EntriesOf.mono _ _ _)
      | (with_reducible exact spec_FlushLog.mono _ _ _)
      | (with_reducible exact spec_LosePower.mono _ _ _ _)
      | (with_reducible exact spec_ReadFrames.mono _ _)
      | (with_reducible exact spec_RecoverLog.mono _ _ _)
      | (with_reducible exact spec_SameEntries.mono _ _ _)
      | (with_reducible exact LeO.refl _)
      | (with_reducible exact LeO.none _)
      | (with_reducible refine LeO.ite ?_ ?_)
      | (with_reducible refine LeO.bind ?_ (fun _ => ?_))
      | exact ih0 _ _ _ _ _ _ _ _ _ _ _ _ _ _ _ _ _ _ _ _
      | exact ih1 _ _ _ _ _ _ _ _ _ _ _
      | exact ih2 _ _ _ _ _ _
      | exact ih3 _ _ _
      | exact ih4 _ _ _
      | exact impl_EntriesOf.mono _ _ _
      | exact impl_FlushLog.mono _ _ _
      | exact impl_LosePower.mono _ _ _ _
      | exact impl_RecoverLog.mono _ _ _
      | exact spec_DrawFlushLog.mono _ _
      | exact spec_DrawLosePower.mono _ _
      | exact spec_DrawRecoverLog.mono _ _
      | exact spec_EntriesOf.mono _ _ _
      | exact spec_FlushLog.mono _ _ _
      | exact spec_LosePower.mono _ _ _ _
      | exact spec_ReadFrames.mono _ _
      | exact spec_RecoverLog.mono _ _ _
      | exact spec_SameEntries.mono _ _ _
      | exact LeO.none _
      | refine LeO.ite ?_ ?_
      | refine LeO.bind ?_ (fun _ => ?_)
    · intro y0 y1 y2
      unfold laws_FnPowerLoss.l0
      repeat' first
      | (with_reducible exact ih0 _ _ _ _ _ _ _ _ _ _ _ _ _ _ _ _ _ _ _ _)
      | (with_reducible exact ih1 _ _ _ _ _ _ _ _ _ _ _)
      | (with_reducible exact ih2 _ _ _ _ _ _)
      | (with_reducible exact ih3 _ _ _)
      | (with_reducible exact ih4 _ _ _)
      | (with_reducible exact impl_EntriesOf.mono _ _ _)
      | (with_reducible exact impl_FlushLog.mono _ _ _)
      | (with_reducible exact impl_LosePower.mono _ _ _ _)
      | (with_reducible exact impl_RecoverLog.mono _ _ _)
      | (with_reducible exact spec_DrawFlushLog.mono _ _)
      | (with_reducible exact spec_DrawLosePower.mono _ _)
      | (with_reducible exact spec_DrawRecoverLog.mono _ _)
      | (with_reducible exact spec_EntriesOf.mono _ _ _)
      | (with_reducible exact spec_FlushLog.mono _ _ _)
      | (with_reducible exact spec_LosePower.mono _ _ _ _)
      | (with_reducible exact spec_ReadFrames.mono _ _)
      | (with_reducible exact spec_RecoverLog.mono _ _ _)
      | (with_reducible exact spec_SameEntries.mono _ _ _)
      | (with_reducible exact LeO.refl _)
      | (with_reducible exact LeO.none _)
      | (with_reducible refine LeO.ite ?_ ?_)
      | (with_reducible refine LeO.bind ?_ (fun _ => ?_))
      | exact ih0 _ _ _ _ _ _ _ _ _ _ _ _ _ _ _ _ _ _ _ _
      | exact ih1 _ _ _ _ _ _ _ _ _ _ _
      | exact ih2 _ _ _ _ _ _
      | exact ih3 _ _ _
      | exact ih4 _ _ _
      | exact impl_EntriesOf.mono _ _ _
      | exact impl_FlushLog.mono _ _ _
      | exact impl_LosePower.mono _ _ _ _
      | exact impl_RecoverLog.mono _ _ _
      | exact spec_DrawFlushLog.mono _ _
      | exact spec_DrawLosePower.mono _ _
      | exact spec_DrawRecoverLog.mono _ _
      | exact spec_EntriesOf.mono _ _ _
      | exact spec_FlushLog.mono _ _ _
      | exact spec_LosePower.mono _ _ _ _
      | exact spec_ReadFrames.mono _ _
      | exact spec_RecoverLog.mono _ _ _
      | exact spec_SameEntries.mono _ _ _
      | exact LeO.none _
      | refine LeO.ite ?_ ?_
      | refine LeO.bind ?_ (fun _ => ?_)
theorem laws_FnPowerLoss.mono : ∀ a0 k, LeO (laws_FnPowerLoss.f k a0) (laws_FnPowerLoss.f (k + 1) a0) := by
  intro a0 k
  obtain ⟨ih0, ih1, ih2, ih3, ih4⟩ := laws_FnPowerLoss.mono_l k
  unfold laws_FnPowerLoss.f
  repeat' first
      | (with_reducible exact ih0 _ _ _ _ _ _ _ _ _ _ _ _ _ _ _ _ _ _ _ _)
      | (with_reducible exact ih1 _ _ _ _ _ _ _ _ _ _ _)
      | (with_reducible exact ih2 _ _ _ _ _ _)
      | (with_reducible exact ih3 _ _ _)
      | (with_reducible exact ih4 _ _ _)
      | (with_reducible exact impl_EntriesOf.mono _ _ _)
      | (with_reducible exact impl_FlushLog.mono _ _ _)
      | (with_reducible exact impl_LosePower.mono _ _ _ _)
      | (with_reducible exact impl_RecoverLog.mono _ _ _)
      | (with_reducible exact spec_DrawFlushLog.mono _ _)
      | (with_reducible exact spec_DrawLosePower.mono _ _)
      | (with_reducible exact spec_DrawRecoverLog.mono _ _)
      | (with_reducible exact spec_EntriesOf.mono _ _ _)
      | (with_reducible exact spec_FlushLog.mono _ _ _)
      | (with_reducible exact spec_LosePower.mono _ _ _ _)
      | (with_reducible exact spec_ReadFrames.mono _ _)
      | (with_reducible exact spec_RecoverLog.mono _ _ _)
      | (with_reducible exact spec_SameEntries.mono _ _ _)
      | (with_reducible exact LeO.refl _)
      | (with_reducible exact LeO.none _)
      | (with_reducible refine LeO.ite ?_ ?_)
      | (with_reducible refine LeO.bind ?_ (fun _ => ?_))
      | exact ih0 _ _ _ _ _ _ _ _ _ _ _ _ _ _ _ _ _ _ _ _
      | exact ih1 _ _ _ _ _ _ _ _ _ _ _
      | exact ih2 _ _ _ _ _ _
      | exact ih3 _ _ _
      | exact ih4 _ _ _
      | exact impl_EntriesOf.mono _ _ _
      | exact impl_FlushLog.mono _ _ _
      | exact impl_LosePower.mono _ _ _ _
      | exact impl_RecoverLog.mono _ _ _
      | exact spec_DrawFlushLog.mono _ _
      | exact spec_DrawLosePower.mono _ _
      | exact spec_DrawRecoverLog.mono _ _
      | exact spec_EntriesOf.mono _ _ _
      | exact spec_FlushLog.mono _ _ _
      | exact spec_LosePower.mono _ _ _ _
      | exact spec_ReadFrames.mono _ _
      | exact spec_RecoverLog.mono _ _ _
      | exact spec_SameEntries.mono _ _ _
      | exact LeO.none _
      | refine LeO.ite ?_ ?_
      | refine LeO.bind ?_ (fun _ => ?_)
set_option maxHeartbeats 8000000 in
set_option maxRecDepth 100000 in
theorem laws_FnPowerLoss.calls (k : Nat) (A0 : Option Addr) (c0 : Nat) (l0 : List Int) (r : Bool) (w : World) (hr0 : Kd.C (Kd.int .u8) w A0 l0.length l0) (hc0 : l0.length ≤ c0) (h : laws_FnPowerLoss.f k l0 = some r) (hT : Go.Proofs.YtlcgonaapmmnkaaDoor.Base.Tb2 w) :
    Calls Tryd.prog 12 #[.slice A0 l0.length c0] w fun e w' => e = .returned (.bool r) ∧ Below w.heap.size w w' := by
  have HTB := Aside0.mk hT
  clear hT
  have hu32 := Tryd.underlying32
  have hu26 := Tryd.underlying26
  have HR0 := Aside0.mk hr0
  have HC0 := Aside0.mk hc0
  clear hr0 hc0
  have HB := Aside0.mk (Below.refl w.heap.size w)
  have H : ((laws_f6big.f l0).bind fun t356 => (if t356 = true then (some true) else ((spec_DrawLosePower.f k l0).bind fun bt357 => ((impl_LosePower.f k bt357.1 bt357.2.1 bt357.2.2).bind fun bt361 => ((spec_LosePower.f k bt357.1 bt357.2.1 bt357.2.2).bind fun bt365 => ((spec_DrawFlushLog.f k l0).bind fun bt369 => ((impl_FlushLog.f k bt369.1 bt369.2).bind fun bt372 => ((spec_FlushLog.f k bt369.1 bt369.2).bind fun bt376 => ((spec_DrawRecoverLog.f k l0).bind fun bt380 => ((impl_RecoverLog.f k bt380.1 bt380.2).bind fun bt383 => ((spec_RecoverLog.f k bt380.1 bt380.2).bind fun bt388 => (if bt361.2.2 = bt365.2.2 then (if (!(bt361.1.toList == bt365.1.toList) || (!(bt361.2.1.toList == bt365.2.1.toList))) = true then (laws_FnPowerLoss.j0 k bt357.2.2 bt361.2.2 bt372.2.2 bt383.2.2.2 bt388.2.2.1 true bt357.1 bt357.2.1 bt361.1 bt361.2.1 bt369.1 bt369.2 bt372.1 bt372.2.1 bt380.1 bt380.2 bt383.1 bt383.2.1 bt388.1 bt388.2.1) else (if bt372.2.2 = bt376.2.2 then (if (!(bt372.1.toList == bt376.1.toList) || (!(bt372.2.1.toList == bt376.2.1.toList))) = true then (laws_FnPowerLoss.j0 k bt357.2.2 bt361.2.2 bt372.2.2 bt383.2.2.2 bt388.2.2.1 true bt357.1 bt357.2.1 bt361.1 bt361.2.1 bt369.1 bt369.2 bt372.1 bt372.2.1 bt380.1 bt380.2 bt383.1 bt383.2.1 bt388.1 bt388.2.1) else (if bt383.2.2.2 = bt388.2.2.2 then (if (!(bt383.1.toList == bt388.1.toList) || (!(bt383.2.1.toList == bt388.2.1.toList))) = true then (laws_FnPowerLoss.j0 k bt357.2.2 bt361.2.2 bt372.2.2 bt383.2.2.2 bt388.2.2.1 true bt357.1 bt357.2.1 bt361.1 bt361.2.1 bt369.1 bt369.2 bt372.1 bt372.2.1 bt380.1 bt380.2 bt383.1 bt383.2.1 bt388.1 bt388.2.1) else (laws_FnPowerLoss.j0 k bt357.2.2 bt361.2.2 bt372.2.2 bt383.2.2.2 bt388.2.2.1 (bt383.2.2.1 != bt388.2.2.1) bt357.1 bt357.2.1 bt361.1 bt361.2.1 bt369.1 bt369.2 bt372.1 bt372.2.1 bt380.1 bt380.2 bt383.1 bt383.2.1 bt388.1 bt388.2.1)) else (laws_FnPowerLoss.j0 k bt357.2.2 bt361.2.2 bt372.2.2 bt383.2.2.2 bt388.2.2.1 true bt357.1 bt357.2.1 bt361.1 bt361.2.1 bt369.1 bt369.2 bt372.1 bt372.2.1 bt380.1 bt380.2 bt383.1 bt383.2.1 bt388.1 bt388.2.1))) else (laws_FnPowerLoss.j0 k bt357.2.2 bt361.2.2 bt372.2.2 bt383.2.2.2 bt388.2.2.1 true bt357.1 bt357.2.1 bt361.1 bt361.2.1 bt369.1 bt369.2 bt372.1 bt372.2.1 bt380.1 bt380.2 bt383.1 bt383.2.1 bt388.1 bt388.2.1))) else (laws_FnPowerLoss.j0 k bt357.2.2 bt361.2.2 bt372.2.2 bt383.2.2.2 bt388.2.2.1 true bt357.1 bt357.2.1 bt361.1 bt361.2.1 bt369.1 bt369.2 bt372.1 bt372.2.1 bt380.1 bt380.2 bt383.1 bt383.2.1 bt388.1 bt388.2.1))))))))))))) = some r := h
  clear h
  replace H := Option.bind_eq_some_iff.mp H
  obtain ⟨t356, A20, H⟩ := H
  replace H : (if t356 = true then (some true) else ((spec_DrawLosePower.f k l0).bind fun bt357 => ((impl_LosePower.f k bt357.1 bt357.2.1 bt357.2.2).bind fun bt361 => ((spec_LosePower.f k bt357.1 bt357.2.1 bt357.2.2).bind fun bt365 => ((spec_DrawFlushLog.f k l0).bind fun bt369 => ((impl_FlushLog.f k bt369.1 bt369.2).bind fun bt372 => ((spec_FlushLog.f k bt369.1 bt369.2).bind fun bt376 => ((spec_DrawRecoverLog.f k l0).bind fun bt380 => ((impl_RecoverLog.f k bt380.1 bt380.2).bind fun bt383 => ((spec_RecoverLog.f k bt380.1 bt380.2).bind fun bt388 => (if bt361.2.2 = bt365.2.2 then (if (!(bt361.1.toList == bt365.1.toList) || (!(bt361.2.1.toList == bt365.2.1.toList))) = true then (laws_FnPowerLoss.j0 k bt357.2.2 bt361.2.2 bt372.2.2 bt383.2.2.2 bt388.2.2.1 true bt357.1 bt357.2.1 bt361.1 bt361.2.1 bt369.1 bt369.2 bt372.1 bt372.2.1 bt380.1 bt380.2 bt383.1 bt383.2.1 bt388.1 bt388.2.1) else (if bt372.2.2 = bt376.2.2 then (if (!(bt372.1.toList == bt376.1.toList) || (!(bt372.2.1.toList == bt376.2.1.toList))) = true then (laws_FnPowerLoss.j0 k bt357.2.2 bt361.2.2 bt372.2.2 bt383.2.2.2 bt388.2.2.1 true bt357.1 bt357.2.1 bt361.1 bt361.2.1 bt369.1 bt369.2 bt372.1 bt372.2.1 bt380.1 bt380.2 bt383.1 bt383.2.1 bt388.1 bt388.2.1) else (if bt383.2.2.2 = bt388.2.2.2 then (if (!(bt383.1.toList == bt388.1.toList) || (!(bt383.2.1.toList == bt388.2.1.toList))) = true then (laws_FnPowerLoss.j0 k bt357.2.2 bt361.2.2 bt372.2.2 bt383.2.2.2 bt388.2.2.1 true bt357.1 bt357.2.1 bt361.1 bt361.2.1 bt369.1 bt369.2 bt372.1 bt372.2.1 bt380.1 bt380.2 bt383.1 bt383.2.1 bt388.1 bt388.2.1) else (laws_FnPowerLoss.j0 k bt357.2.2 bt361.2.2 bt372.2.2 bt383.2.2.2 bt388.2.2.1 (bt383.2.2.1 != bt388.2.2.1) bt357.1 bt357.2.1 bt361.1 bt361.2.1 bt369.1 bt369.2 bt372.1 bt372.2.1 bt380.1 bt380.2 bt383.1 bt383.2.1 bt388.1 bt388.2.1)) else (laws_FnPowerLoss.j0 k bt357.2.2 bt361.2.2 bt372.2.2 bt383.2.2.2 bt388.2.2.1 true bt357.1 bt357.2.1 bt361.1 bt361.2.1 bt369.1 bt369.2 bt372.1 bt372.2.1 bt380.1 bt380.2 bt383.1 bt383.2.1 bt388.1 bt388.2.1))) else (laws_FnPowerLoss.j0 k bt357.2.2 bt361.2.2 bt372.2.2 bt383.2.2.2 bt388.2.2.1 true bt357.1 bt357.2.1 bt361.1 bt361.2.1 bt369.1 bt369.2 bt372.1 bt372.2.1 bt380.1 bt380.2 bt383.1 bt383.2.1 bt388.1 bt388.2.1))) else (laws_FnPowerLoss.j0 k bt357.2.2 bt361.2.2 bt372.2.2 bt383.2.2.2 bt388.2.2.1 true bt357.1 bt357.2.1 bt361.1 bt361.2.1 bt369.1 bt369.2 bt372.1 bt372.2.1 bt380.1 bt380.2 bt383.1 bt383.2.1 bt388.1 bt388.2.1)))))))))))) = some r := H
  have A2 := Aside0.mk A20
  clear A20
  by_cases c3 : t356 = true
  · subst c3
    have H1 : (some true) = some r := by rw [if_pos rfl] at H; exact H
    clear H
    have H := H1
    clear H1
    obtain rfl := Option.some.inj H
    go_enter Tryd.func12, Tryd.ntmps12
    go_wp2_with (first | (go_at_call 40; (with_reducible refine (laws_f6big.calls _ _ l0 true _ ?side1 ?side2 A2.out).mono ?_); (case side1 => repeat (first | exact HR0.out | (with_reducible refine Kd.C_alloc ?_ _) | (with_reducible refine Kd.C_drewN ?_ _) | (with_reducible refine Kd.C_drew ?_))); (case side2 => exact HC0.out); rintro e w' ⟨rfl, ⟨nd, rfl⟩⟩; (try first | exact ⟨rfl, _, World.drewN_drewN _ _ _⟩ | exact ⟨rfl, _, Eq.trans (World.drewN_drewN _ _ _) (congrArg (World.drewN _) (Nat.add_assoc _ _ _))⟩)))
    repeat (go_quiet (first | (go_at_call 40; (with_reducible refine (laws_f6big.calls _ _ l0 true _ ?side1 ?side2 A2.out).mono ?_); (case side1 => repeat (first | exact HR0.out | (with_reducible refine Kd.C_alloc ?_ _) | (with_reducible refine Kd.C_drewN ?_ _) | (with_reducible refine Kd.C_drew ?_))); (case side2 => exact HC0.out); rintro e w' ⟨rfl, ⟨nd, rfl⟩⟩; (try first | exact ⟨rfl, _, World.drewN_drewN _ _ _⟩ | exact ⟨rfl, _, Eq.trans (World.drewN_drewN _ _ _) (congrArg (World.drewN _) (Nat.add_assoc _ _ _))⟩))); try go_wp2_with (first | (go_at_call 40; (with_reducible refine (laws_f6big.calls _ _ l0 true _ ?side1 ?side2 A2.out).mono ?_); (case side1 => repeat (first | exact HR0.out | (with_reducible refine Kd.C_alloc ?_ _) | (with_reducible refine Kd.C_drewN ?_ _) | (with_reducible refine Kd.C_drew ?_))); (case side2 => exact HC0.out); rintro e w' ⟨rfl, ⟨nd, rfl⟩⟩; (try first | exact ⟨rfl, _, World.drewN_drewN _ _ _⟩ | exact ⟨rfl, _, Eq.trans (World.drewN_drewN _ _ _) (congrArg (World.drewN _) (Nat.add_assoc _ _ _))⟩))))
    go_ret
    exact ⟨by first | rfl | (simp [errW_none, errW_some] <;> rfl) | (simp [*, errW_none, errW_some] <;> rfl), by repeat (first | (with_reducible first | exact HB.out | apply below_alloc | apply pw_below_drewN | apply below_drew1) | exact HB.out)⟩
  · replace c3 := Bool.eq_false_iff.mpr c3
    subst c3
    have H1 : ((spec_DrawLosePower.f k l0).bind fun bt357 => ((impl_LosePower.f k bt357.1 bt357.2.1 bt357.2.2).bind fun bt361 => ((spec_LosePower.f k bt357.1 bt357.2.1 bt357.2.2).bind fun bt365 => ((spec_DrawFlushLog.f k l0).bind fun bt369 => ((impl_FlushLog.f k bt369.1 bt369.2).bind fun bt372 => ((spec_FlushLog.f k bt369.1 bt369.2).bind fun bt376 => ((spec_DrawRecoverLog.f k l0).bind fun bt380 => ((impl_RecoverLog.f k bt380.1 bt380.2).bind fun bt383 => ((spec_RecoverLog.f k bt380.1 bt380.2).bind fun bt388 => (if bt361.2.2 = bt365.2.2 then (if (!(bt361.1.toList == bt365.1.toList) || (!(bt361.2.1.toList == bt365.2.1.toList))) = true then (laws_FnPowerLoss.j0 k bt357.2.2 bt361.2.2 bt372.2.2 bt383.2.2.2 bt388.2.2.1 true bt357.1 bt357.2.1 bt361.1 bt361.2.1 bt369.1 bt369.2 bt372.1 bt372.2.1 bt380.1 bt380.2 bt383.1 bt383.2.1 bt388.1 bt388.2.1) else (if bt372.2.2 = bt376.2.2 then (if (!(bt372.1.toList == bt376.1.toList) || (!(bt372.2.1.toList == bt376.2.1.toList))) = true then (laws_FnPowerLoss.j0 k bt357.2.2 bt361.2.2 bt372.2.2 bt383.2.2.2 bt388.2.2.1 true bt357.1 bt357.2.1 bt361.1 bt361.2.1 bt369.1 bt369.2 bt372.1 bt372.2.1 bt380.1 bt380.2 bt383.1 bt383.2.1 bt388.1 bt388.2.1) else (if bt383.2.2.2 = bt388.2.2.2 then (if (!(bt383.1.toList == bt388.1.toList) || (!(bt383.2.1.toList == bt388.2.1.toList))) = true then (laws_FnPowerLoss.j0 k bt357.2.2 bt361.2.2 bt372.2.2 bt383.2.2.2 bt388.2.2.1 true bt357.1 bt357.2.1 bt361.1 bt361.2.1 bt369.1 bt369.2 bt372.1 bt372.2.1 bt380.1 bt380.2 bt383.1 bt383.2.1 bt388.1 bt388.2.1) else (laws_FnPowerLoss.j0 k bt357.2.2 bt361.2.2 bt372.2.2 bt383.2.2.2 bt388.2.2.1 (bt383.2.2.1 != bt388.2.2.1) bt357.1 bt357.2.1 bt361.1 bt361.2.1 bt369.1 bt369.2 bt372.1 bt372.2.1 bt380.1 bt380.2 bt383.1 bt383.2.1 bt388.1 bt388.2.1)) else (laws_FnPowerLoss.j0 k bt357.2.2 bt361.2.2 bt372.2.2 bt383.2.2.2 bt388.2.2.1 true bt357.1 bt357.2.1 bt361.1 bt361.2.1 bt369.1 bt369.2 bt372.1 bt372.2.1 bt380.1 bt380.2 bt383.1 bt383.2.1 bt388.1 bt388.2.1))) else (laws_FnPowerLoss.j0 k bt357.2.2 bt361.2.2 bt372.2.2 bt383.2.2.2 bt388.2.2.1 true bt357.1 bt357.2.1 bt361.1 bt361.2.1 bt369.1 bt369.2 bt372.1 bt372.2.1 bt380.1 bt380.2 bt383.1 bt383.2.1 bt388.1 bt388.2.1))) else (laws_FnPowerLoss.j0 k bt357.2.2 bt361.2.2 bt372.2.2 bt383.2.2.2 bt388.2.2.1 true bt357.1 bt357.2.1 bt361.1 bt361.2.1 bt369.1 bt369.2 bt372.1 bt372.2.1 bt380.1 bt380.2 bt383.1 bt383.2.1 bt388.1 bt388.2.1))))))))))) = some r := by rw [if_neg (show ¬ (false = true) by decide)] at H; exact H
    clear H
    have H := H1
    clear H1
    replace H := Option.bind_eq_some_iff.mp H
    obtain ⟨⟨t357, t358, t359⟩, A40, H⟩ := H
    replace H : ((impl_LosePower.f k t357 t358 t359).bind fun bt361 => ((spec_LosePower.f k t357 t358 t359).bind fun bt365 => ((spec_DrawFlushLog.f k l0).bind fun bt369 => ((impl_FlushLog.f k bt369.1 bt369.2).bind fun bt372 => ((spec_FlushLog.f k bt369.1 bt369.2).bind fun bt376 => ((spec_DrawRecoverLog.f k l0).bind fun bt380 => ((impl_RecoverLog.f k bt380.1 bt380.2).bind fun bt383 => ((spec_RecoverLog.f k bt380.1 bt380.2).bind fun bt388 => (if bt361.2.2 = bt365.2.2 then (if (!(bt361.1.toList == bt365.1.toList) || (!(bt361.2.1.toList == bt365.2.1.toList))) = true then (laws_FnPowerLoss.j0 k t359 bt361.2.2 bt372.2.2 bt383.2.2.2 bt388.2.2.1 true t357 t358 bt361.1 bt361.2.1 bt369.1 bt369.2 bt372.1 bt372.2.1 bt380.1 bt380.2 bt383.1 bt383.2.1 bt388.1 bt388.2.1) else (if bt372.2.2 = bt376.2.2 then (if (!(bt372.1.toList == bt376.1.toList) || (!(bt372.2.1.toList == bt376.2.1.toList))) = true then (laws_FnPowerLoss.j0 k t359 bt361.2.2 bt372.2.2 bt383.2.2.2 bt388.2.2.1 true t357 t358 bt361.1 bt361.2.1 bt369.1 bt369.2 bt372.1 bt372.2.1 bt380.1 bt380.2 bt383.1 bt383.2.1 bt388.1 bt388.2.1) else (if bt383.2.2.2 = bt388.2.2.2 then (if (!(bt383.1.toList == bt388.1.toList) || (!(bt383.2.1.toList == bt388.2.1.toList))) = true then (laws_FnPowerLoss.j0 k t359 bt361.2.2 bt372.2.2 bt383.2.2.2 bt388.2.2.1 true t357 t358 bt361.1 bt361.2.1 bt369.1 bt369.2 bt372.1 bt372.2.1 bt380.1 bt380.2 bt383.1 bt383.2.1 bt388.1 bt388.2.1) else (laws_FnPowerLoss.j0 k t359 bt361.2.2 bt372.2.2 bt383.2.2.2 bt388.2.2.1 (bt383.2.2.1 != bt388.2.2.1) t357 t358 bt361.1 bt361.2.1 bt369.1 bt369.2 bt372.1 bt372.2.1 bt380.1 bt380.2 bt383.1 bt383.2.1 bt388.1 bt388.2.1)) else (laws_FnPowerLoss.j0 k t359 bt361.2.2 bt372.2.2 bt383.2.2.2 bt388.2.2.1 true t357 t358 bt361.1 bt361.2.1 bt369.1 bt369.2 bt372.1 bt372.2.1 bt380.1 bt380.2 bt383.1 bt383.2.1 bt388.1 bt388.2.1))) else (laws_FnPowerLoss.j0 k t359 bt361.2.2 bt372.2.2 bt383.2.2.2 bt388.2.2.1 true t357 t358 bt361.1 bt361.2.1 bt369.1 bt369.2 bt372.1 bt372.2.1 bt380.1 bt380.2 bt383.1 bt383.2.1 bt388.1 bt388.2.1))) else (laws_FnPowerLoss.j0 k t359 bt361.2.2 bt372.2.2 bt383.2.2.2 bt388.2.2.1 true t357 t358 bt361.1 bt361.2.1 bt369.1 bt369.2 bt372.1 bt372.2.1 bt380.1 bt380.2 bt383.1 bt383.2.1 bt388.1 bt388.2.1)))))))))) = some r := H
    have A4 := Aside0.mk A40
    clear A40
    replace H := Option.bind_eq_some_iff.mp H
    obtain ⟨⟨t361, t362, t363⟩, A50, H⟩ := H
    replace H : ((spec_LosePower.f k t357 t358 t359).bind fun bt365 => ((spec_DrawFlushLog.f k l0).bind fun bt369 => ((impl_FlushLog.f k bt369.1 bt369.2).bind fun bt372 => ((spec_FlushLog.f k bt369.1 bt369.2).bind fun bt376 => ((spec_DrawRecoverLog.f k l0).bind fun bt380 => ((impl_RecoverLog.f k bt380.1 bt380.2).bind fun bt383 => ((spec_RecoverLog.f k bt380.1 bt380.2).bind fun bt388 => (if t363 = bt365.2.2 then (if (!(t361.toList == bt365.1.toList) || (!(t362.toList == bt365.2.1.toList))) = true then (laws_FnPowerLoss.j0 k t359 t363 bt372.2.2 bt383.2.2.2 bt388.2.2.1 true t357 t358 t361 t362 bt369.1 bt369.2 bt372.1 bt372.2.1 bt380.1 bt380.2 bt383.1 bt383.2.1 bt388.1 bt388.2.1) else (if bt372.2.2 = bt376.2.2 then (if (!(bt372.1.toList == bt376.1.toList) || (!(bt372.2.1.toList == bt376.2.1.toList))) = true then (laws_FnPowerLoss.j0 k t359 t363 bt372.2.2 bt383.2.2.2 bt388.2.2.1 true t357 t358 t361 t362 bt369.1 bt369.2 bt372.1 bt372.2.1 bt380.1 bt380.2 bt383.1 bt383.2.1 bt388.1 bt388.2.1) else (if bt383.2.2.2 = bt388.2.2.2 then (if (!(bt383.1.toList == bt388.1.toList) || (!(bt383.2.1.toList == bt388.2.1.toList))) = true then (laws_FnPowerLoss.j0 k t359 t363 bt372.2.2 bt383.2.2.2 bt388.2.2.1 true t357 t358 t361 t362 bt369.1 bt369.2 bt372.1 bt372.2.1 bt380.1 bt380.2 bt383.1 bt383.2.1 bt388.1 bt388.2.1) else (laws_FnPowerLoss.j0 k t359 t363 bt372.2.2 bt383.2.2.2 bt388.2.2.1 (bt383.2.2.1 != bt388.2.2.1) t357 t358 t361 t362 bt369.1 bt369.2 bt372.1 bt372.2.1 bt380.1 bt380.2 bt383.1 bt383.2.1 bt388.1 bt388.2.1)) else (laws_FnPowerLoss.j0 k t359 t363 bt372.2.2 bt383.2.2.2 bt388.2.2.1 true t357 t358 t361 t362 bt369.1 bt369.2 bt372.1 bt372.2.1 bt380.1 bt380.2 bt383.1 bt383.2.1 bt388.1 bt388.2.1))) else (laws_FnPowerLoss.j0 k t359 t363 bt372.2.2 bt383.2.2.2 bt388.2.2.1 true t357 t358 t361 t362 bt369.1 bt369.2 bt372.1 bt372.2.1 bt380.1 bt380.2 bt383.1 bt383.2.1 bt388.1 bt388.2.1))) else (laws_FnPowerLoss.j0 k t359 t363 bt372.2.2 bt383.2.2.2 bt388.2.2.1 true t357 t358 t361 t362 bt369.1 bt369.2 bt372.1 bt372.2.1 bt380.1 bt380.2 bt383.1 bt383.2.1 bt388.1 bt388.2.1))))))))) = some r := H
    have A5 := Aside0.mk A50
    clear A50
    replace H := Option.bind_eq_some_iff.mp H
    obtain ⟨⟨t365, t366, t367⟩, A60, H⟩ := H
    replace H : ((spec_DrawFlushLog.f k l0).bind fun bt369 => ((impl_FlushLog.f k bt369.1 bt369.2).bind fun bt372 => ((spec_FlushLog.f k bt369.1 bt369.2).bind fun bt376 => ((spec_DrawRecoverLog.f k l0).bind fun bt380 => ((impl_RecoverLog.f k bt380.1 bt380.2).bind fun bt383 => ((spec_RecoverLog.f k bt380.1 bt380.2).bind fun bt388 => (if t363 = t367 then (if (!(t361.toList == t365.toList) || (!(t362.toList == t366.toList))) = true then (laws_FnPowerLoss.j0 k t359 t363 bt372.2.2 bt383.2.2.2 bt388.2.2.1 true t357 t358 t361 t362 bt369.1 bt369.2 bt372.1 bt372.2.1 bt380.1 bt380.2 bt383.1 bt383.2.1 bt388.1 bt388.2.1) else (if bt372.2.2 = bt376.2.2 then (if (!(bt372.1.toList == bt376.1.toList) || (!(bt372.2.1.toList == bt376.2.1.toList))) = true then (laws_FnPowerLoss.j0 k t359 t363 bt372.2.2 bt383.2.2.2 bt388.2.2.1 true t357 t358 t361 t362 bt369.1 bt369.2 bt372.1 bt372.2.1 bt380.1 bt380.2 bt383.1 bt383.2.1 bt388.1 bt388.2.1) else (if bt383.2.2.2 = bt388.2.2.2 then (if (!(bt383.1.toList == bt388.1.toList) || (!(bt383.2.1.toList == bt388.2.1.toList))) = true then (laws_FnPowerLoss.j0 k t359 t363 bt372.2.2 bt383.2.2.2 bt388.2.2.1 true t357 t358 t361 t362 bt369.1 bt369.2 bt372.1 bt372.2.1 bt380.1 bt380.2 bt383.1 bt383.2.1 bt388.1 bt388.2.1) else (laws_FnPowerLoss.j0 k t359 t363 bt372.2.2 bt383.2.2.2 bt388.2.2.1 (bt383.2.2.1 != bt388.2.2.1) t357 t358 t361 t362 bt369.1 bt369.2 bt372.1 bt372.2.1 bt380.1 bt380.2 bt383.1 bt383.2.1 bt388.1 bt388.2.1)) else (laws_FnPowerLoss.j0 k t359 t363 bt372.2.2 bt383.2.2.2 bt388.2.2.1 true t357 t358 t361 t362 bt369.1 bt369.2 bt372.1 bt372.2.1 bt380.1 bt380.2 bt383.1 bt383.2.1 bt388.1 bt388.2.1))) else (laws_FnPowerLoss.j0 k t359 t363 bt372.2.2 bt383.2.2.2 bt388.2.2.1 true t357 t358 t361 t362 bt369.1 bt369.2 bt372.1 bt372.2.1 bt380.1 bt380.2 bt383.1 bt383.2.1 bt388.1 bt388.2.1))) else (laws_FnPowerLoss.j0 k t359 t363 bt372.2.2 bt383.2.2.2 bt388.2.2.1 true t357 t358 t361 t362 bt369.1 bt369.2 bt372.1 bt372.2.1 bt380.1 bt380.2 bt383.1 bt383.2.1 bt388.1 bt388.2.1)))))))) = some r := H
    have A6 := Aside0.mk A60
    clear A60
    replace H := Option.bind_eq_some_iff.mp H
    obtain ⟨⟨t369, t370⟩, A70, H⟩ := H
    replace H : ((impl_FlushLog.f k t369 t370).bind fun bt372 => ((spec_FlushLog.f k t369 t370).bind fun bt376 => ((spec_DrawRecoverLog.f k l0).bind fun bt380 => ((impl_RecoverLog.f k bt380.1 bt380.2).bind fun bt383 => ((spec_RecoverLog.f k bt380.1 bt380.2).bind fun bt388 => (if t363 = t367 then (if (!(t361.toList == t365.toList) || (!(t362.toList == t366.toList))) = true then (laws_FnPowerLoss.j0 k t359 t363 bt372.2.2 bt383.2.2.2 bt388.2.2.1 true t357 t358 t361 t362 t369 t370 bt372.1 bt372.2.1 bt380.1 bt380.2 bt383.1 bt383.2.1 bt388.1 bt388.2.1) else (if bt372.2.2 = bt376.2.2 then (if (!(bt372.1.toList == bt376.1.toList) || (!(bt372.2.1.toList == bt376.2.1.toList))) = true then (laws_FnPowerLoss.j0 k t359 t363 bt372.2.2 bt383.2.2.2 bt388.2.2.1 true t357 t358 t361 t362 t369 t370 bt372.1 bt372.2.1 bt380.1 bt380.2 bt383.1 bt383.2.1 bt388.1 bt388.2.1) else (if bt383.2.2.2 = bt388.2.2.2 then (if (!(bt383.1.toList == bt388.1.toList) || (!(bt383.2.1.toList == bt388.2.1.toList))) = true then (laws_FnPowerLoss.j0 k t359 t363 bt372.2.2 bt383.2.2.2 bt388.2.2.1 true t357 t358 t361 t362 t369 t370 bt372.1 bt372.2.1 bt380.1 bt380.2 bt383.1 bt383.2.1 bt388.1 bt388.2.1) else (laws_FnPowerLoss.j0 k t359 t363 bt372.2.2 bt383.2.2.2 bt388.2.2.1 (bt383.2.2.1 != bt388.2.2.1) t357 t358 t361 t362 t369 t370 bt372.1 bt372.2.1 bt380.1 bt380.2 bt383.1 bt383.2.1 bt388.1 bt388.2.1)) else (laws_FnPowerLoss.j0 k t359 t363 bt372.2.2 bt383.2.2.2 bt388.2.2.1 true t357 t358 t361 t362 t369 t370 bt372.1 bt372.2.1 bt380.1 bt380.2 bt383.1 bt383.2.1 bt388.1 bt388.2.1))) else (laws_FnPowerLoss.j0 k t359 t363 bt372.2.2 bt383.2.2.2 bt388.2.2.1 true t357 t358 t361 t362 t369 t370 bt372.1 bt372.2.1 bt380.1 bt380.2 bt383.1 bt383.2.1 bt388.1 bt388.2.1))) else (laws_FnPowerLoss.j0 k t359 t363 bt372.2.2 bt383.2.2.2 bt388.2.2.1 true t357 t358 t361 t362 t369 t370 bt372.1 bt372.2.1 bt380.1 bt380.2 bt383.1 bt383.2.1 bt388.1 bt388.2.1))))))) = some r := H
    have A7 := Aside0.mk A70
    clear A70
    replace H := Option.bind_eq_some_iff.mp H
    obtain ⟨⟨t372, t373, t374⟩, A80, H⟩ := H
    replace H : ((spec_FlushLog.f k t369 t370).bind fun bt376 => ((spec_DrawRecoverLog.f k l0).bind fun bt380 => ((impl_RecoverLog.f k bt380.1 bt380.2).bind fun bt383 => ((spec_RecoverLog.f k bt380.1 bt380.2).bind fun bt388 => (if t363 = t367 then (if (!(t361.toList == t365.toList) || (!(t362.toList == t366.toList))) = true then (laws_FnPowerLoss.j0 k t359 t363 t374 bt383.2.2.2 bt388.2.2.1 true t357 t358 t361 t362 t369 t370 t372 t373 bt380.1 bt380.2 bt383.1 bt383.2.1 bt388.1 bt388.2.1) else (if t374 = bt376.2.2 then (if (!(t372.toList == bt376.1.toList) || (!(t373.toList == bt376.2.1.toList))) = true then (laws_FnPowerLoss.j0 k t359 t363 t374 bt383.2.2.2 bt388.2.2.1 true t357 t358 t361 t362 t369 t370 t372 t373 bt380.1 bt380.2 bt383.1 bt383.2.1 bt388.1 bt388.2.1) else (if bt383.2.2.2 = bt388.2.2.2 then (if (!(bt383.1.toList == bt388.1.toList) || (!(bt383.2.1.toList == bt388.2.1.toList))) = true then (laws_FnPowerLoss.j0 k t359 t363 t374 bt383.2.2.2 bt388.2.2.1 true t357 t358 t361 t362 t369 t370 t372 t373 bt380.1 bt380.2 bt383.1 bt383.2.1 bt388.1 bt388.2.1) else (laws_FnPowerLoss.j0 k t359 t363 t374 bt383.2.2.2 bt388.2.2.1 (bt383.2.2.1 != bt388.2.2.1) t357 t358 t361 t362 t369 t370 t372 t373 bt380.1 bt380.2 bt383.1 bt383.2.1 bt388.1 bt388.2.1)) else (laws_FnPowerLoss.j0 k t359 t363 t374 bt383.2.2.2 bt388.2.2.1 true t357 t358 t361 t362 t369 t370 t372 t373 bt380.1 bt380.2 bt383.1 bt383.2.1 bt388.1 bt388.2.1))) else (laws_FnPowerLoss.j0 k t359 t363 t374 bt383.2.2.2 bt388.2.2.1 true t357 t358 t361 t362 t369 t370 t372 t373 bt380.1 bt380.2 bt383.1 bt383.2.1 bt388.1 bt388.2.1))) else (laws_FnPowerLoss.j0 k t359 t363 t374 bt383.2.2.2 bt388.2.2.1 true t357 t358 t361 t362 t369 t370 t372 t373 bt380.1 bt380.2 bt383.1 bt383.2.1 bt388.1 bt388.2.1)))))) = some r := H
    have A8 := Aside0.mk A80
    clear A80
    replace H := Option.bind_eq_some_iff.mp H
    obtain ⟨⟨t376, t377, t378⟩, A90, H⟩ := H
    replace H : ((spec_DrawRecoverLog.f k l0).bind fun bt380 => ((impl_RecoverLog.f k bt380.1 bt380.2).bind fun bt383 => ((spec_RecoverLog.f k bt380.1 bt380.2).bind fun bt388 => (if t363 = t367 then (if (!(t361.toList == t365.toList) || (!(t362.toList == t366.toList))) = true then (laws_FnPowerLoss.j0 k t359 t363 t374 bt383.2.2.2 bt388.2.2.1 true t357 t358 t361 t362 t369 t370 t372 t373 bt380.1 bt380.2 bt383.1 bt383.2.1 bt388.1 bt388.2.1) else (if t374 = t378 then (if (!(t372.toList == t376.toList) || (!(t373.toList == t377.toList))) = true then (laws_FnPowerLoss.j0 k t359 t363 t374 bt383.2.2.2 bt388.2.2.1 true t357 t358 t361 t362 t369 t370 t372 t373 bt380.1 bt380.2 bt383.1 bt383.2.1 bt388.1 bt388.2.1) else (if bt383.2.2.2 = bt388.2.2.2 then (if (!(bt383.1.toList == bt388.1.toList) || (!(bt383.2.1.toList == bt388.2.1.toList))) = true then (laws_FnPowerLoss.j0 k t359 t363 t374 bt383.2.2.2 bt388.2.2.1 true t357 t358 t361 t362 t369 t370 t372 t373 bt380.1 bt380.2 bt383.1 bt383.2.1 bt388.1 bt388.2.1) else (laws_FnPowerLoss.j0 k t359 t363 t374 bt383.2.2.2 bt388.2.2.1 (bt383.2.2.1 != bt388.2.2.1) t357 t358 t361 t362 t369 t370 t372 t373 bt380.1 bt380.2 bt383.1 bt383.2.1 bt388.1 bt388.2.1)) else (laws_FnPowerLoss.j0 k t359 t363 t374 bt383.2.2.2 bt388.2.2.1 true t357 t358 t361 t362 t369 t370 t372 t373 bt380.1 bt380.2 bt383.1 bt383.2.1 bt388.1 bt388.2.1))) else (laws_FnPowerLoss.j0 k t359 t363 t374 bt383.2.2.2 bt388.2.2.1 true t357 t358 t361 t362 t369 t370 t372 t373 bt380.1 bt380.2 bt383.1 bt383.2.1 bt388.1 bt388.2.1))) else (laws_FnPowerLoss.j0 k t359 t363 t374 bt383.2.2.2 bt388.2.2.1 true t357 t358 t361 t362 t369 t370 t372 t373 bt380.1 bt380.2 bt383.1 bt383.2.1 bt388.1 bt388.2.1))))) = some r := H
    have A9 := Aside0.mk A90
    clear A90
    replace H := Option.bind_eq_some_iff.mp H
    obtain ⟨⟨t380, t381⟩, A100, H⟩ := H
    replace H : ((impl_RecoverLog.f k t380 t381).bind fun bt383 => ((spec_RecoverLog.f k t380 t381).bind fun bt388 => (if t363 = t367 then (if (!(t361.toList == t365.toList) || (!(t362.toList == t366.toList))) = true then (laws_FnPowerLoss.j0 k t359 t363 t374 bt383.2.2.2 bt388.2.2.1 true t357 t358 t361 t362 t369 t370 t372 t373 t380 t381 bt383.1 bt383.2.1 bt388.1 bt388.2.1) else (if t374 = t378 then (if (!(t372.toList == t376.toList) || (!(t373.toList == t377.toList))) = true then (laws_FnPowerLoss.j0 k t359 t363 t374 bt383.2.2.2 bt388.2.2.1 true t357 t358 t361 t362 t369 t370 t372 t373 t380 t381 bt383.1 bt383.2.1 bt388.1 bt388.2.1) else (if bt383.2.2.2 = bt388.2.2.2 then (if (!(bt383.1.toList == bt388.1.toList) || (!(bt383.2.1.toList == bt388.2.1.toList))) = true then (laws_FnPowerLoss.j0 k t359 t363 t374 bt383.2.2.2 bt388.2.2.1 true t357 t358 t361 t362 t369 t370 t372 t373 t380 t381 bt383.1 bt383.2.1 bt388.1 bt388.2.1) else (laws_FnPowerLoss.j0 k t359 t363 t374 bt383.2.2.2 bt388.2.2.1 (bt383.2.2.1 != bt388.2.2.1) t357 t358 t361 t362 t369 t370 t372 t373 t380 t381 bt383.1 bt383.2.1 bt388.1 bt388.2.1)) else (laws_FnPowerLoss.j0 k t359 t363 t374 bt383.2.2.2 bt388.2.2.1 true t357 t358 t361 t362 t369 t370 t372 t373 t380 t381 bt383.1 bt383.2.1 bt388.1 bt388.2.1))) else (laws_FnPowerLoss.j0 k t359 t363 t374 bt383.2.2.2 bt388.2.2.1 true t357 t358 t361 t362 t369 t370 t372 t373 t380 t381 bt383.1 bt383.2.1 bt388.1 bt388.2.1))) else (laws_FnPowerLoss.j0 k t359 t363 t374 bt383.2.2.2 bt388.2.2.1 true t357 t358 t361 t362 t369 t370 t372 t373 t380 t381 bt383.1 bt383.2.1 bt388.1 bt388.2.1)))) = some r := H
    have A10 := Aside0.mk A100
    clear A100
    replace H := Option.bind_eq_some_iff.mp H
    obtain ⟨⟨t383, t384, t385, t386⟩, A110, H⟩ := H
    replace H : ((spec_RecoverLog.f k t380 t381).bind fun bt388 => (if t363 = t367 then (if (!(t361.toList == t365.toList) || (!(t362.toList == t366.toList))) = true then (laws_FnPowerLoss.j0 k t359 t363 t374 t386 bt388.2.2.1 true t357 t358 t361 t362 t369 t370 t372 t373 t380 t381 t383 t384 bt388.1 bt388.2.1) else (if t374 = t378 then (if (!(t372.toList == t376.toList) || (!(t373.toList == t377.toList))) = true then (laws_FnPowerLoss.j0 k t359 t363 t374 t386 bt388.2.2.1 true t357 t358 t361 t362 t369 t370 t372 t373 t380 t381 t383 t384 bt388.1 bt388.2.1) else (if t386 = bt388.2.2.2 then (if (!(t383.toList == bt388.1.toList) || (!(t384.toList == bt388.2.1.toList))) = true then (laws_FnPowerLoss.j0 k t359 t363 t374 t386 bt388.2.2.1 true t357 t358 t361 t362 t369 t370 t372 t373 t380 t381 t383 t384 bt388.1 bt388.2.1) else (laws_FnPowerLoss.j0 k t359 t363 t374 t386 bt388.2.2.1 (t385 != bt388.2.2.1) t357 t358 t361 t362 t369 t370 t372 t373 t380 t381 t383 t384 bt388.1 bt388.2.1)) else (laws_FnPowerLoss.j0 k t359 t363 t374 t386 bt388.2.2.1 true t357 t358 t361 t362 t369 t370 t372 t373 t380 t381 t383 t384 bt388.1 bt388.2.1))) else (laws_FnPowerLoss.j0 k t359 t363 t374 t386 bt388.2.2.1 true t357 t358 t361 t362 t369 t370 t372 t373 t380 t381 t383 t384 bt388.1 bt388.2.1))) else (laws_FnPowerLoss.j0 k t359 t363 t374 t386 bt388.2.2.1 true t357 t358 t361 t362 t369 t370 t372 t373 t380 t381 t383 t384 bt388.1 bt388.2.1))) = some r := H
    have A11 := Aside0.mk A110
    clear A110
    replace H := Option.bind_eq_some_iff.mp H
    obtain ⟨⟨t388, t389, t390, t391⟩, A120, H⟩ := H
    replace H : (if t363 = t367 then (if (!(t361.toList == t365.toList) || (!(t362.toList == t366.toList))) = true then (laws_FnPowerLoss.j0 k t359 t363 t374 t386 t390 true t357 t358 t361 t362 t369 t370 t372 t373 t380 t381 t383 t384 t388 t389) else (if t374 = t378 then (if (!(t372.toList == t376.toList) || (!(t373.toList == t377.toList))) = true then (laws_FnPowerLoss.j0 k t359 t363 t374 t386 t390 true t357 t358 t361 t362 t369 t370 t372 t373 t380 t381 t383 t384 t388 t389) else (if t386 = t391 then (if (!(t383.toList == t388.toList) || (!(t384.toList == t389.toList))) = true then (laws_FnPowerLoss.j0 k t359 t363 t374 t386 t390 true t357 t358 t361 t362 t369 t370 t372 t373 t380 t381 t383 t384 t388 t389) else (laws_FnPowerLoss.j0 k t359 t363 t374 t386 t390 (t385 != t390) t357 t358 t361 t362 t369 t370 t372 t373 t380 t381 t383 t384 t388 t389)) else (laws_FnPowerLoss.j0 k t359 t363 t374 t386 t390 true t357 t358 t361 t362 t369 t370 t372 t373 t380 t381 t383 t384 t388 t389))) else (laws_FnPowerLoss.j0 k t359 t363 t374 t386 t390 true t357 t358 t361 t362 t369 t370 t372 t373 t380 t381 t383 t384 t388 t389))) else (laws_FnPowerLoss.j0 k t359 t363 t374 t386 t390 true t357 t358 t361 t362 t369 t370 t372 t373 t380 t381 t383 t384 t388 t389)) = some r := H
    have A12 := Aside0.mk A120
    clear A120
    have HC13 := Aside0.mk H
    clear H
    go_enter Tryd.func12, Tryd.ntmps12
    go_upto_region 12 with (first | (go_at_call 40; (with_reducible refine (laws_f6big.calls _ _ l0 false _ ?side1 ?side2 A2.out).mono ?_); (case side1 => repeat (first | exact HR0.out | (with_reducible refine Kd.C_alloc ?_ _) | (with_reducible refine Kd.C_drewN ?_ _) | (with_reducible refine Kd.C_drew ?_))); (case side2 => exact HC0.out); rintro e w' ⟨rfl, ⟨nd, rfl⟩⟩; (try first | exact ⟨rfl, _, World.drewN_drewN _ _ _⟩ | exact ⟨rfl, _, Eq.trans (World.drewN_drewN _ _ _) (congrArg (World.drewN _) (Nat.add_assoc _ _ _))⟩)) | (go_at_call 41; (with_reducible refine (spec_DrawLosePower.calls k _ _ l0 t357 t358 t359 _ ?side1 ?side2 A4.out).mono ?_); (case side1 => repeat (first | exact HR0.out | (with_reducible refine Kd.C_alloc ?_ _) | (with_reducible refine Kd.C_drewN ?_ _) | (with_reducible refine Kd.C_drew ?_))); (case side2 => exact HC0.out); rintro e w14 ⟨rfl, hb⟩; replace HB := bst_ hb; (try clear hb); (try clear hb2); (try clear hk); (try clear hi)) | ((with_reducible refine gate_dst (N := 3) rfl ?_); (try (refine gate_guard (by rfl) ?_; dsimp only)); refine box_event ?hg (N := 3) ?hd (cs := #[.string (⟨#[]⟩ : ByteArray), .string (⟨#[]⟩ : ByteArray)]) (t := 32) ?hr ?_; (case hd => rfl); (case hg => rfl); (case hr => first | (go_simp; done) | (go_simp; rfl)); intro gb360 hg w15 hbox hb; have BK360 := Aside0.mk (hbox); have GW360 := bsz_ hg; have GE360 := bsz_ hg; replace HB := bst_ hb; clear hb hbox hg; have hcz16_0 : w15.cell? ⟨gb360, 0, none⟩ = some (.string (⟨#[]⟩ : ByteArray)) := (blk_cell BK360.out 0).trans rfl; have hcz16_1 : w15.cell? ⟨gb360, 1, none⟩ = some (.string (⟨#[]⟩ : ByteArray)) := (blk_cell BK360.out 1).trans rfl; have hfz16_0 := blk_frozen BK360.out 0; have hfz16_1 := blk_frozen BK360.out 1) | (go_at_call 24; (with_reducible refine (impl_LosePower.calls k t357 t358 t359 t361 t362 t363 _ A5.out ?side1).mono ?_); (case side1 => exact HTB.out.below bwl_); rintro e w17 ⟨rfl, hb⟩; replace BK360 := Aside0.mk (blk_below (g := gb360) (o := .cells #[.string t357, .string t358] 32 (0, 0)) (by (with_reducible repeat (first | refine blk_drewN ?_ _ | refine blk_drew ?_ | refine blk_alloc ?_ _)); refine blk_put (cs := #[.string t357, .string (⟨#[]⟩ : ByteArray)]) ?_ 1 _ rfl; (with_reducible repeat (first | refine blk_drewN ?_ _ | refine blk_drew ?_ | refine blk_alloc ?_ _)); refine blk_put (cs := #[.string (⟨#[]⟩ : ByteArray), .string (⟨#[]⟩ : ByteArray)]) ?_ 0 _ rfl; (with_reducible repeat (first | refine blk_drewN ?_ _ | refine blk_drew ?_ | refine blk_alloc ?_ _)); exact BK360.out) hb); replace HB := bst_ hb; (try clear hb); (try clear hb2); (try clear hk); (try clear hi)) | ((with_reducible refine gate_dst (N := 5) rfl ?_); (try (refine gate_guard (by rfl) ?_; dsimp only)); refine box_event ?hg (N := 5) ?hd (cs := #[.string (⟨#[]⟩ : ByteArray), .string (⟨#[]⟩ : ByteArray)]) (t := 32) ?hr ?_; (case hd => rfl); (case hg => rfl); (case hr => first | (go_simp; done) | (go_simp; rfl)); intro gb364 hg w18 hbox hb; have BK364 := Aside0.mk (hbox); have GW364 := bsz_ hg; have GE364 := bsz_ hg; replace HB := bst_ hb; have NB360_364 := nbl_ BK360 hg; have NB364_360 := nbr_ BK360 hg; replace BK360 := bkb_ BK360 hb; clear hb hbox hg; have hnb19 := NB364_360.out; have hnc19 := NB360_364.out; have hcz20_0 : w18.cell? ⟨gb364, 0, none⟩ = some (.string (⟨#[]⟩ : ByteArray)) := (blk_cell BK364.out 0).trans rfl; have hcz20_1 : w18.cell? ⟨gb364, 1, none⟩ = some (.string (⟨#[]⟩ : ByteArray)) := (blk_cell BK364.out 1).trans rfl; have hfz20_0 := blk_frozen BK364.out 0; have hfz20_1 := blk_frozen BK364.out 1; have hcz21_0 : w18.cell? ⟨gb360, 0, none⟩ = some (.string t357) := (blk_cell BK360.out 0).trans rfl; have hcz21_1 : w18.cell? ⟨gb360, 1, none⟩ = some (.string t358) := (blk_cell BK360.out 1).trans rfl; have hfz21_0 := blk_frozen BK360.out 0; have hfz21_1 := blk_frozen BK360.out 1) | (go_at_call 23; (with_reducible refine (spec_LosePower.calls k t357 t358 t359 t365 t366 t367 _ A6.out).mono ?_); rintro e w22 ⟨rfl, hb⟩; replace BK360 := bkb_ BK360 hb; replace BK364 := Aside0.mk (blk_below (g := gb364) (o := .cells #[.string t361, .string t362] 32 (0, 0)) (by (with_reducible repeat (first | refine blk_drewN ?_ _ | refine blk_drew ?_ | refine blk_alloc ?_ _)); refine blk_put (cs := #[.string t361, .string (⟨#[]⟩ : ByteArray)]) ?_ 1 _ rfl; (with_reducible repeat (first | refine blk_drewN ?_ _ | refine blk_drew ?_ | refine blk_alloc ?_ _)); refine blk_put (cs := #[.string (⟨#[]⟩ : ByteArray), .string (⟨#[]⟩ : ByteArray)]) ?_ 0 _ rfl; (with_reducible repeat (first | refine blk_drewN ?_ _ | refine blk_drew ?_ | refine blk_alloc ?_ _)); exact BK364.out) hb); replace HB := bst_ hb; (try clear hb); (try clear hb2); (try clear hk); (try clear hi)) | ((with_reducible refine gate_dst (N := 7) rfl ?_); (try (refine gate_guard (by rfl) ?_; dsimp only)); refine box_event ?hg (N := 7) ?hd (cs := #[.string (⟨#[]⟩ : ByteArray), .string (⟨#[]⟩ : ByteArray)]) (t := 32) ?hr ?_; (case hd => rfl); (case hg => rfl); (case hr => first | (go_simp; done) | (go_simp; rfl)); intro gb368 hg w23 hbox hb; have BK368 := Aside0.mk (hbox); have GW368 := bsz_ hg; have GE368 := bsz_ hg; replace HB := bst_ hb; have NB360_368 := nbl_ BK360 hg; have NB368_360 := nbr_ BK360 hg; replace BK360 := bkb_ BK360 hb; have NB364_368 := nbl_ BK364 hg; have NB368_364 := nbr_ BK364 hg; replace BK364 := bkb_ BK364 hb; clear hb hbox hg; have hnb24 := NB368_360.out; have hnc24 := NB360_368.out; have hnb25 := NB368_364.out; have hnc25 := NB364_368.out; have hcz26_0 : w23.cell? ⟨gb368, 0, none⟩ = some (.string (⟨#[]⟩ : ByteArray)) := (blk_cell BK368.out 0).trans rfl; have hcz26_1 : w23.cell? ⟨gb368, 1, none⟩ = some (.string (⟨#[]⟩ : ByteArray)) := (blk_cell BK368.out 1).trans rfl; have hfz26_0 := blk_frozen BK368.out 0; have hfz26_1 := blk_frozen BK368.out 1) | (go_at_call 42; (with_reducible refine (spec_DrawFlushLog.calls k _ _ l0 t369 t370 _ ?side1 ?side2 A7.out).mono ?_); (case side1 => exact Kd.C_below HR0.out bwl_); (case side2 => exact HC0.out); rintro e w27 ⟨rfl, hb⟩; replace BK360 := bkb_ BK360 hb; replace BK364 := bkb_ BK364 hb; replace BK368 := Aside0.mk (blk_below (g := gb368) (o := .cells #[.string t365, .string t366] 32 (0, 0)) (by (with_reducible repeat (first | refine blk_drewN ?_ _ | refine blk_drew ?_ | refine blk_alloc ?_ _)); refine blk_put (cs := #[.string t365, .string (⟨#[]⟩ : ByteArray)]) ?_ 1 _ rfl; (with_reducible repeat (first | refine blk_drewN ?_ _ | refine blk_drew ?_ | refine blk_alloc ?_ _)); refine blk_put (cs := #[.string (⟨#[]⟩ : ByteArray), .string (⟨#[]⟩ : ByteArray)]) ?_ 0 _ rfl; (with_reducible repeat (first | refine blk_drewN ?_ _ | refine blk_drew ?_ | refine blk_alloc ?_ _)); exact BK368.out) hb); replace HB := bst_ hb; (try clear hb); (try clear hb2); (try clear hk); (try clear hi)) | ((with_reducible refine gate_dst (N := 9) rfl ?_); (try (refine gate_guard (by rfl) ?_; dsimp only)); refine box_event ?hg (N := 9) ?hd (cs := #[.string (⟨#[]⟩ : ByteArray), .string (⟨#[]⟩ : ByteArray)]) (t := 32) ?hr ?_; (case hd => rfl); (case hg => rfl); (case hr => first | (go_simp; done) | (go_simp; rfl)); intro gb371 hg w28 hbox hb; have BK371 := Aside0.mk (hbox); have GW371 := bsz_ hg; have GE371 := bsz_ hg; replace HB := bst_ hb; have NB360_371 := nbl_ BK360 hg; have NB371_360 := nbr_ BK360 hg; replace BK360 := bkb_ BK360 hb; have NB364_371 := nbl_ BK364 hg; have NB371_364 := nbr_ BK364 hg; replace BK364 := bkb_ BK364 hb; have NB368_371 := nbl_ BK368 hg; have NB371_368 := nbr_ BK368 hg; replace BK368 := bkb_ BK368 hb; clear hb hbox hg; have hnb29 := NB371_360.out; have hnc29 := NB360_371.out; have hnb30 := NB371_364.out; have hnc30 := NB364_371.out; have hnb31 := NB371_368.out; have hnc31 := NB368_371.out; have hcz32_0 : w28.cell? ⟨gb371, 0, none⟩ = some (.string (⟨#[]⟩ : ByteArray)) := (blk_cell BK371.out 0).trans rfl; have hcz32_1 : w28.cell? ⟨gb371, 1, none⟩ = some (.string (⟨#[]⟩ : ByteArray)) := (blk_cell BK371.out 1).trans rfl; have hfz32_0 := blk_frozen BK371.out 0; have hfz32_1 := blk_frozen BK371.out 1) | (go_at_call 21; (with_reducible refine (impl_FlushLog.calls k t369 t370 t372 t373 t374 _ A8.out ?side1).mono ?_); (case side1 => exact HTB.out.below bwl_); rintro e w33 ⟨rfl, hb⟩; replace BK360 := bkb_ BK360 hb; replace BK364 := bkb_ BK364 hb; replace BK368 := bkb_ BK368 hb; replace BK371 := Aside0.mk (blk_below (g := gb371) (o := .cells #[.string t369, .string t370] 32 (0, 0)) (by (with_reducible repeat (first | refine blk_drewN ?_ _ | refine blk_drew ?_ | refine blk_alloc ?_ _)); refine blk_put (cs := #[.string t369, .string (⟨#[]⟩ : ByteArray)]) ?_ 1 _ rfl; (with_reducible repeat (first | refine blk_drewN ?_ _ | refine blk_drew ?_ | refine blk_alloc ?_ _)); refine blk_put (cs := #[.string (⟨#[]⟩ : ByteArray), .string (⟨#[]⟩ : ByteArray)]) ?_ 0 _ rfl; (with_reducible repeat (first | refine blk_drewN ?_ _ | refine blk_drew ?_ | refine blk_alloc ?_ _)); exact BK371.out) hb); replace HB := bst_ hb; (try clear hb); (try clear hb2); (try clear hk); (try clear hi)) | ((with_reducible refine gate_dst (N := 10) rfl ?_); (try (refine gate_guard (by rfl) ?_; dsimp only)); refine box_event ?hg (N := 10) ?hd (cs := #[.string (⟨#[]⟩ : ByteArray), .string (⟨#[]⟩ : ByteArray)]) (t := 32) ?hr ?_; (case hd => rfl); (case hg => rfl); (case hr => first | (go_simp; done) | (go_simp; rfl)); intro gb375 hg w34 hbox hb; have BK375 := Aside0.mk (hbox); have GW375 := bsz_ hg; have GE375 := bsz_ hg; replace HB := bst_ hb; have NB360_375 := nbl_ BK360 hg; have NB375_360 := nbr_ BK360 hg; replace BK360 := bkb_ BK360 hb; have NB364_375 := nbl_ BK364 hg; have NB375_364 := nbr_ BK364 hg; replace BK364 := bkb_ BK364 hb; have NB368_375 := nbl_ BK368 hg; have NB375_368 := nbr_ BK368 hg; replace BK368 := bkb_ BK368 hb; have NB371_375 := nbl_ BK371 hg; have NB375_371 := nbr_ BK371 hg; replace BK371 := bkb_ BK371 hb; clear hb hbox hg; have hnb35 := NB375_360.out; have hnc35 := NB360_375.out; have hnb36 := NB375_364.out; have hnc36 := NB364_375.out; have hnb37 := NB375_368.out; have hnc37 := NB368_375.out; have hnb38 := NB375_371.out; have hnc38 := NB371_375.out; have hcz39_0 : w34.cell? ⟨gb375, 0, none⟩ = some (.string (⟨#[]⟩ : ByteArray)) := (blk_cell BK375.out 0).trans rfl; have hcz39_1 : w34.cell? ⟨gb375, 1, none⟩ = some (.string (⟨#[]⟩ : ByteArray)) := (blk_cell BK375.out 1).trans rfl; have hfz39_0 := blk_frozen BK375.out 0; have hfz39_1 := blk_frozen BK375.out 1; have hcz40_0 : w34.cell? ⟨gb371, 0, none⟩ = some (.string t369) := (blk_cell BK371.out 0).trans rfl; have hcz40_1 : w34.cell? ⟨gb371, 1, none⟩ = some (.string t370) := (blk_cell BK371.out 1).trans rfl; have hfz40_0 := blk_frozen BK371.out 0; have hfz40_1 := blk_frozen BK371.out 1) | (go_at_call 19; (with_reducible refine (spec_FlushLog.calls k t369 t370 t376 t377 t378 _ A9.out).mono ?_); rintro e w41 ⟨rfl, hb⟩; replace BK360 := bkb_ BK360 hb; replace BK364 := bkb_ BK364 hb; replace BK368 := bkb_ BK368 hb; replace BK371 := bkb_ BK371 hb; replace BK375 := Aside0.mk (blk_below (g := gb375) (o := .cells #[.string t372, .string t373] 32 (0, 0)) (by (with_reducible repeat (first | refine blk_drewN ?_ _ | refine blk_drew ?_ | refine blk_alloc ?_ _)); refine blk_put (cs := #[.string t372, .string (⟨#[]⟩ : ByteArray)]) ?_ 1 _ rfl; (with_reducible repeat (first | refine blk_drewN ?_ _ | refine blk_drew ?_ | refine blk_alloc ?_ _)); refine blk_put (cs := #[.string (⟨#[]⟩ : ByteArray), .string (⟨#[]⟩ : ByteArray)]) ?_ 0 _ rfl; (with_reducible repeat (first | refine blk_drewN ?_ _ | refine blk_drew ?_ | refine blk_alloc ?_ _)); exact BK375.out) hb); replace HB := bst_ hb; (try clear hb); (try clear hb2); (try clear hk); (try clear hi)) | ((with_reducible refine gate_dst (N := 12) rfl ?_); (try (refine gate_guard (by rfl) ?_; dsimp only)); refine box_event ?hg (N := 12) ?hd (cs := #[.string (⟨#[]⟩ : ByteArray), .string (⟨#[]⟩ : ByteArray)]) (t := 32) ?hr ?_; (case hd => rfl); (case hg => rfl); (case hr => first | (go_simp; done) | (go_simp; rfl)); intro gb379 hg w42 hbox hb; have BK379 := Aside0.mk (hbox); have GW379 := bsz_ hg; have GE379 := bsz_ hg; replace HB := bst_ hb; have NB360_379 := nbl_ BK360 hg; have NB379_360 := nbr_ BK360 hg; replace BK360 := bkb_ BK360 hb; have NB364_379 := nbl_ BK364 hg; have NB379_364 := nbr_ BK364 hg; replace BK364 := bkb_ BK364 hb; have NB368_379 := nbl_ BK368 hg; have NB379_368 := nbr_ BK368 hg; replace BK368 := bkb_ BK368 hb; have NB371_379 := nbl_ BK371 hg; have NB379_371 := nbr_ BK371 hg; replace BK371 := bkb_ BK371 hb; have NB375_379 := nbl_ BK375 hg; have NB379_375 := nbr_ BK375 hg; replace BK375 := bkb_ BK375 hb; clear hb hbox hg; have hnb43 := NB379_360.out; have hnc43 := NB360_379.out; have hnb44 := NB379_364.out; have hnc44 := NB364_379.out; have hnb45 := NB379_368.out; have hnc45 := NB368_379.out; have hnb46 := NB379_371.out; have hnc46 := NB371_379.out; have hnb47 := NB379_375.out; have hnc47 := NB375_379.out; have hcz48_0 : w42.cell? ⟨gb379, 0, none⟩ = some (.string (⟨#[]⟩ : ByteArray)) := (blk_cell BK379.out 0).trans rfl; have hcz48_1 : w42.cell? ⟨gb379, 1, none⟩ = some (.string (⟨#[]⟩ : ByteArray)) := (blk_cell BK379.out 1).trans rfl; have hfz48_0 := blk_frozen BK379.out 0; have hfz48_1 := blk_frozen BK379.out 1) | (go_at_call 43; (with_reducible refine (spec_DrawRecoverLog.calls k _ _ l0 t380 t381 _ ?side1 ?side2 A10.out).mono ?_); (case side1 => exact Kd.C_below HR0.out bwl_); (case side2 => exact HC0.out); rintro e w49 ⟨rfl, hb⟩; replace BK360 := bkb_ BK360 hb; replace BK364 := bkb_ BK364 hb; replace BK368 := bkb_ BK368 hb; replace BK371 := bkb_ BK371 hb; replace BK375 := bkb_ BK375 hb; replace BK379 := Aside0.mk (blk_below (g := gb379) (o := .cells #[.string t376, .string t377] 32 (0, 0)) (by (with_reducible repeat (first | refine blk_drewN ?_ _ | refine blk_drew ?_ | refine blk_alloc ?_ _)); refine blk_put (cs := #[.string t376, .string (⟨#[]⟩ : ByteArray)]) ?_ 1 _ rfl; (with_reducible repeat (first | refine blk_drewN ?_ _ | refine blk_drew ?_ | refine blk_alloc ?_ _)); refine blk_put (cs := #[.string (⟨#[]⟩ : ByteArray), .string (⟨#[]⟩ : ByteArray)]) ?_ 0 _ rfl; (with_reducible repeat (first | refine blk_drewN ?_ _ | refine blk_drew ?_ | refine blk_alloc ?_ _)); exact BK379.out) hb); replace HB := bst_ hb; (try clear hb); (try clear hb2); (try clear hk); (try clear hi)) | ((with_reducible refine gate_dst (N := 14) rfl ?_); (try (refine gate_guard (by rfl) ?_; dsimp only)); refine box_event ?hg (N := 14) ?hd (cs := #[.string (⟨#[]⟩ : ByteArray), .string (⟨#[]⟩ : ByteArray)]) (t := 32) ?hr ?_; (case hd => rfl); (case hg => rfl); (case hr => first | (go_simp; done) | (go_simp; rfl)); intro gb382 hg w50 hbox hb; have BK382 := Aside0.mk (hbox); have GW382 := bsz_ hg; have GE382 := bsz_ hg; replace HB := bst_ hb; have NB360_382 := nbl_ BK360 hg; have NB382_360 := nbr_ BK360 hg; replace BK360 := bkb_ BK360 hb; have NB364_382 := nbl_ BK364 hg; have NB382_364 := nbr_ BK364 hg; replace BK364 := bkb_ BK364 hb; have NB368_382 := nbl_ BK368 hg; have NB382_368 := nbr_ BK368 hg; replace BK368 := bkb_ BK368 hb; have NB371_382 := nbl_ BK371 hg; have NB382_371 := nbr_ BK371 hg; replace BK371 := bkb_ BK371 hb; have NB375_382 := nbl_ BK375 hg; have NB382_375 := nbr_ BK375 hg; replace BK375 := bkb_ BK375 hb; have NB379_382 := nbl_ BK379 hg; have NB382_379 := nbr_ BK379 hg; replace BK379 := bkb_ BK379 hb; clear hb hbox hg; have hnb51 := NB382_360.out; have hnc51 := NB360_382.out; have hnb52 := NB382_364.out; have hnc52 := NB364_382.out; have hnb53 := NB382_368.out; have hnc53 := NB368_382.out; have hnb54 := NB382_371.out; have hnc54 := NB371_382.out; have hnb55 := NB382_375.out; have hnc55 := NB375_382.out; have hnb56 := NB382_379.out; have hnc56 := NB379_382.out; have hcz57_0 : w50.cell? ⟨gb382, 0, none⟩ = some (.string (⟨#[]⟩ : ByteArray)) := (blk_cell BK382.out 0).trans rfl; have hcz57_1 : w50.cell? ⟨gb382, 1, none⟩ = some (.string (⟨#[]⟩ : ByteArray)) := (blk_cell BK382.out 1).trans rfl; have hfz57_0 := blk_frozen BK382.out 0; have hfz57_1 := blk_frozen BK382.out 1) | (go_at_call 26; (with_reducible refine (impl_RecoverLog.calls k t380 t381 t383 t384 t385 t386 _ A11.out ?side1).mono ?_); (case side1 => exact HTB.out.below bwl_); rintro e w58 ⟨rfl, hb⟩; replace BK360 := bkb_ BK360 hb; replace BK364 := bkb_ BK364 hb; replace BK368 := bkb_ BK368 hb; replace BK371 := bkb_ BK371 hb; replace BK375 := bkb_ BK375 hb; replace BK379 := bkb_ BK379 hb; replace BK382 := Aside0.mk (blk_below (g := gb382) (o := .cells #[.string t380, .string t381] 32 (0, 0)) (by (with_reducible repeat (first | refine blk_drewN ?_ _ | refine blk_drew ?_ | refine blk_alloc ?_ _)); refine blk_put (cs := #[.string t380, .string (⟨#[]⟩ : ByteArray)]) ?_ 1 _ rfl; (with_reducible repeat (first | refine blk_drewN ?_ _ | refine blk_drew ?_ | refine blk_alloc ?_ _)); refine blk_put (cs := #[.string (⟨#[]⟩ : ByteArray), .string (⟨#[]⟩ : ByteArray)]) ?_ 0 _ rfl; (with_reducible repeat (first | refine blk_drewN ?_ _ | refine blk_drew ?_ | refine blk_alloc ?_ _)); exact BK382.out) hb); replace HB := bst_ hb; (try clear hb); (try clear hb2); (try clear hk); (try clear hi)) | ((with_reducible refine gate_dst (N := 15) rfl ?_); (try (refine gate_guard (by rfl) ?_; dsimp only)); refine box_event ?hg (N := 15) ?hd (cs := #[.string (⟨#[]⟩ : ByteArray), .string (⟨#[]⟩ : ByteArray)]) (t := 32) ?hr ?_; (case hd => rfl); (case hg => rfl); (case hr => first | (go_simp; done) | (go_simp; rfl)); intro gb387 hg w59 hbox hb; have BK387 := Aside0.mk (hbox); have GW387 := bsz_ hg; have GE387 := bsz_ hg; replace HB := bst_ hb; have NB360_387 := nbl_ BK360 hg; have NB387_360 := nbr_ BK360 hg; replace BK360 := bkb_ BK360 hb; have NB364_387 := nbl_ BK364 hg; have NB387_364 := nbr_ BK364 hg; replace BK364 := bkb_ BK364 hb; have NB368_387 := nbl_ BK368 hg; have NB387_368 := nbr_ BK368 hg; replace BK368 := bkb_ BK368 hb; have NB371_387 := nbl_ BK371 hg; have NB387_371 := nbr_ BK371 hg; replace BK371 := bkb_ BK371 hb; have NB375_387 := nbl_ BK375 hg; have NB387_375 := nbr_ BK375 hg; replace BK375 := bkb_ BK375 hb; have NB379_387 := nbl_ BK379 hg; have NB387_379 := nbr_ BK379 hg; replace BK379 := bkb_ BK379 hb; have NB382_387 := nbl_ BK382 hg; have NB387_382 := nbr_ BK382 hg; replace BK382 := bkb_ BK382 hb; clear hb hbox hg; have hnb60 := NB387_360.out; have hnc60 := NB360_387.out; have hnb61 := NB387_364.out; have hnc61 := NB364_387.out; have hnb62 := NB387_368.out; have hnc62 := NB368_387.out; have hnb63 := NB387_371.out; have hnc63 := NB371_387.out; have hnb64 := NB387_375.out; have hnc64 := NB375_387.out; have hnb65 := NB387_379.out; have hnc65 := NB379_387.out; have hnb66 := NB387_382.out; have hnc66 := NB382_387.out; have hcz67_0 : w59.cell? ⟨gb387, 0, none⟩ = some (.string (⟨#[]⟩ : ByteArray)) := (blk_cell BK387.out 0).trans rfl; have hcz67_1 : w59.cell? ⟨gb387, 1, none⟩ = some (.string (⟨#[]⟩ : ByteArray)) := (blk_cell BK387.out 1).trans rfl; have hfz67_0 := blk_frozen BK387.out 0; have hfz67_1 := blk_frozen BK387.out 1; have hcz68_0 : w59.cell? ⟨gb382, 0, none⟩ = some (.string t380) := (blk_cell BK382.out 0).trans rfl; have hcz68_1 : w59.cell? ⟨gb382, 1, none⟩ = some (.string t381) := (blk_cell BK382.out 1).trans rfl; have hfz68_0 := blk_frozen BK382.out 0; have hfz68_1 := blk_frozen BK382.out 1) | (go_at_call 25; (with_reducible refine (spec_RecoverLog.calls k t380 t381 t388 t389 t390 t391 _ A12.out).mono ?_); rintro e w69 ⟨rfl, hb⟩; replace BK360 := bkb_ BK360 hb; replace BK364 := bkb_ BK364 hb; replace BK368 := bkb_ BK368 hb; replace BK371 := bkb_ BK371 hb; replace BK375 := bkb_ BK375 hb; replace BK379 := bkb_ BK379 hb; replace BK382 := bkb_ BK382 hb; replace BK387 := Aside0.mk (blk_below (g := gb387) (o := .cells #[.string t383, .string t384] 32 (0, 0)) (by (with_reducible repeat (first | refine blk_drewN ?_ _ | refine blk_drew ?_ | refine blk_alloc ?_ _)); refine blk_put (cs := #[.string t383, .string (⟨#[]⟩ : ByteArray)]) ?_ 1 _ rfl; (with_reducible repeat (first | refine blk_drewN ?_ _ | refine blk_drew ?_ | refine blk_alloc ?_ _)); refine blk_put (cs := #[.string (⟨#[]⟩ : ByteArray), .string (⟨#[]⟩ : ByteArray)]) ?_ 0 _ rfl; (with_reducible repeat (first | refine blk_drewN ?_ _ | refine blk_drew ?_ | refine blk_alloc ?_ _)); exact BK387.out) hb); replace HB := bst_ hb; (try clear hb); (try clear hb2); (try clear hk); (try clear hi)) | ((with_reducible refine gate_dst (N := 18) rfl ?_); (try (refine gate_guard (by rfl) ?_; dsimp only)); refine box_event ?hg (N := 18) ?hd (cs := #[.string (⟨#[]⟩ : ByteArray), .string (⟨#[]⟩ : ByteArray)]) (t := 32) ?hr ?_; (case hd => rfl); (case hg => rfl); (case hr => first | (go_simp; done) | (go_simp; rfl)); intro gb392 hg w70 hbox hb; have BK392 := Aside0.mk (hbox); have GW392 := bsz_ hg; have GE392 := bsz_ hg; replace HB := bst_ hb; have NB360_392 := nbl_ BK360 hg; have NB392_360 := nbr_ BK360 hg; replace BK360 := bkb_ BK360 hb; have NB364_392 := nbl_ BK364 hg; have NB392_364 := nbr_ BK364 hg; replace BK364 := bkb_ BK364 hb; have NB368_392 := nbl_ BK368 hg; have NB392_368 := nbr_ BK368 hg; replace BK368 := bkb_ BK368 hb; have NB371_392 := nbl_ BK371 hg; have NB392_371 := nbr_ BK371 hg; replace BK371 := bkb_ BK371 hb; have NB375_392 := nbl_ BK375 hg; have NB392_375 := nbr_ BK375 hg; replace BK375 := bkb_ BK375 hb; have NB379_392 := nbl_ BK379 hg; have NB392_379 := nbr_ BK379 hg; replace BK379 := bkb_ BK379 hb; have NB382_392 := nbl_ BK382 hg; have NB392_382 := nbr_ BK382 hg; replace BK382 := bkb_ BK382 hb; have NB387_392 := nbl_ BK387 hg; have NB392_387 := nbr_ BK387 hg; replace BK387 := bkb_ BK387 hb; clear hb hbox hg; have hnb71 := NB392_360.out; have hnc71 := NB360_392.out; have hnb72 := NB392_364.out; have hnc72 := NB364_392.out; have hnb73 := NB392_368.out; have hnc73 := NB368_392.out; have hnb74 := NB392_371.out; have hnc74 := NB371_392.out; have hnb75 := NB392_375.out; have hnc75 := NB375_392.out; have hnb76 := NB392_379.out; have hnc76 := NB379_392.out; have hnb77 := NB392_382.out; have hnc77 := NB382_392.out; have hnb78 := NB392_387.out; have hnc78 := NB387_392.out; have hcz79_0 : w70.cell? ⟨gb392, 0, none⟩ = some (.string (⟨#[]⟩ : ByteArray)) := (blk_cell BK392.out 0).trans rfl; have hcz79_1 : w70.cell? ⟨gb392, 1, none⟩ = some (.string (⟨#[]⟩ : ByteArray)) := (blk_cell BK392.out 1).trans rfl; have hfz79_0 := blk_frozen BK392.out 0; have hfz79_1 := blk_frozen BK392.out 1))
    (try simp only [Act.put, List.setIfInBounds_toArray, List.set_cons_zero, List.set_cons_succ])
    go_cut [114] (fun v114 wc => ∃ (kq : Nat) (x114_12 : Bool), v114 = .bool x114_12 ∧ Aside0 (laws_FnPowerLoss.j0 kq t359 t363 t374 t386 t390 x114_12 t357 t358 t361 t362 t369 t370 t372 t373 t380 t381 t383 t384 t388 t389 = some r) ∧ Aside0 (kq ≤ k) ∧ Aside0 (wc.heap[gb360]? = some (.cells #[.string t357, .string t358] 32 (0, 0))) ∧ Aside0 (wc.heap[gb364]? = some (.cells #[.string t361, .string t362] 32 (0, 0))) ∧ Aside0 (wc.heap[gb368]? = some (.cells #[.string t365, .string t366] 32 (0, 0))) ∧ Aside0 (wc.heap[gb371]? = some (.cells #[.string t369, .string t370] 32 (0, 0))) ∧ Aside0 (wc.heap[gb375]? = some (.cells #[.string t372, .string t373] 32 (0, 0))) ∧ Aside0 (wc.heap[gb379]? = some (.cells #[.string t376, .string t377] 32 (0, 0))) ∧ Aside0 (wc.heap[gb382]? = some (.cells #[.string t380, .string t381] 32 (0, 0))) ∧ Aside0 (wc.heap[gb387]? = some (.cells #[.string t383, .string t384] 32 (0, 0))) ∧ Aside0 (wc.heap[gb392]? = some (.cells #[.string t388, .string t389] 32 (0, 0))) ∧ Aside0 (Below w.heap.size w wc))
    case first => as_aux_lemma =>
      have H := HC13.out
      clear HC13
      by_cases c80 : t363 = t367
      · rw [if_pos c80] at H
        have c80b0 : (t363 == t367) = true := beq_iff_eq.mpr c80
        have c80b1 : (t363 != t367) = false := bne_eq_false_iff_eq.mpr c80
        clear c80
        (first | rw [c80b0] | (simp only [i64_w, i32_w]; rw [c80b0]) | skip)
        by_cases c81 : (!(t361.toList == t365.toList) || (!(t362.toList == t366.toList))) = true
        · rw [if_pos c81] at H
          have c81b0 : (!(t361.toList == t365.toList) || (!(t362.toList == t366.toList))) = true := c81
          clear c81
          have H' := Aside0.mk H
          clear H
          have hcz90_0 : w70.cell? ⟨gb364, 0, none⟩ = some (.string t361) := (blk_cell BK364.out 0).trans rfl
          have hcz90_1 : w70.cell? ⟨gb364, 1, none⟩ = some (.string t362) := (blk_cell BK364.out 1).trans rfl
          have hfz90_0 := blk_frozen BK364.out 0
          have hfz90_1 := blk_frozen BK364.out 1
          have hcz98_0 : w70.cell? ⟨gb368, 0, none⟩ = some (.string t365) := (blk_cell BK368.out 0).trans rfl
          have hcz98_1 : w70.cell? ⟨gb368, 1, none⟩ = some (.string t366) := (blk_cell BK368.out 1).trans rfl
          have hfz98_0 := blk_frozen BK368.out 0
          have hfz98_1 := blk_frozen BK368.out 1
          go_wp2
          repeat (go_quiet (fail); try go_wp2)
          go_meet
          case rel => exact ⟨_, (true), (by first | rfl | (simp; done) | (simp [*]; done)), H', ⟨by first | omega | exact Nat.le_refl _⟩, ⟨by (with_reducible repeat (first | refine blk_drewN ?_ _ | refine blk_drew ?_ | refine blk_alloc ?_ _)); refine blk_far ?_ NB360_392.out _; (with_reducible repeat (first | refine blk_drewN ?_ _ | refine blk_drew ?_ | refine blk_alloc ?_ _)); refine blk_far ?_ NB360_392.out _; (with_reducible repeat (first | refine blk_drewN ?_ _ | refine blk_drew ?_ | refine blk_alloc ?_ _)); exact BK360.out⟩, ⟨by (with_reducible repeat (first | refine blk_drewN ?_ _ | refine blk_drew ?_ | refine blk_alloc ?_ _)); refine blk_far ?_ NB364_392.out _; (with_reducible repeat (first | refine blk_drewN ?_ _ | refine blk_drew ?_ | refine blk_alloc ?_ _)); refine blk_far ?_ NB364_392.out _; (with_reducible repeat (first | refine blk_drewN ?_ _ | refine blk_drew ?_ | refine blk_alloc ?_ _)); exact BK364.out⟩, ⟨by (with_reducible repeat (first | refine blk_drewN ?_ _ | refine blk_drew ?_ | refine blk_alloc ?_ _)); refine blk_far ?_ NB368_392.out _; (with_reducible repeat (first | refine blk_drewN ?_ _ | refine blk_drew ?_ | refine blk_alloc ?_ _)); refine blk_far ?_ NB368_392.out _; (with_reducible repeat (first | refine blk_drewN ?_ _ | refine blk_drew ?_ | refine blk_alloc ?_ _)); exact BK368.out⟩, ⟨by (with_reducible repeat (first | refine blk_drewN ?_ _ | refine blk_drew ?_ | refine blk_alloc ?_ _)); refine blk_far ?_ NB371_392.out _; (with_reducible repeat (first | refine blk_drewN ?_ _ | refine blk_drew ?_ | refine blk_alloc ?_ _)); refine blk_far ?_ NB371_392.out _; (with_reducible repeat (first | refine blk_drewN ?_ _ | refine blk_drew ?_ | refine blk_alloc ?_ _)); exact BK371.out⟩, ⟨by (with_reducible repeat (first | refine blk_drewN ?_ _ | refine blk_drew ?_ | refine blk_alloc ?_ _)); refine blk_far ?_ NB375_392.out _; (with_reducible repeat (first | refine blk_drewN ?_ _ | refine blk_drew ?_ | refine blk_alloc ?_ _)); refine blk_far ?_ NB375_392.out _; (with_reducible repeat (first | refine blk_drewN ?_ _ | refine blk_drew ?_ | refine blk_alloc ?_ _)); exact BK375.out⟩, ⟨by (with_reducible repeat (first | refine blk_drewN ?_ _ | refine blk_drew ?_ | refine blk_alloc ?_ _)); refine blk_far ?_ NB379_392.out _; (with_reducible repeat (first | refine blk_drewN ?_ _ | refine blk_drew ?_ | refine blk_alloc ?_ _)); refine blk_far ?_ NB379_392.out _; (with_reducible repeat (first | refine blk_drewN ?_ _ | refine blk_drew ?_ | refine blk_alloc ?_ _)); exact BK379.out⟩, ⟨by (with_reducible repeat (first | refine blk_drewN ?_ _ | refine blk_drew ?_ | refine blk_alloc ?_ _)); refine blk_far ?_ NB382_392.out _; (with_reducible repeat (first | refine blk_drewN ?_ _ | refine blk_drew ?_ | refine blk_alloc ?_ _)); refine blk_far ?_ NB382_392.out _; (with_reducible repeat (first | refine blk_drewN ?_ _ | refine blk_drew ?_ | refine blk_alloc ?_ _)); exact BK382.out⟩, ⟨by (with_reducible repeat (first | refine blk_drewN ?_ _ | refine blk_drew ?_ | refine blk_alloc ?_ _)); refine blk_far ?_ NB387_392.out _; (with_reducible repeat (first | refine blk_drewN ?_ _ | refine blk_drew ?_ | refine blk_alloc ?_ _)); refine blk_far ?_ NB387_392.out _; (with_reducible repeat (first | refine blk_drewN ?_ _ | refine blk_drew ?_ | refine blk_alloc ?_ _)); exact BK387.out⟩, ⟨by (with_reducible repeat (first | refine blk_drewN ?_ _ | refine blk_drew ?_ | refine blk_alloc ?_ _)); refine blk_put (cs := #[.string t388, .string (⟨#[]⟩ : ByteArray)]) ?_ 1 _ rfl; (with_reducible repeat (first | refine blk_drewN ?_ _ | refine blk_drew ?_ | refine blk_alloc ?_ _)); refine blk_put (cs := #[.string (⟨#[]⟩ : ByteArray), .string (⟨#[]⟩ : ByteArray)]) ?_ 0 _ rfl; (with_reducible repeat (first | refine blk_drewN ?_ _ | refine blk_drew ?_ | refine blk_alloc ?_ _)); exact BK392.out⟩, ⟨by repeat (first | (with_reducible first | exact HB.out | apply below_alloc | apply pw_below_drewN | apply below_drew1 | refine below_set ?_ GE360.out | refine below_set ?_ GE364.out | refine below_set ?_ GE368.out | refine below_set ?_ GE371.out | refine below_set ?_ GE375.out | refine below_set ?_ GE379.out | refine below_set ?_ GE382.out | refine below_set ?_ GE387.out | refine below_set ?_ GE392.out) | exact HB.out)⟩⟩
        · rw [if_neg c81] at H
          have c81b0 : (!(t361.toList == t365.toList) || (!(t362.toList == t366.toList))) = false := by simpa using c81
          clear c81
          by_cases c99 : t374 = t378
          · rw [if_pos c99] at H
            have c99b0 : (t374 == t378) = true := beq_iff_eq.mpr c99
            have c99b1 : (t374 != t378) = false := bne_eq_false_iff_eq.mpr c99
            clear c99
            by_cases c100 : (!(t372.toList == t376.toList) || (!(t373.toList == t377.toList))) = true
            · rw [if_pos c100] at H
              have c100b0 : (!(t372.toList == t376.toList) || (!(t373.toList == t377.toList))) = true := c100
              clear c100
              have H' := Aside0.mk H
              clear H
              have hcz109_0 : w70.cell? ⟨gb364, 0, none⟩ = some (.string t361) := (blk_cell BK364.out 0).trans rfl
              have hcz109_1 : w70.cell? ⟨gb364, 1, none⟩ = some (.string t362) := (blk_cell BK364.out 1).trans rfl
              have hfz109_0 := blk_frozen BK364.out 0
              have hfz109_1 := blk_frozen BK364.out 1
              have hcz117_0 : w70.cell? ⟨gb368, 0, none⟩ = some (.string t365) := (blk_cell BK368.out 0).trans rfl
              have hcz117_1 : w70.cell? ⟨gb368, 1, none⟩ = some (.string t366) := (blk_cell BK368.out 1).trans rfl
              have hfz117_0 := blk_frozen BK368.out 0
              have hfz117_1 := blk_frozen BK368.out 1
              have hcz124_0 : w70.cell? ⟨gb375, 0, none⟩ = some (.string t372) := (blk_cell BK375.out 0).trans rfl
              have hcz124_1 : w70.cell? ⟨gb375, 1, none⟩ = some (.string t373) := (blk_cell BK375.out 1).trans rfl
              have hfz124_0 := blk_frozen BK375.out 0
              have hfz124_1 := blk_frozen BK375.out 1
              have hcz130_0 : w70.cell? ⟨gb379, 0, none⟩ = some (.string t376) := (blk_cell BK379.out 0).trans rfl
              have hcz130_1 : w70.cell? ⟨gb379, 1, none⟩ = some (.string t377) := (blk_cell BK379.out 1).trans rfl
              have hfz130_0 := blk_frozen BK379.out 0
              have hfz130_1 := blk_frozen BK379.out 1
              go_wp2
              repeat (go_quiet (fail); try go_wp2)
              go_meet
              case rel => exact ⟨_, (true), (by first | rfl | (simp; done) | (simp [*]; done)), H', ⟨by first | omega | exact Nat.le_refl _⟩, ⟨by (with_reducible repeat (first | refine blk_drewN ?_ _ | refine blk_drew ?_ | refine blk_alloc ?_ _)); refine blk_far ?_ NB360_392.out _; (with_reducible repeat (first | refine blk_drewN ?_ _ | refine blk_drew ?_ | refine blk_alloc ?_ _)); refine blk_far ?_ NB360_392.out _; (with_reducible repeat (first | refine blk_drewN ?_ _ | refine blk_drew ?_ | refine blk_alloc ?_ _)); exact BK360.out⟩, ⟨by (with_reducible repeat (first | refine blk_drewN ?_ _ | refine blk_drew ?_ | refine blk_alloc ?_ _)); refine blk_far ?_ NB364_392.out _; (with_reducible repeat (first | refine blk_drewN ?_ _ | refine blk_drew ?_ | refine blk_alloc ?_ _)); refine blk_far ?_ NB364_392.out _; (with_reducible repeat (first | refine blk_drewN ?_ _ | refine blk_drew ?_ | refine blk_alloc ?_ _)); exact BK364.out⟩, ⟨by (with_reducible repeat (first | refine blk_drewN ?_ _ | refine blk_drew ?_ | refine blk_alloc ?_ _)); refine blk_far ?_ NB368_392.out _; (with_reducible repeat (first | refine blk_drewN ?_ _ | refine blk_drew ?_ | refine blk_alloc ?_ _)); refine blk_far ?_ NB368_392.out _; (with_reducible repeat (first | refine blk_drewN ?_ _ | refine blk_drew ?_ | refine blk_alloc ?_ _)); exact BK368.out⟩, ⟨by (with_reducible repeat (first | refine blk_drewN ?_ _ | refine blk_drew ?_ | refine blk_alloc ?_ _)); refine blk_far ?_ NB371_392.out _; (with_reducible repeat (first | refine blk_drewN ?_ _ | refine blk_drew ?_ | refine blk_alloc ?_ _)); refine blk_far ?_ NB371_392.out _; (with_reducible repeat (first | refine blk_drewN ?_ _ | refine blk_drew ?_ | refine blk_alloc ?_ _)); exact BK371.out⟩, ⟨by (with_reducible repeat (first | refine blk_drewN ?_ _ | refine blk_drew ?_ | refine blk_alloc ?_ _)); refine blk_far ?_ NB375_392.out _; (with_reducible repeat (first | refine blk_drewN ?_ _ | refine blk_drew ?_ | refine blk_alloc ?_ _)); refine blk_far ?_ NB375_392.out _; (with_reducible repeat (first | refine blk_drewN ?_ _ | refine blk_drew ?_ | refine blk_alloc ?_ _)); exact BK375.out⟩, ⟨by (with_reducible repeat (first | refine blk_drewN ?_ _ | refine blk_drew ?_ | refine blk_alloc ?_ _)); refine blk_far ?_ NB379_392.out _; (with_reducible repeat (first | refine blk_drewN ?_ _ | refine blk_drew ?_ | refine blk_alloc ?_ _)); refine blk_far ?_ NB379_392.out _; (with_reducible repeat (first | refine blk_drewN ?_ _ | refine blk_drew ?_ | refine blk_alloc ?_ _)); exact BK379.out⟩, ⟨by (with_reducible repeat (first | refine blk_drewN ?_ _ | refine blk_drew ?_ | refine blk_alloc ?_ _)); refine blk_far ?_ NB382_392.out _; (with_reducible repeat (first | refine blk_drewN ?_ _ | refine blk_drew ?_ | refine blk_alloc ?_ _)); refine blk_far ?_ NB382_392.out _; (with_reducible repeat (first | refine blk_drewN ?_ _ | refine blk_drew ?_ | refine blk_alloc ?_ _)); exact BK382.out⟩, ⟨by (with_reducible repeat (first | refine blk_drewN ?_ _ | refine blk_drew ?_ | refine blk_alloc ?_ _)); refine blk_far ?_ NB387_392.out _; (with_reducible repeat (first | refine blk_drewN ?_ _ | refine blk_drew ?_ | refine blk_alloc ?_ _)); refine blk_far ?_ NB387_392.out _; (with_reducible repeat (first | refine blk_drewN ?_ _ | refine blk_drew ?_ | refine blk_alloc ?_ _)); exact BK387.out⟩, ⟨by (with_reducible repeat (first | refine blk_drewN ?_ _ | refine blk_drew ?_ | refine blk_alloc ?_ _)); refine blk_put (cs := #[.string t388, .string (⟨#[]⟩ : ByteArray)]) ?_ 1 _ rfl; (with_reducible repeat (first | refine blk_drewN ?_ _ | refine blk_drew ?_ | refine blk_alloc ?_ _)); refine blk_put (cs := #[.string (⟨#[]⟩ : ByteArray), .string (⟨#[]⟩ : ByteArray)]) ?_ 0 _ rfl; (with_reducible repeat (first | refine blk_drewN ?_ _ | refine blk_drew ?_ | refine blk_alloc ?_ _)); exact BK392.out⟩, ⟨by repeat (first | (with_reducible first | exact HB.out | apply below_alloc | apply pw_below_drewN | apply below_drew1 | refine below_set ?_ GE360.out | refine below_set ?_ GE364.out | refine below_set ?_ GE368.out | refine below_set ?_ GE371.out | refine below_set ?_ GE375.out | refine below_set ?_ GE379.out | refine below_set ?_ GE382.out | refine below_set ?_ GE387.out | refine below_set ?_ GE392.out) | exact HB.out)⟩⟩
            · rw [if_neg c100] at H
              have c100b0 : (!(t372.toList == t376.toList) || (!(t373.toList == t377.toList))) = false := by simpa using c100
              clear c100
              by_cases c131 : t386 = t391
              · rw [if_pos c131] at H
                have c131b0 : (t386 == t391) = true := beq_iff_eq.mpr c131
                have c131b1 : (t386 != t391) = false := bne_eq_false_iff_eq.mpr c131
                clear c131
                by_cases c132 : (!(t383.toList == t388.toList) || (!(t384.toList == t389.toList))) = true
                · rw [if_pos c132] at H
                  have c132b0 : (!(t383.toList == t388.toList) || (!(t384.toList == t389.toList))) = true := c132
                  clear c132
                  have H' := Aside0.mk H
                  clear H
                  have hcz141_0 : w70.cell? ⟨gb364, 0, none⟩ = some (.string t361) := (blk_cell BK364.out 0).trans rfl
                  have hcz141_1 : w70.cell? ⟨gb364, 1, none⟩ = some (.string t362) := (blk_cell BK364.out 1).trans rfl
                  have hfz141_0 := blk_frozen BK364.out 0
                  have hfz141_1 := blk_frozen BK364.out 1
                  have hcz149_0 : w70.cell? ⟨gb368, 0, none⟩ = some (.string t365) := (blk_cell BK368.out 0).trans rfl
                  have hcz149_1 : w70.cell? ⟨gb368, 1, none⟩ = some (.string t366) := (blk_cell BK368.out 1).trans rfl
                  have hfz149_0 := blk_frozen BK368.out 0
                  have hfz149_1 := blk_frozen BK368.out 1
                  have hcz156_0 : w70.cell? ⟨gb375, 0, none⟩ = some (.string t372) := (blk_cell BK375.out 0).trans rfl
                  have hcz156_1 : w70.cell? ⟨gb375, 1, none⟩ = some (.string t373) := (blk_cell BK375.out 1).trans rfl
                  have hfz156_0 := blk_frozen BK375.out 0
                  have hfz156_1 := blk_frozen BK375.out 1
                  have hcz162_0 : w70.cell? ⟨gb379, 0, none⟩ = some (.string t376) := (blk_cell BK379.out 0).trans rfl
                  have hcz162_1 : w70.cell? ⟨gb379, 1, none⟩ = some (.string t377) := (blk_cell BK379.out 1).trans rfl
                  have hfz162_0 := blk_frozen BK379.out 0
                  have hfz162_1 := blk_frozen BK379.out 1
                  have hcz167_0 : w70.cell? ⟨gb387, 0, none⟩ = some (.string t383) := (blk_cell BK387.out 0).trans rfl
                  have hcz167_1 : w70.cell? ⟨gb387, 1, none⟩ = some (.string t384) := (blk_cell BK387.out 1).trans rfl
                  have hfz167_0 := blk_frozen BK387.out 0
                  have hfz167_1 := blk_frozen BK387.out 1
                  have hcz171_0 : w70.cell? ⟨gb392, 0, none⟩ = some (.string (⟨#[]⟩ : ByteArray)) := (blk_cell BK392.out 0).trans rfl
                  have hcz171_1 : w70.cell? ⟨gb392, 1, none⟩ = some (.string (⟨#[]⟩ : ByteArray)) := (blk_cell BK392.out 1).trans rfl
                  have hfz171_0 := blk_frozen BK392.out 0
                  have hfz171_1 := blk_frozen BK392.out 1
                  go_wp2
                  repeat (go_quiet (fail); try go_wp2)
                  go_meet
                  case rel => exact ⟨_, (true), (by first | rfl | (simp; done) | (simp [*]; done)), H', ⟨by first | omega | exact Nat.le_refl _⟩, ⟨by (with_reducible repeat (first | refine blk_drewN ?_ _ | refine blk_drew ?_ | refine blk_alloc ?_ _)); refine blk_far ?_ NB360_392.out _; (with_reducible repeat (first | refine blk_drewN ?_ _ | refine blk_drew ?_ | refine blk_alloc ?_ _)); refine blk_far ?_ NB360_392.out _; (with_reducible repeat (first | refine blk_drewN ?_ _ | refine blk_drew ?_ | refine blk_alloc ?_ _)); exact BK360.out⟩, ⟨by (with_reducible repeat (first | refine blk_drewN ?_ _ | refine blk_drew ?_ | refine blk_alloc ?_ _)); refine blk_far ?_ NB364_392.out _; (with_reducible repeat (first | refine blk_drewN ?_ _ | refine blk_drew ?_ | refine blk_alloc ?_ _)); refine blk_far ?_ NB364_392.out _; (with_reducible repeat (first | refine blk_drewN ?_ _ | refine blk_drew ?_ | refine blk_alloc ?_ _)); exact BK364.out⟩, ⟨by (with_reducible repeat (first | refine blk_drewN ?_ _ | refine blk_drew ?_ | refine blk_alloc ?_ _)); refine blk_far ?_ NB368_392.out _; (with_reducible repeat (first | refine blk_drewN ?_ _ | refine blk_drew ?_ | refine blk_alloc ?_ _)); refine blk_far ?_ NB368_392.out _; (with_reducible repeat (first | refine blk_drewN ?_ _ | refine blk_drew ?_ | refine blk_alloc ?_ _)); exact BK368.out⟩, ⟨by (with_reducible repeat (first | refine blk_drewN ?_ _ | refine blk_drew ?_ | refine blk_alloc ?_ _)); refine blk_far ?_ NB371_392.out _; (with_reducible repeat (first | refine blk_drewN ?_ _ | refine blk_drew ?_ | refine blk_alloc ?_ _)); refine blk_far ?_ NB371_392.out _; (with_reducible repeat (first | refine blk_drewN ?_ _ | refine blk_drew ?_ | refine blk_alloc ?_ _)); exact BK371.out⟩, ⟨by (with_reducible repeat (first | refine blk_drewN ?_ _ | refine blk_drew ?_ | refine blk_alloc ?_ _)); refine blk_far ?_ NB375_392.out _; (with_reducible repeat (first | refine blk_drewN ?_ _ | refine blk_drew ?_ | refine blk_alloc ?_ _)); refine blk_far ?_ NB375_392.out _; (with_reducible repeat (first | refine blk_drewN ?_ _ | refine blk_drew ?_ | refine blk_alloc ?_ _)); exact BK375.out⟩, ⟨by (with_reducible repeat (first | refine blk_drewN ?_ _ | refine blk_drew ?_ | refine blk_alloc ?_ _)); refine blk_far ?_ NB379_392.out _; (with_reducible repeat (first | refine blk_drewN ?_ _ | refine blk_drew ?_ | refine blk_alloc ?_ _)); refine blk_far ?_ NB379_392.out _; (with_reducible repeat (first | refine blk_drewN ?_ _ | refine blk_drew ?_ | refine blk_alloc ?_ _)); exact BK379.out⟩, ⟨by (with_reducible repeat (first | refine blk_drewN ?_ _ | refine blk_drew ?_ | refine blk_alloc ?_ _)); refine blk_far ?_ NB382_392.out _; (with_reducible repeat (first | refine blk_drewN ?_ _ | refine blk_drew ?_ | refine blk_alloc ?_ _)); refine blk_far ?_ NB382_392.out _; (with_reducible repeat (first | refine blk_drewN ?_ _ | refine blk_drew ?_ | refine blk_alloc ?_ _)); exact BK382.out⟩, ⟨by (with_reducible repeat (first | refine blk_drewN ?_ _ | refine blk_drew ?_ | refine blk_alloc ?_ _)); refine blk_far ?_ NB387_392.out _; (with_reducible repeat (first | refine blk_drewN ?_ _ | refine blk_drew ?_ | refine blk_alloc ?_ _)); refine blk_far ?_ NB387_392.out _; (with_reducible repeat (first | refine blk_drewN ?_ _ | refine blk_drew ?_ | refine blk_alloc ?_ _)); exact BK387.out⟩, ⟨by (with_reducible repeat (first | refine blk_drewN ?_ _ | refine blk_drew ?_ | refine blk_alloc ?_ _)); refine blk_put (cs := #[.string t388, .string (⟨#[]⟩ : ByteArray)]) ?_ 1 _ rfl; (with_reducible repeat (first | refine blk_drewN ?_ _ | refine blk_drew ?_ | refine blk_alloc ?_ _)); refine blk_put (cs := #[.string (⟨#[]⟩ : ByteArray), .string (⟨#[]⟩ : ByteArray)]) ?_ 0 _ rfl; (with_reducible repeat (first | refine blk_drewN ?_ _ | refine blk_drew ?_ | refine blk_alloc ?_ _)); exact BK392.out⟩, ⟨by repeat (first | (with_reducible first | exact HB.out | apply below_alloc | apply pw_below_drewN | apply below_drew1 | refine below_set ?_ GE360.out | refine below_set ?_ GE364.out | refine below_set ?_ GE368.out | refine below_set ?_ GE371.out | refine below_set ?_ GE375.out | refine below_set ?_ GE379.out | refine below_set ?_ GE382.out | refine below_set ?_ GE387.out | refine below_set ?_ GE392.out) | exact HB.out)⟩⟩
                · rw [if_neg c132] at H
                  have c132b0 : (!(t383.toList == t388.toList) || (!(t384.toList == t389.toList))) = false := by simpa using c132
                  clear c132
                  have H' := Aside0.mk H
                  clear H
                  have hcz180_0 : w70.cell? ⟨gb364, 0, none⟩ = some (.string t361) := (blk_cell BK364.out 0).trans rfl
                  have hcz180_1 : w70.cell? ⟨gb364, 1, none⟩ = some (.string t362) := (blk_cell BK364.out 1).trans rfl
                  have hfz180_0 := blk_frozen BK364.out 0
                  have hfz180_1 := blk_frozen BK364.out 1
                  have hcz188_0 : w70.cell? ⟨gb368, 0, none⟩ = some (.string t365) := (blk_cell BK368.out 0).trans rfl
                  have hcz188_1 : w70.cell? ⟨gb368, 1, none⟩ = some (.string t366) := (blk_cell BK368.out 1).trans rfl
                  have hfz188_0 := blk_frozen BK368.out 0
                  have hfz188_1 := blk_frozen BK368.out 1
                  have hcz195_0 : w70.cell? ⟨gb375, 0, none⟩ = some (.string t372) := (blk_cell BK375.out 0).trans rfl
                  have hcz195_1 : w70.cell? ⟨gb375, 1, none⟩ = some (.string t373) := (blk_cell BK375.out 1).trans rfl
                  have hfz195_0 := blk_frozen BK375.out 0
                  have hfz195_1 := blk_frozen BK375.out 1
                  have hcz201_0 : w70.cell? ⟨gb379, 0, none⟩ = some (.string t376) := (blk_cell BK379.out 0).trans rfl
                  have hcz201_1 : w70.cell? ⟨gb379, 1, none⟩ = some (.string t377) := (blk_cell BK379.out 1).trans rfl
                  have hfz201_0 := blk_frozen BK379.out 0
                  have hfz201_1 := blk_frozen BK379.out 1
                  have hcz206_0 : w70.cell? ⟨gb387, 0, none⟩ = some (.string t383) := (blk_cell BK387.out 0).trans rfl
                  have hcz206_1 : w70.cell? ⟨gb387, 1, none⟩ = some (.string t384) := (blk_cell BK387.out 1).trans rfl
                  have hfz206_0 := blk_frozen BK387.out 0
                  have hfz206_1 := blk_frozen BK387.out 1
                  have hcz210_0 : w70.cell? ⟨gb392, 0, none⟩ = some (.string (⟨#[]⟩ : ByteArray)) := (blk_cell BK392.out 0).trans rfl
                  have hcz210_1 : w70.cell? ⟨gb392, 1, none⟩ = some (.string (⟨#[]⟩ : ByteArray)) := (blk_cell BK392.out 1).trans rfl
                  have hfz210_0 := blk_frozen BK392.out 0
                  have hfz210_1 := blk_frozen BK392.out 1
                  go_wp2
                  repeat (go_quiet (fail); try go_wp2)
                  go_meet
                  case rel => exact ⟨_, ((t385 != t390)), (by first | rfl | (simp; done) | (simp [*]; done)), H', ⟨by first | omega | exact Nat.le_refl _⟩, ⟨by (with_reducible repeat (first | refine blk_drewN ?_ _ | refine blk_drew ?_ | refine blk_alloc ?_ _)); refine blk_far ?_ NB360_392.out _; (with_reducible repeat (first | refine blk_drewN ?_ _ | refine blk_drew ?_ | refine blk_alloc ?_ _)); refine blk_far ?_ NB360_392.out _; (with_reducible repeat (first | refine blk_drewN ?_ _ | refine blk_drew ?_ | refine blk_alloc ?_ _)); exact BK360.out⟩, ⟨by (with_reducible repeat (first | refine blk_drewN ?_ _ | refine blk_drew ?_ | refine blk_alloc ?_ _)); refine blk_far ?_ NB364_392.out _; (with_reducible repeat (first | refine blk_drewN ?_ _ | refine blk_drew ?_ | refine blk_alloc ?_ _)); refine blk_far ?_ NB364_392.out _; (with_reducible repeat (first | refine blk_drewN ?_ _ | refine blk_drew ?_ | refine blk_alloc ?_ _)); exact BK364.out⟩, ⟨by (with_reducible repeat (first | refine blk_drewN ?_ _ | refine blk_drew ?_ | refine blk_alloc ?_ _)); refine blk_far ?_ NB368_392.out _; (with_reducible repeat (first | refine blk_drewN ?_ _ | refine blk_drew ?_ | refine blk_alloc ?_ _)); refine blk_far ?_ NB368_392.out _; (with_reducible repeat (first | refine blk_drewN ?_ _ | refine blk_drew ?_ | refine blk_alloc ?_ _)); exact BK368.out⟩, ⟨by (with_reducible repeat (first | refine blk_drewN ?_ _ | refine blk_drew ?_ | refine blk_alloc ?_ _)); refine blk_far ?_ NB371_392.out _; (with_reducible repeat (first | refine blk_drewN ?_ _ | refine blk_drew ?_ | refine blk_alloc ?_ _)); refine blk_far ?_ NB371_392.out _; (with_reducible repeat (first | refine blk_drewN ?_ _ | refine blk_drew ?_ | refine blk_alloc ?_ _)); exact BK371.out⟩, ⟨by (with_reducible repeat (first | refine blk_drewN ?_ _ | refine blk_drew ?_ | refine blk_alloc ?_ _)); refine blk_far ?_ NB375_392.out _; (with_reducible repeat (first | refine blk_drewN ?_ _ | refine blk_drew ?_ | refine blk_alloc ?_ _)); refine blk_far ?_ NB375_392.out _; (with_reducible repeat (first | refine blk_drewN ?_ _ | refine blk_drew ?_ | refine blk_alloc ?_ _)); exact BK375.out⟩, ⟨by (with_reducible repeat (first | refine blk_drewN ?_ _ | refine blk_drew ?_ | refine blk_alloc ?_ _)); refine blk_far ?_ NB379_392.out _; (with_reducible repeat (first | refine blk_drewN ?_ _ | refine blk_drew ?_ | refine blk_alloc ?_ _)); refine blk_far ?_ NB379_392.out _; (with_reducible repeat (first | refine blk_drewN ?_ _ | refine blk_drew ?_ | refine blk_alloc ?_ _)); exact BK379.out⟩, ⟨by (with_reducible repeat (first | refine blk_drewN ?_ _ | refine blk_drew ?_ | refine blk_alloc ?_ _)); refine blk_far ?_ NB382_392.out _; (with_reducible repeat (first | refine blk_drewN ?_ _ | refine blk_drew ?_ | refine blk_alloc ?_ _)); refine blk_far ?_ NB382_392.out _; (with_reducible repeat (first | refine blk_drewN ?_ _ | refine blk_drew ?_ | refine blk_alloc ?_ _)); exact BK382.out⟩, ⟨by (with_reducible repeat (first | refine blk_drewN ?_ _ | refine blk_drew ?_ | refine blk_alloc ?_ _)); refine blk_far ?_ NB387_392.out _; (with_reducible repeat (first | refine blk_drewN ?_ _ | refine blk_drew ?_ | refine blk_alloc ?_ _)); refine blk_far ?_ NB387_392.out _; (with_reducible repeat (first | refine blk_drewN ?_ _ | refine blk_drew ?_ | refine blk_alloc ?_ _)); exact BK387.out⟩, ⟨by (with_reducible repeat (first | refine blk_drewN ?_ _ | refine blk_drew ?_ | refine blk_alloc ?_ _)); refine blk_put (cs := #[.string t388, .string (⟨#[]⟩ : ByteArray)]) ?_ 1 _ rfl; (with_reducible repeat (first | refine blk_drewN ?_ _ | refine blk_drew ?_ | refine blk_alloc ?_ _)); refine blk_put (cs := #[.string (⟨#[]⟩ : ByteArray), .string (⟨#[]⟩ : ByteArray)]) ?_ 0 _ rfl; (with_reducible repeat (first | refine blk_drewN ?_ _ | refine blk_drew ?_ | refine blk_alloc ?_ _)); exact BK392.out⟩, ⟨by repeat (first | (with_reducible first | exact HB.out | apply below_alloc | apply pw_below_drewN | apply below_drew1 | refine below_set ?_ GE360.out | refine below_set ?_ GE364.out | refine below_set ?_ GE368.out | refine below_set ?_ GE371.out | refine below_set ?_ GE375.out | refine below_set ?_ GE379.out | refine below_set ?_ GE382.out | refine below_set ?_ GE387.out | refine below_set ?_ GE392.out) | exact HB.out)⟩⟩
              · rw [if_neg c131] at H
                have c131b0 : (t386 == t391) = false := beq_eq_false_iff_ne.mpr c131
                have c131b1 : (t386 != t391) = true := bne_iff_ne.mpr c131
                have H' := Aside0.mk H
                clear H
                have hcz219_0 : w70.cell? ⟨gb364, 0, none⟩ = some (.string t361) := (blk_cell BK364.out 0).trans rfl
                have hcz219_1 : w70.cell? ⟨gb364, 1, none⟩ = some (.string t362) := (blk_cell BK364.out 1).trans rfl
                have hfz219_0 := blk_frozen BK364.out 0
                have hfz219_1 := blk_frozen BK364.out 1
                have hcz227_0 : w70.cell? ⟨gb368, 0, none⟩ = some (.string t365) := (blk_cell BK368.out 0).trans rfl
                have hcz227_1 : w70.cell? ⟨gb368, 1, none⟩ = some (.string t366) := (blk_cell BK368.out 1).trans rfl
                have hfz227_0 := blk_frozen BK368.out 0
                have hfz227_1 := blk_frozen BK368.out 1
                have hcz234_0 : w70.cell? ⟨gb375, 0, none⟩ = some (.string t372) := (blk_cell BK375.out 0).trans rfl
                have hcz234_1 : w70.cell? ⟨gb375, 1, none⟩ = some (.string t373) := (blk_cell BK375.out 1).trans rfl
                have hfz234_0 := blk_frozen BK375.out 0
                have hfz234_1 := blk_frozen BK375.out 1
                have hcz240_0 : w70.cell? ⟨gb379, 0, none⟩ = some (.string t376) := (blk_cell BK379.out 0).trans rfl
                have hcz240_1 : w70.cell? ⟨gb379, 1, none⟩ = some (.string t377) := (blk_cell BK379.out 1).trans rfl
                have hfz240_0 := blk_frozen BK379.out 0
                have hfz240_1 := blk_frozen BK379.out 1
                go_wp2
                repeat (go_quiet (fail); try go_wp2)
                go_meet
                case rel => exact ⟨_, (true), (by first | rfl | (simp; done) | (simp [*]; done)), H', ⟨by first | omega | exact Nat.le_refl _⟩, ⟨by (with_reducible repeat (first | refine blk_drewN ?_ _ | refine blk_drew ?_ | refine blk_alloc ?_ _)); refine blk_far ?_ NB360_392.out _; (with_reducible repeat (first | refine blk_drewN ?_ _ | refine blk_drew ?_ | refine blk_alloc ?_ _)); refine blk_far ?_ NB360_392.out _; (with_reducible repeat (first | refine blk_drewN ?_ _ | refine blk_drew ?_ | refine blk_alloc ?_ _)); exact BK360.out⟩, ⟨by (with_reducible repeat (first | refine blk_drewN ?_ _ | refine blk_drew ?_ | refine blk_alloc ?_ _)); refine blk_far ?_ NB364_392.out _; (with_reducible repeat (first | refine blk_drewN ?_ _ | refine blk_drew ?_ | refine blk_alloc ?_ _)); refine blk_far ?_ NB364_392.out _; (with_reducible repeat (first | refine blk_drewN ?_ _ | refine blk_drew ?_ | refine blk_alloc ?_ _)); exact BK364.out⟩, ⟨by (with_reducible repeat (first | refine blk_drewN ?_ _ | refine blk_drew ?_ | refine blk_alloc ?_ _)); refine blk_far ?_ NB368_392.out _; (with_reducible repeat (first | refine blk_drewN ?_ _ | refine blk_drew ?_ | refine blk_alloc ?_ _)); refine blk_far ?_ NB368_392.out _; (with_reducible repeat (first | refine blk_drewN ?_ _ | refine blk_drew ?_ | refine blk_alloc ?_ _)); exact BK368.out⟩, ⟨by (with_reducible repeat (first | refine blk_drewN ?_ _ | refine blk_drew ?_ | refine blk_alloc ?_ _)); refine blk_far ?_ NB371_392.out _; (with_reducible repeat (first | refine blk_drewN ?_ _ | refine blk_drew ?_ | refine blk_alloc ?_ _)); refine blk_far ?_ NB371_392.out _; (with_reducible repeat (first | refine blk_drewN ?_ _ | refine blk_drew ?_ | refine blk_alloc ?_ _)); exact BK371.out⟩, ⟨by (with_reducible repeat (first | refine blk_drewN ?_ _ | refine blk_drew ?_ | refine blk_alloc ?_ _)); refine blk_far ?_ NB375_392.out _; (with_reducible repeat (first | refine blk_drewN ?_ _ | refine blk_drew ?_ | refine blk_alloc ?_ _)); refine blk_far ?_ NB375_392.out _; (with_reducible repeat (first | refine blk_drewN ?_ _ | refine blk_drew ?_ | refine blk_alloc ?_ _)); exact BK375.out⟩, ⟨by (with_reducible repeat (first | refine blk_drewN ?_ _ | refine blk_drew ?_ | refine blk_alloc ?_ _)); refine blk_far ?_ NB379_392.out _; (with_reducible repeat (first | refine blk_drewN ?_ _ | refine blk_drew ?_ | refine blk_alloc ?_ _)); refine blk_far ?_ NB379_392.out _; (with_reducible repeat (first | refine blk_drewN ?_ _ | refine blk_drew ?_ | refine blk_alloc ?_ _)); exact BK379.out⟩, ⟨by (with_reducible repeat (first | refine blk_drewN ?_ _ | refine blk_drew ?_ | refine blk_alloc ?_ _)); refine blk_far ?_ NB382_392.out _; (with_reducible repeat (first | refine blk_drewN ?_ _ | refine blk_drew ?_ | refine blk_alloc ?_ _)); refine blk_far ?_ NB382_392.out _; (with_reducible repeat (first | refine blk_drewN ?_ _ | refine blk_drew ?_ | refine blk_alloc ?_ _)); exact BK382.out⟩, ⟨by (with_reducible repeat (first | refine blk_drewN ?_ _ | refine blk_drew ?_ | refine blk_alloc ?_ _)); refine blk_far ?_ NB387_392.out _; (with_reducible repeat (first | refine blk_drewN ?_ _ | refine blk_drew ?_ | refine blk_alloc ?_ _)); refine blk_far ?_ NB387_392.out _; (with_reducible repeat (first | refine blk_drewN ?_ _ | refine blk_drew ?_ | refine blk_alloc ?_ _)); exact BK387.out⟩, ⟨by (with_reducible repeat (first | refine blk_drewN ?_ _ | refine blk_drew ?_ | refine blk_alloc ?_ _)); refine blk_put (cs := #[.string t388, .string (⟨#[]⟩ : ByteArray)]) ?_ 1 _ rfl; (with_reducible repeat (first | refine blk_drewN ?_ _ | refine blk_drew ?_ | refine blk_alloc ?_ _)); refine blk_put (cs := #[.string (⟨#[]⟩ : ByteArray), .string (⟨#[]⟩ : ByteArray)]) ?_ 0 _ rfl; (with_reducible repeat (first | refine blk_drewN ?_ _ | refine blk_drew ?_ | refine blk_alloc ?_ _)); exact BK392.out⟩, ⟨by repeat (first | (with_reducible first | exact HB.out | apply below_alloc | apply pw_below_drewN | apply below_drew1 | refine below_set ?_ GE360.out | refine below_set ?_ GE364.out | refine below_set ?_ GE368.out | refine below_set ?_ GE371.out | refine below_set ?_ GE375.out | refine below_set ?_ GE379.out | refine below_set ?_ GE382.out | refine below_set ?_ GE387.out | refine below_set ?_ GE392.out) | exact HB.out)⟩⟩
          · rw [if_neg c99] at H
            have c99b0 : (t374 == t378) = false := beq_eq_false_iff_ne.mpr c99
            have c99b1 : (t374 != t378) = true := bne_iff_ne.mpr c99
            have H' := Aside0.mk H
            clear H
            have hcz249_0 : w70.cell? ⟨gb364, 0, none⟩ = some (.string t361) := (blk_cell BK364.out 0).trans rfl
            have hcz249_1 : w70.cell? ⟨gb364, 1, none⟩ = some (.string t362) := (blk_cell BK364.out 1).trans rfl
            have hfz249_0 := blk_frozen BK364.out 0
            have hfz249_1 := blk_frozen BK364.out 1
            have hcz257_0 : w70.cell? ⟨gb368, 0, none⟩ = some (.string t365) := (blk_cell BK368.out 0).trans rfl
            have hcz257_1 : w70.cell? ⟨gb368, 1, none⟩ = some (.string t366) := (blk_cell BK368.out 1).trans rfl
            have hfz257_0 := blk_frozen BK368.out 0
            have hfz257_1 := blk_frozen BK368.out 1
            go_wp2
            repeat (go_quiet (fail); try go_wp2)
            go_meet
            case rel => exact ⟨_, (true), (by first | rfl | (simp; done) | (simp [*]; done)), H', ⟨by first | omega | exact Nat.le_refl _⟩, ⟨by (with_reducible repeat (first | refine blk_drewN ?_ _ | refine blk_drew ?_ | refine blk_alloc ?_ _)); refine blk_far ?_ NB360_392.out _; (with_reducible repeat (first | refine blk_drewN ?_ _ | refine blk_drew ?_ | refine blk_alloc ?_ _)); refine blk_far ?_ NB360_392.out _; (with_reducible repeat (first | refine blk_drewN ?_ _ | refine blk_drew ?_ | refine blk_alloc ?_ _)); exact BK360.out⟩, ⟨by (with_reducible repeat (first | refine blk_drewN ?_ _ | refine blk_drew ?_ | refine blk_alloc ?_ _)); refine blk_far ?_ NB364_392.out _; (with_reducible repeat (first | refine blk_drewN ?_ _ | refine blk_drew ?_ | refine blk_alloc ?_ _)); refine blk_far ?_ NB364_392.out _; (with_reducible repeat (first | refine blk_drewN ?_ _ | refine blk_drew ?_ | refine blk_alloc ?_ _)); exact BK364.out⟩, ⟨by (with_reducible repeat (first | refine blk_drewN ?_ _ | refine blk_drew ?_ | refine blk_alloc ?_ _)); refine blk_far ?_ NB368_392.out _; (with_reducible repeat (first | refine blk_drewN ?_ _ | refine blk_drew ?_ | refine blk_alloc ?_ _)); refine blk_far ?_ NB368_392.out _; (with_reducible repeat (first | refine blk_drewN ?_ _ | refine blk_drew ?_ | refine blk_alloc ?_ _)); exact BK368.out⟩, ⟨by (with_reducible repeat (first | refine blk_drewN ?_ _ | refine blk_drew ?_ | refine blk_alloc ?_ _)); refine blk_far ?_ NB371_392.out _; (with_reducible repeat (first | refine blk_drewN ?_ _ | refine blk_drew ?_ | refine blk_alloc ?_ _)); refine blk_far ?_ NB371_392.out _; (with_reducible repeat (first | refine blk_drewN ?_ _ | refine blk_drew ?_ | refine blk_alloc ?_ _)); exact BK371.out⟩, ⟨by (with_reducible repeat (first | refine blk_drewN ?_ _ | refine blk_drew ?_ | refine blk_alloc ?_ _)); refine blk_far ?_ NB375_392.out _; (with_reducible repeat (first | refine blk_drewN ?_ _ | refine blk_drew ?_ | refine blk_alloc ?_ _)); refine blk_far ?_ NB375_392.out _; (with_reducible repeat (first | refine blk_drewN ?_ _ | refine blk_drew ?_ | refine blk_alloc ?_ _)); exact BK375.out⟩, ⟨by (with_reducible repeat (first | refine blk_drewN ?_ _ | refine blk_drew ?_ | refine blk_alloc ?_ _)); refine blk_far ?_ NB379_392.out _; (with_reducible repeat (first | refine blk_drewN ?_ _ | refine blk_drew ?_ | refine blk_alloc ?_ _)); refine blk_far ?_ NB379_392.out _; (with_reducible repeat (first | refine blk_drewN ?_ _ | refine blk_drew ?_ | refine blk_alloc ?_ _)); exact BK379.out⟩, ⟨by (with_reducible repeat (first | refine blk_drewN ?_ _ | refine blk_drew ?_ | refine blk_alloc ?_ _)); refine blk_far ?_ NB382_392.out _; (with_reducible repeat (first | refine blk_drewN ?_ _ | refine blk_drew ?_ | refine blk_alloc ?_ _)); refine blk_far ?_ NB382_392.out _; (with_reducible repeat (first | refine blk_drewN ?_ _ | refine blk_drew ?_ | refine blk_alloc ?_ _)); exact BK382.out⟩, ⟨by (with_reducible repeat (first | refine blk_drewN ?_ _ | refine blk_drew ?_ | refine blk_alloc ?_ _)); refine blk_far ?_ NB387_392.out _; (with_reducible repeat (first | refine blk_drewN ?_ _ | refine blk_drew ?_ | refine blk_alloc ?_ _)); refine blk_far ?_ NB387_392.out _; (with_reducible repeat (first | refine blk_drewN ?_ _ | refine blk_drew ?_ | refine blk_alloc ?_ _)); exact BK387.out⟩, ⟨by (with_reducible repeat (first | refine blk_drewN ?_ _ | refine blk_drew ?_ | refine blk_alloc ?_ _)); refine blk_put (cs := #[.string t388, .string (⟨#[]⟩ : ByteArray)]) ?_ 1 _ rfl; (with_reducible repeat (first | refine blk_drewN ?_ _ | refine blk_drew ?_ | refine blk_alloc ?_ _)); refine blk_put (cs := #[.string (⟨#[]⟩ : ByteArray), .string (⟨#[]⟩ : ByteArray)]) ?_ 0 _ rfl; (with_reducible repeat (first | refine blk_drewN ?_ _ | refine blk_drew ?_ | refine blk_alloc ?_ _)); exact BK392.out⟩, ⟨by repeat (first | (with_reducible first | exact HB.out | apply below_alloc | apply pw_below_drewN | apply below_drew1 | refine below_set ?_ GE360.out | refine below_set ?_ GE364.out | refine below_set ?_ GE368.out | refine below_set ?_ GE371.out | refine below_set ?_ GE375.out | refine below_set ?_ GE379.out | refine below_set ?_ GE382.out | refine below_set ?_ GE387.out | refine below_set ?_ GE392.out) | exact HB.out)⟩⟩
      · rw [if_neg c80] at H
        have c80b0 : (t363 == t367) = false := beq_eq_false_iff_ne.mpr c80
        have c80b1 : (t363 != t367) = true := bne_iff_ne.mpr c80
        (first | rw [c80b0] | (simp only [i64_w, i32_w]; rw [c80b0]) | skip)
        have H' := Aside0.mk H
        clear H
        go_wp2
        repeat (go_quiet (fail); try go_wp2)
        go_meet
        case rel => exact ⟨_, (true), (by first | rfl | (simp; done) | (simp [*]; done)), H', ⟨by first | omega | exact Nat.le_refl _⟩, ⟨by (with_reducible repeat (first | refine blk_drewN ?_ _ | refine blk_drew ?_ | refine blk_alloc ?_ _)); refine blk_far ?_ NB360_392.out _; (with_reducible repeat (first | refine blk_drewN ?_ _ | refine blk_drew ?_ | refine blk_alloc ?_ _)); refine blk_far ?_ NB360_392.out _; (with_reducible repeat (first | refine blk_drewN ?_ _ | refine blk_drew ?_ | refine blk_alloc ?_ _)); exact BK360.out⟩, ⟨by (with_reducible repeat (first | refine blk_drewN ?_ _ | refine blk_drew ?_ | refine blk_alloc ?_ _)); refine blk_far ?_ NB364_392.out _; (with_reducible repeat (first | refine blk_drewN ?_ _ | refine blk_drew ?_ | refine blk_alloc ?_ _)); refine blk_far ?_ NB364_392.out _; (with_reducible repeat (first | refine blk_drewN ?_ _ | refine blk_drew ?_ | refine blk_alloc ?_ _)); exact BK364.out⟩, ⟨by (with_reducible repeat (first | refine blk_drewN ?_ _ | refine blk_drew ?_ | refine blk_alloc ?_ _)); refine blk_far ?_ NB368_392.out _; (with_reducible repeat (first | refine blk_drewN ?_ _ | refine blk_drew ?_ | refine blk_alloc ?_ _)); refine blk_far ?_ NB368_392.out _; (with_reducible repeat (first | refine blk_drewN ?_ _ | refine blk_drew ?_ | refine blk_alloc ?_ _)); exact BK368.out⟩, ⟨by (with_reducible repeat (first | refine blk_drewN ?_ _ | refine blk_drew ?_ | refine blk_alloc ?_ _)); refine blk_far ?_ NB371_392.out _; (with_reducible repeat (first | refine blk_drewN ?_ _ | refine blk_drew ?_ | refine blk_alloc ?_ _)); refine blk_far ?_ NB371_392.out _; (with_reducible repeat (first | refine blk_drewN ?_ _ | refine blk_drew ?_ | refine blk_alloc ?_ _)); exact BK371.out⟩, ⟨by (with_reducible repeat (first | refine blk_drewN ?_ _ | refine blk_drew ?_ | refine blk_alloc ?_ _)); refine blk_far ?_ NB375_392.out _; (with_reducible repeat (first | refine blk_drewN ?_ _ | refine blk_drew ?_ | refine blk_alloc ?_ _)); refine blk_far ?_ NB375_392.out _; (with_reducible repeat (first | refine blk_drewN ?_ _ | refine blk_drew ?_ | refine blk_alloc ?_ _)); exact BK375.out⟩, ⟨by (with_reducible repeat (first | refine blk_drewN ?_ _ | refine blk_drew ?_ | refine blk_alloc ?_ _)); refine blk_far ?_ NB379_392.out _; (with_reducible repeat (first | refine blk_drewN ?_ _ | refine blk_drew ?_ | refine blk_alloc ?_ _)); refine blk_far ?_ NB379_392.out _; (with_reducible repeat (first | refine blk_drewN ?_ _ | refine blk_drew ?_ | refine blk_alloc ?_ _)); exact BK379.out⟩, ⟨by (with_reducible repeat (first | refine blk_drewN ?_ _ | refine blk_drew ?_ | refine blk_alloc ?_ _)); refine blk_far ?_ NB382_392.out _; (with_reducible repeat (first | refine blk_drewN ?_ _ | refine blk_drew ?_ | refine blk_alloc ?_ _)); refine blk_far ?_ NB382_392.out _; (with_reducible repeat (first | refine blk_drewN ?_ _ | refine blk_drew ?_ | refine blk_alloc ?_ _)); exact BK382.out⟩, ⟨by (with_reducible repeat (first | refine blk_drewN ?_ _ | refine blk_drew ?_ | refine blk_alloc ?_ _)); refine blk_far ?_ NB387_392.out _; (with_reducible repeat (first | refine blk_drewN ?_ _ | refine blk_drew ?_ | refine blk_alloc ?_ _)); refine blk_far ?_ NB387_392.out _; (with_reducible repeat (first | refine blk_drewN ?_ _ | refine blk_drew ?_ | refine blk_alloc ?_ _)); exact BK387.out⟩, ⟨by (with_reducible repeat (first | refine blk_drewN ?_ _ | refine blk_drew ?_ | refine blk_alloc ?_ _)); refine blk_put (cs := #[.string t388, .string (⟨#[]⟩ : ByteArray)]) ?_ 1 _ rfl; (with_reducible repeat (first | refine blk_drewN ?_ _ | refine blk_drew ?_ | refine blk_alloc ?_ _)); refine blk_put (cs := #[.string (⟨#[]⟩ : ByteArray), .string (⟨#[]⟩ : ByteArray)]) ?_ 0 _ rfl; (with_reducible repeat (first | refine blk_drewN ?_ _ | refine blk_drew ?_ | refine blk_alloc ?_ _)); exact BK392.out⟩, ⟨by repeat (first | (with_reducible first | exact HB.out | apply below_alloc | apply pw_below_drewN | apply below_drew1 | refine below_set ?_ GE360.out | refine below_set ?_ GE364.out | refine below_set ?_ GE368.out | refine below_set ?_ GE371.out | refine below_set ?_ GE375.out | refine below_set ?_ GE379.out | refine below_set ?_ GE382.out | refine below_set ?_ GE387.out | refine below_set ?_ GE392.out) | exact HB.out)⟩⟩
    case rest => as_aux_lemma =>
      clear HC13
      try clear c3
      try clear c80
      try clear c80b0
      try clear c80b1
      try clear c81
      try clear c81b0
      try clear c99
      try clear c99b0
      try clear c99b1
      try clear c100
      try clear c100b0
      try clear c131
      try clear c131b0
      try clear c131b1
      try clear c132
      try clear c132b0
      try clear hcz109_0
      try clear hcz109_1
      try clear hcz117_0
      try clear hcz117_1
      try clear hcz124_0
      try clear hcz124_1
      try clear hcz130_0
      try clear hcz130_1
      try clear hcz141_0
      try clear hcz141_1
      try clear hcz149_0
      try clear hcz149_1
      try clear hcz156_0
      try clear hcz156_1
      try clear hcz162_0
      try clear hcz162_1
      try clear hcz167_0
      try clear hcz167_1
      try clear hcz16_0
      try clear hcz16_1
      try clear hcz171_0
      try clear hcz171_1
      try clear hcz180_0
      try clear hcz180_1
      try clear hcz188_0
      try clear hcz188_1
      try clear hcz195_0
      try clear hcz195_1
      try clear hcz201_0
      try clear hcz201_1
      try clear hcz206_0
      try clear hcz206_1
      try clear hcz20_0
      try clear hcz20_1
      try clear hcz210_0
      try clear hcz210_1
      try clear hcz219_0
      try clear hcz219_1
      try clear hcz21_0
      try clear hcz21_1
      try clear hcz227_0
      try clear hcz227_1
      try clear hcz234_0
      try clear hcz234_1
      try clear hcz240_0
      try clear hcz240_1
      try clear hcz249_0
      try clear hcz249_1
      try clear hcz257_0
      try clear hcz257_1
      try clear hcz26_0
      try clear hcz26_1
      try clear hcz32_0
      try clear hcz32_1
      try clear hcz39_0
      try clear hcz39_1
      try clear hcz40_0
      try clear hcz40_1
      try clear hcz48_0
      try clear hcz48_1
      try clear hcz57_0
      try clear hcz57_1
      try clear hcz67_0
      try clear hcz67_1
      try clear hcz68_0
      try clear hcz68_1
      try clear hcz79_0
      try clear hcz79_1
      try clear hcz90_0
      try clear hcz90_1
      try clear hcz98_0
      try clear hcz98_1
      try clear hfz109_0
      try clear hfz109_1
      try clear hfz117_0
      try clear hfz117_1
      try clear hfz124_0
      try clear hfz124_1
      try clear hfz130_0
      try clear hfz130_1
      try clear hfz141_0
      try clear hfz141_1
      try clear hfz149_0
      try clear hfz149_1
      try clear hfz156_0
      try clear hfz156_1
      try clear hfz162_0
      try clear hfz162_1
      try clear hfz167_0
      try clear hfz167_1
      try clear hfz16_0
      try clear hfz16_1
      try clear hfz171_0
      try clear hfz171_1
      try clear hfz180_0
      try clear hfz180_1
      try clear hfz188_0
      try clear hfz188_1
      try clear hfz195_0
      try clear hfz195_1
      try clear hfz201_0
      try clear hfz201_1
      try clear hfz206_0
      try clear hfz206_1
      try clear hfz20_0
      try clear hfz20_1
      try clear hfz210_0
      try clear hfz210_1
      try clear hfz219_0
      try clear hfz219_1
      try clear hfz21_0
      try clear hfz21_1
      try clear hfz227_0
      try clear hfz227_1
      try clear hfz234_0
      try clear hfz234_1
      try clear hfz240_0
      try clear hfz240_1
      try clear hfz249_0
      try clear hfz249_1
      try clear hfz257_0
      try clear hfz257_1
      try clear hfz26_0
      try clear hfz26_1
      try clear hfz32_0
      try clear hfz32_1
      try clear hfz39_0
      try clear hfz39_1
      try clear hfz40_0
      try clear hfz40_1
      try clear hfz48_0
      try clear hfz48_1
      try clear hfz57_0
      try clear hfz57_1
      try clear hfz67_0
      try clear hfz67_1
      try clear hfz68_0
      try clear hfz68_1
      try clear hfz79_0
      try clear hfz79_1
      try clear hfz90_0
      try clear hfz90_1
      try clear hfz98_0
      try clear hfz98_1
      obtain ⟨kq, x114_12, rfl, HA, HJ12, BK360, BK364, BK368, BK371, BK375, BK379, BK382, BK387, BK392, HB⟩ := hcut
      cases kq with
      | zero => exact absurd HA.out (by simp [laws_FnPowerLoss.j0])
      | succ kj12 =>
        have H := HA.out
        clear HA
        simp only [laws_FnPowerLoss.j0] at H
        by_cases c258 : x114_12 = true
        · subst c258
          have H1 : (some false) = some r := by rw [if_pos rfl] at H; exact H
          clear H
          have H := H1
          clear H1
          obtain rfl := Option.some.inj H
          go_wp2
          repeat (go_quiet (fail); try go_wp2)
          go_ret
          exact ⟨by first | rfl | (simp [errW_none, errW_some] <;> rfl) | (simp [*, errW_none, errW_some] <;> rfl), by repeat (first | (with_reducible first | exact HB.out | apply below_alloc | apply pw_below_drewN | apply below_drew1 | refine below_set ?_ GE360.out | refine below_set ?_ GE364.out | refine below_set ?_ GE368.out | refine below_set ?_ GE371.out | refine below_set ?_ GE375.out | refine below_set ?_ GE379.out | refine below_set ?_ GE382.out | refine below_set ?_ GE387.out | refine below_set ?_ GE392.out) | exact HB.out)⟩
        · replace c258 := Bool.eq_false_iff.mpr c258
          subst c258
          have H1 : (if t386 = 0 then ((impl_EntriesOf.f kj12 t383 t384).bind fun bt393 => (if bt393.2 = 0 then (if t390 < 0 then (some false) else (if (wrap64 ((t388.size : Int) + t390)) = (t380.size : Int) then (laws_FnPowerLoss.j1 kj12 t359 t363 t374 t357 t358 t361 t362 t369 t370 t372 t373) else (some false))) else (some false))) else (laws_FnPowerLoss.j1 kj12 t359 t363 t374 t357 t358 t361 t362 t369 t370 t372 t373)) = some r := by rw [if_neg (show ¬ (false = true) by decide)] at H; exact H
          clear H
          have H := H1
          clear H1
          have HC259 := Aside0.mk H
          clear H
          go_upto_if 116 with (fail)
          repeat (go_quiet (fail); go_upto_if 116 with (fail))
          go_cut [] (fun wc => ∃ (kq : Nat), Aside0 (laws_FnPowerLoss.j1 kq t359 t363 t374 t357 t358 t361 t362 t369 t370 t372 t373 = some r) ∧ Aside0 (kq ≤ kj12) ∧ Aside0 (wc.heap[gb360]? = some (.cells #[.string t357, .string t358] 32 (0, 0))) ∧ Aside0 (wc.heap[gb364]? = some (.cells #[.string t361, .string t362] 32 (0, 0))) ∧ Aside0 (wc.heap[gb368]? = some (.cells #[.string t365, .string t366] 32 (0, 0))) ∧ Aside0 (wc.heap[gb371]? = some (.cells #[.string t369, .string t370] 32 (0, 0))) ∧ Aside0 (wc.heap[gb375]? = some (.cells #[.string t372, .string t373] 32 (0, 0))) ∧ Aside0 (wc.heap[gb379]? = some (.cells #[.string t376, .string t377] 32 (0, 0))) ∧ Aside0 (wc.heap[gb382]? = some (.cells #[.string t380, .string t381] 32 (0, 0))) ∧ Aside0 (wc.heap[gb387]? = some (.cells #[.string t383, .string t384] 32 (0, 0))) ∧ Aside0 (wc.heap[gb392]? = some (.cells #[.string t388, .string t389] 32 (0, 0))) ∧ Aside0 (Below w.heap.size w wc))
          case first => as_aux_lemma =>
            have H := HC259.out
            clear HC259
            by_cases c260 : t386 = 0
            · rw [if_pos c260] at H
              have c260b0 : (t386 == 0) = true := beq_iff_eq.mpr c260
              have c260b1 : (t386 != 0) = false := bne_eq_false_iff_eq.mpr c260
              clear c260
              (first | rw [c260b0] | (simp only [i64_w, i32_w]; rw [c260b0]) | skip)
              replace H := Option.bind_eq_some_iff.mp H
              obtain ⟨⟨t393, t396⟩, A2610, H⟩ := H
              replace H : (if t396 = 0 then (if t390 < 0 then (some false) else (if (wrap64 ((t388.size : Int) + t390)) = (t380.size : Int) then (laws_FnPowerLoss.j1 kj12 t359 t363 t374 t357 t358 t361 t362 t369 t370 t372 t373) else (some false))) else (some false)) = some r := H
              have A261 := Aside0.mk A2610
              clear A2610
              by_cases c262 : t396 = 0
              · rw [if_pos c262] at H
                have c262b0 : (t396 == 0) = true := beq_iff_eq.mpr c262
                have c262b1 : (t396 != 0) = false := bne_eq_false_iff_eq.mpr c262
                clear c262
                by_cases c263 : t390 < 0
                · rw [if_pos c263] at H
                  have c263b0 : decide (t390 < 0) = true := decide_eq_true c263
                  clear c263
                  obtain rfl := Option.some.inj H
                  have hcz272_0 : wc.cell? ⟨gb387, 0, none⟩ = some (.string t383) := (blk_cell BK387.out 0).trans rfl
                  have hcz272_1 : wc.cell? ⟨gb387, 1, none⟩ = some (.string t384) := (blk_cell BK387.out 1).trans rfl
                  have hfz272_0 := blk_frozen BK387.out 0
                  have hfz272_1 := blk_frozen BK387.out 1
                  go_wp2_with (first | (go_at_call 37; (with_reducible refine (impl_EntriesOf.calls kj12 t383 t384 t393 t396 _ A261.out ?side1).mono ?_); (case side1 => exact HTB.out.below bwl_); rintro e w273 ⟨v394, rfl, ho0, hb⟩; have HO395 := Aside0.mk (Kd.R_lower ho0 (below_size bwl_)); replace BK360 := bkb_ BK360 hb; replace BK364 := bkb_ BK364 hb; replace BK368 := bkb_ BK368 hb; replace BK371 := bkb_ BK371 hb; replace BK375 := bkb_ BK375 hb; replace BK379 := bkb_ BK379 hb; replace BK382 := bkb_ BK382 hb; replace BK387 := bkb_ BK387 hb; replace BK392 := bkb_ BK392 hb; replace HB := bst_ hb; (try clear hb); (try clear hb2); (try clear hk); (try clear hi); (try clear ho0)))
                  repeat (go_quiet (first | (go_at_call 37; (with_reducible refine (impl_EntriesOf.calls kj12 t383 t384 t393 t396 _ A261.out ?side1).mono ?_); (case side1 => exact HTB.out.below bwl_); rintro e w273 ⟨v394, rfl, ho0, hb⟩; have HO395 := Aside0.mk (Kd.R_lower ho0 (below_size bwl_)); replace BK360 := bkb_ BK360 hb; replace BK364 := bkb_ BK364 hb; replace BK368 := bkb_ BK368 hb; replace BK371 := bkb_ BK371 hb; replace BK375 := bkb_ BK375 hb; replace BK379 := bkb_ BK379 hb; replace BK382 := bkb_ BK382 hb; replace BK387 := bkb_ BK387 hb; replace BK392 := bkb_ BK392 hb; replace HB := bst_ hb; (try clear hb); (try clear hb2); (try clear hk); (try clear hi); (try clear ho0))); try go_wp2_with (first | (go_at_call 37; (with_reducible refine (impl_EntriesOf.calls kj12 t383 t384 t393 t396 _ A261.out ?side1).mono ?_); (case side1 => exact HTB.out.below bwl_); rintro e w273 ⟨v394, rfl, ho0, hb⟩; have HO395 := Aside0.mk (Kd.R_lower ho0 (below_size bwl_)); replace BK360 := bkb_ BK360 hb; replace BK364 := bkb_ BK364 hb; replace BK368 := bkb_ BK368 hb; replace BK371 := bkb_ BK371 hb; replace BK375 := bkb_ BK375 hb; replace BK379 := bkb_ BK379 hb; replace BK382 := bkb_ BK382 hb; replace BK387 := bkb_ BK387 hb; replace BK392 := bkb_ BK392 hb; replace HB := bst_ hb; (try clear hb); (try clear hb2); (try clear hk); (try clear hi); (try clear ho0))))
                  go_ret
                  exact ⟨by first | rfl | (simp [errW_none, errW_some] <;> rfl) | (simp [*, errW_none, errW_some] <;> rfl), by repeat (first | (with_reducible first | exact HB.out | apply below_alloc | apply pw_below_drewN | apply below_drew1 | refine below_set ?_ GE360.out | refine below_set ?_ GE364.out | refine below_set ?_ GE368.out | refine below_set ?_ GE371.out | refine below_set ?_ GE375.out | refine below_set ?_ GE379.out | refine below_set ?_ GE382.out | refine below_set ?_ GE387.out | refine below_set ?_ GE392.out) | exact HB.out)⟩
                · rw [if_neg c263] at H
                  have c263b0 : decide (t390 < 0) = false := decide_eq_false c263
                  clear c263
                  by_cases c274 : (wrap64 ((t388.size : Int) + t390)) = (t380.size : Int)
                  · rw [if_pos c274] at H
                    have c274b0 : ((wrap64 ((t388.size : Int) + t390)) == (t380.size : Int)) = true := beq_iff_eq.mpr c274
                    have c274b1 : ((wrap64 ((t388.size : Int) + t390)) != (t380.size : Int)) = false := bne_eq_false_iff_eq.mpr c274
                    clear c274
                    have H' := Aside0.mk H
                    clear H
                    have hcz283_0 : wc.cell? ⟨gb387, 0, none⟩ = some (.string t383) := (blk_cell BK387.out 0).trans rfl
                    have hcz283_1 : wc.cell? ⟨gb387, 1, none⟩ = some (.string t384) := (blk_cell BK387.out 1).trans rfl
                    have hfz283_0 := blk_frozen BK387.out 0
                    have hfz283_1 := blk_frozen BK387.out 1
                    go_wp2_with (first | (go_at_call 37; (with_reducible refine (impl_EntriesOf.calls kj12 t383 t384 t393 t396 _ A261.out ?side1).mono ?_); (case side1 => exact HTB.out.below bwl_); rintro e w284 ⟨v394, rfl, ho0, hb⟩; have HO395 := Aside0.mk (Kd.R_lower ho0 (below_size bwl_)); replace BK360 := bkb_ BK360 hb; replace BK364 := bkb_ BK364 hb; replace BK368 := bkb_ BK368 hb; replace BK371 := bkb_ BK371 hb; replace BK375 := bkb_ BK375 hb; replace BK379 := bkb_ BK379 hb; replace BK382 := bkb_ BK382 hb; replace BK387 := bkb_ BK387 hb; replace BK392 := bkb_ BK392 hb; replace HB := bst_ hb; (try clear hb); (try clear hb2); (try clear hk); (try clear hi); (try clear ho0); have hnb285 := NB392_360.out; have hnc285 := NB360_392.out; have hnb286 := NB392_364.out; have hnc286 := NB364_392.out; have hnb287 := NB392_368.out; have hnc287 := NB368_392.out; have hnb288 := NB392_371.out; have hnc288 := NB371_392.out; have hnb289 := NB392_375.out; have hnc289 := NB375_392.out; have hnb290 := NB392_379.out; have hnc290 := NB379_392.out; have hnb291 := NB392_382.out; have hnc291 := NB382_392.out; have hcz292_0 : w284.cell? ⟨gb392, 0, none⟩ = some (.string t388) := (blk_cell BK392.out 0).trans rfl; have hcz292_1 : w284.cell? ⟨gb392, 1, none⟩ = some (.string t389) := (blk_cell BK392.out 1).trans rfl; have hfz292_0 := blk_frozen BK392.out 0; have hfz292_1 := blk_frozen BK392.out 1; have hnb293 := NB382_360.out; have hnc293 := NB360_382.out; have hnb294 := NB382_364.out; have hnc294 := NB364_382.out; have hnb295 := NB382_368.out; have hnc295 := NB368_382.out; have hnb296 := NB382_371.out; have hnc296 := NB371_382.out; have hnb297 := NB382_375.out; have hnc297 := NB375_382.out; have hnb298 := NB382_379.out; have hnc298 := NB379_382.out; have hcz299_0 : w284.cell? ⟨gb382, 0, none⟩ = some (.string t380) := (blk_cell BK382.out 0).trans rfl; have hcz299_1 : w284.cell? ⟨gb382, 1, none⟩ = some (.string t381) := (blk_cell BK382.out 1).trans rfl; have hfz299_0 := blk_frozen BK382.out 0; have hfz299_1 := blk_frozen BK382.out 1))
                    go_meet
                    case rel => exact ⟨_, H', ⟨by have := HJ12.out; first | omega | exact Nat.le_refl _⟩, ⟨by (with_reducible repeat (first | refine blk_drewN ?_ _ | refine blk_drew ?_ | refine blk_alloc ?_ _)); exact BK360.out⟩, ⟨by (with_reducible repeat (first | refine blk_drewN ?_ _ | refine blk_drew ?_ | refine blk_alloc ?_ _)); exact BK364.out⟩, ⟨by (with_reducible repeat (first | refine blk_drewN ?_ _ | refine blk_drew ?_ | refine blk_alloc ?_ _)); exact BK368.out⟩, ⟨by (with_reducible repeat (first | refine blk_drewN ?_ _ | refine blk_drew ?_ | refine blk_alloc ?_ _)); exact BK371.out⟩, ⟨by (with_reducible repeat (first | refine blk_drewN ?_ _ | refine blk_drew ?_ | refine blk_alloc ?_ _)); exact BK375.out⟩, ⟨by (with_reducible repeat (first | refine blk_drewN ?_ _ | refine blk_drew ?_ | refine blk_alloc ?_ _)); exact BK379.out⟩, ⟨by (with_reducible repeat (first | refine blk_drewN ?_ _ | refine blk_drew ?_ | refine blk_alloc ?_ _)); exact BK382.out⟩, ⟨by (with_reducible repeat (first | refine blk_drewN ?_ _ | refine blk_drew ?_ | refine blk_alloc ?_ _)); exact BK387.out⟩, ⟨by (with_reducible repeat (first | refine blk_drewN ?_ _ | refine blk_drew ?_ | refine blk_alloc ?_ _)); exact BK392.out⟩, ⟨by repeat (first | (with_reducible first | exact HB.out | apply below_alloc | apply pw_below_drewN | apply below_drew1 | refine below_set ?_ GE360.out | refine below_set ?_ GE364.out | refine below_set ?_ GE368.out | refine below_set ?_ GE371.out | refine below_set ?_ GE375.out | refine below_set ?_ GE379.out | refine below_set ?_ GE382.out | refine below_set ?_ GE387.out | refine below_set ?_ GE392.out) | exact HB.out)⟩⟩
                  · rw [if_neg c274] at H
                    have c274b0 : ((wrap64 ((t388.size : Int) + t390)) == (t380.size : Int)) = false := beq_eq_false_iff_ne.mpr c274
                    have c274b1 : ((wrap64 ((t388.size : Int) + t390)) != (t380.size : Int)) = true := bne_iff_ne.mpr c274
                    obtain rfl := Option.some.inj H
                    have hcz308_0 : wc.cell? ⟨gb387, 0, none⟩ = some (.string t383) := (blk_cell BK387.out 0).trans rfl
                    have hcz308_1 : wc.cell? ⟨gb387, 1, none⟩ = some (.string t384) := (blk_cell BK387.out 1).trans rfl
                    have hfz308_0 := blk_frozen BK387.out 0
                    have hfz308_1 := blk_frozen BK387.out 1
                    go_wp2_with (first | (go_at_call 37; (with_reducible refine (impl_EntriesOf.calls kj12 t383 t384 t393 t396 _ A261.out ?side1).mono ?_); (case side1 => exact HTB.out.below bwl_); rintro e w309 ⟨v394, rfl, ho0, hb⟩; have HO395 := Aside0.mk (Kd.R_lower ho0 (below_size bwl_)); replace BK360 := bkb_ BK360 hb; replace BK364 := bkb_ BK364 hb; replace BK368 := bkb_ BK368 hb; replace BK371 := bkb_ BK371 hb; replace BK375 := bkb_ BK375 hb; replace BK379 := bkb_ BK379 hb; replace BK382 := bkb_ BK382 hb; replace BK387 := bkb_ BK387 hb; replace BK392 := bkb_ BK392 hb; replace HB := bst_ hb; (try clear hb); (try clear hb2); (try clear hk); (try clear hi); (try clear ho0); have hnb310 := NB392_360.out; have hnc310 := NB360_392.out; have hnb311 := NB392_364.out; have hnc311 := NB364_392.out; have hnb312 := NB392_368.out; have hnc312 := NB368_392.out; have hnb313 := NB392_371.out; have hnc313 := NB371_392.out; have hnb314 := NB392_375.out; have hnc314 := NB375_392.out; have hnb315 := NB392_379.out; have hnc315 := NB379_392.out; have hnb316 := NB392_382.out; have hnc316 := NB382_392.out; have hcz317_0 : w309.cell? ⟨gb392, 0, none⟩ = some (.string t388) := (blk_cell BK392.out 0).trans rfl; have hcz317_1 : w309.cell? ⟨gb392, 1, none⟩ = some (.string t389) := (blk_cell BK392.out 1).trans rfl; have hfz317_0 := blk_frozen BK392.out 0; have hfz317_1 := blk_frozen BK392.out 1; have hnb318 := NB382_360.out; have hnc318 := NB360_382.out; have hnb319 := NB382_364.out; have hnc319 := NB364_382.out; have hnb320 := NB382_368.out; have hnc320 := NB368_382.out; have hnb321 := NB382_371.out; have hnc321 := NB371_382.out; have hnb322 := NB382_375.out; have hnc322 := NB375_382.out; have hnb323 := NB382_379.out; have hnc323 := NB379_382.out; have hcz324_0 : w309.cell? ⟨gb382, 0, none⟩ = some (.string t380) := (blk_cell BK382.out 0).trans rfl; have hcz324_1 : w309.cell? ⟨gb382, 1, none⟩ = some (.string t381) := (blk_cell BK382.out 1).trans rfl; have hfz324_0 := blk_frozen BK382.out 0; have hfz324_1 := blk_frozen BK382.out 1))
                    go_ret
                    exact ⟨by first | rfl | (simp [errW_none, errW_some] <;> rfl) | (simp [*, errW_none, errW_some] <;> rfl), by repeat (first | (with_reducible first | exact HB.out | apply below_alloc | apply pw_below_drewN | apply below_drew1 | refine below_set ?_ GE360.out | refine below_set ?_ GE364.out | refine below_set ?_ GE368.out | refine below_set ?_ GE371.out | refine below_set ?_ GE375.out | refine below_set ?_ GE379.out | refine below_set ?_ GE382.out | refine below_set ?_ GE387.out | refine below_set ?_ GE392.out) | exact HB.out)⟩
              · rw [if_neg c262] at H
                have c262b0 : (t396 == 0) = false := beq_eq_false_iff_ne.mpr c262
                have c262b1 : (t396 != 0) = true := bne_iff_ne.mpr c262
                obtain rfl := Option.some.inj H
                have hcz333_0 : wc.cell? ⟨gb387, 0, none⟩ = some (.string t383) := (blk_cell BK387.out 0).trans rfl
                have hcz333_1 : wc.cell? ⟨gb387, 1, none⟩ = some (.string t384) := (blk_cell BK387.out 1).trans rfl
                have hfz333_0 := blk_frozen BK387.out 0
                have hfz333_1 := blk_frozen BK387.out 1
                go_wp2_with (first | (go_at_call 37; (with_reducible refine (impl_EntriesOf.calls kj12 t383 t384 t393 t396 _ A261.out ?side1).mono ?_); (case side1 => exact HTB.out.below bwl_); rintro e w334 ⟨v394, rfl, ho0, hb⟩; have HO395 := Aside0.mk (Kd.R_lower ho0 (below_size bwl_)); replace BK360 := bkb_ BK360 hb; replace BK364 := bkb_ BK364 hb; replace BK368 := bkb_ BK368 hb; replace BK371 := bkb_ BK371 hb; replace BK375 := bkb_ BK375 hb; replace BK379 := bkb_ BK379 hb; replace BK382 := bkb_ BK382 hb; replace BK387 := bkb_ BK387 hb; replace BK392 := bkb_ BK392 hb; replace HB := bst_ hb; (try clear hb); (try clear hb2); (try clear hk); (try clear hi); (try clear ho0)))
                repeat (go_quiet (first | (go_at_call 37; (with_reducible refine (impl_EntriesOf.calls kj12 t383 t384 t393 t396 _ A261.out ?side1).mono ?_); (case side1 => exact HTB.out.below bwl_); rintro e w334 ⟨v394, rfl, ho0, hb⟩; have HO395 := Aside0.mk (Kd.R_lower ho0 (below_size bwl_)); replace BK360 := bkb_ BK360 hb; replace BK364 := bkb_ BK364 hb; replace BK368 := bkb_ BK368 hb; replace BK371 := bkb_ BK371 hb; replace BK375 := bkb_ BK375 hb; replace BK379 := bkb_ BK379 hb; replace BK382 := bkb_ BK382 hb; replace BK387 := bkb_ BK387 hb; replace BK392 := bkb_ BK392 hb; replace HB := bst_ hb; (try clear hb); (try clear hb2); (try clear hk); (try clear hi); (try clear ho0))); try go_wp2_with (first | (go_at_call 37; (with_reducible refine (impl_EntriesOf.calls kj12 t383 t384 t393 t396 _ A261.out ?side1).mono ?_); (case side1 => exact HTB.out.below bwl_); rintro e w334 ⟨v394, rfl, ho0, hb⟩; have HO395 := Aside0.mk (Kd.R_lower ho0 (below_size bwl_)); replace BK360 := bkb_ BK360 hb; replace BK364 := bkb_ BK364 hb; replace BK368 := bkb_ BK368 hb; replace BK371 := bkb_ BK371 hb; replace BK375 := bkb_ BK375 hb; replace BK379 := bkb_ BK379 hb; replace BK382 := bkb_ BK382 hb; replace BK387 := bkb_ BK387 hb; replace BK392 := bkb_ BK392 hb; replace HB := bst_ hb; (try clear hb); (try clear hb2); (try clear hk); (try clear hi); (try clear ho0))))
                go_ret
                exact ⟨by first | rfl | (simp [errW_none, errW_some] <;> rfl) | (simp [*, errW_none, errW_some] <;> rfl), by repeat (first | (with_reducible first | exact HB.out | apply below_alloc | apply pw_below_drewN | apply below_drew1 | refine below_set ?_ GE360.out | refine below_set ?_ GE364.out | refine below_set ?_ GE368.out | refine below_set ?_ GE371.out | refine below_set ?_ GE375.out | refine below_set ?_ GE379.out | refine below_set ?_ GE382.out | refine below_set ?_ GE387.out | refine below_set ?_ GE392.out) | exact HB.out)⟩
            · rw [if_neg c260] at H
              have c260b0 : (t386 == 0) = false := beq_eq_false_iff_ne.mpr c260
              have c260b1 : (t386 != 0) = true := bne_iff_ne.mpr c260
              (first | rw [c260b0] | (simp only [i64_w, i32_w]; rw [c260b0]) | skip)
              have H' := Aside0.mk H
              clear H
              go_wp2
              repeat (go_quiet (fail); try go_wp2)
              go_meet
              case rel => exact ⟨_, H', ⟨by have := HJ12.out; first | omega | exact Nat.le_refl _⟩, ⟨by (with_reducible repeat (first | refine blk_drewN ?_ _ | refine blk_drew ?_ | refine blk_alloc ?_ _)); exact BK360.out⟩, ⟨by (with_reducible repeat (first | refine blk_drewN ?_ _ | refine blk_drew ?_ | refine blk_alloc ?_ _)); exact BK364.out⟩, ⟨by (with_reducible repeat (first | refine blk_drewN ?_ _ | refine blk_drew ?_ | refine blk_alloc ?_ _)); exact BK368.out⟩, ⟨by (with_reducible repeat (first | refine blk_drewN ?_ _ | refine blk_drew ?_ | refine blk_alloc ?_ _)); exact BK371.out⟩, ⟨by (with_reducible repeat (first | refine blk_drewN ?_ _ | refine blk_drew ?_ | refine blk_alloc ?_ _)); exact BK375.out⟩, ⟨by (with_reducible repeat (first | refine blk_drewN ?_ _ | refine blk_drew ?_ | refine blk_alloc ?_ _)); exact BK379.out⟩, ⟨by (with_reducible repeat (first | refine blk_drewN ?_ _ | refine blk_drew ?_ | refine blk_alloc ?_ _)); exact BK382.out⟩, ⟨by (with_reducible repeat (first | refine blk_drewN ?_ _ | refine blk_drew ?_ | refine blk_alloc ?_ _)); exact BK387.out⟩, ⟨by (with_reducible repeat (first | refine blk_drewN ?_ _ | refine blk_drew ?_ | refine blk_alloc ?_ _)); exact BK392.out⟩, ⟨by repeat (first | (with_reducible first | exact HB.out | apply below_alloc | apply pw_below_drewN | apply below_drew1 | refine below_set ?_ GE360.out | refine below_set ?_ GE364.out | refine below_set ?_ GE368.out | refine below_set ?_ GE371.out | refine below_set ?_ GE375.out | refine below_set ?_ GE379.out | refine below_set ?_ GE382.out | refine below_set ?_ GE387.out | refine below_set ?_ GE392.out) | exact HB.out)⟩⟩
          case rest => as_aux_lemma =>
            clear HC259
            try clear c3
            try clear c80
            try clear c80b0
            try clear c80b1
            try clear c81
            try clear c81b0
            try clear c99
            try clear c99b0
            try clear c99b1
            try clear c100
            try clear c100b0
            try clear c131
            try clear c131b0
            try clear c131b1
            try clear c132
            try clear c132b0
            try clear c258
            try clear c260
            try clear c260b0
            try clear c260b1
            try clear c262
            try clear c262b0
            try clear c262b1
            try clear c263
            try clear c263b0
            try clear c274
            try clear c274b0
            try clear c274b1
            try clear hcz109_0
            try clear hcz109_1
            try clear hcz117_0
            try clear hcz117_1
            try clear hcz124_0
            try clear hcz124_1
            try clear hcz130_0
            try clear hcz130_1
            try clear hcz141_0
            try clear hcz141_1
            try clear hcz149_0
            try clear hcz149_1
            try clear hcz156_0
            try clear hcz156_1
            try clear hcz162_0
            try clear hcz162_1
            try clear hcz167_0
            try clear hcz167_1
            try clear hcz16_0
            try clear hcz16_1
            try clear hcz171_0
            try clear hcz171_1
            try clear hcz180_0
            try clear hcz180_1
            try clear hcz188_0
            try clear hcz188_1
            try clear hcz195_0
            try clear hcz195_1
            try clear hcz201_0
            try clear hcz201_1
            try clear hcz206_0
            try clear hcz206_1
            try clear hcz20_0
            try clear hcz20_1
            try clear hcz210_0
            try clear hcz210_1
            try clear hcz219_0
            try clear hcz219_1
            try clear hcz21_0
            try clear hcz21_1
            try clear hcz227_0
            try clear hcz227_1
            try clear hcz234_0
            try clear hcz234_1
            try clear hcz240_0
            try clear hcz240_1
            try clear hcz249_0
            try clear hcz249_1
            try clear hcz257_0
            try clear hcz257_1
            try clear hcz26_0
            try clear hcz26_1
            try clear hcz272_0
            try clear hcz272_1
            try clear hcz283_0
            try clear hcz283_1
            try clear hcz292_0
            try clear hcz292_1
            try clear hcz299_0
            try clear hcz299_1
            try clear hcz308_0
            try clear hcz308_1
            try clear hcz317_0
            try clear hcz317_1
            try clear hcz324_0
            try clear hcz324_1
            try clear hcz32_0
            try clear hcz32_1
            try clear hcz333_0
            try clear hcz333_1
            try clear hcz39_0
            try clear hcz39_1
            try clear hcz40_0
            try clear hcz40_1
            try clear hcz48_0
            try clear hcz48_1
            try clear hcz57_0
            try clear hcz57_1
            try clear hcz67_0
            try clear hcz67_1
            try clear hcz68_0
            try clear hcz68_1
            try clear hcz79_0
            try clear hcz79_1
            try clear hcz90_0
            try clear hcz90_1
            try clear hcz98_0
            try clear hcz98_1
            try clear hfz109_0
            try clear hfz109_1
            try clear hfz117_0
            try clear hfz117_1
            try clear hfz124_0
            try clear hfz124_1
            try clear hfz130_0
            try clear hfz130_1
            try clear hfz141_0
            try clear hfz141_1
            try clear hfz149_0
            try clear hfz149_1
            try clear hfz156_0
            try clear hfz156_1
            try clear hfz162_0
            try clear hfz162_1
            try clear hfz167_0
            try clear hfz167_1
            try clear hfz16_0
            try clear hfz16_1
            try clear hfz171_0
            try clear hfz171_1
            try clear hfz180_0
            try clear hfz180_1
            try clear hfz188_0
            try clear hfz188_1
            try clear hfz195_0
            try clear hfz195_1
            try clear hfz201_0
            try clear hfz201_1
            try clear hfz206_0
            try clear hfz206_1
            try clear hfz20_0
            try clear hfz20_1
            try clear hfz210_0
            try clear hfz210_1
            try clear hfz219_0
            try clear hfz219_1
            try clear hfz21_0
            try clear hfz21_1
            try clear hfz227_0
            try clear hfz227_1
            try clear hfz234_0
            try clear hfz234_1
            try clear hfz240_0
            try clear hfz240_1
            try clear hfz249_0
            try clear hfz249_1
            try clear hfz257_0
            try clear hfz257_1
            try clear hfz26_0
            try clear hfz26_1
            try clear hfz272_0
            try clear hfz272_1
            try clear hfz283_0
            try clear hfz283_1
            try clear hfz292_0
            try clear hfz292_1
            try clear hfz299_0
            try clear hfz299_1
            try clear hfz308_0
            try clear hfz308_1
            try clear hfz317_0
            try clear hfz317_1
            try clear hfz324_0
            try clear hfz324_1
            try clear hfz32_0
            try clear hfz32_1
            try clear hfz333_0
            try clear hfz333_1
            try clear hfz39_0
            try clear hfz39_1
            try clear hfz40_0
            try clear hfz40_1
            try clear hfz48_0
            try clear hfz48_1
            try clear hfz57_0
            try clear hfz57_1
            try clear hfz67_0
            try clear hfz67_1
            try clear hfz68_0
            try clear hfz68_1
            try clear hfz79_0
            try clear hfz79_1
            try clear hfz90_0
            try clear hfz90_1
            try clear hfz98_0
            try clear hfz98_1
            obtain ⟨kq, HA, HJ258, BK360, BK364, BK368, BK371, BK375, BK379, BK382, BK387, BK392, HB⟩ := hcut
            cases kq with
            | zero => exact absurd HA.out (by simp [laws_FnPowerLoss.j1])
            | succ kj258 =>
              have H := HA.out
              clear HA
              simp only [laws_FnPowerLoss.j1] at H
              have HC335 := Aside0.mk H
              clear H
              go_upto_if 140 with (fail)
              repeat (go_quiet (fail); go_upto_if 140 with (fail))
              go_cut [] (fun wc => ∃ (kq : Nat), Aside0 (laws_FnPowerLoss.j2 kq t359 t363 t357 t358 t361 t362 = some r) ∧ Aside0 (kq ≤ kj258) ∧ Aside0 (wc.heap[gb360]? = some (.cells #[.string t357, .string t358] 32 (0, 0))) ∧ Aside0 (wc.heap[gb364]? = some (.cells #[.string t361, .string t362] 32 (0, 0))) ∧ Aside0 (wc.heap[gb368]? = some (.cells #[.string t365, .string t366] 32 (0, 0))) ∧ Aside0 (wc.heap[gb371]? = some (.cells #[.string t369, .string t370] 32 (0, 0))) ∧ Aside0 (wc.heap[gb375]? = some (.cells #[.string t372, .string t373] 32 (0, 0))) ∧ Aside0 (wc.heap[gb379]? = some (.cells #[.string t376, .string t377] 32 (0, 0))) ∧ Aside0 (wc.heap[gb382]? = some (.cells #[.string t380, .string t381] 32 (0, 0))) ∧ Aside0 (wc.heap[gb387]? = some (.cells #[.string t383, .string t384] 32 (0, 0))) ∧ Aside0 (wc.heap[gb392]? = some (.cells #[.string t388, .string t389] 32 (0, 0))) ∧ Aside0 (Below w.heap.size w wc))
              case first => as_aux_lemma =>
                have H := HC335.out
                clear HC335
                by_cases c336 : t374 = 0
                · rw [if_pos c336] at H
                  have c336b0 : (t374 == 0) = true := beq_iff_eq.mpr c336
                  have c336b1 : (t374 != 0) = false := bne_eq_false_iff_eq.mpr c336
                  clear c336
                  (first | rw [c336b0] | (simp only [i64_w, i32_w]; rw [c336b0]) | skip)
                  replace H := Option.bind_eq_some_iff.mp H
                  obtain ⟨⟨t397, t400⟩, A3370, H⟩ := H
                  replace H : ((impl_EntriesOf.f kj258 t372 t373).bind fun bt401 => (if t400 = 0 then (if bt401.2 = 0 then ((spec_SameEntries.f kj258 t397 bt401.1).bind fun t405 => (if t405 = true then (laws_FnPowerLoss.j2 kj258 t359 t363 t357 t358 t361 t362) else (some false))) else (some false)) else (laws_FnPowerLoss.j2 kj258 t359 t363 t357 t358 t361 t362))) = some r := H
                  have A337 := Aside0.mk A3370
                  clear A3370
                  replace H := Option.bind_eq_some_iff.mp H
                  obtain ⟨⟨t401, t404⟩, A3380, H⟩ := H
                  replace H : (if t400 = 0 then (if t404 = 0 then ((spec_SameEntries.f kj258 t397 t401).bind fun t405 => (if t405 = true then (laws_FnPowerLoss.j2 kj258 t359 t363 t357 t358 t361 t362) else (some false))) else (some false)) else (laws_FnPowerLoss.j2 kj258 t359 t363 t357 t358 t361 t362)) = some r := H
                  have A338 := Aside0.mk A3380
                  clear A3380
                  by_cases c339 : t400 = 0
                  · rw [if_pos c339] at H
                    have c339b0 : (t400 == 0) = true := beq_iff_eq.mpr c339
                    have c339b1 : (t400 != 0) = false := bne_eq_false_iff_eq.mpr c339
                    clear c339
                    by_cases c340 : t404 = 0
                    · rw [if_pos c340] at H
                      have c340b0 : (t404 == 0) = true := beq_iff_eq.mpr c340
                      have c340b1 : (t404 != 0) = false := bne_eq_false_iff_eq.mpr c340
                      clear c340
                      replace H := Option.bind_eq_some_iff.mp H
                      obtain ⟨t405, A3410, H⟩ := H
                      replace H : (if t405 = true then (laws_FnPowerLoss.j2 kj258 t359 t363 t357 t358 t361 t362) else (some false)) = some r := H
                      have A341 := Aside0.mk A3410
                      clear A3410
                      by_cases c342 : t405 = true
                      · subst c342
                        have H1 : (laws_FnPowerLoss.j2 kj258 t359 t363 t357 t358 t361 t362) = some r := by rw [if_pos rfl] at H; exact H
                        clear H
                        have H := H1
                        clear H1
                        have H' := Aside0.mk H
                        clear H
                        have hcz351_0 : wc.cell? ⟨gb371, 0, none⟩ = some (.string t369) := (blk_cell BK371.out 0).trans rfl
                        have hcz351_1 : wc.cell? ⟨gb371, 1, none⟩ = some (.string t370) := (blk_cell BK371.out 1).trans rfl
                        have hfz351_0 := blk_frozen BK371.out 0
                        have hfz351_1 := blk_frozen BK371.out 1
                        go_wp2_with (first | (go_at_call 36; (with_reducible refine (spec_EntriesOf.calls kj258 t369 t370 t397 t400 _ A337.out).mono ?_); rintro e w352 ⟨v398, rfl, ho0, hb⟩; have HO399 := Aside0.mk (Kd.R_lower ho0 (below_size bwl_)); replace BK360 := bkb_ BK360 hb; replace BK364 := bkb_ BK364 hb; replace BK368 := bkb_ BK368 hb; replace BK371 := bkb_ BK371 hb; replace BK375 := bkb_ BK375 hb; replace BK379 := bkb_ BK379 hb; replace BK382 := bkb_ BK382 hb; replace BK387 := bkb_ BK387 hb; replace BK392 := bkb_ BK392 hb; replace HB := bst_ hb; (try clear hb); (try clear hb2); (try clear hk); (try clear hi); (try clear ho0); have hnb353 := NB375_360.out; have hnc353 := NB360_375.out; have hnb354 := NB375_364.out; have hnc354 := NB364_375.out; have hnb355 := NB375_368.out; have hnc355 := NB368_375.out; have hnb356 := NB375_379.out; have hnc356 := NB379_375.out; have hnb357 := NB375_382.out; have hnc357 := NB382_375.out; have hnb358 := NB375_387.out; have hnc358 := NB387_375.out; have hnb359 := NB375_392.out; have hnc359 := NB392_375.out; have hcz360_0 : w352.cell? ⟨gb375, 0, none⟩ = some (.string t372) := (blk_cell BK375.out 0).trans rfl; have hcz360_1 : w352.cell? ⟨gb375, 1, none⟩ = some (.string t373) := (blk_cell BK375.out 1).trans rfl; have hfz360_0 := blk_frozen BK375.out 0; have hfz360_1 := blk_frozen BK375.out 1) | (go_at_call 37; (with_reducible refine (impl_EntriesOf.calls kj258 t372 t373 t401 t404 _ A338.out ?side1).mono ?_); (case side1 => exact HTB.out.below bwl_); rintro e w361 ⟨v402, rfl, ho0, hb⟩; have HO403 := Aside0.mk (Kd.R_lower (Kd.R_new' ho0 (Kd.R_lt (by (with_reducible repeat (first | apply Kd.R_alloc | apply Kd.R_drewN | apply Kd.R_drew)); exact HO399.out))) (below_size bwl_)); replace HO399 := Aside0.mk (Kd.R_elder' (by (with_reducible repeat (first | apply Kd.R_alloc | apply Kd.R_drewN | apply Kd.R_drew)); exact HO399.out) (Kd.R_base ho0) hb); replace BK360 := bkb_ BK360 hb; replace BK364 := bkb_ BK364 hb; replace BK368 := bkb_ BK368 hb; replace BK371 := bkb_ BK371 hb; replace BK375 := bkb_ BK375 hb; replace BK379 := bkb_ BK379 hb; replace BK382 := bkb_ BK382 hb; replace BK387 := bkb_ BK387 hb; replace BK392 := bkb_ BK392 hb; replace HB := bst_ hb; (try clear hb); (try clear hb2); (try clear hk); (try clear hi); (try clear ho0); obtain ⟨Ao362, co362, eo362⟩ := Kd.R_slice HO399.out; subst eo362; obtain ⟨Ao363, co363, eo363⟩ := Kd.R_slice HO403.out; subst eo363) | (go_at_call 44; (with_reducible refine (spec_SameEntries.calls kj258 _ _ t397 _ _ t401 true _ ?side1 ?side2 ?side3 ?side4 A341.out).mono ?_); (case side1 => repeat (first | exact (Kd.R_reads' HO399.out).2.2 | (with_reducible refine Kd.C_alloc ?_ _) | (with_reducible refine Kd.C_drewN ?_ _) | (with_reducible refine Kd.C_drew ?_))); (case side2 => exact (Kd.R_reads' HO399.out).2.1); (case side3 => repeat (first | exact (Kd.R_reads' HO403.out).2.2 | (with_reducible refine Kd.C_alloc ?_ _) | (with_reducible refine Kd.C_drewN ?_ _) | (with_reducible refine Kd.C_drew ?_))); (case side4 => exact (Kd.R_reads' HO403.out).2.1); rintro e w' ⟨rfl, ⟨nd, rfl⟩⟩; (try first | exact ⟨rfl, _, World.drewN_drewN _ _ _⟩ | exact ⟨rfl, _, Eq.trans (World.drewN_drewN _ _ _) (congrArg (World.drewN _) (Nat.add_assoc _ _ _))⟩)))
                        go_meet
                        case rel => exact ⟨_, H', ⟨by have := HJ12.out; have := HJ258.out; first | omega | exact Nat.le_refl _⟩, ⟨by (with_reducible repeat (first | refine blk_drewN ?_ _ | refine blk_drew ?_ | refine blk_alloc ?_ _)); exact BK360.out⟩, ⟨by (with_reducible repeat (first | refine blk_drewN ?_ _ | refine blk_drew ?_ | refine blk_alloc ?_ _)); exact BK364.out⟩, ⟨by (with_reducible repeat (first | refine blk_drewN ?_ _ | refine blk_drew ?_ | refine blk_alloc ?_ _)); exact BK368.out⟩, ⟨by (with_reducible repeat (first | refine blk_drewN ?_ _ | refine blk_drew ?_ | refine blk_alloc ?_ _)); exact BK371.out⟩, ⟨by (with_reducible repeat (first | refine blk_drewN ?_ _ | refine blk_drew ?_ | refine blk_alloc ?_ _)); exact BK375.out⟩, ⟨by (with_reducible repeat (first | refine blk_drewN ?_ _ | refine blk_drew ?_ | refine blk_alloc ?_ _)); exact BK379.out⟩, ⟨by (with_reducible repeat (first | refine blk_drewN ?_ _ | refine blk_drew ?_ | refine blk_alloc ?_ _)); exact BK382.out⟩, ⟨by (with_reducible repeat (first | refine blk_drewN ?_ _ | refine blk_drew ?_ | refine blk_alloc ?_ _)); exact BK387.out⟩, ⟨by (with_reducible repeat (first | refine blk_drewN ?_ _ | refine blk_drew ?_ | refine blk_alloc ?_ _)); exact BK392.out⟩, ⟨by repeat (first | (with_reducible first | exact HB.out | apply below_alloc | apply pw_below_drewN | apply below_drew1 | refine below_set ?_ GE360.out | refine below_set ?_ GE364.out | refine below_set ?_ GE368.out | refine below_set ?_ GE371.out | refine below_set ?_ GE375.out | refine below_set ?_ GE379.out | refine below_set ?_ GE382.out | refine below_set ?_ GE387.out | refine below_set ?_ GE392.out) | exact HB.out)⟩⟩
                      · replace c342 := Bool.eq_false_iff.mpr c342
                        subst c342
                        have H1 : (some false) = some r := by rw [if_neg (show ¬ (false = true) by decide)] at H; exact H
                        clear H
                        have H := H1
                        clear H1
                        obtain rfl := Option.some.inj H
                        have hcz372_0 : wc.cell? ⟨gb371, 0, none⟩ = some (.string t369) := (blk_cell BK371.out 0).trans rfl
                        have hcz372_1 : wc.cell? ⟨gb371, 1, none⟩ = some (.string t370) := (blk_cell BK371.out 1).trans rfl
                        have hfz372_0 := blk_frozen BK371.out 0
                        have hfz372_1 := blk_frozen BK371.out 1
                        go_wp2_with (first | (go_at_call 36; (with_reducible refine (spec_EntriesOf.calls kj258 t369 t370 t397 t400 _ A337.out).mono ?_); rintro e w373 ⟨v398, rfl, ho0, hb⟩; have HO399 := Aside0.mk (Kd.R_lower ho0 (below_size bwl_)); replace BK360 := bkb_ BK360 hb; replace BK364 := bkb_ BK364 hb; replace BK368 := bkb_ BK368 hb; replace BK371 := bkb_ BK371 hb; replace BK375 := bkb_ BK375 hb; replace BK379 := bkb_ BK379 hb; replace BK382 := bkb_ BK382 hb; replace BK387 := bkb_ BK387 hb; replace BK392 := bkb_ BK392 hb; replace HB := bst_ hb; (try clear hb); (try clear hb2); (try clear hk); (try clear hi); (try clear ho0); have hnb374 := NB375_360.out; have hnc374 := NB360_375.out; have hnb375 := NB375_364.out; have hnc375 := NB364_375.out; have hnb376 := NB375_368.out; have hnc376 := NB368_375.out; have hnb377 := NB375_379.out; have hnc377 := NB379_375.out; have hnb378 := NB375_382.out; have hnc378 := NB382_375.out; have hnb379 := NB375_387.out; have hnc379 := NB387_375.out; have hnb380 := NB375_392.out; have hnc380 := NB392_375.out; have hcz381_0 : w373.cell? ⟨gb375, 0, none⟩ = some (.string t372) := (blk_cell BK375.out 0).trans rfl; have hcz381_1 : w373.cell? ⟨gb375, 1, none⟩ = some (.string t373) := (blk_cell BK375.out 1).trans rfl; have hfz381_0 := blk_frozen BK375.out 0; have hfz381_1 := blk_frozen BK375.out 1) | (go_at_call 37; (with_reducible refine (impl_EntriesOf.calls kj258 t372 t373 t401 t404 _ A338.out ?side1).mono ?_); (case side1 => exact HTB.out.below bwl_); rintro e w382 ⟨v402, rfl, ho0, hb⟩; have HO403 := Aside0.mk (Kd.R_lower (Kd.R_new' ho0 (Kd.R_lt (by (with_reducible repeat (first | apply Kd.R_alloc | apply Kd.R_drewN | apply Kd.R_drew)); exact HO399.out))) (below_size bwl_)); replace HO399 := Aside0.mk (Kd.R_elder' (by (with_reducible repeat (first | apply Kd.R_alloc | apply Kd.R_drewN | apply Kd.R_drew)); exact HO399.out) (Kd.R_base ho0) hb); replace BK360 := bkb_ BK360 hb; replace BK364 := bkb_ BK364 hb; replace BK368 := bkb_ BK368 hb; replace BK371 := bkb_ BK371 hb; replace BK375 := bkb_ BK375 hb; replace BK379 := bkb_ BK379 hb; replace BK382 := bkb_ BK382 hb; replace BK387 := bkb_ BK387 hb; replace BK392 := bkb_ BK392 hb; replace HB := bst_ hb; (try clear hb); (try clear hb2); (try clear hk); (try clear hi); (try clear ho0); obtain ⟨Ao383, co383, eo383⟩ := Kd.R_slice HO399.out; subst eo383; obtain ⟨Ao384, co384, eo384⟩ := Kd.R_slice HO403.out; subst eo384) | (go_at_call 44; (with_reducible refine (spec_SameEntries.calls kj258 _ _ t397 _ _ t401 false _ ?side1 ?side2 ?side3 ?side4 A341.out).mono ?_); (case side1 => repeat (first | exact (Kd.R_reads' HO399.out).2.2 | (with_reducible refine Kd.C_alloc ?_ _) | (with_reducible refine Kd.C_drewN ?_ _) | (with_reducible refine Kd.C_drew ?_))); (case side2 => exact (Kd.R_reads' HO399.out).2.1); (case side3 => repeat (first | exact (Kd.R_reads' HO403.out).2.2 | (with_reducible refine Kd.C_alloc ?_ _) | (with_reducible refine Kd.C_drewN ?_ _) | (with_reducible refine Kd.C_drew ?_))); (case side4 => exact (Kd.R_reads' HO403.out).2.1); rintro e w' ⟨rfl, ⟨nd, rfl⟩⟩; (try first | exact ⟨rfl, _, World.drewN_drewN _ _ _⟩ | exact ⟨rfl, _, Eq.trans (World.drewN_drewN _ _ _) (congrArg (World.drewN _) (Nat.add_assoc _ _ _))⟩)))
                        go_ret
                        exact ⟨by first | rfl | (simp [errW_none, errW_some] <;> rfl) | (simp [*, errW_none, errW_some] <;> rfl), by repeat (first | (with_reducible first | exact HB.out | apply below_alloc | apply pw_below_drewN | apply below_drew1 | refine below_set ?_ GE360.out | refine below_set ?_ GE364.out | refine below_set ?_ GE368.out | refine below_set ?_ GE371.out | refine below_set ?_ GE375.out | refine below_set ?_ GE379.out | refine below_set ?_ GE382.out | refine below_set ?_ GE387.out | refine below_set ?_ GE392.out) | exact HB.out)⟩
                    · rw [if_neg c340] at H
                      have c340b0 : (t404 == 0) = false := beq_eq_false_iff_ne.mpr c340
                      have c340b1 : (t404 != 0) = true := bne_iff_ne.mpr c340
                      obtain rfl := Option.some.inj H
                      have hcz393_0 : wc.cell? ⟨gb371, 0, none⟩ = some (.string t369) := (blk_cell BK371.out 0).trans rfl
                      have hcz393_1 : wc.cell? ⟨gb371, 1, none⟩ = some (.string t370) := (blk_cell BK371.out 1).trans rfl
                      have hfz393_0 := blk_frozen BK371.out 0
                      have hfz393_1 := blk_frozen BK371.out 1
                      go_wp2_with (first | (go_at_call 36; (with_reducible refine (spec_EntriesOf.calls kj258 t369 t370 t397 t400 _ A337.out).mono ?_); rintro e w394 ⟨v398, rfl, ho0, hb⟩; have HO399 := Aside0.mk (Kd.R_lower ho0 (below_size bwl_)); replace BK360 := bkb_ BK360 hb; replace BK364 := bkb_ BK364 hb; replace BK368 := bkb_ BK368 hb; replace BK371 := bkb_ BK371 hb; replace BK375 := bkb_ BK375 hb; replace BK379 := bkb_ BK379 hb; replace BK382 := bkb_ BK382 hb; replace BK387 := bkb_ BK387 hb; replace BK392 := bkb_ BK392 hb; replace HB := bst_ hb; (try clear hb); (try clear hb2); (try clear hk); (try clear hi); (try clear ho0); have hnb395 := NB375_360.out; have hnc395 := NB360_375.out; have hnb396 := NB375_364.out; have hnc396 := NB364_375.out; have hnb397 := NB375_368.out; have hnc397 := NB368_375.out; have hnb398 := NB375_379.out; have hnc398 := NB379_375.out; have hnb399 := NB375_382.out; have hnc399 := NB382_375.out; have hnb400 := NB375_387.out; have hnc400 := NB387_375.out; have hnb401 := NB375_392.out; have hnc401 := NB392_375.out; have hcz402_0 : w394.cell? ⟨gb375, 0, none⟩ = some (.string t372) := (blk_cell BK375.out 0).trans rfl; have hcz402_1 : w394.cell? ⟨gb375, 1, none⟩ = some (.string t373) := (blk_cell BK375.out 1).trans rfl; have hfz402_0 := blk_frozen BK375.out 0; have hfz402_1 := blk_frozen BK375.out 1) | (go_at_call 37; (with_reducible refine (impl_EntriesOf.calls kj258 t372 t373 t401 t404 _ A338.out ?side1).mono ?_); (case side1 => exact HTB.out.below bwl_); rintro e w403 ⟨v402, rfl, ho0, hb⟩; have HO403 := Aside0.mk (Kd.R_lower (Kd.R_new' ho0 (Kd.R_lt (by (with_reducible repeat (first | apply Kd.R_alloc | apply Kd.R_drewN | apply Kd.R_drew)); exact HO399.out))) (below_size bwl_)); replace HO399 := Aside0.mk (Kd.R_elder' (by (with_reducible repeat (first | apply Kd.R_alloc | apply Kd.R_drewN | apply Kd.R_drew)); exact HO399.out) (Kd.R_base ho0) hb); replace BK360 := bkb_ BK360 hb; replace BK364 := bkb_ BK364 hb; replace BK368 := bkb_ BK368 hb; replace BK371 := bkb_ BK371 hb; replace BK375 := bkb_ BK375 hb; replace BK379 := bkb_ BK379 hb; replace BK382 := bkb_ BK382 hb; replace BK387 := bkb_ BK387 hb; replace BK392 := bkb_ BK392 hb; replace HB := bst_ hb; (try clear hb); (try clear hb2); (try clear hk); (try clear hi); (try clear ho0)))
                      go_ret
                      exact ⟨by first | rfl | (simp [errW_none, errW_some] <;> rfl) | (simp [*, errW_none, errW_some] <;> rfl), by repeat (first | (with_reducible first | exact HB.out | apply below_alloc | apply pw_below_drewN | apply below_drew1 | refine below_set ?_ GE360.out | refine below_set ?_ GE364.out | refine below_set ?_ GE368.out | refine below_set ?_ GE371.out | refine below_set ?_ GE375.out | refine below_set ?_ GE379.out | refine below_set ?_ GE382.out | refine below_set ?_ GE387.out | refine below_set ?_ GE392.out) | exact HB.out)⟩
                  · rw [if_neg c339] at H
                    have c339b0 : (t400 == 0) = false := beq_eq_false_iff_ne.mpr c339
                    have c339b1 : (t400 != 0) = true := bne_iff_ne.mpr c339
                    have H' := Aside0.mk H
                    clear H
                    have hcz412_0 : wc.cell? ⟨gb371, 0, none⟩ = some (.string t369) := (blk_cell BK371.out 0).trans rfl
                    have hcz412_1 : wc.cell? ⟨gb371, 1, none⟩ = some (.string t370) := (blk_cell BK371.out 1).trans rfl
                    have hfz412_0 := blk_frozen BK371.out 0
                    have hfz412_1 := blk_frozen BK371.out 1
                    go_wp2_with (first | (go_at_call 36; (with_reducible refine (spec_EntriesOf.calls kj258 t369 t370 t397 t400 _ A337.out).mono ?_); rintro e w413 ⟨v398, rfl, ho0, hb⟩; have HO399 := Aside0.mk (Kd.R_lower ho0 (below_size bwl_)); replace BK360 := bkb_ BK360 hb; replace BK364 := bkb_ BK364 hb; replace BK368 := bkb_ BK368 hb; replace BK371 := bkb_ BK371 hb; replace BK375 := bkb_ BK375 hb; replace BK379 := bkb_ BK379 hb; replace BK382 := bkb_ BK382 hb; replace BK387 := bkb_ BK387 hb; replace BK392 := bkb_ BK392 hb; replace HB := bst_ hb; (try clear hb); (try clear hb2); (try clear hk); (try clear hi); (try clear ho0); have hnb414 := NB375_360.out; have hnc414 := NB360_375.out; have hnb415 := NB375_364.out; have hnc415 := NB364_375.out; have hnb416 := NB375_368.out; have hnc416 := NB368_375.out; have hnb417 := NB375_379.out; have hnc417 := NB379_375.out; have hnb418 := NB375_382.out; have hnc418 := NB382_375.out; have hnb419 := NB375_387.out; have hnc419 := NB387_375.out; have hnb420 := NB375_392.out; have hnc420 := NB392_375.out; have hcz421_0 : w413.cell? ⟨gb375, 0, none⟩ = some (.string t372) := (blk_cell BK375.out 0).trans rfl; have hcz421_1 : w413.cell? ⟨gb375, 1, none⟩ = some (.string t373) := (blk_cell BK375.out 1).trans rfl; have hfz421_0 := blk_frozen BK375.out 0; have hfz421_1 := blk_frozen BK375.out 1) | (go_at_call 37; (with_reducible refine (impl_EntriesOf.calls kj258 t372 t373 t401 t404 _ A338.out ?side1).mono ?_); (case side1 => exact HTB.out.below bwl_); rintro e w422 ⟨v402, rfl, ho0, hb⟩; have HO403 := Aside0.mk (Kd.R_lower (Kd.R_new' ho0 (Kd.R_lt (by (with_reducible repeat (first | apply Kd.R_alloc | apply Kd.R_drewN | apply Kd.R_drew)); exact HO399.out))) (below_size bwl_)); replace HO399 := Aside0.mk (Kd.R_elder' (by (with_reducible repeat (first | apply Kd.R_alloc | apply Kd.R_drewN | apply Kd.R_drew)); exact HO399.out) (Kd.R_base ho0) hb); replace BK360 := bkb_ BK360 hb; replace BK364 := bkb_ BK364 hb; replace BK368 := bkb_ BK368 hb; replace BK371 := bkb_ BK371 hb; replace BK375 := bkb_ BK375 hb; replace BK379 := bkb_ BK379 hb; replace BK382 := bkb_ BK382 hb; replace BK387 := bkb_ BK387 hb; replace BK392 := bkb_ BK392 hb; replace HB := bst_ hb; (try clear hb); (try clear hb2); (try clear hk); (try clear hi); (try clear ho0)))
                    go_meet
                    case rel => exact ⟨_, H', ⟨by have := HJ12.out; have := HJ258.out; first | omega | exact Nat.le_refl _⟩, ⟨by (with_reducible repeat (first | refine blk_drewN ?_ _ | refine blk_drew ?_ | refine blk_alloc ?_ _)); exact BK360.out⟩, ⟨by (with_reducible repeat (first | refine blk_drewN ?_ _ | refine blk_drew ?_ | refine blk_alloc ?_ _)); exact BK364.out⟩, ⟨by (with_reducible repeat (first | refine blk_drewN ?_ _ | refine blk_drew ?_ | refine blk_alloc ?_ _)); exact BK368.out⟩, ⟨by (with_reducible repeat (first | refine blk_drewN ?_ _ | refine blk_drew ?_ | refine blk_alloc ?_ _)); exact BK371.out⟩, ⟨by (with_reducible repeat (first | refine blk_drewN ?_ _ | refine blk_drew ?_ | refine blk_alloc ?_ _)); exact BK375.out⟩, ⟨by (with_reducible repeat (first | refine blk_drewN ?_ _ | refine blk_drew ?_ | refine blk_alloc ?_ _)); exact BK379.out⟩, ⟨by (with_reducible repeat (first | refine blk_drewN ?_ _ | refine blk_drew ?_ | refine blk_alloc ?_ _)); exact BK382.out⟩, ⟨by (with_reducible repeat (first | refine blk_drewN ?_ _ | refine blk_drew ?_ | refine blk_alloc ?_ _)); exact BK387.out⟩, ⟨by (with_reducible repeat (first | refine blk_drewN ?_ _ | refine blk_drew ?_ | refine blk_alloc ?_ _)); exact BK392.out⟩, ⟨by repeat (first | (with_reducible first | exact HB.out | apply below_alloc | apply pw_below_drewN | apply below_drew1 | refine below_set ?_ GE360.out | refine below_set ?_ GE364.out | refine below_set ?_ GE368.out | refine below_set ?_ GE371.out | refine below_set ?_ GE375.out | refine below_set ?_ GE379.out | refine below_set ?_ GE382.out | refine below_set ?_ GE387.out | refine below_set ?_ GE392.out) | exact HB.out)⟩⟩
                · rw [if_neg c336] at H
                  have c336b0 : (t374 == 0) = false := beq_eq_false_iff_ne.mpr c336
                  have c336b1 : (t374 != 0) = true := bne_iff_ne.mpr c336
                  (first | rw [c336b0] | (simp only [i64_w, i32_w]; rw [c336b0]) | skip)
                  have H' := Aside0.mk H
                  clear H
                  go_wp2
                  repeat (go_quiet (fail); try go_wp2)
                  go_meet
                  case rel => exact ⟨_, H', ⟨by have := HJ12.out; have := HJ258.out; first | omega | exact Nat.le_refl _⟩, ⟨by (with_reducible repeat (first | refine blk_drewN ?_ _ | refine blk_drew ?_ | refine blk_alloc ?_ _)); exact BK360.out⟩, ⟨by (with_reducible repeat (first | refine blk_drewN ?_ _ | refine blk_drew ?_ | refine blk_alloc ?_ _)); exact BK364.out⟩, ⟨by (with_reducible repeat (first | refine blk_drewN ?_ _ | refine blk_drew ?_ | refine blk_alloc ?_ _)); exact BK368.out⟩, ⟨by (with_reducible repeat (first | refine blk_drewN ?_ _ | refine blk_drew ?_ | refine blk_alloc ?_ _)); exact BK371.out⟩, ⟨by (with_reducible repeat (first | refine blk_drewN ?_ _ | refine blk_drew ?_ | refine blk_alloc ?_ _)); exact BK375.out⟩, ⟨by (with_reducible repeat (first | refine blk_drewN ?_ _ | refine blk_drew ?_ | refine blk_alloc ?_ _)); exact BK379.out⟩, ⟨by (with_reducible repeat (first | refine blk_drewN ?_ _ | refine blk_drew ?_ | refine blk_alloc ?_ _)); exact BK382.out⟩, ⟨by (with_reducible repeat (first | refine blk_drewN ?_ _ | refine blk_drew ?_ | refine blk_alloc ?_ _)); exact BK387.out⟩, ⟨by (with_reducible repeat (first | refine blk_drewN ?_ _ | refine blk_drew ?_ | refine blk_alloc ?_ _)); exact BK392.out⟩, ⟨by repeat (first | (with_reducible first | exact HB.out | apply below_alloc | apply pw_below_drewN | apply below_drew1 | refine below_set ?_ GE360.out | refine below_set ?_ GE364.out | refine below_set ?_ GE368.out | refine below_set ?_ GE371.out | refine below_set ?_ GE375.out | refine below_set ?_ GE379.out | refine below_set ?_ GE382.out | refine below_set ?_ GE387.out | refine below_set ?_ GE392.out) | exact HB.out)⟩⟩
              case rest => as_aux_lemma =>
                clear HC335
                try clear c3
                try clear c80
                try clear c80b0
                try clear c80b1
                try clear c81
                try clear c81b0
                try clear c99
                try clear c99b0
                try clear c99b1
                try clear c100
                try clear c100b0
                try clear c131
                try clear c131b0
                try clear c131b1
                try clear c132
                try clear c132b0
                try clear c258
                try clear c260
                try clear c260b0
                try clear c260b1
                try clear c262
                try clear c262b0
                try clear c262b1
                try clear c263
                try clear c263b0
                try clear c274
                try clear c274b0
                try clear c274b1
                try clear c336
                try clear c336b0
                try clear c336b1
                try clear c339
                try clear c339b0
                try clear c339b1
                try clear c340
                try clear c340b0
                try clear c340b1
                try clear c342
                try clear hcz109_0
                try clear hcz109_1
                try clear hcz117_0
                try clear hcz117_1
                try clear hcz124_0
                try clear hcz124_1
                try clear hcz130_0
                try clear hcz130_1
                try clear hcz141_0
                try clear hcz141_1
                try clear hcz149_0
                try clear hcz149_1
                try clear hcz156_0
                try clear hcz156_1
                try clear hcz162_0
                try clear hcz162_1
                try clear hcz167_0
                try clear hcz167_1
                try clear hcz16_0
                try clear hcz16_1
                try clear hcz171_0
                try clear hcz171_1
                try clear hcz180_0
                try clear hcz180_1
                try clear hcz188_0
                try clear hcz188_1
                try clear hcz195_0
                try clear hcz195_1
                try clear hcz201_0
                try clear hcz201_1
                try clear hcz206_0
                try clear hcz206_1
                try clear hcz20_0
                try clear hcz20_1
                try clear hcz210_0
                try clear hcz210_1
                try clear hcz219_0
                try clear hcz219_1
                try clear hcz21_0
                try clear hcz21_1
                try clear hcz227_0
                try clear hcz227_1
                try clear hcz234_0
                try clear hcz234_1
                try clear hcz240_0
                try clear hcz240_1
                try clear hcz249_0
                try clear hcz249_1
                try clear hcz257_0
                try clear hcz257_1
                try clear hcz26_0
                try clear hcz26_1
                try clear hcz272_0
                try clear hcz272_1
                try clear hcz283_0
                try clear hcz283_1
                try clear hcz292_0
                try clear hcz292_1
                try clear hcz299_0
                try clear hcz299_1
                try clear hcz308_0
                try clear hcz308_1
                try clear hcz317_0
                try clear hcz317_1
                try clear hcz324_0
                try clear hcz324_1
                try clear hcz32_0
                try clear hcz32_1
                try clear hcz333_0
                try clear hcz333_1
                try clear hcz351_0
                try clear hcz351_1
                try clear hcz360_0
                try clear hcz360_1
                try clear hcz372_0
                try clear hcz372_1
                try clear hcz381_0
                try clear hcz381_1
                try clear hcz393_0
                try clear hcz393_1
                try clear hcz39_0
                try clear hcz39_1
                try clear hcz402_0
                try clear hcz402_1
                try clear hcz40_0
                try clear hcz40_1
                try clear hcz412_0
                try clear hcz412_1
                try clear hcz421_0
                try clear hcz421_1
                try clear hcz48_0
                try clear hcz48_1
                try clear hcz57_0
                try clear hcz57_1
                try clear hcz67_0
                try clear hcz67_1
                try clear hcz68_0
                try clear hcz68_1
                try clear hcz79_0
                try clear hcz79_1
                try clear hcz90_0
                try clear hcz90_1
                try clear hcz98_0
                try clear hcz98_1
                try clear hfz109_0
                try clear hfz109_1
                try clear hfz117_0
                try clear hfz117_1
                try clear hfz124_0
                try clear hfz124_1
                try clear hfz130_0
                try clear hfz130_1
                try clear hfz141_0
                try clear hfz141_1
                try clear hfz149_0
                try clear hfz149_1
                try clear hfz156_0
                try clear hfz156_1
                try clear hfz162_0
                try clear hfz162_1
                try clear hfz167_0
                try clear hfz167_1
                try clear hfz16_0
                try clear hfz16_1
                try clear hfz171_0
                try clear hfz171_1
                try clear hfz180_0
                try clear hfz180_1
                try clear hfz188_0
                try clear hfz188_1
                try clear hfz195_0
                try clear hfz195_1
                try clear hfz201_0
                try clear hfz201_1
                try clear hfz206_0
                try clear hfz206_1
                try clear hfz20_0
                try clear hfz20_1
                try clear hfz210_0
                try clear hfz210_1
                try clear hfz219_0
                try clear hfz219_1
                try clear hfz21_0
                try clear hfz21_1
                try clear hfz227_0
                try clear hfz227_1
                try clear hfz234_0
                try clear hfz234_1
                try clear hfz240_0
                try clear hfz240_1
                try clear hfz249_0
                try clear hfz249_1
                try clear hfz257_0
                try clear hfz257_1
                try clear hfz26_0
                try clear hfz26_1
                try clear hfz272_0
                try clear hfz272_1
                try clear hfz283_0
                try clear hfz283_1
                try clear hfz292_0
                try clear hfz292_1
                try clear hfz299_0
                try clear hfz299_1
                try clear hfz308_0
                try clear hfz308_1
                try clear hfz317_0
                try clear hfz317_1
                try clear hfz324_0
                try clear hfz324_1
                try clear hfz32_0
                try clear hfz32_1
                try clear hfz333_0
                try clear hfz333_1
                try clear hfz351_0
                try clear hfz351_1
                try clear hfz360_0
                try clear hfz360_1
                try clear hfz372_0
                try clear hfz372_1
                try clear hfz381_0
                try clear hfz381_1
                try clear hfz393_0
                try clear hfz393_1
                try clear hfz39_0
                try clear hfz39_1
                try clear hfz402_0
                try clear hfz402_1
                try clear hfz40_0
                try clear hfz40_1
                try clear hfz412_0
                try clear hfz412_1
                try clear hfz421_0
                try clear hfz421_1
                try clear hfz48_0
                try clear hfz48_1
                try clear hfz57_0
                try clear hfz57_1
                try clear hfz67_0
                try clear hfz67_1
                try clear hfz68_0
                try clear hfz68_1
                try clear hfz79_0
                try clear hfz79_1
                try clear hfz90_0
                try clear hfz90_1
                try clear hfz98_0
                try clear hfz98_1
                obtain ⟨kq, HA, HJ334, BK360, BK364, BK368, BK371, BK375, BK379, BK382, BK387, BK392, HB⟩ := hcut
                cases kq with
                | zero => exact absurd HA.out (by simp [laws_FnPowerLoss.j2])
                | succ kj334 =>
                  have H := HA.out
                  clear HA
                  simp only [laws_FnPowerLoss.j2] at H
                  by_cases c423 : t363 = 0
                  · rw [if_pos c423] at H
                    have c423b0 : (t363 == 0) = true := beq_iff_eq.mpr c423
                    have c423b1 : (t363 != 0) = false := bne_eq_false_iff_eq.mpr c423
                    clear c423
                    replace H := Option.bind_eq_some_iff.mp H
                    obtain ⟨⟨t406, t409⟩, A4240, H⟩ := H
                    replace H : (if t409 = 0 then ((impl_RecoverLog.f kj334 t361 t362).bind fun bt410 => ((impl_EntriesOf.f kj334 bt410.1 bt410.2.1).bind fun bt415 => ((spec_ReadFrames.f kj334 t357).bind fun bt419 => (if bt410.2.2.2 = 0 then (if bt415.2 = 0 then (if (bt415.1.length : Int) < (bt419.1.length : Int) then (laws_FnPowerLoss.j3 kj334 t406 bt415.1 true) else (if (bt415.1.length : Int) > (t406.length : Int) then (laws_FnPowerLoss.j3 kj334 t406 bt415.1 true) else (if t359 = (t358.size : Int) then (laws_FnPowerLoss.j3 kj334 t406 bt415.1 ((bt415.1.length : Int) != (t406.length : Int))) else (laws_FnPowerLoss.j3 kj334 t406 bt415.1 false)))) else (laws_FnPowerLoss.j3 kj334 t406 bt415.1 true)) else (laws_FnPowerLoss.j3 kj334 t406 bt415.1 true))))) else (some true)) = some r := H
                    have A424 := Aside0.mk A4240
                    clear A4240
                    by_cases c425 : t409 = 0
                    · rw [if_pos c425] at H
                      have c425b0 : (t409 == 0) = true := beq_iff_eq.mpr c425
                      have c425b1 : (t409 != 0) = false := bne_eq_false_iff_eq.mpr c425
                      clear c425
                      replace H := Option.bind_eq_some_iff.mp H
                      obtain ⟨⟨t410, t411, t412, t413⟩, A4260, H⟩ := H
                      replace H : ((impl_EntriesOf.f kj334 t410 t411).bind fun bt415 => ((spec_ReadFrames.f kj334 t357).bind fun bt419 => (if t413 = 0 then (if bt415.2 = 0 then (if (bt415.1.length : Int) < (bt419.1.length : Int) then (laws_FnPowerLoss.j3 kj334 t406 bt415.1 true) else (if (bt415.1.length : Int) > (t406.length : Int) then (laws_FnPowerLoss.j3 kj334 t406 bt415.1 true) else (if t359 = (t358.size : Int) then (laws_FnPowerLoss.j3 kj334 t406 bt415.1 ((bt415.1.length : Int) != (t406.length : Int))) else (laws_FnPowerLoss.j3 kj334 t406 bt415.1 false)))) else (laws_FnPowerLoss.j3 kj334 t406 bt415.1 true)) else (laws_FnPowerLoss.j3 kj334 t406 bt415.1 true)))) = some r := H
                      have A426 := Aside0.mk A4260
                      clear A4260
                      replace H := Option.bind_eq_some_iff.mp H
                      obtain ⟨⟨t415, t418⟩, A4270, H⟩ := H
                      replace H : ((spec_ReadFrames.f kj334 t357).bind fun bt419 => (if t413 = 0 then (if t418 = 0 then (if (t415.length : Int) < (bt419.1.length : Int) then (laws_FnPowerLoss.j3 kj334 t406 t415 true) else (if (t415.length : Int) > (t406.length : Int) then (laws_FnPowerLoss.j3 kj334 t406 t415 true) else (if t359 = (t358.size : Int) then (laws_FnPowerLoss.j3 kj334 t406 t415 ((t415.length : Int) != (t406.length : Int))) else (laws_FnPowerLoss.j3 kj334 t406 t415 false)))) else (laws_FnPowerLoss.j3 kj334 t406 t415 true)) else (laws_FnPowerLoss.j3 kj334 t406 t415 true))) = some r := H
                      have A427 := Aside0.mk A4270
                      clear A4270
                      replace H := Option.bind_eq_some_iff.mp H
                      obtain ⟨⟨t419, t420⟩, A4280, H⟩ := H
                      replace H : (if t413 = 0 then (if t418 = 0 then (if (t415.length : Int) < (t419.length : Int) then (laws_FnPowerLoss.j3 kj334 t406 t415 true) else (if (t415.length : Int) > (t406.length : Int) then (laws_FnPowerLoss.j3 kj334 t406 t415 true) else (if t359 = (t358.size : Int) then (laws_FnPowerLoss.j3 kj334 t406 t415 ((t415.length : Int) != (t406.length : Int))) else (laws_FnPowerLoss.j3 kj334 t406 t415 false)))) else (laws_FnPowerLoss.j3 kj334 t406 t415 true)) else (laws_FnPowerLoss.j3 kj334 t406 t415 true)) = some r := H
                      have A428 := Aside0.mk A4280
                      clear A4280
                      have HC429 := Aside0.mk H
                      clear H
                      have hcz438_0 : wc.cell? ⟨gb360, 0, none⟩ = some (.string t357) := (blk_cell BK360.out 0).trans rfl
                      have hcz438_1 : wc.cell? ⟨gb360, 1, none⟩ = some (.string t358) := (blk_cell BK360.out 1).trans rfl
                      have hfz438_0 := blk_frozen BK360.out 0
                      have hfz438_1 := blk_frozen BK360.out 1
                      go_upto_region 31 with (first | (go_at_call 36; (with_reducible refine (spec_EntriesOf.calls kj334 t357 t358 t406 t409 _ A424.out).mono ?_); rintro e w439 ⟨v407, rfl, ho0, hb⟩; have HO408 := Aside0.mk (Kd.R_lower ho0 (below_size bwl_)); replace BK360 := bkb_ BK360 hb; replace BK364 := bkb_ BK364 hb; replace BK368 := bkb_ BK368 hb; replace BK371 := bkb_ BK371 hb; replace BK375 := bkb_ BK375 hb; replace BK379 := bkb_ BK379 hb; replace BK382 := bkb_ BK382 hb; replace BK387 := bkb_ BK387 hb; replace BK392 := bkb_ BK392 hb; replace HB := bst_ hb; (try clear hb); (try clear hb2); (try clear hk); (try clear hi); (try clear ho0); have hnb440 := NB364_368.out; have hnc440 := NB368_364.out; have hnb441 := NB364_371.out; have hnc441 := NB371_364.out; have hnb442 := NB364_375.out; have hnc442 := NB375_364.out; have hnb443 := NB364_379.out; have hnc443 := NB379_364.out; have hnb444 := NB364_382.out; have hnc444 := NB382_364.out; have hnb445 := NB364_387.out; have hnc445 := NB387_364.out; have hnb446 := NB364_392.out; have hnc446 := NB392_364.out; have hcz447_0 : w439.cell? ⟨gb364, 0, none⟩ = some (.string t361) := (blk_cell BK364.out 0).trans rfl; have hcz447_1 : w439.cell? ⟨gb364, 1, none⟩ = some (.string t362) := (blk_cell BK364.out 1).trans rfl; have hfz447_0 := blk_frozen BK364.out 0; have hfz447_1 := blk_frozen BK364.out 1) | (go_at_call 26; (with_reducible refine (impl_RecoverLog.calls kj334 t361 t362 t410 t411 t412 t413 _ A426.out ?side1).mono ?_); (case side1 => exact HTB.out.below bwl_); rintro e w448 ⟨rfl, hb⟩; replace HO408 := Aside0.mk (Kd.R_below (by (with_reducible repeat (first | apply Kd.R_alloc | apply Kd.R_drewN | apply Kd.R_drew)); exact HO408.out) hb); replace BK360 := bkb_ BK360 hb; replace BK364 := bkb_ BK364 hb; replace BK368 := bkb_ BK368 hb; replace BK371 := bkb_ BK371 hb; replace BK375 := bkb_ BK375 hb; replace BK379 := bkb_ BK379 hb; replace BK382 := bkb_ BK382 hb; replace BK387 := bkb_ BK387 hb; replace BK392 := bkb_ BK392 hb; replace HB := bst_ hb; (try clear hb); (try clear hb2); (try clear hk); (try clear hi)) | ((with_reducible refine gate_dst (N := 29) rfl ?_); (try (refine gate_guard (by rfl) ?_; dsimp only)); refine box_event ?hg (N := 29) ?hd (cs := #[.string (⟨#[]⟩ : ByteArray), .string (⟨#[]⟩ : ByteArray)]) (t := 32) ?hr ?_; (case hd => rfl); (case hg => rfl); (case hr => first | (go_simp; done) | (go_simp; rfl)); intro gb414 hg w449 hbox hb; replace HO408 := Aside0.mk (Kd.R_below (by (with_reducible repeat (first | apply Kd.R_alloc | apply Kd.R_drewN | apply Kd.R_drew)); exact HO408.out) hb); have BK414 := Aside0.mk (hbox); have GW414 := bsz_ hg; have GE414 := bsz_ hg; replace HB := bst_ hb; have NB360_414 := nbl_ BK360 hg; have NB414_360 := nbr_ BK360 hg; replace BK360 := bkb_ BK360 hb; have NB364_414 := nbl_ BK364 hg; have NB414_364 := nbr_ BK364 hg; replace BK364 := bkb_ BK364 hb; have NB368_414 := nbl_ BK368 hg; have NB414_368 := nbr_ BK368 hg; replace BK368 := bkb_ BK368 hb; have NB371_414 := nbl_ BK371 hg; have NB414_371 := nbr_ BK371 hg; replace BK371 := bkb_ BK371 hb; have NB375_414 := nbl_ BK375 hg; have NB414_375 := nbr_ BK375 hg; replace BK375 := bkb_ BK375 hb; have NB379_414 := nbl_ BK379 hg; have NB414_379 := nbr_ BK379 hg; replace BK379 := bkb_ BK379 hb; have NB382_414 := nbl_ BK382 hg; have NB414_382 := nbr_ BK382 hg; replace BK382 := bkb_ BK382 hb; have NB387_414 := nbl_ BK387 hg; have NB414_387 := nbr_ BK387 hg; replace BK387 := bkb_ BK387 hb; have NB392_414 := nbl_ BK392 hg; have NB414_392 := nbr_ BK392 hg; replace BK392 := bkb_ BK392 hb; clear hb hbox hg; have hnb450 := NB414_360.out; have hnc450 := NB360_414.out; have hnb451 := NB414_364.out; have hnc451 := NB364_414.out; have hnb452 := NB414_368.out; have hnc452 := NB368_414.out; have hnb453 := NB414_371.out; have hnc453 := NB371_414.out; have hnb454 := NB414_375.out; have hnc454 := NB375_414.out; have hnb455 := NB414_379.out; have hnc455 := NB379_414.out; have hnb456 := NB414_382.out; have hnc456 := NB382_414.out; have hnb457 := NB414_387.out; have hnc457 := NB387_414.out; have hnb458 := NB414_392.out; have hnc458 := NB392_414.out; have hcz459_0 : w449.cell? ⟨gb414, 0, none⟩ = some (.string (⟨#[]⟩ : ByteArray)) := (blk_cell BK414.out 0).trans rfl; have hcz459_1 : w449.cell? ⟨gb414, 1, none⟩ = some (.string (⟨#[]⟩ : ByteArray)) := (blk_cell BK414.out 1).trans rfl; have hfz459_0 := blk_frozen BK414.out 0; have hfz459_1 := blk_frozen BK414.out 1) | (go_at_call 37; (with_reducible refine (impl_EntriesOf.calls kj334 t410 t411 t415 t418 _ A427.out ?side1).mono ?_); (case side1 => exact HTB.out.below bwl_); rintro e w460 ⟨v416, rfl, ho0, hb⟩; have HO417 := Aside0.mk (Kd.R_lower (Kd.R_new' ho0 (Kd.R_lt (by (with_reducible repeat (first | apply Kd.R_alloc | apply Kd.R_drewN | apply Kd.R_drew)); exact (Kd.R_mono (Kd.R_far (p := ⟨gb414, 1, none⟩) (Kd.R_far (p := ⟨gb414, 0, none⟩) (Kd.R_types HO408.out BK414.out (by decide)) (fun _ hk => hk.2) (.string t410)) (fun _ hk => hk.2) (.string t411)) (fun _ h_ => h_.1))))) (below_size bwl_)); replace HO408 := Aside0.mk (Kd.R_elder' (by (with_reducible repeat (first | apply Kd.R_alloc | apply Kd.R_drewN | apply Kd.R_drew)); exact (Kd.R_mono (Kd.R_far (p := ⟨gb414, 1, none⟩) (Kd.R_far (p := ⟨gb414, 0, none⟩) (Kd.R_types HO408.out BK414.out (by decide)) (fun _ hk => hk.2) (.string t410)) (fun _ hk => hk.2) (.string t411)) (fun _ h_ => h_.1))) (Kd.R_base ho0) hb); replace BK360 := bkb_ BK360 hb; replace BK364 := bkb_ BK364 hb; replace BK368 := bkb_ BK368 hb; replace BK371 := bkb_ BK371 hb; replace BK375 := bkb_ BK375 hb; replace BK379 := bkb_ BK379 hb; replace BK382 := bkb_ BK382 hb; replace BK387 := bkb_ BK387 hb; replace BK392 := bkb_ BK392 hb; replace BK414 := Aside0.mk (blk_below (g := gb414) (o := .cells #[.string t410, .string t411] 32 (0, 0)) (by (with_reducible repeat (first | refine blk_drewN ?_ _ | refine blk_drew ?_ | refine blk_alloc ?_ _)); refine blk_put (cs := #[.string t410, .string (⟨#[]⟩ : ByteArray)]) ?_ 1 _ rfl; (with_reducible repeat (first | refine blk_drewN ?_ _ | refine blk_drew ?_ | refine blk_alloc ?_ _)); refine blk_put (cs := #[.string (⟨#[]⟩ : ByteArray), .string (⟨#[]⟩ : ByteArray)]) ?_ 0 _ rfl; (with_reducible repeat (first | refine blk_drewN ?_ _ | refine blk_drew ?_ | refine blk_alloc ?_ _)); exact BK414.out) hb); replace HB := bst_ hb; (try clear hb); (try clear hb2); (try clear hk); (try clear hi); (try clear ho0); have hcz461_0 : w460.cell? ⟨gb360, 0, none⟩ = some (.string t357) := (blk_cell BK360.out 0).trans rfl; have hcz461_1 : w460.cell? ⟨gb360, 1, none⟩ = some (.string t358) := (blk_cell BK360.out 1).trans rfl; have hfz461_0 := blk_frozen BK360.out 0; have hfz461_1 := blk_frozen BK360.out 1) | (go_at_call 27; (with_reducible refine (spec_ReadFrames.calls kj334 t357 t419 t420 _ A428.out).mono ?_); rintro e w462 ⟨v421, rfl, ho0, hb⟩; have HO422 := Aside0.mk (Kd.R_lower (Kd.R_new' (Kd.R_new' ho0 (Kd.R_lt (by (with_reducible repeat (first | apply Kd.R_alloc | apply Kd.R_drewN | apply Kd.R_drew)); exact HO408.out))) (Kd.R_lt (by (with_reducible repeat (first | apply Kd.R_alloc | apply Kd.R_drewN | apply Kd.R_drew)); exact HO417.out))) (below_size bwl_)); replace HO408 := Aside0.mk (Kd.R_elder' (by (with_reducible repeat (first | apply Kd.R_alloc | apply Kd.R_drewN | apply Kd.R_drew)); exact HO408.out) (Kd.R_base ho0) hb); replace HO417 := Aside0.mk (Kd.R_elder' (by (with_reducible repeat (first | apply Kd.R_alloc | apply Kd.R_drewN | apply Kd.R_drew)); exact HO417.out) (Kd.R_base ho0) hb); replace BK360 := bkb_ BK360 hb; replace BK364 := bkb_ BK364 hb; replace BK368 := bkb_ BK368 hb; replace BK371 := bkb_ BK371 hb; replace BK375 := bkb_ BK375 hb; replace BK379 := bkb_ BK379 hb; replace BK382 := bkb_ BK382 hb; replace BK387 := bkb_ BK387 hb; replace BK392 := bkb_ BK392 hb; replace BK414 := bkb_ BK414 hb; replace HB := bst_ hb; (try clear hb); (try clear hb2); (try clear hk); (try clear hi); (try clear ho0)))
                      (try simp only [Act.put, List.setIfInBounds_toArray, List.set_cons_zero, List.set_cons_succ])
                      go_cut [222] (fun v222 wc => ∃ (kq : Nat) (x222_428 : Bool), v222 = .bool x222_428 ∧ Aside0 (laws_FnPowerLoss.j3 kq t406 t415 x222_428 = some r) ∧ Aside0 (kq ≤ kj334) ∧ Aside0 (Kd.R k26 26 wc w.heap.size (fun k_ => some k_ ≠ (v416 : Value).ownBlock) v407 t406) ∧ Aside0 (Kd.R k26 26 wc w.heap.size (fun k_ => some k_ ≠ (v407 : Value).ownBlock) v416 t415) ∧ Aside0 (wc.heap[gb360]? = some (.cells #[.string t357, .string t358] 32 (0, 0))) ∧ Aside0 (wc.heap[gb364]? = some (.cells #[.string t361, .string t362] 32 (0, 0))) ∧ Aside0 (wc.heap[gb368]? = some (.cells #[.string t365, .string t366] 32 (0, 0))) ∧ Aside0 (wc.heap[gb371]? = some (.cells #[.string t369, .string t370] 32 (0, 0))) ∧ Aside0 (wc.heap[gb375]? = some (.cells #[.string t372, .string t373] 32 (0, 0))) ∧ Aside0 (wc.heap[gb379]? = some (.cells #[.string t376, .string t377] 32 (0, 0))) ∧ Aside0 (wc.heap[gb382]? = some (.cells #[.string t380, .string t381] 32 (0, 0))) ∧ Aside0 (wc.heap[gb387]? = some (.cells #[.string t383, .string t384] 32 (0, 0))) ∧ Aside0 (wc.heap[gb392]? = some (.cells #[.string t388, .string t389] 32 (0, 0))) ∧ Aside0 (wc.heap[gb414]? = some (.cells #[.string t410, .string t411] 32 (0, 0))) ∧ Aside0 (Below w.heap.size w wc))
                      case first => as_aux_lemma =>
                        have H := HC429.out
                        clear HC429
                        by_cases c463 : t413 = 0
                        · rw [if_pos c463] at H
                          have c463b0 : (t413 == 0) = true := beq_iff_eq.mpr c463
                          have c463b1 : (t413 != 0) = false := bne_eq_false_iff_eq.mpr c463
                          clear c463
                          (first | rw [c463b0] | (simp only [i64_w, i32_w]; rw [c463b0]) | skip)
                          by_cases c464 : t418 = 0
                          · rw [if_pos c464] at H
                            have c464b0 : (t418 == 0) = true := beq_iff_eq.mpr c464
                            have c464b1 : (t418 != 0) = false := bne_eq_false_iff_eq.mpr c464
                            clear c464
                            by_cases c465 : (t415.length : Int) < (t419.length : Int)
                            · rw [if_pos c465] at H
                              have c465b0 : decide ((t415.length : Int) < (t419.length : Int)) = true := decide_eq_true c465
                              have c465b1 : decide (t415.length < t419.length) = true := decide_eq_true (Int.ofNat_lt.mp c465)
                              clear c465
                              have H' := Aside0.mk H
                              clear H
                              obtain ⟨Ao466, co466, eo466⟩ := Kd.R_slice HO417.out
                              subst eo466
                              obtain ⟨Ao467, co467, eo467⟩ := Kd.R_slice HO422.out
                              subst eo467
                              go_wp2
                              repeat (go_quiet (fail); try go_wp2)
                              go_meet
                              case rel => exact ⟨_, (true), (by first | rfl | (simp; done) | (simp [*]; done)), H', ⟨by have := HJ12.out; have := HJ258.out; have := HJ334.out; first | omega | exact Nat.le_refl _⟩, ⟨by (with_reducible repeat (first | apply Kd.R_alloc | apply Kd.R_drewN | apply Kd.R_drew)); exact Kd.R_mono HO408.out (fun _ hk => hk.1.2)⟩, ⟨by (with_reducible repeat (first | apply Kd.R_alloc | apply Kd.R_drewN | apply Kd.R_drew)); exact Kd.R_mono HO417.out (fun _ hk => hk.1.2)⟩, ⟨by (with_reducible repeat (first | refine blk_drewN ?_ _ | refine blk_drew ?_ | refine blk_alloc ?_ _)); exact BK360.out⟩, ⟨by (with_reducible repeat (first | refine blk_drewN ?_ _ | refine blk_drew ?_ | refine blk_alloc ?_ _)); exact BK364.out⟩, ⟨by (with_reducible repeat (first | refine blk_drewN ?_ _ | refine blk_drew ?_ | refine blk_alloc ?_ _)); exact BK368.out⟩, ⟨by (with_reducible repeat (first | refine blk_drewN ?_ _ | refine blk_drew ?_ | refine blk_alloc ?_ _)); exact BK371.out⟩, ⟨by (with_reducible repeat (first | refine blk_drewN ?_ _ | refine blk_drew ?_ | refine blk_alloc ?_ _)); exact BK375.out⟩, ⟨by (with_reducible repeat (first | refine blk_drewN ?_ _ | refine blk_drew ?_ | refine blk_alloc ?_ _)); exact BK379.out⟩, ⟨by (with_reducible repeat (first | refine blk_drewN ?_ _ | refine blk_drew ?_ | refine blk_alloc ?_ _)); exact BK382.out⟩, ⟨by (with_reducible repeat (first | refine blk_drewN ?_ _ | refine blk_drew ?_ | refine blk_alloc ?_ _)); exact BK387.out⟩, ⟨by (with_reducible repeat (first | refine blk_drewN ?_ _ | refine blk_drew ?_ | refine blk_alloc ?_ _)); exact BK392.out⟩, ⟨by (with_reducible repeat (first | refine blk_drewN ?_ _ | refine blk_drew ?_ | refine blk_alloc ?_ _)); exact BK414.out⟩, ⟨by repeat (first | (with_reducible first | exact HB.out | apply below_alloc | apply pw_below_drewN | apply below_drew1 | refine below_set ?_ GE360.out | refine below_set ?_ GE364.out | refine below_set ?_ GE368.out | refine below_set ?_ GE371.out | refine below_set ?_ GE375.out | refine below_set ?_ GE379.out | refine below_set ?_ GE382.out | refine below_set ?_ GE387.out | refine below_set ?_ GE392.out | refine below_set ?_ GE414.out) | exact HB.out)⟩⟩
                            · rw [if_neg c465] at H
                              have c465b0 : decide ((t415.length : Int) < (t419.length : Int)) = false := decide_eq_false c465
                              have c465b1 : decide (t415.length < t419.length) = false := decide_eq_false (fun h => c465 (Int.ofNat_lt.mpr h))
                              clear c465
                              by_cases c468 : (t415.length : Int) > (t406.length : Int)
                              · rw [if_pos c468] at H
                                have c468b0 : decide ((t406.length : Int) < (t415.length : Int)) = true := decide_eq_true c468
                                have c468b1 : decide (t406.length < t415.length) = true := decide_eq_true (Int.ofNat_lt.mp c468)
                                clear c468
                                have H' := Aside0.mk H
                                clear H
                                obtain ⟨Ao469, co469, eo469⟩ := Kd.R_slice HO417.out
                                subst eo469
                                obtain ⟨Ao470, co470, eo470⟩ := Kd.R_slice HO422.out
                                subst eo470
                                obtain ⟨Ao471, co471, eo471⟩ := Kd.R_slice HO408.out
                                subst eo471
                                go_wp2
                                repeat (go_quiet (fail); try go_wp2)
                                go_meet
                                case rel => exact ⟨_, (true), (by first | rfl | (simp; done) | (simp [*]; done)), H', ⟨by have := HJ12.out; have := HJ258.out; have := HJ334.out; first | omega | exact Nat.le_refl _⟩, ⟨by (with_reducible repeat (first | apply Kd.R_alloc | apply Kd.R_drewN | apply Kd.R_drew)); exact Kd.R_mono HO408.out (fun _ hk => hk.1.2)⟩, ⟨by (with_reducible repeat (first | apply Kd.R_alloc | apply Kd.R_drewN | apply Kd.R_drew)); exact Kd.R_mono HO417.out (fun _ hk => hk.1.2)⟩, ⟨by (with_reducible repeat (first | refine blk_drewN ?_ _ | refine blk_drew ?_ | refine blk_alloc ?_ _)); exact BK360.out⟩, ⟨by (with_reducible repeat (first | refine blk_drewN ?_ _ | refine blk_drew ?_ | refine blk_alloc ?_ _)); exact BK364.out⟩, ⟨by (with_reducible repeat (first | refine blk_drewN ?_ _ | refine blk_drew ?_ | refine blk_alloc ?_ _)); exact BK368.out⟩, ⟨by (with_reducible repeat (first | refine blk_drewN ?_ _ | refine blk_drew ?_ | refine blk_alloc ?_ _)); exact BK371.out⟩, ⟨by (with_reducible repeat (first | refine blk_drewN ?_ _ | refine blk_drew ?_ | refine blk_alloc ?_ _)); exact BK375.out⟩, ⟨by (with_reducible repeat (first | refine blk_drewN ?_ _ | refine blk_drew ?_ | refine blk_alloc ?_ _)); exact BK379.out⟩, ⟨by (with_reducible repeat (first | refine blk_drewN ?_ _ | refine blk_drew ?_ | refine blk_alloc ?_ _)); exact BK382.out⟩, ⟨by (with_reducible repeat (first | refine blk_drewN ?_ _ | refine blk_drew ?_ | refine blk_alloc ?_ _)); exact BK387.out⟩, ⟨by (with_reducible repeat (first | refine blk_drewN ?_ _ | refine blk_drew ?_ | refine blk_alloc ?_ _)); exact BK392.out⟩, ⟨by (with_reducible repeat (first | refine blk_drewN ?_ _ | refine blk_drew ?_ | refine blk_alloc ?_ _)); exact BK414.out⟩, ⟨by repeat (first | (with_reducible first | exact HB.out | apply below_alloc | apply pw_below_drewN | apply below_drew1 | refine below_set ?_ GE360.out | refine below_set ?_ GE364.out | refine below_set ?_ GE368.out | refine below_set ?_ GE371.out | refine below_set ?_ GE375.out | refine below_set ?_ GE379.out | refine below_set ?_ GE382.out | refine below_set ?_ GE387.out | refine below_set ?_ GE392.out | refine below_set ?_ GE414.out) | exact HB.out)⟩⟩
                              · rw [if_neg c468] at H
                                have c468b0 : decide ((t406.length : Int) < (t415.length : Int)) = false := decide_eq_false c468
                                have c468b1 : decide (t406.length < t415.length) = false := decide_eq_false (fun h => c468 (Int.ofNat_lt.mpr h))
                                clear c468
                                by_cases c472 : t359 = (t358.size : Int)
                                · rw [if_pos c472] at H
                                  have c472b0 : (t359 == (t358.size : Int)) = true := beq_iff_eq.mpr c472
                                  have c472b1 : (t359 != (t358.size : Int)) = false := bne_eq_false_iff_eq.mpr c472
                                  clear c472
                                  have H' := Aside0.mk H
                                  clear H
                                  obtain ⟨Ao473, co473, eo473⟩ := Kd.R_slice HO417.out
                                  subst eo473
                                  obtain ⟨Ao474, co474, eo474⟩ := Kd.R_slice HO422.out
                                  subst eo474
                                  obtain ⟨Ao475, co475, eo475⟩ := Kd.R_slice HO408.out
                                  subst eo475
                                  have hcz485_0 : w462.cell? ⟨gb360, 0, none⟩ = some (.string t357) := (blk_cell BK360.out 0).trans rfl
                                  have hcz485_1 : w462.cell? ⟨gb360, 1, none⟩ = some (.string t358) := (blk_cell BK360.out 1).trans rfl
                                  have hfz485_0 := blk_frozen BK360.out 0
                                  have hfz485_1 := blk_frozen BK360.out 1
                                  go_wp2
                                  repeat (go_quiet (fail); try go_wp2)
                                  go_meet
                                  case rel => exact ⟨_, (((t415.length : Int) != (t406.length : Int))), (by first | rfl | (simp; done) | (simp [*]; done)), H', ⟨by have := HJ12.out; have := HJ258.out; have := HJ334.out; first | omega | exact Nat.le_refl _⟩, ⟨by (with_reducible repeat (first | apply Kd.R_alloc | apply Kd.R_drewN | apply Kd.R_drew)); exact Kd.R_mono HO408.out (fun _ hk => hk.1.2)⟩, ⟨by (with_reducible repeat (first | apply Kd.R_alloc | apply Kd.R_drewN | apply Kd.R_drew)); exact Kd.R_mono HO417.out (fun _ hk => hk.1.2)⟩, ⟨by (with_reducible repeat (first | refine blk_drewN ?_ _ | refine blk_drew ?_ | refine blk_alloc ?_ _)); exact BK360.out⟩, ⟨by (with_reducible repeat (first | refine blk_drewN ?_ _ | refine blk_drew ?_ | refine blk_alloc ?_ _)); exact BK364.out⟩, ⟨by (with_reducible repeat (first | refine blk_drewN ?_ _ | refine blk_drew ?_ | refine blk_alloc ?_ _)); exact BK368.out⟩, ⟨by (with_reducible repeat (first | refine blk_drewN ?_ _ | refine blk_drew ?_ | refine blk_alloc ?_ _)); exact BK371.out⟩, ⟨by (with_reducible repeat (first | refine blk_drewN ?_ _ | refine blk_drew ?_ | refine blk_alloc ?_ _)); exact BK375.out⟩, ⟨by (with_reducible repeat (first | refine blk_drewN ?_ _ | refine blk_drew ?_ | refine blk_alloc ?_ _)); exact BK379.out⟩, ⟨by (with_reducible repeat (first | refine blk_drewN ?_ _ | refine blk_drew ?_ | refine blk_alloc ?_ _)); exact BK382.out⟩, ⟨by (with_reducible repeat (first | refine blk_drewN ?_ _ | refine blk_drew ?_ | refine blk_alloc ?_ _)); exact BK387.out⟩, ⟨by (with_reducible repeat (first | refine blk_drewN ?_ _ | refine blk_drew ?_ | refine blk_alloc ?_ _)); exact BK392.out⟩, ⟨by (with_reducible repeat (first | refine blk_drewN ?_ _ | refine blk_drew ?_ | refine blk_alloc ?_ _)); exact BK414.out⟩, ⟨by repeat (first | (with_reducible first | exact HB.out | apply below_alloc | apply pw_below_drewN | apply below_drew1 | refine below_set ?_ GE360.out | refine below_set ?_ GE364.out | refine below_set ?_ GE368.out | refine below_set ?_ GE371.out | refine below_set ?_ GE375.out | refine below_set ?_ GE379.out | refine below_set ?_ GE382.out | refine below_set ?_ GE387.out | refine below_set ?_ GE392.out | refine below_set ?_ GE414.out) | exact HB.out)⟩⟩
                                · rw [if_neg c472] at H
                                  have c472b0 : (t359 == (t358.size : Int)) = false := beq_eq_false_iff_ne.mpr c472
                                  have c472b1 : (t359 != (t358.size : Int)) = true := bne_iff_ne.mpr c472
                                  have H' := Aside0.mk H
                                  clear H
                                  obtain ⟨Ao486, co486, eo486⟩ := Kd.R_slice HO417.out
                                  subst eo486
                                  obtain ⟨Ao487, co487, eo487⟩ := Kd.R_slice HO422.out
                                  subst eo487
                                  obtain ⟨Ao488, co488, eo488⟩ := Kd.R_slice HO408.out
                                  subst eo488
                                  have hcz498_0 : w462.cell? ⟨gb360, 0, none⟩ = some (.string t357) := (blk_cell BK360.out 0).trans rfl
                                  have hcz498_1 : w462.cell? ⟨gb360, 1, none⟩ = some (.string t358) := (blk_cell BK360.out 1).trans rfl
                                  have hfz498_0 := blk_frozen BK360.out 0
                                  have hfz498_1 := blk_frozen BK360.out 1
                                  go_wp2
                                  repeat (go_quiet (fail); try go_wp2)
                                  go_meet
                                  case rel => exact ⟨_, (false), (by first | rfl | (simp; done) | (simp [*]; done)), H', ⟨by have := HJ12.out; have := HJ258.out; have := HJ334.out; first | omega | exact Nat.le_refl _⟩, ⟨by (with_reducible repeat (first | apply Kd.R_alloc | apply Kd.R_drewN | apply Kd.R_drew)); exact Kd.R_mono HO408.out (fun _ hk => hk.1.2)⟩, ⟨by (with_reducible repeat (first | apply Kd.R_alloc | apply Kd.R_drewN | apply Kd.R_drew)); exact Kd.R_mono HO417.out (fun _ hk => hk.1.2)⟩, ⟨by (with_reducible repeat (first | refine blk_drewN ?_ _ | refine blk_drew ?_ | refine blk_alloc ?_ _)); exact BK360.out⟩, ⟨by (with_reducible repeat (first | refine blk_drewN ?_ _ | refine blk_drew ?_ | refine blk_alloc ?_ _)); exact BK364.out⟩, ⟨by (with_reducible repeat (first | refine blk_drewN ?_ _ | refine blk_drew ?_ | refine blk_alloc ?_ _)); exact BK368.out⟩, ⟨by (with_reducible repeat (first | refine blk_drewN ?_ _ | refine blk_drew ?_ | refine blk_alloc ?_ _)); exact BK371.out⟩, ⟨by (with_reducible repeat (first | refine blk_drewN ?_ _ | refine blk_drew ?_ | refine blk_alloc ?_ _)); exact BK375.out⟩, ⟨by (with_reducible repeat (first | refine blk_drewN ?_ _ | refine blk_drew ?_ | refine blk_alloc ?_ _)); exact BK379.out⟩, ⟨by (with_reducible repeat (first | refine blk_drewN ?_ _ | refine blk_drew ?_ | refine blk_alloc ?_ _)); exact BK382.out⟩, ⟨by (with_reducible repeat (first | refine blk_drewN ?_ _ | refine blk_drew ?_ | refine blk_alloc ?_ _)); exact BK387.out⟩, ⟨by (with_reducible repeat (first | refine blk_drewN ?_ _ | refine blk_drew ?_ | refine blk_alloc ?_ _)); exact BK392.out⟩, ⟨by (with_reducible repeat (first | refine blk_drewN ?_ _ | refine blk_drew ?_ | refine blk_alloc ?_ _)); exact BK414.out⟩, ⟨by repeat (first | (with_reducible first | exact HB.out | apply below_alloc | apply pw_below_drewN | apply below_drew1 | refine below_set ?_ GE360.out | refine below_set ?_ GE364.out | refine below_set ?_ GE368.out | refine below_set ?_ GE371.out | refine below_set ?_ GE375.out | refine below_set ?_ GE379.out | refine below_set ?_ GE382.out | refine below_set ?_ GE387.out | refine below_set ?_ GE392.out | refine below_set ?_ GE414.out) | exact HB.out)⟩⟩
                          · rw [if_neg c464] at H
                            have c464b0 : (t418 == 0) = false := beq_eq_false_iff_ne.mpr c464
                            have c464b1 : (t418 != 0) = true := bne_iff_ne.mpr c464
                            have H' := Aside0.mk H
                            clear H
                            go_wp2
                            repeat (go_quiet (fail); try go_wp2)
                            go_meet
                            case rel => exact ⟨_, (true), (by first | rfl | (simp; done) | (simp [*]; done)), H', ⟨by have := HJ12.out; have := HJ258.out; have := HJ334.out; first | omega | exact Nat.le_refl _⟩, ⟨by (with_reducible repeat (first | apply Kd.R_alloc | apply Kd.R_drewN | apply Kd.R_drew)); exact Kd.R_mono HO408.out (fun _ hk => hk.1.2)⟩, ⟨by (with_reducible repeat (first | apply Kd.R_alloc | apply Kd.R_drewN | apply Kd.R_drew)); exact Kd.R_mono HO417.out (fun _ hk => hk.1.2)⟩, ⟨by (with_reducible repeat (first | refine blk_drewN ?_ _ | refine blk_drew ?_ | refine blk_alloc ?_ _)); exact BK360.out⟩, ⟨by (with_reducible repeat (first | refine blk_drewN ?_ _ | refine blk_drew ?_ | refine blk_alloc ?_ _)); exact BK364.out⟩, ⟨by (with_reducible repeat (first | refine blk_drewN ?_ _ | refine blk_drew ?_ | refine blk_alloc ?_ _)); exact BK368.out⟩, ⟨by (with_reducible repeat (first | refine blk_drewN ?_ _ | refine blk_drew ?_ | refine blk_alloc ?_ _)); exact BK371.out⟩, ⟨by (with_reducible repeat (first | refine blk_drewN ?_ _ | refine blk_drew ?_ | refine blk_alloc ?_ _)); exact BK375.out⟩, ⟨by (with_reducible repeat (first | refine blk_drewN ?_ _ | refine blk_drew ?_ | refine blk_alloc ?_ _)); exact BK379.out⟩, ⟨by (with_reducible repeat (first | refine blk_drewN ?_ _ | refine blk_drew ?_ | refine blk_alloc ?_ _)); exact BK382.out⟩, ⟨by (with_reducible repeat (first | refine blk_drewN ?_ _ | refine blk_drew ?_ | refine blk_alloc ?_ _)); exact BK387.out⟩, ⟨by (with_reducible repeat (first | refine blk_drewN ?_ _ | refine blk_drew ?_ | refine blk_alloc ?_ _)); exact BK392.out⟩, ⟨by (with_reducible repeat (first | refine blk_drewN ?_ _ | refine blk_drew ?_ | refine blk_alloc ?_ _)); exact BK414.out⟩, ⟨by repeat (first | (with_reducible first | exact HB.out | apply below_alloc | apply pw_below_drewN | apply below_drew1 | refine below_set ?_ GE360.out | refine below_set ?_ GE364.out | refine below_set ?_ GE368.out | refine below_set ?_ GE371.out | refine below_set ?_ GE375.out | refine below_set ?_ GE379.out | refine below_set ?_ GE382.out | refine below_set ?_ GE387.out | refine below_set ?_ GE392.out | refine below_set ?_ GE414.out) | exact HB.out)⟩⟩
                        · rw [if_neg c463] at H
                          have c463b0 : (t413 == 0) = false := beq_eq_false_iff_ne.mpr c463
                          have c463b1 : (t413 != 0) = true := bne_iff_ne.mpr c463
                          (first | rw [c463b0] | (simp only [i64_w, i32_w]; rw [c463b0]) | skip)
                          have H' := Aside0.mk H
                          clear H
                          go_wp2
                          repeat (go_quiet (fail); try go_wp2)
                          go_meet
                          case rel => exact ⟨_, (true), (by first | rfl | (simp; done) | (simp [*]; done)), H', ⟨by have := HJ12.out; have := HJ258.out; have := HJ334.out; first | omega | exact Nat.le_refl _⟩, ⟨by (with_reducible repeat (first | apply Kd.R_alloc | apply Kd.R_drewN | apply Kd.R_drew)); exact Kd.R_mono HO408.out (fun _ hk => hk.1.2)⟩, ⟨by (with_reducible repeat (first | apply Kd.R_alloc | apply Kd.R_drewN | apply Kd.R_drew)); exact Kd.R_mono HO417.out (fun _ hk => hk.1.2)⟩, ⟨by (with_reducible repeat (first | refine blk_drewN ?_ _ | refine blk_drew ?_ | refine blk_alloc ?_ _)); exact BK360.out⟩, ⟨by (with_reducible repeat (first | refine blk_drewN ?_ _ | refine blk_drew ?_ | refine blk_alloc ?_ _)); exact BK364.out⟩, ⟨by (with_reducible repeat (first | refine blk_drewN ?_ _ | refine blk_drew ?_ | refine blk_alloc ?_ _)); exact BK368.out⟩, ⟨by (with_reducible repeat (first | refine blk_drewN ?_ _ | refine blk_drew ?_ | refine blk_alloc ?_ _)); exact BK371.out⟩, ⟨by (with_reducible repeat (first | refine blk_drewN ?_ _ | refine blk_drew ?_ | refine blk_alloc ?_ _)); exact BK375.out⟩, ⟨by (with_reducible repeat (first | refine blk_drewN ?_ _ | refine blk_drew ?_ | refine blk_alloc ?_ _)); exact BK379.out⟩, ⟨by (with_reducible repeat (first | refine blk_drewN ?_ _ | refine blk_drew ?_ | refine blk_alloc ?_ _)); exact BK382.out⟩, ⟨by (with_reducible repeat (first | refine blk_drewN ?_ _ | refine blk_drew ?_ | refine blk_alloc ?_ _)); exact BK387.out⟩, ⟨by (with_reducible repeat (first | refine blk_drewN ?_ _ | refine blk_drew ?_ | refine blk_alloc ?_ _)); exact BK392.out⟩, ⟨by (with_reducible repeat (first | refine blk_drewN ?_ _ | refine blk_drew ?_ | refine blk_alloc ?_ _)); exact BK414.out⟩, ⟨by repeat (first | (with_reducible first | exact HB.out | apply below_alloc | apply pw_below_drewN | apply below_drew1 | refine below_set ?_ GE360.out | refine below_set ?_ GE364.out | refine below_set ?_ GE368.out | refine below_set ?_ GE371.out | refine below_set ?_ GE375.out | refine below_set ?_ GE379.out | refine below_set ?_ GE382.out | refine below_set ?_ GE387.out | refine below_set ?_ GE392.out | refine below_set ?_ GE414.out) | exact HB.out)⟩⟩
                      case rest => as_aux_lemma =>
                        clear HC429
                        try clear c3
                        try clear c258
                        try clear c260
                        try clear c260b0
                        try clear c260b1
                        try clear c262
                        try clear c262b0
                        try clear c262b1
                        try clear c263
                        try clear c263b0
                        try clear c274
                        try clear c274b0
                        try clear c274b1
                        try clear c336
                        try clear c336b0
                        try clear c336b1
                        try clear c339
                        try clear c339b0
                        try clear c339b1
                        try clear c340
                        try clear c340b0
                        try clear c340b1
                        try clear c342
                        try clear c423
                        try clear c423b0
                        try clear c423b1
                        try clear c425
                        try clear c425b0
                        try clear c425b1
                        try clear c463
                        try clear c463b0
                        try clear c463b1
                        try clear c464
                        try clear c464b0
                        try clear c464b1
                        try clear c465
                        try clear c465b0
                        try clear c465b1
                        try clear c468
                        try clear c468b0
                        try clear c468b1
                        try clear c472
                        try clear c472b0
                        try clear c472b1
                        try clear hcz109_0
                        try clear hcz109_1
                        try clear hcz117_0
                        try clear hcz117_1
                        try clear hcz124_0
                        try clear hcz124_1
                        try clear hcz130_0
                        try clear hcz130_1
                        try clear hcz141_0
                        try clear hcz141_1
                        try clear hcz149_0
                        try clear hcz149_1
                        try clear hcz156_0
                        try clear hcz156_1
                        try clear hcz162_0
                        try clear hcz162_1
                        try clear hcz167_0
                        try clear hcz167_1
                        try clear hcz16_0
                        try clear hcz16_1
                        try clear hcz171_0
                        try clear hcz171_1
                        try clear hcz180_0
                        try clear hcz180_1
                        try clear hcz188_0
                        try clear hcz188_1
                        try clear hcz195_0
                        try clear hcz195_1
                        try clear hcz201_0
                        try clear hcz201_1
                        try clear hcz206_0
                        try clear hcz206_1
                        try clear hcz20_0
                        try clear hcz20_1
                        try clear hcz210_0
                        try clear hcz210_1
                        try clear hcz219_0
                        try clear hcz219_1
                        try clear hcz21_0
                        try clear hcz21_1
                        try clear hcz227_0
                        try clear hcz227_1
                        try clear hcz234_0
                        try clear hcz234_1
                        try clear hcz240_0
                        try clear hcz240_1
                        try clear hcz249_0
                        try clear hcz249_1
                        try clear hcz257_0
                        try clear hcz257_1
                        try clear hcz26_0
                        try clear hcz26_1
                        try clear hcz272_0
                        try clear hcz272_1
                        try clear hcz283_0
                        try clear hcz283_1
                        try clear hcz292_0
                        try clear hcz292_1
                        try clear hcz299_0
                        try clear hcz299_1
                        try clear hcz308_0
                        try clear hcz308_1
                        try clear hcz317_0
                        try clear hcz317_1
                        try clear hcz324_0
                        try clear hcz324_1
                        try clear hcz32_0
                        try clear hcz32_1
                        try clear hcz333_0
                        try clear hcz333_1
                        try clear hcz351_0
                        try clear hcz351_1
                        try clear hcz360_0
                        try clear hcz360_1
                        try clear hcz372_0
                        try clear hcz372_1
                        try clear hcz381_0
                        try clear hcz381_1
                        try clear hcz393_0
                        try clear hcz393_1
                        try clear hcz39_0
                        try clear hcz39_1
                        try clear hcz402_0
                        try clear hcz402_1
                        try clear hcz40_0
                        try clear hcz40_1
                        try clear hcz412_0
                        try clear hcz412_1
                        try clear hcz421_0
                        try clear hcz421_1
                        try clear hcz438_0
                        try clear hcz438_1
                        try clear hcz447_0
                        try clear hcz447_1
                        try clear hcz459_0
                        try clear hcz459_1
                        try clear hcz461_0
                        try clear hcz461_1
                        try clear hcz485_0
                        try clear hcz485_1
                        try clear hcz48_0
                        try clear hcz48_1
                        try clear hcz498_0
                        try clear hcz498_1
                        try clear hcz57_0
                        try clear hcz57_1
                        try clear hcz67_0
                        try clear hcz67_1
                        try clear hcz68_0
                        try clear hcz68_1
                        try clear hcz79_0
                        try clear hcz79_1
                        try clear hcz90_0
                        try clear hcz90_1
                        try clear hcz98_0
                        try clear hcz98_1
                        try clear hfz109_0
                        try clear hfz109_1
                        try clear hfz117_0
                        try clear hfz117_1
                        try clear hfz124_0
                        try clear hfz124_1
                        try clear hfz130_0
                        try clear hfz130_1
                        try clear hfz141_0
                        try clear hfz141_1
                        try clear hfz149_0
                        try clear hfz149_1
                        try clear hfz156_0
                        try clear hfz156_1
                        try clear hfz162_0
                        try clear hfz162_1
                        try clear hfz167_0
                        try clear hfz167_1
                        try clear hfz16_0
                        try clear hfz16_1
                        try clear hfz171_0
                        try clear hfz171_1
                        try clear hfz180_0
                        try clear hfz180_1
                        try clear hfz188_0
                        try clear hfz188_1
                        try clear hfz195_0
                        try clear hfz195_1
                        try clear hfz201_0
                        try clear hfz201_1
                        try clear hfz206_0
                        try clear hfz206_1
                        try clear hfz20_0
                        try clear hfz20_1
                        try clear hfz210_0
                        try clear hfz210_1
                        try clear hfz219_0
                        try clear hfz219_1
                        try clear hfz21_0
                        try clear hfz21_1
                        try clear hfz227_0
                        try clear hfz227_1
                        try clear hfz234_0
                        try clear hfz234_1
                        try clear hfz240_0
                        try clear hfz240_1
                        try clear hfz249_0
                        try clear hfz249_1
                        try clear hfz257_0
                        try clear hfz257_1
                        try clear hfz26_0
                        try clear hfz26_1
                        try clear hfz272_0
                        try clear hfz272_1
                        try clear hfz283_0
                        try clear hfz283_1
                        try clear hfz292_0
                        try clear hfz292_1
                        try clear hfz299_0
                        try clear hfz299_1
                        try clear hfz308_0
                        try clear hfz308_1
                        try clear hfz317_0
                        try clear hfz317_1
                        try clear hfz324_0
                        try clear hfz324_1
                        try clear hfz32_0
                        try clear hfz32_1
                        try clear hfz333_0
                        try clear hfz333_1
                        try clear hfz351_0
                        try clear hfz351_1
                        try clear hfz360_0
                        try clear hfz360_1
                        try clear hfz372_0
                        try clear hfz372_1
                        try clear hfz381_0
                        try clear hfz381_1
                        try clear hfz393_0
                        try clear hfz393_1
                        try clear hfz39_0
                        try clear hfz39_1
                        try clear hfz402_0
                        try clear hfz402_1
                        try clear hfz40_0
                        try clear hfz40_1
                        try clear hfz412_0
                        try clear hfz412_1
                        try clear hfz421_0
                        try clear hfz421_1
                        try clear hfz438_0
                        try clear hfz438_1
                        try clear hfz447_0
                        try clear hfz447_1
                        try clear hfz459_0
                        try clear hfz459_1
                        try clear hfz461_0
                        try clear hfz461_1
                        try clear hfz485_0
                        try clear hfz485_1
                        try clear hfz48_0
                        try clear hfz48_1
                        try clear hfz498_0
                        try clear hfz498_1
                        try clear hfz57_0
                        try clear hfz57_1
                        try clear hfz67_0
                        try clear hfz67_1
                        try clear hfz68_0
                        try clear hfz68_1
                        try clear hfz79_0
                        try clear hfz79_1
                        try clear hfz90_0
                        try clear hfz90_1
                        try clear hfz98_0
                        try clear hfz98_1
                        obtain ⟨kq, x222_428, rfl, HA, HJ428, HO_27, HO_32, BK360, BK364, BK368, BK371, BK375, BK379, BK382, BK387, BK392, BK414, HB⟩ := hcut
                        cases kq with
                        | zero => exact absurd HA.out (by simp [laws_FnPowerLoss.j3])
                        | succ kj428 =>
                          have H := HA.out
                          clear HA
                          simp only [laws_FnPowerLoss.j3] at H
                          by_cases c499 : x222_428 = true
                          · subst c499
                            have H1 : (some false) = some r := by rw [if_pos rfl] at H; exact H
                            clear H
                            have H := H1
                            clear H1
                            obtain rfl := Option.some.inj H
                            go_wp2
                            repeat (go_quiet (fail); try go_wp2)
                            go_ret
                            exact ⟨by first | rfl | (simp [errW_none, errW_some] <;> rfl) | (simp [*, errW_none, errW_some] <;> rfl), by repeat (first | (with_reducible first | exact HB.out | apply below_alloc | apply pw_below_drewN | apply below_drew1 | refine below_set ?_ GE360.out | refine below_set ?_ GE364.out | refine below_set ?_ GE368.out | refine below_set ?_ GE371.out | refine below_set ?_ GE375.out | refine below_set ?_ GE379.out | refine below_set ?_ GE382.out | refine below_set ?_ GE387.out | refine below_set ?_ GE392.out | refine below_set ?_ GE414.out) | exact HB.out)⟩
                          · replace c499 := Bool.eq_false_iff.mpr c499
                            subst c499
                            have H1 : (laws_FnPowerLoss.l0 kj428 t406 t415 0) = some r := by rw [if_neg (show ¬ (false = true) by decide)] at H; exact H
                            clear H
                            have H := H1
                            clear H1
                            have H' := Aside0.mk H
                            clear H
                            go_wp2
                            repeat (go_quiet (fail); try go_wp2)
                            go_loopg [36] kj428 (fun kq v36 w' => ∃ (x36_5 : Int), v36 = .int .i64 x36_5 ∧ Aside0 (laws_FnPowerLoss.l0 kq t406 t415 x36_5 = some r) ∧ Aside0 (kq ≤ kj428) ∧ Aside0 (Kd.R k26 26 w' w.heap.size (fun k_ => some k_ ≠ (v416 : Value).ownBlock) v407 t406) ∧ Aside0 (Kd.R k26 26 w' w.heap.size (fun k_ => some k_ ≠ (v407 : Value).ownBlock) v416 t415) ∧ Aside0 (w'.heap[gb360]? = some (.cells #[.string t357, .string t358] 32 (0, 0))) ∧ Aside0 (w'.heap[gb364]? = some (.cells #[.string t361, .string t362] 32 (0, 0))) ∧ Aside0 (w'.heap[gb368]? = some (.cells #[.string t365, .string t366] 32 (0, 0))) ∧ Aside0 (w'.heap[gb371]? = some (.cells #[.string t369, .string t370] 32 (0, 0))) ∧ Aside0 (w'.heap[gb375]? = some (.cells #[.string t372, .string t373] 32 (0, 0))) ∧ Aside0 (w'.heap[gb379]? = some (.cells #[.string t376, .string t377] 32 (0, 0))) ∧ Aside0 (w'.heap[gb382]? = some (.cells #[.string t380, .string t381] 32 (0, 0))) ∧ Aside0 (w'.heap[gb387]? = some (.cells #[.string t383, .string t384] 32 (0, 0))) ∧ Aside0 (w'.heap[gb392]? = some (.cells #[.string t388, .string t389] 32 (0, 0))) ∧ Aside0 (w'.heap[gb414]? = some (.cells #[.string t410, .string t411] 32 (0, 0))) ∧ Aside0 (Below w.heap.size w w'))
                            case atStart => exact ⟨(0), (by first | rfl | (simp; done) | (simp [*]; done)), H', ⟨Nat.le_refl _⟩, ⟨by (with_reducible repeat (first | apply Kd.R_alloc | apply Kd.R_drewN | apply Kd.R_drew)); exact HO_27.out⟩, ⟨by (with_reducible repeat (first | apply Kd.R_alloc | apply Kd.R_drewN | apply Kd.R_drew)); exact HO_32.out⟩, ⟨by (with_reducible repeat (first | refine blk_drewN ?_ _ | refine blk_drew ?_ | refine blk_alloc ?_ _)); exact BK360.out⟩, ⟨by (with_reducible repeat (first | refine blk_drewN ?_ _ | refine blk_drew ?_ | refine blk_alloc ?_ _)); exact BK364.out⟩, ⟨by (with_reducible repeat (first | refine blk_drewN ?_ _ | refine blk_drew ?_ | refine blk_alloc ?_ _)); exact BK368.out⟩, ⟨by (with_reducible repeat (first | refine blk_drewN ?_ _ | refine blk_drew ?_ | refine blk_alloc ?_ _)); exact BK371.out⟩, ⟨by (with_reducible repeat (first | refine blk_drewN ?_ _ | refine blk_drew ?_ | refine blk_alloc ?_ _)); exact BK375.out⟩, ⟨by (with_reducible repeat (first | refine blk_drewN ?_ _ | refine blk_drew ?_ | refine blk_alloc ?_ _)); exact BK379.out⟩, ⟨by (with_reducible repeat (first | refine blk_drewN ?_ _ | refine blk_drew ?_ | refine blk_alloc ?_ _)); exact BK382.out⟩, ⟨by (with_reducible repeat (first | refine blk_drewN ?_ _ | refine blk_drew ?_ | refine blk_alloc ?_ _)); exact BK387.out⟩, ⟨by (with_reducible repeat (first | refine blk_drewN ?_ _ | refine blk_drew ?_ | refine blk_alloc ?_ _)); exact BK392.out⟩, ⟨by (with_reducible repeat (first | refine blk_drewN ?_ _ | refine blk_drew ?_ | refine blk_alloc ?_ _)); exact BK414.out⟩, ⟨by repeat (first | (with_reducible first | exact HB.out | apply below_alloc | apply pw_below_drewN | apply below_drew1 | refine below_set ?_ GE360.out | refine below_set ?_ GE364.out | refine below_set ?_ GE368.out | refine below_set ?_ GE371.out | refine below_set ?_ GE375.out | refine below_set ?_ GE379.out | refine below_set ?_ GE382.out | refine below_set ?_ GE387.out | refine below_set ?_ GE392.out | refine below_set ?_ GE414.out) | exact HB.out)⟩⟩
                            case round => as_aux_lemma =>
                              clear H'
                              try clear c3
                              try clear c258
                              try clear c260
                              try clear c260b0
                              try clear c260b1
                              try clear c262
                              try clear c262b0
                              try clear c262b1
                              try clear c263
                              try clear c263b0
                              try clear c274
                              try clear c274b0
                              try clear c274b1
                              try clear c336
                              try clear c336b0
                              try clear c336b1
                              try clear c339
                              try clear c339b0
                              try clear c339b1
                              try clear c340
                              try clear c340b0
                              try clear c340b1
                              try clear c342
                              try clear c423
                              try clear c423b0
                              try clear c423b1
                              try clear c425
                              try clear c425b0
                              try clear c425b1
                              try clear c463
                              try clear c463b0
                              try clear c463b1
                              try clear c464
                              try clear c464b0
                              try clear c464b1
                              try clear c465
                              try clear c465b0
                              try clear c465b1
                              try clear c468
                              try clear c468b0
                              try clear c468b1
                              try clear c472
                              try clear c472b0
                              try clear c472b1
                              try clear c499
                              try clear hcz109_0
                              try clear hcz109_1
                              try clear hcz117_0
                              try clear hcz117_1
                              try clear hcz124_0
                              try clear hcz124_1
                              try clear hcz130_0
                              try clear hcz130_1
                              try clear hcz141_0
                              try clear hcz141_1
                              try clear hcz149_0
                              try clear hcz149_1
                              try clear hcz156_0
                              try clear hcz156_1
                              try clear hcz162_0
                              try clear hcz162_1
                              try clear hcz167_0
                              try clear hcz167_1
                              try clear hcz16_0
                              try clear hcz16_1
                              try clear hcz171_0
                              try clear hcz171_1
                              try clear hcz180_0
                              try clear hcz180_1
                              try clear hcz188_0
                              try clear hcz188_1
                              try clear hcz195_0
                              try clear hcz195_1
                              try clear hcz201_0
                              try clear hcz201_1
                              try clear hcz206_0
                              try clear hcz206_1
                              try clear hcz20_0
                              try clear hcz20_1
                              try clear hcz210_0
                              try clear hcz210_1
                              try clear hcz219_0
                              try clear hcz219_1
                              try clear hcz21_0
                              try clear hcz21_1
                              try clear hcz227_0
                              try clear hcz227_1
                              try clear hcz234_0
                              try clear hcz234_1
                              try clear hcz240_0
                              try clear hcz240_1
                              try clear hcz249_0
                              try clear hcz249_1
                              try clear hcz257_0
                              try clear hcz257_1
                              try clear hcz26_0
                              try clear hcz26_1
                              try clear hcz272_0
                              try clear hcz272_1
                              try clear hcz283_0
                              try clear hcz283_1
                              try clear hcz292_0
                              try clear hcz292_1
                              try clear hcz299_0
                              try clear hcz299_1
                              try clear hcz308_0
                              try clear hcz308_1
                              try clear hcz317_0
                              try clear hcz317_1
                              try clear hcz324_0
                              try clear hcz324_1
                              try clear hcz32_0
                              try clear hcz32_1
                              try clear hcz333_0
                              try clear hcz333_1
                              try clear hcz351_0
                              try clear hcz351_1
                              try clear hcz360_0
                              try clear hcz360_1
                              try clear hcz372_0
                              try clear hcz372_1
                              try clear hcz381_0
                              try clear hcz381_1
                              try clear hcz393_0
                              try clear hcz393_1
                              try clear hcz39_0
                              try clear hcz39_1
                              try clear hcz402_0
                              try clear hcz402_1
                              try clear hcz40_0
                              try clear hcz40_1
                              try clear hcz412_0
                              try clear hcz412_1
                              try clear hcz421_0
                              try clear hcz421_1
                              try clear hcz438_0
                              try clear hcz438_1
                              try clear hcz447_0
                              try clear hcz447_1
                              try clear hcz459_0
                              try clear hcz459_1
                              try clear hcz461_0
                              try clear hcz461_1
                              try clear hcz485_0
                              try clear hcz485_1
                              try clear hcz48_0
                              try clear hcz48_1
                              try clear hcz498_0
                              try clear hcz498_1
                              try clear hcz57_0
                              try clear hcz57_1
                              try clear hcz67_0
                              try clear hcz67_1
                              try clear hcz68_0
                              try clear hcz68_1
                              try clear hcz79_0
                              try clear hcz79_1
                              try clear hcz90_0
                              try clear hcz90_1
                              try clear hcz98_0
                              try clear hcz98_1
                              try clear hfz109_0
                              try clear hfz109_1
                              try clear hfz117_0
                              try clear hfz117_1
                              try clear hfz124_0
                              try clear hfz124_1
                              try clear hfz130_0
                              try clear hfz130_1
                              try clear hfz141_0
                              try clear hfz141_1
                              try clear hfz149_0
                              try clear hfz149_1
                              try clear hfz156_0
                              try clear hfz156_1
                              try clear hfz162_0
                              try clear hfz162_1
                              try clear hfz167_0
                              try clear hfz167_1
                              try clear hfz16_0
                              try clear hfz16_1
                              try clear hfz171_0
                              try clear hfz171_1
                              try clear hfz180_0
                              try clear hfz180_1
                              try clear hfz188_0
                              try clear hfz188_1
                              try clear hfz195_0
                              try clear hfz195_1
                              try clear hfz201_0
                              try clear hfz201_1
                              try clear hfz206_0
                              try clear hfz206_1
                              try clear hfz20_0
                              try clear hfz20_1
                              try clear hfz210_0
                              try clear hfz210_1
                              try clear hfz219_0
                              try clear hfz219_1
                              try clear hfz21_0
                              try clear hfz21_1
                              try clear hfz227_0
                              try clear hfz227_1
                              try clear hfz234_0
                              try clear hfz234_1
                              try clear hfz240_0
                              try clear hfz240_1
                              try clear hfz249_0
                              try clear hfz249_1
                              try clear hfz257_0
                              try clear hfz257_1
                              try clear hfz26_0
                              try clear hfz26_1
                              try clear hfz272_0
                              try clear hfz272_1
                              try clear hfz283_0
                              try clear hfz283_1
                              try clear hfz292_0
                              try clear hfz292_1
                              try clear hfz299_0
                              try clear hfz299_1
                              try clear hfz308_0
                              try clear hfz308_1
                              try clear hfz317_0
                              try clear hfz317_1
                              try clear hfz324_0
                              try clear hfz324_1
                              try clear hfz32_0
                              try clear hfz32_1
                              try clear hfz333_0
                              try clear hfz333_1
                              try clear hfz351_0
                              try clear hfz351_1
                              try clear hfz360_0
                              try clear hfz360_1
                              try clear hfz372_0
                              try clear hfz372_1
                              try clear hfz381_0
                              try clear hfz381_1
                              try clear hfz393_0
                              try clear hfz393_1
                              try clear hfz39_0
                              try clear hfz39_1
                              try clear hfz402_0
                              try clear hfz402_1
                              try clear hfz40_0
                              try clear hfz40_1
                              try clear hfz412_0
                              try clear hfz412_1
                              try clear hfz421_0
                              try clear hfz421_1
                              try clear hfz438_0
                              try clear hfz438_1
                              try clear hfz447_0
                              try clear hfz447_1
                              try clear hfz459_0
                              try clear hfz459_1
                              try clear hfz461_0
                              try clear hfz461_1
                              try clear hfz485_0
                              try clear hfz485_1
                              try clear hfz48_0
                              try clear hfz48_1
                              try clear hfz498_0
                              try clear hfz498_1
                              try clear hfz57_0
                              try clear hfz57_1
                              try clear hfz67_0
                              try clear hfz67_1
                              try clear hfz68_0
                              try clear hfz68_1
                              try clear hfz79_0
                              try clear hfz79_1
                              try clear hfz90_0
                              try clear hfz90_1
                              try clear hfz98_0
                              try clear hfz98_1
                              obtain ⟨x36_5, rfl, HA, HK5, HO_27, HO_32, BK360, BK364, BK368, BK371, BK375, BK379, BK382, BK387, BK392, BK414, HB⟩ := hrel
                              cases gk with
                              | zero => exact absurd HA.out (by simp [laws_FnPowerLoss.l0])
                              | succ k5 =>
                                have H := HA.out
                                clear HA
                                simp only [laws_FnPowerLoss.l0] at H
                                by_cases c500 : x36_5 < (t415.length : Int)
                                · rw [if_pos c500] at H
                                  have c500b0 : decide (x36_5 < (t415.length : Int)) = true := decide_eq_true c500
                                  clear c500
                                  by_cases c501 : 0 ≤ x36_5
                                  · rw [if_pos c501] at H
                                    have c501b0 : decide (0 ≤ x36_5) = true := decide_eq_true c501
                                    clear c501
                                    by_cases c502 : x36_5 < (t406.length : Int)
                                    · rw [if_pos c502] at H
                                      have c502b0 : decide (x36_5 < (t406.length : Int)) = true := decide_eq_true c502
                                      clear c502
                                      by_cases c503 : (!(((rd_T26 t415 x36_5).f0) == ((rd_T26 t406 x36_5).f0)) || (!((((rd_T26 t415 x36_5).f1).toList) == (((rd_T26 t406 x36_5).f1).toList)) || (!((((rd_T26 t415 x36_5).f2).toList) == (((rd_T26 t406 x36_5).f2).toList))))) = true
                                      · rw [if_pos c503] at H
                                        have c503b0 : (!(((rd_T26 t415 x36_5).f0) == ((rd_T26 t406 x36_5).f0)) || (!((((rd_T26 t415 x36_5).f1).toList) == (((rd_T26 t406 x36_5).f1).toList)) || (!((((rd_T26 t415 x36_5).f2).toList) == (((rd_T26 t406 x36_5).f2).toList))))) = true := c503
                                        clear c503
                                        obtain rfl := Option.some.inj H
                                        obtain ⟨Ao504, co504, eo504⟩ := Kd.R_slice HO_32.out
                                        subst eo504
                                        have p423 : 0 ≤ (x36_5 : Int) := of_decide_eq_true (by first | (with_reducible assumption) | assumption)
                                        have q423 : x36_5 < (t415.length : Int) := of_decide_eq_true (by first | (with_reducible assumption) | assumption)
                                        obtain ⟨ad423, e423, hx423_0, hx423_1, hx423_2⟩ := at_T26 (Kd.R_reads' HO_32.out).2.2 x36_5 p423 q423
                                        cases e423
                                        replace p423 := eq_true p423
                                        replace q423 := eq_true q423
                                        obtain ⟨Ao505, co505, eo505⟩ := Kd.R_slice HO_27.out
                                        subst eo505
                                        have p424 : 0 ≤ (x36_5 : Int) := of_decide_eq_true (by first | (with_reducible assumption) | assumption)
                                        have q424 : x36_5 < (t406.length : Int) := of_decide_eq_true (by first | (with_reducible assumption) | assumption)
                                        obtain ⟨ad424, e424, hx424_0, hx424_1, hx424_2⟩ := at_T26 (Kd.R_reads' HO_27.out).2.2 x36_5 p424 q424
                                        cases e424
                                        replace p424 := eq_true p424
                                        replace q424 := eq_true q424
                                        go_wp2
                                        repeat (go_quiet (fail); try go_wp2)
                                        go_ret
                                        exact ⟨by first | rfl | (simp [errW_none, errW_some] <;> rfl) | (simp [*, errW_none, errW_some] <;> rfl), by repeat (first | (with_reducible first | exact HB.out | apply below_alloc | apply pw_below_drewN | apply below_drew1 | refine below_set ?_ GE360.out | refine below_set ?_ GE364.out | refine below_set ?_ GE368.out | refine below_set ?_ GE371.out | refine below_set ?_ GE375.out | refine below_set ?_ GE379.out | refine below_set ?_ GE382.out | refine below_set ?_ GE387.out | refine below_set ?_ GE392.out | refine below_set ?_ GE414.out) | exact HB.out)⟩
                                      · rw [if_neg c503] at H
                                        have c503b0 : (!(((rd_T26 t415 x36_5).f0) == ((rd_T26 t406 x36_5).f0)) || (!((((rd_T26 t415 x36_5).f1).toList) == (((rd_T26 t406 x36_5).f1).toList)) || (!((((rd_T26 t415 x36_5).f2).toList) == (((rd_T26 t406 x36_5).f2).toList))))) = false := by simpa using c503
                                        clear c503
                                        have H' := Aside0.mk H
                                        clear H
                                        obtain ⟨Ao506, co506, eo506⟩ := Kd.R_slice HO_32.out
                                        subst eo506
                                        have p423 : 0 ≤ (x36_5 : Int) := of_decide_eq_true (by first | (with_reducible assumption) | assumption)
                                        have q423 : x36_5 < (t415.length : Int) := of_decide_eq_true (by first | (with_reducible assumption) | assumption)
                                        obtain ⟨ad423, e423, hx423_0, hx423_1, hx423_2⟩ := at_T26 (Kd.R_reads' HO_32.out).2.2 x36_5 p423 q423
                                        cases e423
                                        replace p423 := eq_true p423
                                        replace q423 := eq_true q423
                                        obtain ⟨Ao507, co507, eo507⟩ := Kd.R_slice HO_27.out
                                        subst eo507
                                        have p424 : 0 ≤ (x36_5 : Int) := of_decide_eq_true (by first | (with_reducible assumption) | assumption)
                                        have q424 : x36_5 < (t406.length : Int) := of_decide_eq_true (by first | (with_reducible assumption) | assumption)
                                        obtain ⟨ad424, e424, hx424_0, hx424_1, hx424_2⟩ := at_T26 (Kd.R_reads' HO_27.out).2.2 x36_5 p424 q424
                                        cases e424
                                        replace p424 := eq_true p424
                                        replace q424 := eq_true q424
                                        go_wp2
                                        repeat (go_quiet (fail); try go_wp2)
                                        go_roundg k5
                                        case measure => have := HJ12.out; have := HJ258.out; have := HJ334.out; have := HJ428.out; have := HK5.out; omega
                                        case rel => exact ⟨(wrap64 (x36_5 + 1)), (by first | rfl | (simp; done) | (simp [*]; done)), H', ⟨by have := HJ12.out; have := HJ258.out; have := HJ334.out; have := HJ428.out; have := HK5.out; omega⟩, ⟨by (with_reducible repeat (first | apply Kd.R_alloc | apply Kd.R_drewN | apply Kd.R_drew)); exact HO_27.out⟩, ⟨by (with_reducible repeat (first | apply Kd.R_alloc | apply Kd.R_drewN | apply Kd.R_drew)); exact HO_32.out⟩, ⟨by (with_reducible repeat (first | refine blk_drewN ?_ _ | refine blk_drew ?_ | refine blk_alloc ?_ _)); exact BK360.out⟩, ⟨by (with_reducible repeat (first | refine blk_drewN ?_ _ | refine blk_drew ?_ | refine blk_alloc ?_ _)); exact BK364.out⟩, ⟨by (with_reducible repeat (first | refine blk_drewN ?_ _ | refine blk_drew ?_ | refine blk_alloc ?_ _)); exact BK368.out⟩, ⟨by (with_reducible repeat (first | refine blk_drewN ?_ _ | refine blk_drew ?_ | refine blk_alloc ?_ _)); exact BK371.out⟩, ⟨by (with_reducible repeat (first | refine blk_drewN ?_ _ | refine blk_drew ?_ | refine blk_alloc ?_ _)); exact BK375.out⟩, ⟨by (with_reducible repeat (first | refine blk_drewN ?_ _ | refine blk_drew ?_ | refine blk_alloc ?_ _)); exact BK379.out⟩, ⟨by (with_reducible repeat (first | refine blk_drewN ?_ _ | refine blk_drew ?_ | refine blk_alloc ?_ _)); exact BK382.out⟩, ⟨by (with_reducible repeat (first | refine blk_drewN ?_ _ | refine blk_drew ?_ | refine blk_alloc ?_ _)); exact BK387.out⟩, ⟨by (with_reducible repeat (first | refine blk_drewN ?_ _ | refine blk_drew ?_ | refine blk_alloc ?_ _)); exact BK392.out⟩, ⟨by (with_reducible repeat (first | refine blk_drewN ?_ _ | refine blk_drew ?_ | refine blk_alloc ?_ _)); exact BK414.out⟩, ⟨by repeat (first | (with_reducible first | exact HB.out | apply below_alloc | apply pw_below_drewN | apply below_drew1 | refine below_set ?_ GE360.out | refine below_set ?_ GE364.out | refine below_set ?_ GE368.out | refine below_set ?_ GE371.out | refine below_set ?_ GE375.out | refine below_set ?_ GE379.out | refine below_set ?_ GE382.out | refine below_set ?_ GE387.out | refine below_set ?_ GE392.out | refine below_set ?_ GE414.out) | exact HB.out)⟩⟩
                                    · rw [if_neg c502] at H
                                      exact absurd H (by simp)
                                  · rw [if_neg c501] at H
                                    exact absurd H (by simp)
                                · rw [if_neg c500] at H
                                  have c500b0 : decide (x36_5 < (t415.length : Int)) = false := decide_eq_false c500
                                  clear c500
                                  obtain rfl := Option.some.inj H
                                  obtain ⟨Ao508, co508, eo508⟩ := Kd.R_slice HO_32.out
                                  subst eo508
                                  go_wp2
                                  repeat (go_quiet (fail); try go_wp2)
                                  go_ret
                                  exact ⟨by first | rfl | (simp [errW_none, errW_some] <;> rfl) | (simp [*, errW_none, errW_some] <;> rfl), by repeat (first | (with_reducible first | exact HB.out | apply below_alloc | apply pw_below_drewN | apply below_drew1 | refine below_set ?_ GE360.out | refine below_set ?_ GE364.out | refine below_set ?_ GE368.out | refine below_set ?_ GE371.out | refine below_set ?_ GE375.out | refine below_set ?_ GE379.out | refine below_set ?_ GE382.out | refine below_set ?_ GE387.out | refine below_set ?_ GE392.out | refine below_set ?_ GE414.out) | exact HB.out)⟩
                    · rw [if_neg c425] at H
                      have c425b0 : (t409 == 0) = false := beq_eq_false_iff_ne.mpr c425
                      have c425b1 : (t409 != 0) = true := bne_iff_ne.mpr c425
                      obtain rfl := Option.some.inj H
                      have hcz517_0 : wc.cell? ⟨gb360, 0, none⟩ = some (.string t357) := (blk_cell BK360.out 0).trans rfl
                      have hcz517_1 : wc.cell? ⟨gb360, 1, none⟩ = some (.string t358) := (blk_cell BK360.out 1).trans rfl
                      have hfz517_0 := blk_frozen BK360.out 0
                      have hfz517_1 := blk_frozen BK360.out 1
                      go_wp2_with (first | (go_at_call 36; (with_reducible refine (spec_EntriesOf.calls kj334 t357 t358 t406 t409 _ A424.out).mono ?_); rintro e w518 ⟨v407, rfl, ho0, hb⟩; have HO408 := Aside0.mk (Kd.R_lower ho0 (below_size bwl_)); replace BK360 := bkb_ BK360 hb; replace BK364 := bkb_ BK364 hb; replace BK368 := bkb_ BK368 hb; replace BK371 := bkb_ BK371 hb; replace BK375 := bkb_ BK375 hb; replace BK379 := bkb_ BK379 hb; replace BK382 := bkb_ BK382 hb; replace BK387 := bkb_ BK387 hb; replace BK392 := bkb_ BK392 hb; replace HB := bst_ hb; (try clear hb); (try clear hb2); (try clear hk); (try clear hi); (try clear ho0)))
                      repeat (go_quiet (first | (go_at_call 36; (with_reducible refine (spec_EntriesOf.calls kj334 t357 t358 t406 t409 _ A424.out).mono ?_); rintro e w518 ⟨v407, rfl, ho0, hb⟩; have HO408 := Aside0.mk (Kd.R_lower ho0 (below_size bwl_)); replace BK360 := bkb_ BK360 hb; replace BK364 := bkb_ BK364 hb; replace BK368 := bkb_ BK368 hb; replace BK371 := bkb_ BK371 hb; replace BK375 := bkb_ BK375 hb; replace BK379 := bkb_ BK379 hb; replace BK382 := bkb_ BK382 hb; replace BK387 := bkb_ BK387 hb; replace BK392 := bkb_ BK392 hb; replace HB := bst_ hb; (try clear hb); (try clear hb2); (try clear hk); (try clear hi); (try clear ho0))); try go_wp2_with (first | (go_at_call 36; (with_reducible refine (spec_EntriesOf.calls kj334 t357 t358 t406 t409 _ A424.out).mono ?_); rintro e w518 ⟨v407, rfl, ho0, hb⟩; have HO408 := Aside0.mk (Kd.R_lower ho0 (below_size bwl_)); replace BK360 := bkb_ BK360 hb; replace BK364 := bkb_ BK364 hb; replace BK368 := bkb_ BK368 hb; replace BK371 := bkb_ BK371 hb; replace BK375 := bkb_ BK375 hb; replace BK379 := bkb_ BK379 hb; replace BK382 := bkb_ BK382 hb; replace BK387 := bkb_ BK387 hb; replace BK392 := bkb_ BK392 hb; replace HB := bst_ hb; (try clear hb); (try clear hb2); (try clear hk); (try clear hi); (try clear ho0))))
                      go_ret
                      exact ⟨by first | rfl | (simp [errW_none, errW_some] <;> rfl) | (simp [*, errW_none, errW_some] <;> rfl), by repeat (first | (with_reducible first | exact HB.out | apply below_alloc | apply pw_below_drewN | apply below_drew1 | refine below_set ?_ GE360.out | refine below_set ?_ GE364.out | refine below_set ?_ GE368.out | refine below_set ?_ GE371.out | refine below_set ?_ GE375.out | refine below_set ?_ GE379.out | refine below_set ?_ GE382.out | refine below_set ?_ GE387.out | refine below_set ?_ GE392.out) | exact HB.out)⟩
                  · rw [if_neg c423] at H
                    have c423b0 : (t363 == 0) = false := beq_eq_false_iff_ne.mpr c423
                    have c423b1 : (t363 != 0) = true := bne_iff_ne.mpr c423
                    obtain rfl := Option.some.inj H
                    go_wp2
                    repeat (go_quiet (fail); try go_wp2)
                    go_ret
                    exact ⟨by first | rfl | (simp [errW_none, errW_some] <;> rfl) | (simp [*, errW_none, errW_some] <;> rfl), by repeat (first | (with_reducible first | exact HB.out | apply below_alloc | apply pw_below_drewN | apply below_drew1 | refine below_set ?_ GE360.out | refine below_set ?_ GE364.out | refine below_set ?_ GE368.out | refine below_set ?_ GE371.out | refine below_set ?_ GE375.out | refine below_set ?_ GE379.out | refine below_set ?_ GE382.out | refine below_set ?_ GE387.out | refine below_set ?_ GE392.out) | exact HB.out)⟩
end Go.Proofs.YtlcgonaapmmnkaaDoor.QFnPowerLoss
