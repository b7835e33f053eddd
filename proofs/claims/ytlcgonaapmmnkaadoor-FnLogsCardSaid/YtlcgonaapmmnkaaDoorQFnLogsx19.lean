import Derived.Test.YtlcgonaapmmnkaaDoorSq
import Derived.Test.YtlcgonaapmmnkaaDoorQFnLogsx0
import Derived.Test.YtlcgonaapmmnkaaDoorQFnLogsx1
import Derived.Test.YtlcgonaapmmnkaaDoorQFnLogsx2
import Derived.Test.YtlcgonaapmmnkaaDoorQFnLogsx3
import Derived.Test.YtlcgonaapmmnkaaDoorQFnLogsx4
import Derived.Test.YtlcgonaapmmnkaaDoorQFnLogsx6
import Derived.Test.YtlcgonaapmmnkaaDoorQFnLogsx8
import Derived.Test.YtlcgonaapmmnkaaDoorQFnLogsx10
import Derived.Test.YtlcgonaapmmnkaaDoorQFnLogsx11
import Derived.Test.YtlcgonaapmmnkaaDoorQFnLogsx12
import Derived.Test.YtlcgonaapmmnkaaDoorQFnLogsx14
import Derived.Test.YtlcgonaapmmnkaaDoorQFnLogsx15
import Derived.Test.YtlcgonaapmmnkaaDoorQFnLogsx16
import Derived.Test.YtlcgonaapmmnkaaDoorQFnLogsx17
import Derived.Test.YtlcgonaapmmnkaaDoorQFnLogsx18
namespace Go.Proofs.YtlcgonaapmmnkaaDoor.QFnLogs
open Sq (fl pu_ gl_ b20_ b21_ b30_ b31_ b32_ od_ rr_ be_)
open Base (bwl_ bst_ bsz_ bkb_ nbl_ nbr_ kbl_ bkm_)
open Go.RowKit Go.Proofs.YtlcgonaapmmnkaaDoorW.PrintWords Go.Proofs.YtlcgonaapmmnkaaDoorW.PrintLast Go.Proofs.YtlcgonaapmmnkaaDoorW.PrintMore
attribute [local go_sem] max2_int min2_int max_two min_two max_three min_three max_four min_four
set_option linter.unusedVariables false
set_option linter.unusedSimpArgs false
attribute [local go_sem high] eqA26 eqA32
mutual
def laws_FnLogs.j0 : Nat → Int → ByteArray → ByteArray → List (S26) → Int → Int → Int → List (S26) → Bool → ByteArray → ByteArray → Int → ByteArray → ByteArray → ByteArray → ByteArray → Option (Bool)
 | 0, _, _, _, _, _, _, _, _, _, _, _, _, _, _, _, _ => none
 | k + 1, x6, x9, x10, x13, x14, x21, x22, x25, x213, x568000, x568001, x569000, x569001, x569002, x573000, x573001 => if x213 = true then (none) else (if x9.toList = ([] : List UInt8) then (laws_FnLogs.j1 k x6 x10 x13 x14 x21 x22 x25 x568000 x568001 x569000 x569001 x569002 x573000 x573001) else ((impl_ReadFrames.f k x9).bind fun bt636 => (if bt636.2 = (x9.size : Int) then (if (bt636.1.length : Int) = 1 then (if 0 < (bt636.1.length : Int) then (if (!(((rd_T26 bt636.1 0).f0) == x569000) || (!((((rd_T26 bt636.1 0).f1).toList) == x569001.toList) || (!((((rd_T26 bt636.1 0).f2).toList) == x569002.toList)))) = true then (none) else (laws_FnLogs.j1 k x6 x10 x13 x14 x21 x22 x25 x568000 x568001 x569000 x569001 x569002 x573000 x573001)) else (none)) else (none)) else (none))))
def laws_FnLogs.j1 : Nat → Int → ByteArray → List (S26) → Int → Int → Int → List (S26) → ByteArray → ByteArray → Int → ByteArray → ByteArray → ByteArray → ByteArray → Option (Bool)
 | 0, _, _, _, _, _, _, _, _, _, _, _, _, _, _ => none
 | k + 1, x6, x10, x13, x14, x21, x22, x25, x568000, x568001, x569000, x569001, x569002, x573000, x573001 => laws_FnLogs.l0 k x6 x10 x13 x14 x21 x22 x25 (⟨#[]⟩ : ByteArray) 0 x568000 x568001 x569000 x569001 x569002 x573000 x573001
def laws_FnLogs.l0 : Nat → Int → ByteArray → List (S26) → Int → Int → Int → List (S26) → ByteArray → Int → ByteArray → ByteArray → Int → ByteArray → ByteArray → ByteArray → ByteArray → Option (Bool)
 | 0, _, _, _, _, _, _, _, _, _, _, _, _, _, _, _, _ => none
 | k + 1, x6, x10, x13, x14, x21, x22, x25, x38, x39, x568000, x568001, x569000, x569001, x569002, x573000, x573001 => if x39 < (x13.length : Int) then (if 0 ≤ x39 then ((impl_FrameOf.f k ((rd_T26 x13 x39).f0) ((rd_T26 x13 x39).f1) ((rd_T26 x13 x39).f2)).bind fun t642 => (if x38.size + t642.size ≤ 9223372036854775807 then (laws_FnLogs.l0 k x6 x10 x13 x14 x21 x22 x25 (x38 ++ t642) (wrap64 (x39 + 1)) x568000 x568001 x569000 x569001 x569002 x573000 x573001) else (none))) else (none)) else (if x14 < 0 then (none) else (if x14 > (x10.size : Int) then (none) else (if 0 ≤ x14 then (if x14 ≤ (x10.size : Int) then (laws_FnLogs.j3 k x6 x21 x22 x25 (x38.toList != (x10.extract 0 (x14 : Int).toNat).toList) x568000 x568001 x569000 x569001 x569002 x573000 x573001) else (none)) else (none))))
def laws_FnLogs.j3 : Nat → Int → Int → Int → List (S26) → Bool → ByteArray → ByteArray → Int → ByteArray → ByteArray → ByteArray → ByteArray → Option (Bool)
 | 0, _, _, _, _, _, _, _, _, _, _, _, _ => none
 | k + 1, x6, x21, x22, x25, x264, x568000, x568001, x569000, x569001, x569002, x573000, x573001 => if x264 = true then (none) else (laws_FnLogs.l1 k x6 x21 x22 x25 0 x568000 x568001 x569000 x569001 x569002 x573000 x573001)
def laws_FnLogs.l1 : Nat → Int → Int → Int → List (S26) → Int → ByteArray → ByteArray → Int → ByteArray → ByteArray → ByteArray → ByteArray → Option (Bool)
 | 0, _, _, _, _, _, _, _, _, _, _, _, _ => none
 | k + 1, x6, x21, x22, x25, x40, x568000, x568001, x569000, x569001, x569002, x573000, x573001 => if x40 < (x25.length : Int) then (if 0 ≤ x40 then (if ((rd_T26 x25 x40).f0) < x21 then (none) else (if ((rd_T26 x25 x40).f0) > x22 then (none) else (laws_FnLogs.l1 k x6 x21 x22 x25 (wrap64 (x40 + 1)) x568000 x568001 x569000 x569001 x569002 x573000 x573001))) else (none)) else (if x6 = 0 then ((spec_EntriesOf.f k x568000 x568001).bind fun bt645 => ((impl_EntriesOf.f k x573000 x573001).bind fun bt649 => (if bt645.2 = 0 then (if bt649.2 = 0 then (if (bt649.1.length : Int) = (wrap64 ((bt645.1.length : Int) + 1)) then (if 0 ≤ (wrap64 ((bt649.1.length : Int) - 1)) then (if (wrap64 ((bt649.1.length : Int) - 1)) < (bt649.1.length : Int) then (some (((rd_T26 bt649.1 (wrap64 ((bt649.1.length : Int) - 1))).f0) == x569000 && ((((rd_T26 bt649.1 (wrap64 ((bt649.1.length : Int) - 1))).f1).toList) == x569001.toList && ((((rd_T26 bt649.1 (wrap64 ((bt649.1.length : Int) - 1))).f2).toList) == x569002.toList)))) else (none)) else (none)) else (none)) else (none)) else (some (bt649.2 == bt645.2))))) else (some true))
end
def laws_FnLogs.f (k : Nat) (l0 : List Int) : Option (Bool) := (laws_f6big.f l0).bind fun t561 => (if t561 = true then (some true) else ((spec_DrawWriteEntry.f k l0).bind fun bt562 => ((impl_WriteEntry.f k bt562.1 bt562.2.1 bt562.2.2.1 bt562.2.2.2.1 bt562.2.2.2.2).bind fun bt569 => ((spec_WriteEntry.f k bt562.1 bt562.2.1 bt562.2.2.1 bt562.2.2.2.1 bt562.2.2.2.2).bind fun bt573 => ((impl_FrameOf.f k bt562.2.2.1 bt562.2.2.2.1 bt562.2.2.2.2).bind fun t577 => ((spec_DrawReadFrames.f k l0).bind fun t578 => ((impl_ReadFrames.f k t578).bind fun bt579 => ((spec_ReadFrames.f k t578).bind fun bt583 => ((spec_DrawEntriesOf.f k l0).bind fun bt587 => ((impl_EntriesOf.f k bt587.1 bt587.2).bind fun bt590 => ((spec_EntriesOf.f k bt587.1 bt587.2).bind fun bt594 => ((spec_DrawEntriesBetween.f k l0).bind fun bt598 => ((impl_EntriesBetween.f k bt598.1 bt598.2.1 bt598.2.2.1 bt598.2.2.2).bind fun bt603 => ((spec_EntriesBetween.f k bt598.1 bt598.2.1 bt598.2.2.1 bt598.2.2.2).bind fun bt607 => ((spec_DrawCountKinds.f k l0).bind fun bt611 => ((impl_CountKinds.f k bt611.1 bt611.2.1 bt611.2.2).bind fun bt615 => ((spec_CountKinds.f k bt611.1 bt611.2.1 bt611.2.2).bind fun bt617 => ((spec_DrawSameEntries.f k l0).bind fun bt619 => ((spec_DrawSumOf.f k l0).bind fun t625 => (if bt569.2.2 = bt573.2.2 then (if (!(bt569.1.toList == bt573.1.toList) || (!(bt569.2.1.toList == bt573.2.1.toList))) = true then (none) else ((spec_FrameOf.f k bt562.2.2.1 bt562.2.2.2.1 bt562.2.2.2.2).bind fun t626 => (if t577.toList = t626.toList then (if bt579.2 = bt583.2 then ((spec_SameEntries.f k bt579.1 bt583.1).bind fun t627 => (if t627 = true then (if bt590.2 = bt594.2 then ((spec_SameEntries.f k bt590.1 bt594.1).bind fun t628 => (if t628 = true then (if bt603.2 = bt607.2 then ((spec_SameEntries.f k bt603.1 bt607.1).bind fun t629 => (if t629 = true then (if bt615.2 = bt617.2 then (if bt615.1 = bt617.1 then ((impl_SameEntries.f k bt619.1 bt619.2).bind fun t630 => ((spec_SameEntries.f k bt619.1 bt619.2).bind fun t631 => (if (t630 != t631) = true then (none) else ((impl_SumOf.f k t625).bind fun t632 => ((spec_SumOf.f k t625).bind fun t633 => (if t632 = t633 then ((impl_ValidEntry.f k bt562.2.2.1 bt562.2.2.2.1 bt562.2.2.2.2).bind fun t634 => ((spec_ValidEntry.f k bt562.2.2.1 bt562.2.2.2.1 bt562.2.2.2.2).bind fun t635 => (laws_FnLogs.j0 k bt569.2.2 t577 t578 bt583.1 bt583.2 bt598.2.2.1 bt598.2.2.2 bt607.1 (t634 != t635) bt562.1 bt562.2.1 bt562.2.2.1 bt562.2.2.2.1 bt562.2.2.2.2 bt569.1 bt569.2.1))) else (none))))))) else (none)) else (none)) else (none))) else (none)) else (none))) else (none)) else (none))) else (none)) else (none)))) else (none)))))))))))))))))))))
theorem laws_FnLogs.mono_l : ∀ k, (∀ y0 y1 y2 y3 y4 y5 y6 y7 y8 y9 y10 y11 y12 y13 y14 y15, LeO (laws_FnLogs.j0 k y0 y1 y2 y3 y4 y5 y6 y7 y8 y9 y10 y11 y12 y13 y14 y15) (laws_FnLogs.j0 (k + 1) y0 y1 y2 y3 y4 y5 y6 y7 y8 y9 y10 y11 y12 y13 y14 y15)) ∧ (∀ y0 y1 y2 y3 y4 y5 y6 y7 y8 y9 y10 y11 y12 y13, LeO (laws_FnLogs.j1 k y0 y1 y2 y3 y4 y5 y6 y7 y8 y9 y10 y11 y12 y13) (laws_FnLogs.j1 (k + 1) y0 y1 y2 y3 y4 y5 y6 y7 y8 y9 y10 y11 y12 y13)) ∧ (∀ y0 y1 y2 y3 y4 y5 y6 y7 y8 y9 y10 y11 y12 y13 y14 y15, LeO (laws_FnLogs.l0 k y0 y1 y2 y3 y4 y5 y6 y7 y8 y9 y10 y11 y12 y13 y14 y15) (laws_FnLogs.l0 (k + 1) y0 y1 y2 y3 y4 y5 y6 y7 y8 y9 y10 y11 y12 y13 y14 y15)) ∧ (∀ y0 y1 y2 y3 y4 y5 y6 y7 y8 y9 y10 y11, LeO (laws_FnLogs.j3 k y0 y1 y2 y3 y4 y5 y6 y7 y8 y9 y10 y11) (laws_FnLogs.j3 (k + 1) y0 y1 y2 y3 y4 y5 y6 y7 y8 y9 y10 y11)) ∧ (∀ y0 y1 y2 y3 y4 y5 y6 y7 y8 y9 y10 y11, LeO (laws_FnLogs.l1 k y0 y1 y2 y3 y4 y5 y6 y7 y8 y9 y10 y11) (laws_FnLogs.l1 (k + 1) y0 y1 y2 y3 y4 y5 y6 y7 y8 y9 y10 y11))
 | 0 => ⟨fun _ _ _ _ _ _ _ _ _ _ _ _ _ _ _ _ r h => by simp [laws_FnLogs.j0] at h, fun _ _ _ _ _ _ _ _ _ _ _ _ _ _ r h => by simp [laws_FnLogs.j1] at h, fun _ _ _ _ _ _ _ _ _ _ _ _ _ _ _ _ r h => by simp [laws_FnLogs.l0] at h, fun _ _ _ _ _ _ _ _ _ _ _ _ r h => by simp [laws_FnLogs.j3] at h, fun _ _ _ _ _ _ _ _ _ _ _ _ r h => by simp [laws_FnLogs.l1] at h⟩
 | k + 1 => by
  obtain ⟨ih0, ih1, ih2, ih3, ih4⟩ := laws_FnLogs.mono_l k
  refine ⟨?_, ?_, ?_, ?_, ?_⟩
  ·intro y0 y1 y2 y3 y4 y5 y6 y7 y8 y9 y10 y11 y12 y13 y14 y15
   unfold laws_FnLogs.j0
   repeat' first
   | (with_reducible exact ih0 _ _ _ _ _ _ _ _ _ _ _ _ _ _ _ _)
   | (with_reducible exact ih1 _ _ _ _ _ _ _ _ _ _ _ _ _ _)
   | (with_reducible exact ih2 _ _ _ _ _ _ _ _ _ _ _ _ _ _ _ _)
   | (with_reducible exact ih3 _ _ _ _ _ _ _ _ _ _ _ _)
   | (with_reducible exact ih4 _ _ _ _ _ _ _ _ _ _ _ _)
   | (with_reducible exact impl_CountKinds.mono _ _ _ _)
   | (with_reducible exact impl_EntriesBetween.mono _ _ _ _ _)
   | (with_reducible exact impl_EntriesOf.mono _ _ _)
   | (with_reducible exact impl_FrameOf.mono _ _ _ _)
   | (with_reducible exact impl_ReadFrames.mono _ _)
   | (with_reducible exact impl_SameEntries.mono _ _ _)
   | (with_reducible exact impl_SumOf.mono _ _)
   | (with_reducible exact impl_ValidEntry.mono _ _ _ _)
   | (with_reducible exact impl_WriteEntry.mono _ _ _ _ _ _)
   | (with_reducible exact spec_CountKinds.mono _ _ _ _)
   | (with_reducible exact spec_DrawCountKinds.mono _ _)
   | (with_reducible exact spec_DrawEntriesBetween.mono _ _)
   | (with_reducible exact spec_DrawEntriesOf.mono _ _)
   | (with_reducible exact spec_DrawReadFrames.mono _ _)
   | (with_reducible exact spec_DrawSameEntries.mono _ _)
   | (with_reducible exact spec_DrawSumOf.mono _ _)
   | (with_reducible exact spec_DrawWriteEntry.mono _ _)
   | (with_reducible exact spec_EntriesBetween.mono _ _ _ _ _)
   | (with_reducible exact spec_EntriesOf.mono _ _ _)
   | (with_reducible exact spec_FrameOf.mono _ _ _ _)
   | (with_reducible exact spec_ReadFrames.mono _ _)
   | (with_reducible exact spec_SameEntries.mono _ _ _)
   | (with_reducible exact spec_SumOf.mono _ _)
   | (with_reducible exact spec_ValidEntry.mono _ _ _ _)
   | (with_reducible exact spec_WriteEntry.mono _ _ _ _ _ _)
   | (with_reducible exact LeO.refl _)
   | (with_reducible exact LeO.none _)
   | (with_reducible refine LeO.ite ?_ ?_)
   | (with_reducible refine LeO.bind ?_ (fun _ => ?_))
   | exact ih0 _ _ _ _ _ _ _ _ _ _ _ _ _ _ _ _
   | exact ih1 _ _ _ _ _ _ _ _ _ _ _ _ _ _
   | exact ih2 _ _ _ _ _ _ _ _ _ _ _ _ _ _ _ _
   | exact ih3 _ _ _ _ _ _ _ _ _ _ _ _
   | exact ih4 _ _ _ _ _ _ _ _ _ _ _ _
   | exact impl_CountKinds.mono _ _ _ _
   | exact impl_EntriesBetween.mono _ _ _ _ _
   | exact impl_EntriesOf.mono _ _ _
   | exact impl_FrameOf.mono _ _ _ _
   | exact impl_ReadFrames.mono _ _
   | exact impl_SameEntries.mono _ _ _
   | exact impl_SumOf.mono _ _
   | exact impl_ValidEntry.mono _ _ _ _
   | exact impl_WriteEntry.mono _ _ _ _ _ _
   | exact spec_CountKinds.mono _ _ _ _
   | exact spec_DrawCountKinds.mono _ _
   | exact spec_DrawEntriesBetween.mono _ _
   | exact spec_DrawEntriesOf.mono _ _
   | exact spec_DrawReadFrames.mono _ _
   | exact spec_DrawSameEntries.mono _ _
   | exact spec_DrawSumOf.mono _ _
   | exact spec_DrawWriteEntry.mono _ _
   | exact spec_EntriesBetween.mono _ _ _ _ _
   | exact spec_EntriesOf.mono _ _ _
   | exact spec_FrameOf.mono _ _ _ _
   | exact spec_ReadFrames.mono _ _
   | exact spec_SameEntries.mono _ _ _
   | exact spec_SumOf.mono _ _
   | exact spec_ValidEntry.mono _ _ _ _
   | exact spec_WriteEntry.mono _ _ _ _ _ _
   | exact LeO.none _
   | refine LeO.ite ?_ ?_
   | refine LeO.bind ?_ (fun _ => ?_)
  ·intro y0 y1 y2 y3 y4 y5 y6 y7 y8 y9 y10 y11 y12 y13
   unfold laws_FnLogs.j1
   repeat' first
   | (with_reducible exact ih0 _ _ _ _ _ _ _ _ _ _ _ _ _ _ _ _)
   | (with_reducible exact ih1 _ _ _ _ _ _ _ _ _ _ _ _ _ _)
   | (with_reducible exact ih2 _ _ _ _ _ _ _ _ _ _ _ _ _ _ _ _)
   | (with_reducible exact ih3 _ _ _ _ _ _ _ _ _ _ _ _)
   | (with_reducible exact ih4 _ _ _ _ _ _ _ _ _ _ _ _)
   | (with_reducible exact impl_CountKinds.mono _ _ _ _)
   | (with_reducible exact impl_EntriesBetween.mono _ _ _ _ _)
   | (with_reducible exact impl_EntriesOf.mono _ _ _)
   | (with_reducible exact impl_FrameOf.mono _ _ _ _)
   | (with_reducible exact impl_ReadFrames.mono _ _)
   | (with_reducible exact impl_SameEntries.mono _ _ _)
   | (with_reducible exact impl_SumOf.mono _ _)
   | (with_reducible exact impl_ValidEntry.mono _ _ _ _)
   | (with_reducible exact impl_WriteEntry.mono _ _ _ _ _ _)
   | (with_reducible exact spec_CountKinds.mono _ _ _ _)
   | (with_reducible exact spec_DrawCountKinds.mono _ _)
   | (with_reducible exact spec_DrawEntriesBetween.mono _ _)
   | (with_reducible exact spec_DrawEntriesOf.mono _ _)
   | (with_reducible exact spec_DrawReadFrames.mono _ _)
   | (with_reducible exact spec_DrawSameEntries.mono _ _)
   | (with_reducible exact spec_DrawSumOf.mono _ _)
   | (with_reducible exact spec_DrawWriteEntry.mono _ _)
   | (with_reducible exact spec_EntriesBetween.mono _ _ _ _ _)
   | (with_reducible exact spec_EntriesOf.mono _ _ _)
   | (with_reducible exact spec_FrameOf.mono _ _ _ _)
   | (with_reducible exact spec_ReadFrames.mono _ _)
   | (with_reducible exact spec_SameEntries.mono _ _ _)
   | (with_reducible exact spec_SumOf.mono _ _)
   | (with_reducible exact spec_ValidEntry.mono _ _ _ _)
   | (with_reducible exact spec_WriteEntry.mono _ _ _ _ _ _)
   | (with_reducible exact LeO.refl _)
   | (with_reducible exact LeO.none _)
   | (with_reducible refine LeO.ite ?_ ?_)
   | (with_reducible refine LeO.bind ?_ (fun _ => ?_))
   | exact ih0 _ _ _ _ _ _ _ _ _ _ _ _ _ _ _ _
   | exact ih1 _ _ _ _ _ _ _ _ _ _ _ _ _ _
   | exact ih2 _ _ _ _ _ _ _ _ _ _ _ _ _ _ _ _
   | exact ih3 _ _ _ _ _ _ _ _ _ _ _ _
   | exact ih4 _ _ _ _ _ _ _ _ _ _ _ _
   | exact impl_CountKinds.mono _ _ _ _
   | exact impl_EntriesBetween.mono _ _ _ _ _
   | exact impl_EntriesOf.mono _ _ _
   | exact impl_FrameOf.mono _ _ _ _
   | exact impl_ReadFrames.mono _ _
   | exact impl_SameEntries.mono _ _ _
   | exact impl_SumOf.mono _ _
   | exact impl_ValidEntry.mono _ _ _ _
   | exact impl_WriteEntry.mono _ _ _ _ _ _
   | exact spec_CountKinds.mono _ _ _ _
   | exact spec_DrawCountKinds.mono _ _
   | exact spec_DrawEntriesBetween.mono _ _
   | exact spec_DrawEntriesOf.mono _ _
   | exact spec_DrawReadFrames.mono _ _
   | exact spec_DrawSameEntries.mono _ _
   | exact spec_DrawSumOf.mono _ _
   | exact spec_DrawWriteEntry.mono _ _
   | exact spec_EntriesBetween.mono _ _ _ _ _
   | exact spec_EntriesOf.mono _ _ _
   | exact spec_FrameOf.mono _ _ _ _
   | exact spec_ReadFrames.mono _ _
   | exact spec_SameEntries.mono _ _ _
   | exact spec_SumOf.mono _ _
   | exact spec_ValidEntry.mono _ _ _ _
   | exact spec_WriteEntry.mono _ _ _ _ _ _
   | exact LeO.none _
   | refine LeO.ite ?_ ?_
   | refine LeO.bind ?_ (fun _ => ?_)
  ·intro y0 y1 y2 y3 y4 y5 y6 y7 y8 y9 y10 y11 y12 y13 y14 y15
   unfold laws_FnLogs.l0
   repeat' first
   | (with_reducible exact ih0 _ _ _ _ _ _ _ _ _ _ _ _ _ _ _ _)
   | (with_reducible exact ih1 _ _ _ _ _ _ _ _ _ _ _ _ _ _)
   | (with_reducible exact ih2 _ _ _ _ _ _ _ _ _ _ _ _ _ _ _ _)
   | (with_reducible exact ih3 _ _ _ _ _ _ _ _ _ _ _ _)
   | (with_reducible exact ih4 _ _ _ _ _ _ _ _ _ _ _ _)
   | (with_reducible exact impl_CountKinds.mono _ _ _ _)
   | (with_reducible exact impl_EntriesBetween.mono _ _ _ _ _)
   | (with_reducible exact impl_EntriesOf.mono _ _ _)
   | (with_reducible exact impl_FrameOf.mono _ _ _ _)
   | (with_reducible exact impl_ReadFrames.mono _ _)
   | (with_reducible exact impl_SameEntries.mono _ _ _)
   | (with_reducible exact impl_SumOf.mono _ _)
   | (with_reducible exact impl_ValidEntry.mono _ _ _ _)
   | (with_reducible exact impl_WriteEntry.mono _ _ _ _ _ _)
   | (with_reducible exact spec_CountKinds.mono _ _ _ _)
   | (with_reducible exact spec_DrawCountKinds.mono _ _)
   | (with_reducible exact spec_DrawEntriesBetween.mono _ _)
   | (with_reducible exact spec_DrawEntriesOf.mono _ _)
   | (with_reducible exact spec_DrawReadFrames.mono _ _)
   | (with_reducible exact spec_DrawSameEntries.mono _ _)
   | (with_reducible exact spec_DrawSumOf.mono _ _)
   | (with_reducible exact spec_DrawWriteEntry.mono _ _)
   | (with_reducible exact spec_EntriesBetween.mono _ _ _ _ _)
   | (with_reducible exact spec_EntriesOf.mono _ _ _)
   | (with_reducible exact spec_FrameOf.mono _ _ _ _)
   | (with_reducible exact spec_ReadFrames.mono _ _)
   | (with_reducible exact spec_SameEntries.mono _ _ _)
   | (with_reducible exact spec_SumOf.mono _ _)
   | (with_reducible exact spec_ValidEntry.mono _ _ _ _)
   | (with_reducible exact spec_WriteEntry.mono _ _ _ _ _ _)
   | (with_reducible exact LeO.refl _)
   | (with_reducible exact LeO.none _)
   | (with_reducible refine LeO.ite ?_ ?_)
   | (with_reducible refine LeO.bind ?_ (fun _ => ?_))
   | exact ih0 _ _ _ _ _ _ _ _ _ _ _ _ _ _ _ _
   | exact ih1 _ _ _ _ _ _ _ _ _ _ _ _ _ _
   | exact ih2 _ _ _ _ _ _ _ _ _ _ _ _ _ _ _ _
   | exact ih3 _ _ _ _ _ _ _ _ _ _ _ _
   | exact ih4 _ _ _ _ _ _ _ _ _ _ _ _
   | exact impl_CountKinds.mono _ _ _ _
   | exact impl_EntriesBetween.mono _ _ _ _ _
   | exact impl_EntriesOf.mono _ _ _
   | exact impl_FrameOf.mono _ _ _ _
   | exact impl_ReadFrames.mono _ _
   | exact impl_SameEntries.mono _ _ _
   | exact impl_SumOf.mono _ _
   | exact impl_ValidEntry.mono _ _ _ _
   | exact impl_WriteEntry.mono _ _ _ _ _ _
   | exact spec_CountKinds.mono _ _ _ _
   | exact spec_DrawCountKinds.mono _ _
   | exact spec_DrawEntriesBetween.mono _ _
   | exact spec_DrawEntriesOf.mono _ _
   | exact spec_DrawReadFrames.mono _ _
   | exact spec_DrawSameEntries.mono _ _
   | exact spec_DrawSumOf.mono _ _
   | exact spec_DrawWriteEntry.mono _ _
   | exact spec_EntriesBetween.mono _ _ _ _ _
   | exact spec_EntriesOf.mono _ _ _
   | exact spec_FrameOf.mono _ _ _ _
   | exact spec_ReadFrames.mono _ _
   | exact spec_SameEntries.mono _ _ _
   | exact spec_SumOf.mono _ _
   | exact spec_ValidEntry.mono _ _ _ _
   | exact spec_WriteEntry.mono _ _ _ _ _ _
   | exact LeO.none _
   | refine LeO.ite ?_ ?_
   | refine LeO.bind ?_ (fun _ => ?_)
  ·intro y0 y1 y2 y3 y4 y5 y6 y7 y8 y9 y10 y11
   unfold laws_FnLogs.j3
   repeat' first
   | (with_reducible exact ih0 _ _ _ _ _ _ _ _ _ _ _ _ _ _ _ _)
   | (with_reducible exact ih1 _ _ _ _ _ _ _ _ _ _ _ _ _ _)
   | (with_reducible exact ih2 _ _ _ _ _ _ _ _ _ _ _ _ _ _ _ _)
   | (with_reducible exact ih3 _ _ _ _ _ _ _ _ _ _ _ _)
   | (with_reducible exact ih4 _ _ _ _ _ _ _ _ _ _ _ _)
   | (with_reducible exact impl_CountKinds.mono _ _ _ _)
   | (with_reducible exact impl_EntriesBetween.mono _ _ _ _ _)
   | (with_reducible exact impl_EntriesOf.mono _ _ _)
   | (with_reducible exact impl_FrameOf.mono _ _ _ _)
   | (with_reducible exact impl_ReadFrames.mono _ _)
   | (with_reducible exact impl_SameEntries.mono _ _ _)
   | (with_reducible exact impl_SumOf.mono _ _)
   | (with_reducible exact impl_ValidEntry.mono _ _ _ _)
   | (with_reducible exact impl_WriteEntry.mono _ _ _ _ _ _)
   | (with_reducible exact spec_CountKinds.mono _ _ _ _)
   | (with_reducible exact spec_DrawCountKinds.mono _ _)
   | (with_reducible exact spec_DrawEntriesBetween.mono _ _)
   | (with_reducible exact spec_DrawEntriesOf.mono _ _)
   | (with_reducible exact spec_DrawReadFrames.mono _ _)
   | (with_reducible exact spec_DrawSameEntries.mono _ _)
   | (with_reducible exact spec_DrawSumOf.mono _ _)
   | (with_reducible exact spec_DrawWriteEntry.mono _ _)
   | (with_reducible exact spec_EntriesBetween.mono _ _ _ _ _)
   | (with_reducible exact spec_EntriesOf.mono _ _ _)
   | (with_reducible exact spec_FrameOf.mono _ _ _ _)
   | (with_reducible exact spec_ReadFrames.mono _ _)
   | (with_reducible exact spec_SameEntries.mono _ _ _)
   | (with_reducible exact spec_SumOf.mono _ _)
   | (with_reducible exact spec_ValidEntry.mono _ _ _ _)
   | (with_reducible exact spec_WriteEntry.mono _ _ _ _ _ _)
   | (with_reducible exact LeO.refl _)
   | (with_reducible exact LeO.none _)
   | (with_reducible refine LeO.ite ?_ ?_)
   | (with_reducible refine LeO.bind ?_ (fun _ => ?_))
   | exact ih0 _ _ _ _ _ _ _ _ _ _ _ _ _ _ _ _
   | exact ih1 _ _ _ _ _ _ _ _ _ _ _ _ _ _
   | exact ih2 _ _ _ _ _ _ _ _ _ _ _ _ _ _ _ _
   | exact ih3 _ _ _ _ _ _ _ _ _ _ _ _
   | exact ih4 _ _ _ _ _ _ _ _ _ _ _ _
   | exact impl_CountKinds.mono _ _ _ _
   | exact impl_EntriesBetween.mono _ _ _ _ _
   | exact impl_EntriesOf.mono _ _ _
   | exact impl_FrameOf.mono _ _ _ _
   | exact impl_ReadFrames.mono _ _
   | exact impl_SameEntries.mono _ _ _
   | exact impl_SumOf.mono _ _
   | exact impl_ValidEntry.mono _ _ _ _
   | exact impl_WriteEntry.mono _ _ _ _ _ _
   | exact spec_CountKinds.mono _ _ _ _
   | exact spec_DrawCountKinds.mono _ _
   | exact spec_DrawEntriesBetween.mono _ _
   | exact spec_DrawEntriesOf.mono _ _
   | exact spec_DrawReadFrames.mono _ _
   | exact spec_DrawSameEntries.mono _ _
   | exact spec_DrawSumOf.mono _ _
   | exact spec_DrawWriteEntry.mono _ _
   | exact spec_EntriesBetween.mono _ _ _ _ _
   | exact spec_EntriesOf.mono _ _ _
   | exact spec_FrameOf.mono _ _ _ _
   | exact spec_ReadFrames.mono _ _
   | exact spec_SameEntries.mono _ _ _
   | exact spec_SumOf.mono _ _
   | exact spec_ValidEntry.mono _ _ _ _
   | exact spec_WriteEntry.mono _ _ _ _ _ _
   | exact LeO.none _
   | refine LeO.ite ?_ ?_
   | refine LeO.bind ?_ (fun _ => ?_)
  ·intro y0 y1 y2 y3 y4 y5 y6 y7 y8 y9 y10 y11
   unfold laws_FnLogs.l1
   repeat' first
   | (with_reducible exact ih0 _ _ _ _ _ _ _ _ _ _ _ _ _ _ _ _)
   | (with_reducible exact ih1 _ _ _ _ _ _ _ _ _ _ _ _ _ _)
   | (with_reducible exact ih2 _ _ _ _ _ _ _ _ _ _ _ _ _ _ _ _)
   | (with_reducible exact ih3 _ _ _ _ _ _ _ _ _ _ _ _)
   | (with_reducible exact ih4 _ _ _ _ _ _ _ _ _ _ _ _)
   | (with_reducible exact impl_CountKinds.mono _ _ _ _)
   | (with_reducible exact impl_EntriesBetween.mono _ _ _ _ _)
   | (with_reducible exact impl_EntriesOf.mono _ _ _)
   | (with_reducible exact impl_FrameOf.mono _ _ _ _)
   | (with_reducible exact impl_ReadFrames.mono _ _)
   | (with_reducible exact impl_SameEntries.mono _ _ _)
   | (with_reducible exact impl_SumOf.mono _ _)
   | (with_reducible exact impl_ValidEntry.mono _ _ _ _)
   | (with_reducible exact impl_WriteEntry.mono _ _ _ _ _ _)
   | (with_reducible exact spec_CountKinds.mono _ _ _ _)
   | (with_reducible exact spec_DrawCountKinds.mono _ _)
   | (with_reducible exact spec_DrawEntriesBetween.mono _ _)
   | (with_reducible exact spec_DrawEntriesOf.mono _ _)
   | (with_reducible exact spec_DrawReadFrames.mono _ _)
   | (with_reducible exact spec_DrawSameEntries.mono _ _)
   | (with_reducible exact spec_DrawSumOf.mono _ _)
   | (with_reducible exact spec_DrawWriteEntry.mono _ _)
   | (with_reducible exact spec_EntriesBetween.mono _ _ _ _ _)
   | (with_reducible exact spec_EntriesOf.mono _ _ _)
   | (with_reducible exact spec_FrameOf.mono _ _ _ _)
   | (with_reducible exact spec_ReadFrames.mono _ _)
   | (with_reducible exact spec_SameEntries.mono _ _ _)
   | (with_reducible exact spec_SumOf.mono _ _)
   | (with_reducible exact spec_ValidEntry.mono _ _ _ _)
   | (with_reducible exact spec_WriteEntry.mono _ _ _ _ _ _)
   | (with_reducible exact LeO.refl _)
   | (with_reducible exact LeO.none _)
   | (with_reducible refine LeO.ite ?_ ?_)
   | (with_reducible refine LeO.bind ?_ (fun _ => ?_))
   | exact ih0 _ _ _ _ _ _ _ _ _ _ _ _ _ _ _ _
   | exact ih1 _ _ _ _ _ _ _ _ _ _ _ _ _ _
   | exact ih2 _ _ _ _ _ _ _ _ _ _ _ _ _ _ _ _
   | exact ih3 _ _ _ _ _ _ _ _ _ _ _ _
   | exact ih4 _ _ _ _ _ _ _ _ _ _ _ _
   | exact impl_CountKinds.mono _ _ _ _
   | exact impl_EntriesBetween.mono _ _ _ _ _
   | exact impl_EntriesOf.mono _ _ _
   | exact impl_FrameOf.mono _ _ _ _
   | exact impl_ReadFrames.mono _ _
   | exact impl_SameEntries.mono _ _ _
   | exact impl_SumOf.mono _ _
   | exact impl_ValidEntry.mono _ _ _ _
   | exact impl_WriteEntry.mono _ _ _ _ _ _
   | exact spec_CountKinds.mono _ _ _ _
   | exact spec_DrawCountKinds.mono _ _
   | exact spec_DrawEntriesBetween.mono _ _
   | exact spec_DrawEntriesOf.mono _ _
   | exact spec_DrawReadFrames.mono _ _
   | exact spec_DrawSameEntries.mono _ _
   | exact spec_DrawSumOf.mono _ _
   | exact spec_DrawWriteEntry.mono _ _
   | exact spec_EntriesBetween.mono _ _ _ _ _
   | exact spec_EntriesOf.mono _ _ _
   | exact spec_FrameOf.mono _ _ _ _
   | exact spec_ReadFrames.mono _ _
   | exact spec_SameEntries.mono _ _ _
   | exact spec_SumOf.mono _ _
   | exact spec_ValidEntry.mono _ _ _ _
   | exact spec_WriteEntry.mono _ _ _ _ _ _
   | exact LeO.none _
   | refine LeO.ite ?_ ?_
   | refine LeO.bind ?_ (fun _ => ?_)
theorem laws_FnLogs.mono : ∀ a0 k, LeO (laws_FnLogs.f k a0) (laws_FnLogs.f (k + 1) a0) := by
 intro a0 k
 obtain ⟨ih0, ih1, ih2, ih3, ih4⟩ := laws_FnLogs.mono_l k
 unfold laws_FnLogs.f
 repeat' first
   | (with_reducible exact ih0 _ _ _ _ _ _ _ _ _ _ _ _ _ _ _ _)
   | (with_reducible exact ih1 _ _ _ _ _ _ _ _ _ _ _ _ _ _)
   | (with_reducible exact ih2 _ _ _ _ _ _ _ _ _ _ _ _ _ _ _ _)
   | (with_reducible exact ih3 _ _ _ _ _ _ _ _ _ _ _ _)
   | (with_reducible exact ih4 _ _ _ _ _ _ _ _ _ _ _ _)
   | (with_reducible exact impl_CountKinds.mono _ _ _ _)
   | (with_reducible exact impl_EntriesBetween.mono _ _ _ _ _)
   | (with_reducible exact impl_EntriesOf.mono _ _ _)
   | (with_reducible exact impl_FrameOf.mono _ _ _ _)
   | (with_reducible exact impl_ReadFrames.mono _ _)
   | (with_reducible exact impl_SameEntries.mono _ _ _)
   | (with_reducible exact impl_SumOf.mono _ _)
   | (with_reducible exact impl_ValidEntry.mono _ _ _ _)
   | (with_reducible exact impl_WriteEntry.mono _ _ _ _ _ _)
   | (with_reducible exact spec_CountKinds.mono _ _ _ _)
   | (with_reducible exact spec_DrawCountKinds.mono _ _)
   | (with_reducible exact spec_DrawEntriesBetween.mono _ _)
   | (with_reducible exact spec_DrawEntriesOf.mono _ _)
   | (with_reducible exact spec_DrawReadFrames.mono _ _)
   | (with_reducible exact spec_DrawSameEntries.mono _ _)
   | (with_reducible exact spec_DrawSumOf.mono _ _)
   | (with_reducible exact spec_DrawWriteEntry.mono _ _)
   | (with_reducible exact spec_EntriesBetween.mono _ _ _ _ _)
   | (with_reducible exact spec_EntriesOf.mono _ _ _)
   | (with_reducible exact spec_FrameOf.mono _ _ _ _)
   | (with_reducible exact spec_ReadFrames.mono _ _)
   | (with_reducible exact spec_SameEntries.mono _ _ _)
   | (with_reducible exact spec_SumOf.mono _ _)
   | (with_reducible exact spec_ValidEntry.mono _ _ _ _)
   | (with_reducible exact spec_WriteEntry.mono _ _ _ _ _ _)
   | (with_reducible exact LeO.refl _)
   | (with_reducible exact LeO.none _)
   | (with_reducible refine LeO.ite ?_ ?_)
   | (with_reducible refine LeO.bind ?_ (fun _ => ?_))
   | exact ih0 _ _ _ _ _ _ _ _ _ _ _ _ _ _ _ _
   | exact ih1 _ _ _ _ _ _ _ _ _ _ _ _ _ _
   | exact ih2 _ _ _ _ _ _ _ _ _ _ _ _ _ _ _ _
   | exact ih3 _ _ _ _ _ _ _ _ _ _ _ _
   | exact ih4 _ _ _ _ _ _ _ _ _ _ _ _
   | exact impl_CountKinds.mono _ _ _ _
   | exact impl_EntriesBetween.mono _ _ _ _ _
   | exact impl_EntriesOf.mono _ _ _
   | exact impl_FrameOf.mono _ _ _ _
   | exact impl_ReadFrames.mono _ _
   | exact impl_SameEntries.mono _ _ _
   | exact impl_SumOf.mono _ _
   | exact impl_ValidEntry.mono _ _ _ _
   | exact impl_WriteEntry.mono _ _ _ _ _ _
   | exact spec_CountKinds.mono _ _ _ _
   | exact spec_DrawCountKinds.mono _ _
   | exact spec_DrawEntriesBetween.mono _ _
   | exact spec_DrawEntriesOf.mono _ _
   | exact spec_DrawReadFrames.mono _ _
   | exact spec_DrawSameEntries.mono _ _
   | exact spec_DrawSumOf.mono _ _
   | exact spec_DrawWriteEntry.mono _ _
   | exact spec_EntriesBetween.mono _ _ _ _ _
   | exact spec_EntriesOf.mono _ _ _
   | exact spec_FrameOf.mono _ _ _ _
   | exact spec_ReadFrames.mono _ _
   | exact spec_SameEntries.mono _ _ _
   | exact spec_SumOf.mono _ _
   | exact spec_ValidEntry.mono _ _ _ _
   | exact spec_WriteEntry.mono _ _ _ _ _ _
   | exact LeO.none _
   | refine LeO.ite ?_ ?_
   | refine LeO.bind ?_ (fun _ => ?_)
def laws_FnLogs.T21 : Bool × List (List Nat × List Nat) := (true, [([], []), ([], []), ([0, 1], [0, 1]), ([2], [2]), ([3], [3]), ([3], [3]), ([4, 5, 3], [3, 4, 5]), ([3, 6], [3, 6]), ([7, 3], [7]), ([8], [8]), ([8], [8]), ([10, 8, 8], [8, 10]), ([9, 11, 8], [8, 9, 11]), ([8, 12], [8, 12]), ([13, 11], [13]), ([14], [14]), ([14], [14]), ([15, 16, 14], [14, 15, 16]), ([14, 17], [14, 17]), ([18, 14], [18]), ([19], [19]), ([19], [19]), ([20, 21, 19, 19], [19, 20, 21]), ([22, 19], [19, 22]), ([19, 23], [19, 23]), ([24, 22], [24]), ([25], [25]), ([25], [25]), ([26, 27, 25], [25, 26, 27]), ([25, 28], [25, 28]), ([29, 25], [29]), ([30], [30]), ([30], [30]), ([31, 32, 30, 30], [30, 31, 32]), ([33, 30], [30, 33]), ([30, 34], [30, 34]), ([35, 33], [35]), ([36], [36]), ([36], [36]), ([37, 38, 36], [36, 37, 38]), ([36, 39], [36, 39]), ([40, 36], [40]), ([41], [41]), ([41], [41]), ([42, 43, 41, 41], [41, 42, 43]), ([44, 41], [41, 44]), ([41, 45], [41, 45]), ([46, 44], [46]), ([47], [47]), ([47], [47]), ([48, 49, 47], [47, 48, 49]), ([47, 50], [47, 50]), ([51, 47], [51]), ([52], [52]), ([52], [52]), ([53, 54, 52], [52, 53, 54]), ([52, 55], [52, 55]), ([56, 52], [56]), ([57], [57]), ([57], [57]), ([58, 59, 57, 57], [57, 58, 59]), ([57], [57]), ([57], [57]), ([61, 62, 60, 57], [57, 61, 62]), ([60, 63, 57], [57, 60, 63]), ([57, 64], [57, 64]), ([65, 63], [65]), ([66], [66]), ([67, 66, 66], [66, 67]), ([66], [66]), ([69, 68, 66], [66, 69]), ([68, 70, 66], [66, 68, 70]), ([66, 71], [66, 71]), ([72, 70], [72]), ([73], [73]), ([74, 73, 73], [73, 74]), ([73], [73]), ([76, 75, 73], [73, 76]), ([75, 77, 73], [73, 75, 77]), ([73, 78], [73, 78])])
def laws_FnLogs.B21 : List Nat := [0, 0, 3, 7, 15, 15, 63, 127, 255, 511, 511, 1535, 4095, 8191, 16383, 32767, 32767, 131071, 262143, 524287, 1048575, 1048575, 4194303, 8388607, 16777215, 33554431, 67108863, 67108863, 268435455, 536870911, 1073741823, 2147483647, 2147483647, 8589934591, 17179869183, 34359738367, 68719476735, 137438953471, 137438953471, 549755813887, 1099511627775, 2199023255551, 4398046511103, 4398046511103, 17592186044415, 35184372088831, 70368744177663, 140737488355327, 281474976710655, 281474976710655, 1125899906842623, 2251799813685247, 4503599627370495, 9007199254740991, 9007199254740991, 36028797018963967, 72057594037927935, 144115188075855871, 288230376151711743, 288230376151711743, 1152921504606846975, 288230376151711743, 288230376151711743, 9223372036854775807, 18446744073709551615, 36893488147419103231, 73786976294838206463, 147573952589676412927, 295147905179352825855, 147573952589676412927, 1180591620717411303423, 2361183241434822606847, 4722366482869645213695, 9444732965739290427391, 18889465931478580854783, 37778931862957161709567, 18889465931478580854783, 151115727451828646838271, 302231454903657293676543, 604462909807314587353087]
theorem laws_FnLogs.tab21 : rtab .any (opsOf Tryd.f13 21) = laws_FnLogs.T21 := by kernel_rfl
theorem laws_FnLogs.bits21 : waitsOk laws_FnLogs.T21.2 laws_FnLogs.B21 = true := by kernel_rfl
def laws_FnLogs.T25 : Bool × List (List Nat × List Nat) := (true, [([], []), ([], []), ([1], [1]), ([0, 2], [0, 2]), ([3], [3]), ([4], [4]), ([5, 4], [4, 5]), ([6, 4], [4, 6]), ([4, 7], [4, 7]), ([8, 4], [8]), ([9], [9]), ([10, 9], [9, 10]), ([11, 9], [9, 11]), ([9], [9]), ([12, 13, 9], [9, 12, 13]), ([9, 14], [9, 14])])
def laws_FnLogs.B25 : List Nat := [0, 0, 2, 7, 15, 31, 63, 127, 255, 511, 1023, 2047, 4095, 1023, 16383, 32767]
theorem laws_FnLogs.tab25 : rtab .any (opsOf Tryd.f13 25) = laws_FnLogs.T25 := by kernel_rfl
theorem laws_FnLogs.bits25 : waitsOk laws_FnLogs.T25.2 laws_FnLogs.B25 = true := by kernel_rfl
def laws_FnLogs.T45 : Bool × List (List Nat × List Nat) := (true, [([], []), ([0], [0]), ([1], [1]), ([2], [2]), ([3, 2], [2, 3]), ([2], [2]), ([5, 2], [2, 5]), ([6, 2], [2, 6]), ([4, 7, 2], [2, 4, 7]), ([2, 8], [2, 8]), ([9, 2], [9]), ([10], [10]), ([10], [10]), ([12, 10], [10, 12]), ([13, 10], [10, 13]), ([11, 14, 10], [10, 11, 14]), ([15, 10], [10, 15]), ([10], [10]), ([16, 17, 10], [10, 16, 17]), ([10, 18], [10, 18]), ([19, 10, 0, 1, 2, 3, 4, 5, 6, 7, 8, 9, 10, 11, 12, 13, 14, 15, 16, 17, 18, 19], [19])])
def laws_FnLogs.B45 : List Nat := [0, 1, 3, 7, 15, 7, 39, 103, 255, 511, 1023, 2047, 2047, 6143, 14335, 32767, 65535, 2047, 262143, 524287, 1048575]
theorem laws_FnLogs.tab45 : rtab .any (opsOf Tryd.f13 45) = laws_FnLogs.T45 := by kernel_rfl
theorem laws_FnLogs.bits45 : waitsOk laws_FnLogs.T45.2 laws_FnLogs.B45 = true := by kernel_rfl
set_option maxHeartbeats 8000000 in
set_option maxRecDepth 100000 in
theorem laws_FnLogs.calls (k : Nat) (A0 : Option Addr) (c0 : Nat) (l0 : List Int) (r : Bool) (w : World) (hr0 : Kd.C (Kd.int .u8) w A0 l0.length l0) (hc0 : l0.length ≤ c0) (h : laws_FnLogs.f k l0 = some r) (hT : Go.Proofs.YtlcgonaapmmnkaaDoor.Base.Tb2 w) :
  Calls Tryd.prog 13 #[.slice A0 l0.length c0] w fun e w' => e = .returned (.bool r) ∧ Below w.heap.size w w' := by
 have HTB := Aside0.mk hT
 clear hT
 have hu32 := Tryd.underlying32
 have hu26 := Tryd.underlying26
 have HR0 := Aside0.mk hr0
 have HC0 := Aside0.mk hc0
 clear hr0 hc0
 have HB := Aside0.mk (Below.refl w.heap.size w)
 have H : ((laws_f6big.f l0).bind fun t561 => (if t561 = true then (some true) else ((spec_DrawWriteEntry.f k l0).bind fun bt562 => ((impl_WriteEntry.f k bt562.1 bt562.2.1 bt562.2.2.1 bt562.2.2.2.1 bt562.2.2.2.2).bind fun bt569 => ((spec_WriteEntry.f k bt562.1 bt562.2.1 bt562.2.2.1 bt562.2.2.2.1 bt562.2.2.2.2).bind fun bt573 => ((impl_FrameOf.f k bt562.2.2.1 bt562.2.2.2.1 bt562.2.2.2.2).bind fun t577 => ((spec_DrawReadFrames.f k l0).bind fun t578 => ((impl_ReadFrames.f k t578).bind fun bt579 => ((spec_ReadFrames.f k t578).bind fun bt583 => ((spec_DrawEntriesOf.f k l0).bind fun bt587 => ((impl_EntriesOf.f k bt587.1 bt587.2).bind fun bt590 => ((spec_EntriesOf.f k bt587.1 bt587.2).bind fun bt594 => ((spec_DrawEntriesBetween.f k l0).bind fun bt598 => ((impl_EntriesBetween.f k bt598.1 bt598.2.1 bt598.2.2.1 bt598.2.2.2).bind fun bt603 => ((spec_EntriesBetween.f k bt598.1 bt598.2.1 bt598.2.2.1 bt598.2.2.2).bind fun bt607 => ((spec_DrawCountKinds.f k l0).bind fun bt611 => ((impl_CountKinds.f k bt611.1 bt611.2.1 bt611.2.2).bind fun bt615 => ((spec_CountKinds.f k bt611.1 bt611.2.1 bt611.2.2).bind fun bt617 => ((spec_DrawSameEntries.f k l0).bind fun bt619 => ((spec_DrawSumOf.f k l0).bind fun t625 => (if bt569.2.2 = bt573.2.2 then (if (!(bt569.1.toList == bt573.1.toList) || (!(bt569.2.1.toList == bt573.2.1.toList))) = true then (none) else ((spec_FrameOf.f k bt562.2.2.1 bt562.2.2.2.1 bt562.2.2.2.2).bind fun t626 => (if t577.toList = t626.toList then (if bt579.2 = bt583.2 then ((spec_SameEntries.f k bt579.1 bt583.1).bind fun t627 => (if t627 = true then (if bt590.2 = bt594.2 then ((spec_SameEntries.f k bt590.1 bt594.1).bind fun t628 => (if t628 = true then (if bt603.2 = bt607.2 then ((spec_SameEntries.f k bt603.1 bt607.1).bind fun t629 => (if t629 = true then (if bt615.2 = bt617.2 then (if bt615.1 = bt617.1 then ((impl_SameEntries.f k bt619.1 bt619.2).bind fun t630 => ((spec_SameEntries.f k bt619.1 bt619.2).bind fun t631 => (if (t630 != t631) = true then (none) else ((impl_SumOf.f k t625).bind fun t632 => ((spec_SumOf.f k t625).bind fun t633 => (if t632 = t633 then ((impl_ValidEntry.f k bt562.2.2.1 bt562.2.2.2.1 bt562.2.2.2.2).bind fun t634 => ((spec_ValidEntry.f k bt562.2.2.1 bt562.2.2.2.1 bt562.2.2.2.2).bind fun t635 => (laws_FnLogs.j0 k bt569.2.2 t577 t578 bt583.1 bt583.2 bt598.2.2.1 bt598.2.2.2 bt607.1 (t634 != t635) bt562.1 bt562.2.1 bt562.2.2.1 bt562.2.2.2.1 bt562.2.2.2.2 bt569.1 bt569.2.1))) else (none))))))) else (none)) else (none)) else (none))) else (none)) else (none))) else (none)) else (none))) else (none)) else (none)))) else (none)))))))))))))))))))))) = some r := h
 clear h
 replace H := Option.bind_eq_some_iff.mp H
 obtain ⟨t561, A20, H⟩ := H
 (try dsimp only at H)
 have A2 := Aside0.mk A20
 clear A20
 by_cases c3 : t561 = true
 ·subst c3
  rw [if_pos rfl] at H
  obtain rfl := Option.some.inj H
  go_enter Tryd.func13, Tryd.ntmps13
  go_wp2_with (first | ((with_reducible refine gate_callee (f := 40) rfl ?_); refine gl_ (some 46) Tryd.func40 #[.slice A0 l0.length c0] ?_; (with_reducible refine (laws_f6big.calls _ _ l0 true _ ?side1 ?side2 A2.out).mono ?_); (case side1 => repeat (first | exact HR0.out | (with_reducible refine Kd.C_alloc ?_ _) | (with_reducible refine Kd.C_drewN ?_ _) | (with_reducible refine Kd.C_drew ?_))); (case side2 => exact HC0.out); rintro e w' ⟨rfl, ⟨nd, rfl⟩⟩; refine ⟨_, rfl, ?_⟩))
  go_ret
  exact ⟨rr_, bwl_⟩
 ·replace c3 := Bool.eq_false_iff.mpr c3
  subst c3
  rw [if_neg (show ¬ (false = true) by decide)] at H
  replace H := Option.bind_eq_some_iff.mp H
  obtain ⟨⟨t562, t563, t564, t565, t566⟩, A40, H⟩ := H
  (try dsimp only at H)
  have A4 := Aside0.mk A40
  clear A40
  replace H := Option.bind_eq_some_iff.mp H
  obtain ⟨⟨t569, t570, t571⟩, A50, H⟩ := H
  (try dsimp only at H)
  have A5 := Aside0.mk A50
  clear A50
  replace H := Option.bind_eq_some_iff.mp H
  obtain ⟨⟨t573, t574, t575⟩, A60, H⟩ := H
  (try dsimp only at H)
  have A6 := Aside0.mk A60
  clear A60
  replace H := Option.bind_eq_some_iff.mp H
  obtain ⟨t577, A70, H⟩ := H
  (try dsimp only at H)
  have A7 := Aside0.mk A70
  clear A70
  replace H := Option.bind_eq_some_iff.mp H
  obtain ⟨t578, A80, H⟩ := H
  (try dsimp only at H)
  have A8 := Aside0.mk A80
  clear A80
  replace H := Option.bind_eq_some_iff.mp H
  obtain ⟨⟨t579, t580⟩, A90, H⟩ := H
  (try dsimp only at H)
  have A9 := Aside0.mk A90
  clear A90
  replace H := Option.bind_eq_some_iff.mp H
  obtain ⟨⟨t583, t584⟩, A100, H⟩ := H
  (try dsimp only at H)
  have A10 := Aside0.mk A100
  clear A100
  replace H := Option.bind_eq_some_iff.mp H
  obtain ⟨⟨t587, t588⟩, A110, H⟩ := H
  (try dsimp only at H)
  have A11 := Aside0.mk A110
  clear A110
  replace H := Option.bind_eq_some_iff.mp H
  obtain ⟨⟨t590, t593⟩, A120, H⟩ := H
  (try dsimp only at H)
  have A12 := Aside0.mk A120
  clear A120
  replace H := Option.bind_eq_some_iff.mp H
  obtain ⟨⟨t594, t597⟩, A130, H⟩ := H
  (try dsimp only at H)
  have A13 := Aside0.mk A130
  clear A130
  replace H := Option.bind_eq_some_iff.mp H
  obtain ⟨⟨t598, t599, t600, t601⟩, A140, H⟩ := H
  (try dsimp only at H)
  have A14 := Aside0.mk A140
  clear A140
  replace H := Option.bind_eq_some_iff.mp H
  obtain ⟨⟨t603, t606⟩, A150, H⟩ := H
  (try dsimp only at H)
  have A15 := Aside0.mk A150
  clear A150
  replace H := Option.bind_eq_some_iff.mp H
  obtain ⟨⟨t607, t610⟩, A160, H⟩ := H
  (try dsimp only at H)
  have A16 := Aside0.mk A160
  clear A160
  replace H := Option.bind_eq_some_iff.mp H
  obtain ⟨⟨t611, t612, t613⟩, A170, H⟩ := H
  (try dsimp only at H)
  have A17 := Aside0.mk A170
  clear A170
  replace H := Option.bind_eq_some_iff.mp H
  obtain ⟨⟨t615, t616⟩, A180, H⟩ := H
  (try dsimp only at H)
  have A18 := Aside0.mk A180
  clear A180
  replace H := Option.bind_eq_some_iff.mp H
  obtain ⟨⟨t617, t618⟩, A190, H⟩ := H
  (try dsimp only at H)
  have A19 := Aside0.mk A190
  clear A190
  replace H := Option.bind_eq_some_iff.mp H
  obtain ⟨⟨t619, t620⟩, A200, H⟩ := H
  (try dsimp only at H)
  have A20 := Aside0.mk A200
  clear A200
  replace H := Option.bind_eq_some_iff.mp H
  obtain ⟨t625, A210, H⟩ := H
  (try dsimp only at H)
  have A21 := Aside0.mk A210
  clear A210
  have HC22 := Aside0.mk H
  clear H
  go_enter Tryd.func13, Tryd.ntmps13
  go_upto_region 21 with (first | ((with_reducible refine gate_callee (f := 40) rfl ?_); refine gl_ (some 46) Tryd.func40 #[.slice A0 l0.length c0] ?_; (with_reducible refine (laws_f6big.calls _ _ l0 false _ ?side1 ?side2 A2.out).mono ?_); (case side1 => repeat (first | exact HR0.out | (with_reducible refine Kd.C_alloc ?_ _) | (with_reducible refine Kd.C_drewN ?_ _) | (with_reducible refine Kd.C_drew ?_))); (case side2 => exact HC0.out); rintro e w' ⟨rfl, ⟨nd, rfl⟩⟩; refine ⟨_, rfl, ?_⟩) | ((with_reducible refine gate_callee (f := 45) rfl ?_); refine gl_ (some 49) Tryd.func45 #[.slice A0 l0.length c0] ?_; (with_reducible refine (spec_DrawWriteEntry.calls k _ _ l0 t562 t563 t564 t565 t566 _ ?side1 ?side2 A4.out).mono ?_); (case side1 => repeat (first | exact HR0.out | (with_reducible refine Kd.C_alloc ?_ _) | (with_reducible refine Kd.C_drewN ?_ _) | (with_reducible refine Kd.C_drew ?_))); (case side2 => exact HC0.out); rintro e w23 ⟨rfl, hb⟩; refine ⟨_, rfl, ?_⟩; replace HB := bst_ hb; clear hb) | ((with_reducible refine gate_dst (N := 3) rfl ?_); (try (refine gate_guard (by rfl) ?_; dsimp only)); refine be_ 3 #[.string (⟨#[]⟩ : ByteArray), .string (⟨#[]⟩ : ByteArray)] 32 ?_; intro gb567 hg w24 hbox hb; have BK567 := Aside0.mk (hbox); have GW567 := bsz_ hg; have GE567 := bsz_ hg; replace HB := bst_ hb; clear hb hbox hg) | ((with_reducible refine gate_dst (N := 4) rfl ?_); (try (refine gate_guard (by rfl) ?_; dsimp only)); refine be_ 4 #[.int .i64 0, .string (⟨#[]⟩ : ByteArray), .string (⟨#[]⟩ : ByteArray)] 26 ?_; intro gb568 hg w25 hbox hb; have BK568 := Aside0.mk (hbox); have GW568 := bsz_ hg; have GE568 := bsz_ hg; replace HB := bst_ hb; have NB567_568 := nbl_ BK567 hg; have NB568_567 := nbr_ BK567 hg; replace BK567 := bkb_ BK567 hb; clear hb hbox hg; have hnb26 := NB567_568.out; have hnc26 := NB568_567.out; have hcz27_0 := b20_ BK567; have hcz27_1 := b21_ BK567; have hfz27_0 := blk_frozen BK567.out 0; have hfz27_1 := blk_frozen BK567.out 1; have hcz28_0 := b30_ BK568; have hcz28_1 := b31_ BK568; have hcz28_2 := b32_ BK568; have hfz28_0 := blk_frozen BK568.out 0; have hfz28_1 := blk_frozen BK568.out 1; have hfz28_2 := blk_frozen BK568.out 2) | ((with_reducible refine gate_callee (f := 33) rfl ?_); refine gl_ (some 55) Tryd.func33 #[.agg #[.string t562, .string t563], .agg #[.int .i64 t564, .string t565, .string t566]] ?_; (with_reducible refine (impl_WriteEntry.calls k t562 t563 t564 t565 t566 t569 t570 t571 _ A5.out ?side1).mono ?_); (case side1 => exact HTB.out.below bwl_); rintro e w29 ⟨rfl, hb⟩; refine ⟨_, rfl, ?_⟩; replace BK567 := Aside0.mk (blk_below (g := gb567) (o := .cells #[.string t562, .string t563] 32 (0, 0)) (by (with_reducible repeat (first | refine blk_drewN ?_ _ | refine blk_drew ?_ | refine blk_alloc ?_ _)); refine blk_far ?_ NB567_568.out _; (with_reducible repeat (first | refine blk_drewN ?_ _ | refine blk_drew ?_ | refine blk_alloc ?_ _)); refine blk_far ?_ NB567_568.out _; (with_reducible repeat (first | refine blk_drewN ?_ _ | refine blk_drew ?_ | refine blk_alloc ?_ _)); refine blk_far ?_ NB567_568.out _; (with_reducible repeat (first | refine blk_drewN ?_ _ | refine blk_drew ?_ | refine blk_alloc ?_ _)); refine blk_put (cs := #[.string t562, .string (⟨#[]⟩ : ByteArray)]) ?_ 1 _ rfl; (with_reducible repeat (first | refine blk_drewN ?_ _ | refine blk_drew ?_ | refine blk_alloc ?_ _)); refine blk_put (cs := #[.string (⟨#[]⟩ : ByteArray), .string (⟨#[]⟩ : ByteArray)]) ?_ 0 _ rfl; (with_reducible repeat (first | refine blk_drewN ?_ _ | refine blk_drew ?_ | refine blk_alloc ?_ _)); exact BK567.out) hb); replace BK568 := Aside0.mk (blk_below (g := gb568) (o := .cells #[.int .i64 t564, .string t565, .string t566] 26 (0, 0)) (by (with_reducible repeat (first | refine blk_drewN ?_ _ | refine blk_drew ?_ | refine blk_alloc ?_ _)); refine blk_put (cs := #[.int .i64 t564, .string t565, .string (⟨#[]⟩ : ByteArray)]) ?_ 2 _ rfl; (with_reducible repeat (first | refine blk_drewN ?_ _ | refine blk_drew ?_ | refine blk_alloc ?_ _)); refine blk_put (cs := #[.int .i64 t564, .string (⟨#[]⟩ : ByteArray), .string (⟨#[]⟩ : ByteArray)]) ?_ 1 _ rfl; (with_reducible repeat (first | refine blk_drewN ?_ _ | refine blk_drew ?_ | refine blk_alloc ?_ _)); refine blk_put (cs := #[.int .i64 0, .string (⟨#[]⟩ : ByteArray), .string (⟨#[]⟩ : ByteArray)]) ?_ 0 _ rfl; (with_reducible repeat (first | refine blk_drewN ?_ _ | refine blk_drew ?_ | refine blk_alloc ?_ _)); refine blk_far ?_ NB568_567.out _; (with_reducible repeat (first | refine blk_drewN ?_ _ | refine blk_drew ?_ | refine blk_alloc ?_ _)); refine blk_far ?_ NB568_567.out _; (with_reducible repeat (first | refine blk_drewN ?_ _ | refine blk_drew ?_ | refine blk_alloc ?_ _)); exact BK568.out) hb); replace HB := bst_ hb; clear hb) | ((with_reducible refine gate_dst (N := 5) rfl ?_); (try (refine gate_guard (by rfl) ?_; dsimp only)); refine be_ 5 #[.string (⟨#[]⟩ : ByteArray), .string (⟨#[]⟩ : ByteArray)] 32 ?_; intro gb572 hg w30 hbox hb; have BK572 := Aside0.mk (hbox); have GW572 := bsz_ hg; have GE572 := bsz_ hg; replace HB := bst_ hb; have NB567_572 := nbl_ BK567 hg; have NB572_567 := nbr_ BK567 hg; replace BK567 := bkb_ BK567 hb; have NB568_572 := nbl_ BK568 hg; have NB572_568 := nbr_ BK568 hg; replace BK568 := bkb_ BK568 hb; clear hb hbox hg; have hnb31 := NB572_567.out; have hnc31 := NB567_572.out; have hnb32 := NB572_568.out; have hnc32 := NB568_572.out; have hcz33_0 := b20_ BK572; have hcz33_1 := b21_ BK572; have hfz33_0 := blk_frozen BK572.out 0; have hfz33_1 := blk_frozen BK572.out 1; have hcz34_0 := b20_ BK567; have hcz34_1 := b21_ BK567; have hfz34_0 := blk_frozen BK567.out 0; have hfz34_1 := blk_frozen BK567.out 1; have hcz35_0 := b30_ BK568; have hcz35_1 := b31_ BK568; have hcz35_2 := b32_ BK568; have hfz35_0 := blk_frozen BK568.out 0; have hfz35_1 := blk_frozen BK568.out 1; have hfz35_2 := blk_frozen BK568.out 2) | ((with_reducible refine gate_callee (f := 32) rfl ?_); refine gl_ (some 61) Tryd.func32 #[.agg #[.string t562, .string t563], .agg #[.int .i64 t564, .string t565, .string t566]] ?_; (with_reducible refine (spec_WriteEntry.calls k t562 t563 t564 t565 t566 t573 t574 t575 _ A6.out).mono ?_); rintro e w36 ⟨rfl, hb⟩; refine ⟨_, rfl, ?_⟩; replace BK567 := bkb_ BK567 hb; replace BK568 := bkb_ BK568 hb; replace BK572 := Aside0.mk (blk_below (g := gb572) (o := .cells #[.string t569, .string t570] 32 (0, 0)) (by (with_reducible repeat (first | refine blk_drewN ?_ _ | refine blk_drew ?_ | refine blk_alloc ?_ _)); refine blk_put (cs := #[.string t569, .string (⟨#[]⟩ : ByteArray)]) ?_ 1 _ rfl; (with_reducible repeat (first | refine blk_drewN ?_ _ | refine blk_drew ?_ | refine blk_alloc ?_ _)); refine blk_put (cs := #[.string (⟨#[]⟩ : ByteArray), .string (⟨#[]⟩ : ByteArray)]) ?_ 0 _ rfl; (with_reducible repeat (first | refine blk_drewN ?_ _ | refine blk_drew ?_ | refine blk_alloc ?_ _)); exact BK572.out) hb); replace HB := bst_ hb; clear hb) | ((with_reducible refine gate_dst (N := 7) rfl ?_); (try (refine gate_guard (by rfl) ?_; dsimp only)); refine be_ 7 #[.string (⟨#[]⟩ : ByteArray), .string (⟨#[]⟩ : ByteArray)] 32 ?_; intro gb576 hg w37 hbox hb; have BK576 := Aside0.mk (hbox); have GW576 := bsz_ hg; have GE576 := bsz_ hg; replace HB := bst_ hb; have NB567_576 := nbl_ BK567 hg; have NB576_567 := nbr_ BK567 hg; replace BK567 := bkb_ BK567 hb; have NB568_576 := nbl_ BK568 hg; have NB576_568 := nbr_ BK568 hg; replace BK568 := bkb_ BK568 hb; have NB572_576 := nbl_ BK572 hg; have NB576_572 := nbr_ BK572 hg; replace BK572 := bkb_ BK572 hb; clear hb hbox hg; have hnb38 := NB576_567.out; have hnc38 := NB567_576.out; have hnb39 := NB576_568.out; have hnc39 := NB568_576.out; have hnb40 := NB576_572.out; have hnc40 := NB572_576.out; have hcz41_0 := b20_ BK576; have hcz41_1 := b21_ BK576; have hfz41_0 := blk_frozen BK576.out 0; have hfz41_1 := blk_frozen BK576.out 1; have hcz42_0 := b30_ BK568; have hcz42_1 := b31_ BK568; have hcz42_2 := b32_ BK568; have hfz42_0 := blk_frozen BK568.out 0; have hfz42_1 := blk_frozen BK568.out 1; have hfz42_2 := blk_frozen BK568.out 2) | ((with_reducible refine gate_callee (f := 17) rfl ?_); refine gl_ (some 65) Tryd.func17 #[.agg #[.int .i64 t564, .string t565, .string t566]] ?_; (with_reducible refine (impl_FrameOf.calls k t564 t565 t566 t577 _ A7.out ?side1).mono ?_); (case side1 => exact HTB.out.below bwl_); rintro e w43 ⟨rfl, hb⟩; refine ⟨_, rfl, ?_⟩; replace BK567 := bkb_ BK567 hb; replace BK568 := bkb_ BK568 hb; replace BK572 := bkb_ BK572 hb; replace BK576 := Aside0.mk (blk_below (g := gb576) (o := .cells #[.string t573, .string t574] 32 (0, 0)) (by (with_reducible repeat (first | refine blk_drewN ?_ _ | refine blk_drew ?_ | refine blk_alloc ?_ _)); refine blk_put (cs := #[.string t573, .string (⟨#[]⟩ : ByteArray)]) ?_ 1 _ rfl; (with_reducible repeat (first | refine blk_drewN ?_ _ | refine blk_drew ?_ | refine blk_alloc ?_ _)); refine blk_put (cs := #[.string (⟨#[]⟩ : ByteArray), .string (⟨#[]⟩ : ByteArray)]) ?_ 0 _ rfl; (with_reducible repeat (first | refine blk_drewN ?_ _ | refine blk_drew ?_ | refine blk_alloc ?_ _)); exact BK576.out) hb); replace HB := bst_ hb; clear hb) | ((with_reducible refine gate_callee (f := 46) rfl ?_); refine gl_ (some 67) Tryd.func46 #[.slice A0 l0.length c0] ?_; (with_reducible refine (spec_DrawReadFrames.calls k _ _ l0 t578 _ ?side1 ?side2 A8.out).mono ?_); (case side1 => repeat (first | exact (Kd.C_below HR0.out HB.out) | (with_reducible refine Kd.C_alloc ?_ _) | (with_reducible refine Kd.C_drewN ?_ _) | (with_reducible refine Kd.C_drew ?_))); (case side2 => exact HC0.out); rintro e w44 ⟨rfl, hb⟩; refine ⟨_, rfl, ?_⟩; replace BK567 := bkb_ BK567 hb; replace BK568 := bkb_ BK568 hb; replace BK572 := bkb_ BK572 hb; replace BK576 := bkb_ BK576 hb; replace HB := bst_ hb; clear hb) | ((with_reducible refine gate_callee (f := 28) rfl ?_); refine gl_ (some 70) Tryd.func28 #[.string t578] ?_; (with_reducible refine (impl_ReadFrames.calls k t578 t579 t580 _ A9.out ?side1).mono ?_); (case side1 => exact HTB.out.below bwl_); rintro e w45 ⟨v581, rfl, ho0, hb⟩; refine ⟨_, rfl, ?_⟩; have HO582 := Aside0.mk (Kd.R_lower (Kd.R_newB ho0 (g := gb568) (o := .cells #[.int .i64 t564, .string t565, .string t566] 26 (0, 0)) (by (with_reducible repeat (first | refine blk_drewN ?_ _ | refine blk_drew ?_ | refine blk_alloc ?_ _)); exact BK568.out)) (below_size bwl_)); replace BK567 := bkb_ BK567 hb; replace BK568 := bkb_ BK568 hb; replace BK572 := bkb_ BK572 hb; replace BK576 := bkb_ BK576 hb; replace HB := bst_ hb; clear hb ho0) | ((with_reducible refine gate_callee (f := 27) rfl ?_); refine gl_ (some 75) Tryd.func27 #[.string t578] ?_; (with_reducible refine (spec_ReadFrames.calls k t578 t583 t584 _ A10.out).mono ?_); rintro e w46 ⟨v585, rfl, ho0, hb⟩; refine ⟨_, rfl, ?_⟩; have HO586 := Aside0.mk (Kd.R_lower (Kd.R_newB (Kd.R_new' ho0 (Kd.R_lt (by (with_reducible repeat (first | apply Kd.R_alloc | apply Kd.R_drewN | apply Kd.R_drew)); exact HO582.out))) (g := gb568) (o := .cells #[.int .i64 t564, .string t565, .string t566] 26 (0, 0)) (by (with_reducible repeat (first | refine blk_drewN ?_ _ | refine blk_drew ?_ | refine blk_alloc ?_ _)); exact BK568.out)) (below_size bwl_)); replace HO582 := Aside0.mk (Kd.R_elder' (by (with_reducible repeat (first | apply Kd.R_alloc | apply Kd.R_drewN | apply Kd.R_drew)); exact HO582.out) (Kd.R_base ho0) hb); replace BK567 := bkb_ BK567 hb; replace BK568 := bkb_ BK568 hb; replace BK572 := bkb_ BK572 hb; replace BK576 := bkb_ BK576 hb; replace HB := bst_ hb; clear hb ho0) | ((with_reducible refine gate_callee (f := 47) rfl ?_); refine gl_ (some 79) Tryd.func47 #[.slice A0 l0.length c0] ?_; (with_reducible refine (spec_DrawEntriesOf.calls k _ _ l0 t587 t588 _ ?side1 ?side2 A11.out).mono ?_); (case side1 => repeat (first | exact (Kd.C_below HR0.out HB.out) | (with_reducible refine Kd.C_alloc ?_ _) | (with_reducible refine Kd.C_drewN ?_ _) | (with_reducible refine Kd.C_drew ?_))); (case side2 => exact HC0.out); rintro e w47 ⟨rfl, hb⟩; refine ⟨_, rfl, ?_⟩; replace HO582 := Aside0.mk (Kd.R_below (by (with_reducible repeat (first | apply Kd.R_alloc | apply Kd.R_drewN | apply Kd.R_drew)); exact HO582.out) hb); replace HO586 := Aside0.mk (Kd.R_below (by (with_reducible repeat (first | apply Kd.R_alloc | apply Kd.R_drewN | apply Kd.R_drew)); exact HO586.out) hb); replace BK567 := bkb_ BK567 hb; replace BK568 := bkb_ BK568 hb; replace BK572 := bkb_ BK572 hb; replace BK576 := bkb_ BK576 hb; replace HB := bst_ hb; clear hb) | ((with_reducible refine gate_dst (N := 15) rfl ?_); (try (refine gate_guard (by rfl) ?_; dsimp only)); refine be_ 15 #[.string (⟨#[]⟩ : ByteArray), .string (⟨#[]⟩ : ByteArray)] 32 ?_; intro gb589 hg w48 hbox hb; replace HO582 := Aside0.mk (Kd.R_below (by (with_reducible repeat (first | apply Kd.R_alloc | apply Kd.R_drewN | apply Kd.R_drew)); exact HO582.out) hb); replace HO586 := Aside0.mk (Kd.R_below (by (with_reducible repeat (first | apply Kd.R_alloc | apply Kd.R_drewN | apply Kd.R_drew)); exact HO586.out) hb); have BK589 := Aside0.mk (hbox); have GW589 := bsz_ hg; have GE589 := bsz_ hg; replace HB := bst_ hb; have NB567_589 := nbl_ BK567 hg; have NB589_567 := nbr_ BK567 hg; replace BK567 := bkb_ BK567 hb; have NB568_589 := nbl_ BK568 hg; have NB589_568 := nbr_ BK568 hg; replace BK568 := bkb_ BK568 hb; have NB572_589 := nbl_ BK572 hg; have NB589_572 := nbr_ BK572 hg; replace BK572 := bkb_ BK572 hb; have NB576_589 := nbl_ BK576 hg; have NB589_576 := nbr_ BK576 hg; replace BK576 := bkb_ BK576 hb; clear hb hbox hg; have hnb49 := NB589_567.out; have hnc49 := NB567_589.out; have hnb50 := NB589_568.out; have hnc50 := NB568_589.out; have hnb51 := NB589_572.out; have hnc51 := NB572_589.out; have hnb52 := NB589_576.out; have hnc52 := NB576_589.out; have hcz53_0 := b20_ BK589; have hcz53_1 := b21_ BK589; have hfz53_0 := blk_frozen BK589.out 0; have hfz53_1 := blk_frozen BK589.out 1) | ((with_reducible refine gate_callee (f := 37) rfl ?_); refine gl_ (some 82) Tryd.func37 #[.agg #[.string t587, .string t588]] ?_; (with_reducible refine (impl_EntriesOf.calls k t587 t588 t590 t593 _ A12.out ?side1).mono ?_); (case side1 => exact HTB.out.below bwl_); rintro e w54 ⟨v591, rfl, ho0, hb⟩; refine ⟨_, rfl, ?_⟩; have HO592 := Aside0.mk (Kd.R_lower (Kd.R_newB (Kd.R_new' (Kd.R_new' ho0 (Kd.R_lt (by (with_reducible repeat (first | apply Kd.R_alloc | apply Kd.R_drewN | apply Kd.R_drew)); exact (Kd.R_mono (Kd.R_far (p := ⟨gb589, 1, none⟩) (Kd.R_far (p := ⟨gb589, 0, none⟩) (Kd.R_types HO582.out BK589.out (by decide)) (fun _ hk => hk.2) (.string t587)) (fun _ hk => hk.2) (.string t588)) (fun _ h_ => h_.1))))) (Kd.R_lt (by (with_reducible repeat (first | apply Kd.R_alloc | apply Kd.R_drewN | apply Kd.R_drew)); exact (Kd.R_mono (Kd.R_far (p := ⟨gb589, 1, none⟩) (Kd.R_far (p := ⟨gb589, 0, none⟩) (Kd.R_types HO586.out BK589.out (by decide)) (fun _ hk => hk.2) (.string t587)) (fun _ hk => hk.2) (.string t588)) (fun _ h_ => h_.1))))) (g := gb568) (o := .cells #[.int .i64 t564, .string t565, .string t566] 26 (0, 0)) (by (with_reducible repeat (first | refine blk_drewN ?_ _ | refine blk_drew ?_ | refine blk_alloc ?_ _)); refine blk_far ?_ NB568_589.out _; (with_reducible repeat (first | refine blk_drewN ?_ _ | refine blk_drew ?_ | refine blk_alloc ?_ _)); refine blk_far ?_ NB568_589.out _; (with_reducible repeat (first | refine blk_drewN ?_ _ | refine blk_drew ?_ | refine blk_alloc ?_ _)); exact BK568.out)) (below_size bwl_)); replace HO582 := Aside0.mk (Kd.R_elder' (by (with_reducible repeat (first | apply Kd.R_alloc | apply Kd.R_drewN | apply Kd.R_drew)); exact (Kd.R_mono (Kd.R_far (p := ⟨gb589, 1, none⟩) (Kd.R_far (p := ⟨gb589, 0, none⟩) (Kd.R_types HO582.out BK589.out (by decide)) (fun _ hk => hk.2) (.string t587)) (fun _ hk => hk.2) (.string t588)) (fun _ h_ => h_.1))) (Kd.R_base ho0) hb); replace HO586 := Aside0.mk (Kd.R_elder' (by (with_reducible repeat (first | apply Kd.R_alloc | apply Kd.R_drewN | apply Kd.R_drew)); exact (Kd.R_mono (Kd.R_far (p := ⟨gb589, 1, none⟩) (Kd.R_far (p := ⟨gb589, 0, none⟩) (Kd.R_types HO586.out BK589.out (by decide)) (fun _ hk => hk.2) (.string t587)) (fun _ hk => hk.2) (.string t588)) (fun _ h_ => h_.1))) (Kd.R_base ho0) hb); replace BK567 := bkb_ BK567 hb; replace BK568 := bkb_ BK568 hb; replace BK572 := bkb_ BK572 hb; replace BK576 := bkb_ BK576 hb; replace BK589 := Aside0.mk (blk_below (g := gb589) (o := .cells #[.string t587, .string t588] 32 (0, 0)) (by (with_reducible repeat (first | refine blk_drewN ?_ _ | refine blk_drew ?_ | refine blk_alloc ?_ _)); refine blk_put (cs := #[.string t587, .string (⟨#[]⟩ : ByteArray)]) ?_ 1 _ rfl; (with_reducible repeat (first | refine blk_drewN ?_ _ | refine blk_drew ?_ | refine blk_alloc ?_ _)); refine blk_put (cs := #[.string (⟨#[]⟩ : ByteArray), .string (⟨#[]⟩ : ByteArray)]) ?_ 0 _ rfl; (with_reducible repeat (first | refine blk_drewN ?_ _ | refine blk_drew ?_ | refine blk_alloc ?_ _)); exact BK589.out) hb); replace HB := bst_ hb; clear hb ho0; have hcz55_0 := b20_ BK589; have hcz55_1 := b21_ BK589; have hfz55_0 := blk_frozen BK589.out 0; have hfz55_1 := blk_frozen BK589.out 1) | ((with_reducible refine gate_callee (f := 36) rfl ?_); refine gl_ (some 87) Tryd.func36 #[.agg #[.string t587, .string t588]] ?_; (with_reducible refine (spec_EntriesOf.calls k t587 t588 t594 t597 _ A13.out).mono ?_); rintro e w56 ⟨v595, rfl, ho0, hb⟩; refine ⟨_, rfl, ?_⟩; have HO596 := Aside0.mk (Kd.R_lower (Kd.R_newB (Kd.R_new' (Kd.R_new' (Kd.R_new' ho0 (Kd.R_lt (by (with_reducible repeat (first | apply Kd.R_alloc | apply Kd.R_drewN | apply Kd.R_drew)); exact HO582.out))) (Kd.R_lt (by (with_reducible repeat (first | apply Kd.R_alloc | apply Kd.R_drewN | apply Kd.R_drew)); exact HO586.out))) (Kd.R_lt (by (with_reducible repeat (first | apply Kd.R_alloc | apply Kd.R_drewN | apply Kd.R_drew)); exact HO592.out))) (g := gb568) (o := .cells #[.int .i64 t564, .string t565, .string t566] 26 (0, 0)) (by (with_reducible repeat (first | refine blk_drewN ?_ _ | refine blk_drew ?_ | refine blk_alloc ?_ _)); exact BK568.out)) (below_size bwl_)); replace HO582 := Aside0.mk (Kd.R_elder' (by (with_reducible repeat (first | apply Kd.R_alloc | apply Kd.R_drewN | apply Kd.R_drew)); exact HO582.out) (Kd.R_base ho0) hb); replace HO586 := Aside0.mk (Kd.R_elder' (by (with_reducible repeat (first | apply Kd.R_alloc | apply Kd.R_drewN | apply Kd.R_drew)); exact HO586.out) (Kd.R_base ho0) hb); replace HO592 := Aside0.mk (Kd.R_elder' (by (with_reducible repeat (first | apply Kd.R_alloc | apply Kd.R_drewN | apply Kd.R_drew)); exact HO592.out) (Kd.R_base ho0) hb); replace BK567 := bkb_ BK567 hb; replace BK568 := bkb_ BK568 hb; replace BK572 := bkb_ BK572 hb; replace BK576 := bkb_ BK576 hb; replace BK589 := bkb_ BK589 hb; replace HB := bst_ hb; clear hb ho0) | ((with_reducible refine gate_callee (f := 48) rfl ?_); refine gl_ (some 92) Tryd.func48 #[.slice A0 l0.length c0] ?_; (with_reducible refine (spec_DrawEntriesBetween.calls k _ _ l0 t598 t599 t600 t601 _ ?side1 ?side2 A14.out).mono ?_); (case side1 => repeat (first | exact (Kd.C_below HR0.out HB.out) | (with_reducible refine Kd.C_alloc ?_ _) | (with_reducible refine Kd.C_drewN ?_ _) | (with_reducible refine Kd.C_drew ?_))); (case side2 => exact HC0.out); rintro e w57 ⟨rfl, hb⟩; refine ⟨_, rfl, ?_⟩; replace HO582 := Aside0.mk (Kd.R_below (by (with_reducible repeat (first | apply Kd.R_alloc | apply Kd.R_drewN | apply Kd.R_drew)); exact HO582.out) hb); replace HO586 := Aside0.mk (Kd.R_below (by (with_reducible repeat (first | apply Kd.R_alloc | apply Kd.R_drewN | apply Kd.R_drew)); exact HO586.out) hb); replace HO592 := Aside0.mk (Kd.R_below (by (with_reducible repeat (first | apply Kd.R_alloc | apply Kd.R_drewN | apply Kd.R_drew)); exact HO592.out) hb); replace HO596 := Aside0.mk (Kd.R_below (by (with_reducible repeat (first | apply Kd.R_alloc | apply Kd.R_drewN | apply Kd.R_drew)); exact HO596.out) hb); replace BK567 := bkb_ BK567 hb; replace BK568 := bkb_ BK568 hb; replace BK572 := bkb_ BK572 hb; replace BK576 := bkb_ BK576 hb; replace BK589 := bkb_ BK589 hb; replace HB := bst_ hb; clear hb) | ((with_reducible refine gate_dst (N := 20) rfl ?_); (try (refine gate_guard (by rfl) ?_; dsimp only)); refine be_ 20 #[.string (⟨#[]⟩ : ByteArray), .string (⟨#[]⟩ : ByteArray)] 32 ?_; intro gb602 hg w58 hbox hb; replace HO582 := Aside0.mk (Kd.R_below (by (with_reducible repeat (first | apply Kd.R_alloc | apply Kd.R_drewN | apply Kd.R_drew)); exact HO582.out) hb); replace HO586 := Aside0.mk (Kd.R_below (by (with_reducible repeat (first | apply Kd.R_alloc | apply Kd.R_drewN | apply Kd.R_drew)); exact HO586.out) hb); replace HO592 := Aside0.mk (Kd.R_below (by (with_reducible repeat (first | apply Kd.R_alloc | apply Kd.R_drewN | apply Kd.R_drew)); exact HO592.out) hb); replace HO596 := Aside0.mk (Kd.R_below (by (with_reducible repeat (first | apply Kd.R_alloc | apply Kd.R_drewN | apply Kd.R_drew)); exact HO596.out) hb); have BK602 := Aside0.mk (hbox); have GW602 := bsz_ hg; have GE602 := bsz_ hg; replace HB := bst_ hb; have NB567_602 := nbl_ BK567 hg; have NB602_567 := nbr_ BK567 hg; replace BK567 := bkb_ BK567 hb; have NB568_602 := nbl_ BK568 hg; have NB602_568 := nbr_ BK568 hg; replace BK568 := bkb_ BK568 hb; have NB572_602 := nbl_ BK572 hg; have NB602_572 := nbr_ BK572 hg; replace BK572 := bkb_ BK572 hb; have NB576_602 := nbl_ BK576 hg; have NB602_576 := nbr_ BK576 hg; replace BK576 := bkb_ BK576 hb; have NB589_602 := nbl_ BK589 hg; have NB602_589 := nbr_ BK589 hg; replace BK589 := bkb_ BK589 hb; clear hb hbox hg; have hnb59 := NB602_567.out; have hnc59 := NB567_602.out; have hnb60 := NB602_568.out; have hnc60 := NB568_602.out; have hnb61 := NB602_572.out; have hnc61 := NB572_602.out; have hnb62 := NB602_576.out; have hnc62 := NB576_602.out; have hnb63 := NB602_589.out; have hnc63 := NB589_602.out; have hcz64_0 := b20_ BK602; have hcz64_1 := b21_ BK602; have hfz64_0 := blk_frozen BK602.out 0; have hfz64_1 := blk_frozen BK602.out 1) | ((with_reducible refine gate_callee (f := 39) rfl ?_); refine gl_ (some 100) Tryd.func39 #[.agg #[.string t598, .string t599], .int .i64 t600, .int .i64 t601] ?_; (with_reducible refine (impl_EntriesBetween.calls k t598 t599 t600 t601 t603 t606 _ A15.out ?side1).mono ?_); (case side1 => exact HTB.out.below bwl_); rintro e w65 ⟨v604, rfl, ho0, hb⟩; refine ⟨_, rfl, ?_⟩; have HO605 := Aside0.mk (Kd.R_lower (Kd.R_newB (Kd.R_new' (Kd.R_new' (Kd.R_new' (Kd.R_new' ho0 (Kd.R_lt (by (with_reducible repeat (first | apply Kd.R_alloc | apply Kd.R_drewN | apply Kd.R_drew)); exact (Kd.R_mono (Kd.R_far (p := ⟨gb602, 1, none⟩) (Kd.R_far (p := ⟨gb602, 0, none⟩) (Kd.R_types HO582.out BK602.out (by decide)) (fun _ hk => hk.2) (.string t598)) (fun _ hk => hk.2) (.string t599)) (fun _ h_ => h_.1))))) (Kd.R_lt (by (with_reducible repeat (first | apply Kd.R_alloc | apply Kd.R_drewN | apply Kd.R_drew)); exact (Kd.R_mono (Kd.R_far (p := ⟨gb602, 1, none⟩) (Kd.R_far (p := ⟨gb602, 0, none⟩) (Kd.R_types HO586.out BK602.out (by decide)) (fun _ hk => hk.2) (.string t598)) (fun _ hk => hk.2) (.string t599)) (fun _ h_ => h_.1))))) (Kd.R_lt (by (with_reducible repeat (first | apply Kd.R_alloc | apply Kd.R_drewN | apply Kd.R_drew)); exact (Kd.R_mono (Kd.R_far (p := ⟨gb602, 1, none⟩) (Kd.R_far (p := ⟨gb602, 0, none⟩) (Kd.R_types HO592.out BK602.out (by decide)) (fun _ hk => hk.2) (.string t598)) (fun _ hk => hk.2) (.string t599)) (fun _ h_ => h_.1))))) (Kd.R_lt (by (with_reducible repeat (first | apply Kd.R_alloc | apply Kd.R_drewN | apply Kd.R_drew)); exact (Kd.R_mono (Kd.R_far (p := ⟨gb602, 1, none⟩) (Kd.R_far (p := ⟨gb602, 0, none⟩) (Kd.R_types HO596.out BK602.out (by decide)) (fun _ hk => hk.2) (.string t598)) (fun _ hk => hk.2) (.string t599)) (fun _ h_ => h_.1))))) (g := gb568) (o := .cells #[.int .i64 t564, .string t565, .string t566] 26 (0, 0)) (by (with_reducible repeat (first | refine blk_drewN ?_ _ | refine blk_drew ?_ | refine blk_alloc ?_ _)); refine blk_far ?_ NB568_602.out _; (with_reducible repeat (first | refine blk_drewN ?_ _ | refine blk_drew ?_ | refine blk_alloc ?_ _)); refine blk_far ?_ NB568_602.out _; (with_reducible repeat (first | refine blk_drewN ?_ _ | refine blk_drew ?_ | refine blk_alloc ?_ _)); exact BK568.out)) (below_size bwl_)); replace HO582 := Aside0.mk (Kd.R_elder' (by (with_reducible repeat (first | apply Kd.R_alloc | apply Kd.R_drewN | apply Kd.R_drew)); exact (Kd.R_mono (Kd.R_far (p := ⟨gb602, 1, none⟩) (Kd.R_far (p := ⟨gb602, 0, none⟩) (Kd.R_types HO582.out BK602.out (by decide)) (fun _ hk => hk.2) (.string t598)) (fun _ hk => hk.2) (.string t599)) (fun _ h_ => h_.1))) (Kd.R_base ho0) hb); replace HO586 := Aside0.mk (Kd.R_elder' (by (with_reducible repeat (first | apply Kd.R_alloc | apply Kd.R_drewN | apply Kd.R_drew)); exact (Kd.R_mono (Kd.R_far (p := ⟨gb602, 1, none⟩) (Kd.R_far (p := ⟨gb602, 0, none⟩) (Kd.R_types HO586.out BK602.out (by decide)) (fun _ hk => hk.2) (.string t598)) (fun _ hk => hk.2) (.string t599)) (fun _ h_ => h_.1))) (Kd.R_base ho0) hb); replace HO592 := Aside0.mk (Kd.R_elder' (by (with_reducible repeat (first | apply Kd.R_alloc | apply Kd.R_drewN | apply Kd.R_drew)); exact (Kd.R_mono (Kd.R_far (p := ⟨gb602, 1, none⟩) (Kd.R_far (p := ⟨gb602, 0, none⟩) (Kd.R_types HO592.out BK602.out (by decide)) (fun _ hk => hk.2) (.string t598)) (fun _ hk => hk.2) (.string t599)) (fun _ h_ => h_.1))) (Kd.R_base ho0) hb); replace HO596 := Aside0.mk (Kd.R_elder' (by (with_reducible repeat (first | apply Kd.R_alloc | apply Kd.R_drewN | apply Kd.R_drew)); exact (Kd.R_mono (Kd.R_far (p := ⟨gb602, 1, none⟩) (Kd.R_far (p := ⟨gb602, 0, none⟩) (Kd.R_types HO596.out BK602.out (by decide)) (fun _ hk => hk.2) (.string t598)) (fun _ hk => hk.2) (.string t599)) (fun _ h_ => h_.1))) (Kd.R_base ho0) hb); replace BK567 := bkb_ BK567 hb; replace BK568 := bkb_ BK568 hb; replace BK572 := bkb_ BK572 hb; replace BK576 := bkb_ BK576 hb; replace BK589 := bkb_ BK589 hb; replace BK602 := Aside0.mk (blk_below (g := gb602) (o := .cells #[.string t598, .string t599] 32 (0, 0)) (by (with_reducible repeat (first | refine blk_drewN ?_ _ | refine blk_drew ?_ | refine blk_alloc ?_ _)); refine blk_put (cs := #[.string t598, .string (⟨#[]⟩ : ByteArray)]) ?_ 1 _ rfl; (with_reducible repeat (first | refine blk_drewN ?_ _ | refine blk_drew ?_ | refine blk_alloc ?_ _)); refine blk_put (cs := #[.string (⟨#[]⟩ : ByteArray), .string (⟨#[]⟩ : ByteArray)]) ?_ 0 _ rfl; (with_reducible repeat (first | refine blk_drewN ?_ _ | refine blk_drew ?_ | refine blk_alloc ?_ _)); exact BK602.out) hb); replace HB := bst_ hb; clear hb ho0; have hcz66_0 := b20_ BK602; have hcz66_1 := b21_ BK602; have hfz66_0 := blk_frozen BK602.out 0; have hfz66_1 := blk_frozen BK602.out 1) | ((with_reducible refine gate_callee (f := 38) rfl ?_); refine gl_ (some 107) Tryd.func38 #[.agg #[.string t598, .string t599], .int .i64 t600, .int .i64 t601] ?_; (with_reducible refine (spec_EntriesBetween.calls k t598 t599 t600 t601 t607 t610 _ A16.out).mono ?_); rintro e w67 ⟨v608, rfl, ho0, hb⟩; refine ⟨_, rfl, ?_⟩; have HO609 := Aside0.mk (Kd.R_lower (Kd.R_newB (Kd.R_new' (Kd.R_new' (Kd.R_new' (Kd.R_new' (Kd.R_new' ho0 (Kd.R_lt (by (with_reducible repeat (first | apply Kd.R_alloc | apply Kd.R_drewN | apply Kd.R_drew)); exact HO582.out))) (Kd.R_lt (by (with_reducible repeat (first | apply Kd.R_alloc | apply Kd.R_drewN | apply Kd.R_drew)); exact HO586.out))) (Kd.R_lt (by (with_reducible repeat (first | apply Kd.R_alloc | apply Kd.R_drewN | apply Kd.R_drew)); exact HO592.out))) (Kd.R_lt (by (with_reducible repeat (first | apply Kd.R_alloc | apply Kd.R_drewN | apply Kd.R_drew)); exact HO596.out))) (Kd.R_lt (by (with_reducible repeat (first | apply Kd.R_alloc | apply Kd.R_drewN | apply Kd.R_drew)); exact HO605.out))) (g := gb568) (o := .cells #[.int .i64 t564, .string t565, .string t566] 26 (0, 0)) (by (with_reducible repeat (first | refine blk_drewN ?_ _ | refine blk_drew ?_ | refine blk_alloc ?_ _)); exact BK568.out)) (below_size bwl_)); replace HO582 := Aside0.mk (Kd.R_elder' (by (with_reducible repeat (first | apply Kd.R_alloc | apply Kd.R_drewN | apply Kd.R_drew)); exact HO582.out) (Kd.R_base ho0) hb); replace HO586 := Aside0.mk (Kd.R_elder' (by (with_reducible repeat (first | apply Kd.R_alloc | apply Kd.R_drewN | apply Kd.R_drew)); exact HO586.out) (Kd.R_base ho0) hb); replace HO592 := Aside0.mk (Kd.R_elder' (by (with_reducible repeat (first | apply Kd.R_alloc | apply Kd.R_drewN | apply Kd.R_drew)); exact HO592.out) (Kd.R_base ho0) hb); replace HO596 := Aside0.mk (Kd.R_elder' (by (with_reducible repeat (first | apply Kd.R_alloc | apply Kd.R_drewN | apply Kd.R_drew)); exact HO596.out) (Kd.R_base ho0) hb); replace HO605 := Aside0.mk (Kd.R_elder' (by (with_reducible repeat (first | apply Kd.R_alloc | apply Kd.R_drewN | apply Kd.R_drew)); exact HO605.out) (Kd.R_base ho0) hb); replace BK567 := bkb_ BK567 hb; replace BK568 := bkb_ BK568 hb; replace BK572 := bkb_ BK572 hb; replace BK576 := bkb_ BK576 hb; replace BK589 := bkb_ BK589 hb; replace BK602 := bkb_ BK602 hb; replace HB := bst_ hb; clear hb ho0) | ((with_reducible refine gate_callee (f := 49) rfl ?_); refine gl_ (some 112) Tryd.func49 #[.slice A0 l0.length c0] ?_; (with_reducible refine (spec_DrawCountKinds.calls k _ _ l0 t611 t612 t613 _ ?side1 ?side2 A17.out).mono ?_); (case side1 => repeat (first | exact (Kd.C_below HR0.out HB.out) | (with_reducible refine Kd.C_alloc ?_ _) | (with_reducible refine Kd.C_drewN ?_ _) | (with_reducible refine Kd.C_drew ?_))); (case side2 => exact HC0.out); rintro e w68 ⟨rfl, hb⟩; refine ⟨_, rfl, ?_⟩; replace HO582 := Aside0.mk (Kd.R_below (by (with_reducible repeat (first | apply Kd.R_alloc | apply Kd.R_drewN | apply Kd.R_drew)); exact HO582.out) hb); replace HO586 := Aside0.mk (Kd.R_below (by (with_reducible repeat (first | apply Kd.R_alloc | apply Kd.R_drewN | apply Kd.R_drew)); exact HO586.out) hb); replace HO592 := Aside0.mk (Kd.R_below (by (with_reducible repeat (first | apply Kd.R_alloc | apply Kd.R_drewN | apply Kd.R_drew)); exact HO592.out) hb); replace HO596 := Aside0.mk (Kd.R_below (by (with_reducible repeat (first | apply Kd.R_alloc | apply Kd.R_drewN | apply Kd.R_drew)); exact HO596.out) hb); replace HO605 := Aside0.mk (Kd.R_below (by (with_reducible repeat (first | apply Kd.R_alloc | apply Kd.R_drewN | apply Kd.R_drew)); exact HO605.out) hb); replace HO609 := Aside0.mk (Kd.R_below (by (with_reducible repeat (first | apply Kd.R_alloc | apply Kd.R_drewN | apply Kd.R_drew)); exact HO609.out) hb); replace BK567 := bkb_ BK567 hb; replace BK568 := bkb_ BK568 hb; replace BK572 := bkb_ BK572 hb; replace BK576 := bkb_ BK576 hb; replace BK589 := bkb_ BK589 hb; replace BK602 := bkb_ BK602 hb; replace HB := bst_ hb; clear hb) | ((with_reducible refine gate_dst (N := 27) rfl ?_); (try (refine gate_guard (by rfl) ?_; dsimp only)); refine be_ 27 #[.string (⟨#[]⟩ : ByteArray), .string (⟨#[]⟩ : ByteArray)] 32 ?_; intro gb614 hg w69 hbox hb; replace HO582 := Aside0.mk (Kd.R_below (by (with_reducible repeat (first | apply Kd.R_alloc | apply Kd.R_drewN | apply Kd.R_drew)); exact HO582.out) hb); replace HO586 := Aside0.mk (Kd.R_below (by (with_reducible repeat (first | apply Kd.R_alloc | apply Kd.R_drewN | apply Kd.R_drew)); exact HO586.out) hb); replace HO592 := Aside0.mk (Kd.R_below (by (with_reducible repeat (first | apply Kd.R_alloc | apply Kd.R_drewN | apply Kd.R_drew)); exact HO592.out) hb); replace HO596 := Aside0.mk (Kd.R_below (by (with_reducible repeat (first | apply Kd.R_alloc | apply Kd.R_drewN | apply Kd.R_drew)); exact HO596.out) hb); replace HO605 := Aside0.mk (Kd.R_below (by (with_reducible repeat (first | apply Kd.R_alloc | apply Kd.R_drewN | apply Kd.R_drew)); exact HO605.out) hb); replace HO609 := Aside0.mk (Kd.R_below (by (with_reducible repeat (first | apply Kd.R_alloc | apply Kd.R_drewN | apply Kd.R_drew)); exact HO609.out) hb); have BK614 := Aside0.mk (hbox); have GW614 := bsz_ hg; have GE614 := bsz_ hg; replace HB := bst_ hb; have NB567_614 := nbl_ BK567 hg; have NB614_567 := nbr_ BK567 hg; replace BK567 := bkb_ BK567 hb; have NB568_614 := nbl_ BK568 hg; have NB614_568 := nbr_ BK568 hg; replace BK568 := bkb_ BK568 hb; have NB572_614 := nbl_ BK572 hg; have NB614_572 := nbr_ BK572 hg; replace BK572 := bkb_ BK572 hb; have NB576_614 := nbl_ BK576 hg; have NB614_576 := nbr_ BK576 hg; replace BK576 := bkb_ BK576 hb; have NB589_614 := nbl_ BK589 hg; have NB614_589 := nbr_ BK589 hg; replace BK589 := bkb_ BK589 hb; have NB602_614 := nbl_ BK602 hg; have NB614_602 := nbr_ BK602 hg; replace BK602 := bkb_ BK602 hb; clear hb hbox hg; have hnb70 := NB614_567.out; have hnc70 := NB567_614.out; have hnb71 := NB614_568.out; have hnc71 := NB568_614.out; have hnb72 := NB614_572.out; have hnc72 := NB572_614.out; have hnb73 := NB614_576.out; have hnc73 := NB576_614.out; have hnb74 := NB614_589.out; have hnc74 := NB589_614.out; have hnb75 := NB614_602.out; have hnc75 := NB602_614.out; have hcz76_0 := b20_ BK614; have hcz76_1 := b21_ BK614; have hfz76_0 := blk_frozen BK614.out 0; have hfz76_1 := blk_frozen BK614.out 1) | ((with_reducible refine gate_callee (f := 35) rfl ?_); refine gl_ (some 118) Tryd.func35 #[.agg #[.string t611, .string t612], .string t613] ?_; (with_reducible refine (impl_CountKinds.calls k t611 t612 t613 t615 t616 _ A18.out ?side1).mono ?_); (case side1 => exact HTB.out.below bwl_); rintro e w77 ⟨rfl, hb⟩; refine ⟨_, rfl, ?_⟩; replace HO582 := Aside0.mk (Kd.R_below (by (with_reducible repeat (first | apply Kd.R_alloc | apply Kd.R_drewN | apply Kd.R_drew)); exact (Kd.R_mono (Kd.R_far (p := ⟨gb614, 1, none⟩) (Kd.R_far (p := ⟨gb614, 0, none⟩) (Kd.R_types HO582.out BK614.out (by decide)) (fun _ hk => hk.2) (.string t611)) (fun _ hk => hk.2) (.string t612)) (fun _ h_ => h_.1))) hb); replace HO586 := Aside0.mk (Kd.R_below (by (with_reducible repeat (first | apply Kd.R_alloc | apply Kd.R_drewN | apply Kd.R_drew)); exact (Kd.R_mono (Kd.R_far (p := ⟨gb614, 1, none⟩) (Kd.R_far (p := ⟨gb614, 0, none⟩) (Kd.R_types HO586.out BK614.out (by decide)) (fun _ hk => hk.2) (.string t611)) (fun _ hk => hk.2) (.string t612)) (fun _ h_ => h_.1))) hb); replace HO592 := Aside0.mk (Kd.R_below (by (with_reducible repeat (first | apply Kd.R_alloc | apply Kd.R_drewN | apply Kd.R_drew)); exact (Kd.R_mono (Kd.R_far (p := ⟨gb614, 1, none⟩) (Kd.R_far (p := ⟨gb614, 0, none⟩) (Kd.R_types HO592.out BK614.out (by decide)) (fun _ hk => hk.2) (.string t611)) (fun _ hk => hk.2) (.string t612)) (fun _ h_ => h_.1))) hb); replace HO596 := Aside0.mk (Kd.R_below (by (with_reducible repeat (first | apply Kd.R_alloc | apply Kd.R_drewN | apply Kd.R_drew)); exact (Kd.R_mono (Kd.R_far (p := ⟨gb614, 1, none⟩) (Kd.R_far (p := ⟨gb614, 0, none⟩) (Kd.R_types HO596.out BK614.out (by decide)) (fun _ hk => hk.2) (.string t611)) (fun _ hk => hk.2) (.string t612)) (fun _ h_ => h_.1))) hb); replace HO605 := Aside0.mk (Kd.R_below (by (with_reducible repeat (first | apply Kd.R_alloc | apply Kd.R_drewN | apply Kd.R_drew)); exact (Kd.R_mono (Kd.R_far (p := ⟨gb614, 1, none⟩) (Kd.R_far (p := ⟨gb614, 0, none⟩) (Kd.R_types HO605.out BK614.out (by decide)) (fun _ hk => hk.2) (.string t611)) (fun _ hk => hk.2) (.string t612)) (fun _ h_ => h_.1))) hb); replace HO609 := Aside0.mk (Kd.R_below (by (with_reducible repeat (first | apply Kd.R_alloc | apply Kd.R_drewN | apply Kd.R_drew)); exact (Kd.R_mono (Kd.R_far (p := ⟨gb614, 1, none⟩) (Kd.R_far (p := ⟨gb614, 0, none⟩) (Kd.R_types HO609.out BK614.out (by decide)) (fun _ hk => hk.2) (.string t611)) (fun _ hk => hk.2) (.string t612)) (fun _ h_ => h_.1))) hb); replace BK567 := bkb_ BK567 hb; replace BK568 := bkb_ BK568 hb; replace BK572 := bkb_ BK572 hb; replace BK576 := bkb_ BK576 hb; replace BK589 := bkb_ BK589 hb; replace BK602 := bkb_ BK602 hb; replace BK614 := Aside0.mk (blk_below (g := gb614) (o := .cells #[.string t611, .string t612] 32 (0, 0)) (by (with_reducible repeat (first | refine blk_drewN ?_ _ | refine blk_drew ?_ | refine blk_alloc ?_ _)); refine blk_put (cs := #[.string t611, .string (⟨#[]⟩ : ByteArray)]) ?_ 1 _ rfl; (with_reducible repeat (first | refine blk_drewN ?_ _ | refine blk_drew ?_ | refine blk_alloc ?_ _)); refine blk_put (cs := #[.string (⟨#[]⟩ : ByteArray), .string (⟨#[]⟩ : ByteArray)]) ?_ 0 _ rfl; (with_reducible repeat (first | refine blk_drewN ?_ _ | refine blk_drew ?_ | refine blk_alloc ?_ _)); exact BK614.out) hb); replace HB := bst_ hb; clear hb; have hcz78_0 := b20_ BK614; have hcz78_1 := b21_ BK614; have hfz78_0 := blk_frozen BK614.out 0; have hfz78_1 := blk_frozen BK614.out 1) | ((with_reducible refine gate_callee (f := 34) rfl ?_); refine gl_ (some 124) Tryd.func34 #[.agg #[.string t611, .string t612], .string t613] ?_; (with_reducible refine (spec_CountKinds.calls k t611 t612 t613 t617 t618 _ A19.out).mono ?_); rintro e w79 ⟨rfl, hb⟩; refine ⟨_, rfl, ?_⟩; replace HO582 := Aside0.mk (Kd.R_below (by (with_reducible repeat (first | apply Kd.R_alloc | apply Kd.R_drewN | apply Kd.R_drew)); exact HO582.out) hb); replace HO586 := Aside0.mk (Kd.R_below (by (with_reducible repeat (first | apply Kd.R_alloc | apply Kd.R_drewN | apply Kd.R_drew)); exact HO586.out) hb); replace HO592 := Aside0.mk (Kd.R_below (by (with_reducible repeat (first | apply Kd.R_alloc | apply Kd.R_drewN | apply Kd.R_drew)); exact HO592.out) hb); replace HO596 := Aside0.mk (Kd.R_below (by (with_reducible repeat (first | apply Kd.R_alloc | apply Kd.R_drewN | apply Kd.R_drew)); exact HO596.out) hb); replace HO605 := Aside0.mk (Kd.R_below (by (with_reducible repeat (first | apply Kd.R_alloc | apply Kd.R_drewN | apply Kd.R_drew)); exact HO605.out) hb); replace HO609 := Aside0.mk (Kd.R_below (by (with_reducible repeat (first | apply Kd.R_alloc | apply Kd.R_drewN | apply Kd.R_drew)); exact HO609.out) hb); replace BK567 := bkb_ BK567 hb; replace BK568 := bkb_ BK568 hb; replace BK572 := bkb_ BK572 hb; replace BK576 := bkb_ BK576 hb; replace BK589 := bkb_ BK589 hb; replace BK602 := bkb_ BK602 hb; replace BK614 := bkb_ BK614 hb; replace HB := bst_ hb; clear hb) | ((with_reducible refine gate_callee (f := 50) rfl ?_); refine gl_ (some 129) Tryd.func50 #[.slice A0 l0.length c0] ?_; (with_reducible refine (spec_DrawSameEntries.calls k _ _ l0 t619 t620 _ ?side1 ?side2 A20.out).mono ?_); (case side1 => repeat (first | exact (Kd.C_below HR0.out HB.out) | (with_reducible refine Kd.C_alloc ?_ _) | (with_reducible refine Kd.C_drewN ?_ _) | (with_reducible refine Kd.C_drew ?_))); (case side2 => exact HC0.out); rintro e w80 ⟨v621, v623, rfl, ho0, ho1, hb⟩; refine ⟨_, rfl, ?_⟩; have HO622 := Aside0.mk (Kd.R_lower (Kd.R_newB (Kd.R_new' (Kd.R_new' (Kd.R_new' (Kd.R_new' (Kd.R_new' (Kd.R_new' ho0 (Kd.R_lt (by (with_reducible repeat (first | apply Kd.R_alloc | apply Kd.R_drewN | apply Kd.R_drew)); exact HO582.out))) (Kd.R_lt (by (with_reducible repeat (first | apply Kd.R_alloc | apply Kd.R_drewN | apply Kd.R_drew)); exact HO586.out))) (Kd.R_lt (by (with_reducible repeat (first | apply Kd.R_alloc | apply Kd.R_drewN | apply Kd.R_drew)); exact HO592.out))) (Kd.R_lt (by (with_reducible repeat (first | apply Kd.R_alloc | apply Kd.R_drewN | apply Kd.R_drew)); exact HO596.out))) (Kd.R_lt (by (with_reducible repeat (first | apply Kd.R_alloc | apply Kd.R_drewN | apply Kd.R_drew)); exact HO605.out))) (Kd.R_lt (by (with_reducible repeat (first | apply Kd.R_alloc | apply Kd.R_drewN | apply Kd.R_drew)); exact HO609.out))) (g := gb568) (o := .cells #[.int .i64 t564, .string t565, .string t566] 26 (0, 0)) (by (with_reducible repeat (first | refine blk_drewN ?_ _ | refine blk_drew ?_ | refine blk_alloc ?_ _)); exact BK568.out)) (below_size bwl_)); have HO624 := Aside0.mk (Kd.R_lower (Kd.R_newB (Kd.R_new' (Kd.R_new' (Kd.R_new' (Kd.R_new' (Kd.R_new' (Kd.R_new' ho1 (Kd.R_lt (by (with_reducible repeat (first | apply Kd.R_alloc | apply Kd.R_drewN | apply Kd.R_drew)); exact HO582.out))) (Kd.R_lt (by (with_reducible repeat (first | apply Kd.R_alloc | apply Kd.R_drewN | apply Kd.R_drew)); exact HO586.out))) (Kd.R_lt (by (with_reducible repeat (first | apply Kd.R_alloc | apply Kd.R_drewN | apply Kd.R_drew)); exact HO592.out))) (Kd.R_lt (by (with_reducible repeat (first | apply Kd.R_alloc | apply Kd.R_drewN | apply Kd.R_drew)); exact HO596.out))) (Kd.R_lt (by (with_reducible repeat (first | apply Kd.R_alloc | apply Kd.R_drewN | apply Kd.R_drew)); exact HO605.out))) (Kd.R_lt (by (with_reducible repeat (first | apply Kd.R_alloc | apply Kd.R_drewN | apply Kd.R_drew)); exact HO609.out))) (g := gb568) (o := .cells #[.int .i64 t564, .string t565, .string t566] 26 (0, 0)) (by (with_reducible repeat (first | refine blk_drewN ?_ _ | refine blk_drew ?_ | refine blk_alloc ?_ _)); exact BK568.out)) (below_size bwl_)); replace HO582 := Aside0.mk (Kd.R_mono (Kd.R_told (Kd.R_told (Kd.R_old (by (with_reducible repeat (first | apply Kd.R_alloc | apply Kd.R_drewN | apply Kd.R_drew)); exact HO582.out) hb) (Kd.R_base ho0)) (Kd.R_base ho1)) (fun _ h_ => h_.1)); replace HO586 := Aside0.mk (Kd.R_mono (Kd.R_told (Kd.R_told (Kd.R_old (by (with_reducible repeat (first | apply Kd.R_alloc | apply Kd.R_drewN | apply Kd.R_drew)); exact HO586.out) hb) (Kd.R_base ho0)) (Kd.R_base ho1)) (fun _ h_ => h_.1)); replace HO592 := Aside0.mk (Kd.R_mono (Kd.R_told (Kd.R_told (Kd.R_old (by (with_reducible repeat (first | apply Kd.R_alloc | apply Kd.R_drewN | apply Kd.R_drew)); exact HO592.out) hb) (Kd.R_base ho0)) (Kd.R_base ho1)) (fun _ h_ => h_.1)); replace HO596 := Aside0.mk (Kd.R_mono (Kd.R_told (Kd.R_told (Kd.R_old (by (with_reducible repeat (first | apply Kd.R_alloc | apply Kd.R_drewN | apply Kd.R_drew)); exact HO596.out) hb) (Kd.R_base ho0)) (Kd.R_base ho1)) (fun _ h_ => h_.1)); replace HO605 := Aside0.mk (Kd.R_mono (Kd.R_told (Kd.R_told (Kd.R_old (by (with_reducible repeat (first | apply Kd.R_alloc | apply Kd.R_drewN | apply Kd.R_drew)); exact HO605.out) hb) (Kd.R_base ho0)) (Kd.R_base ho1)) (fun _ h_ => h_.1)); replace HO609 := Aside0.mk (Kd.R_mono (Kd.R_told (Kd.R_told (Kd.R_old (by (with_reducible repeat (first | apply Kd.R_alloc | apply Kd.R_drewN | apply Kd.R_drew)); exact HO609.out) hb) (Kd.R_base ho0)) (Kd.R_base ho1)) (fun _ h_ => h_.1)); replace BK567 := bkb_ BK567 hb; replace BK568 := bkb_ BK568 hb; replace BK572 := bkb_ BK572 hb; replace BK576 := bkb_ BK576 hb; replace BK589 := bkb_ BK589 hb; replace BK602 := bkb_ BK602 hb; replace BK614 := bkb_ BK614 hb; replace HB := bst_ hb; clear hb ho0 ho1) | ((with_reducible refine gate_callee (f := 51) rfl ?_); refine gl_ (some 133) Tryd.func51 #[.slice A0 l0.length c0] ?_; (with_reducible refine (spec_DrawSumOf.calls k _ _ l0 t625 _ ?side1 ?side2 A21.out).mono ?_); (case side1 => repeat (first | exact (Kd.C_below HR0.out HB.out) | (with_reducible refine Kd.C_alloc ?_ _) | (with_reducible refine Kd.C_drewN ?_ _) | (with_reducible refine Kd.C_drew ?_))); (case side2 => exact HC0.out); rintro e w81 ⟨rfl, hb⟩; refine ⟨_, rfl, ?_⟩; replace HO582 := Aside0.mk (Kd.R_below (by (with_reducible repeat (first | apply Kd.R_alloc | apply Kd.R_drewN | apply Kd.R_drew)); exact HO582.out) hb); replace HO586 := Aside0.mk (Kd.R_below (by (with_reducible repeat (first | apply Kd.R_alloc | apply Kd.R_drewN | apply Kd.R_drew)); exact HO586.out) hb); replace HO592 := Aside0.mk (Kd.R_below (by (with_reducible repeat (first | apply Kd.R_alloc | apply Kd.R_drewN | apply Kd.R_drew)); exact HO592.out) hb); replace HO596 := Aside0.mk (Kd.R_below (by (with_reducible repeat (first | apply Kd.R_alloc | apply Kd.R_drewN | apply Kd.R_drew)); exact HO596.out) hb); replace HO605 := Aside0.mk (Kd.R_below (by (with_reducible repeat (first | apply Kd.R_alloc | apply Kd.R_drewN | apply Kd.R_drew)); exact HO605.out) hb); replace HO609 := Aside0.mk (Kd.R_below (by (with_reducible repeat (first | apply Kd.R_alloc | apply Kd.R_drewN | apply Kd.R_drew)); exact HO609.out) hb); replace HO622 := Aside0.mk (Kd.R_below (by (with_reducible repeat (first | apply Kd.R_alloc | apply Kd.R_drewN | apply Kd.R_drew)); exact HO622.out) hb); replace HO624 := Aside0.mk (Kd.R_below (by (with_reducible repeat (first | apply Kd.R_alloc | apply Kd.R_drewN | apply Kd.R_drew)); exact HO624.out) hb); replace BK567 := bkb_ BK567 hb; replace BK568 := bkb_ BK568 hb; replace BK572 := bkb_ BK572 hb; replace BK576 := bkb_ BK576 hb; replace BK589 := bkb_ BK589 hb; replace BK602 := bkb_ BK602 hb; replace BK614 := bkb_ BK614 hb; replace HB := bst_ hb; clear hb))
  (try simp only [Act.put, List.setIfInBounds_toArray, List.set_cons_zero, List.set_cons_succ])
  go_cut [213] (fun v213 wc => ∃ (kq : Nat) (x213_21 : Bool), v213 = .bool x213_21 ∧ Aside0 (laws_FnLogs.j0 kq t571 t577 t578 t583 t584 t600 t601 t607 x213_21 t562 t563 t564 t565 t566 t569 t570 = some r) ∧ Aside0 (kq ≤ k) ∧ Aside0 (Kd.R k26 26 wc w.heap.size (fun k_ => some k_ ≠ (v608 : Value).ownBlock ∧ k_ ≠ gb568) v585 t583) ∧ Aside0 (Kd.R k26 26 wc w.heap.size (fun k_ => some k_ ≠ (v585 : Value).ownBlock ∧ k_ ≠ gb568) v608 t607) ∧ Aside0 (wc.heap[gb567]? = some (.cells #[.string t562, .string t563] 32 (0, 0))) ∧ Aside0 (wc.heap[gb568]? = some (.cells #[.int .i64 t564, .string t565, .string t566] 26 (0, 0))) ∧ Aside0 (wc.heap[gb572]? = some (.cells #[.string t569, .string t570] 32 (0, 0))) ∧ Aside0 (wc.heap[gb576]? = some (.cells #[.string t573, .string t574] 32 (0, 0))) ∧ Aside0 (wc.heap[gb589]? = some (.cells #[.string t587, .string t588] 32 (0, 0))) ∧ Aside0 (wc.heap[gb602]? = some (.cells #[.string t598, .string t599] 32 (0, 0))) ∧ Aside0 (wc.heap[gb614]? = some (.cells #[.string t611, .string t612] 32 (0, 0))) ∧ Aside0 (Below w.heap.size w wc))
  case first => as_aux_lemma =>
   have H := HC22.out
   clear HC22
   by_cases c82 : t571 = t575
   ·rw [if_pos c82] at H
    have c82b0 : (t571 == t575) = true := beq_iff_eq.mpr c82
    have c82b1 : (t571 != t575) = false := bne_eq_false_iff_eq.mpr c82
    clear c82
    (first | rw [c82b0] | (simp only [i64_w, i32_w]; rw [c82b0]) | skip)
    by_cases c83 : (!(t569.toList == t573.toList) || (!(t570.toList == t574.toList))) = true
    ·rw [if_pos c83] at H
     exact absurd H (by simp)
    ·rw [if_neg c83] at H
     have c83b0 : (!(t569.toList == t573.toList) || (!(t570.toList == t574.toList))) = false := by simpa using c83
     clear c83
     replace H := Option.bind_eq_some_iff.mp H
     obtain ⟨t626, A850, H⟩ := H
     (try dsimp only at H)
     have A85 := Aside0.mk A850
     clear A850
     by_cases c86 : t577.toList = t626.toList
     ·rw [if_pos c86] at H
      have c86b0 : (t577.toList == t626.toList) = true := beq_iff_eq.mpr c86
      have c86b1 : (t577.toList != t626.toList) = false := bne_eq_false_iff_eq.mpr c86
      clear c86
      by_cases c87 : t580 = t584
      ·rw [if_pos c87] at H
       have c87b0 : (t580 == t584) = true := beq_iff_eq.mpr c87
       have c87b1 : (t580 != t584) = false := bne_eq_false_iff_eq.mpr c87
       clear c87
       replace H := Option.bind_eq_some_iff.mp H
       obtain ⟨t627, A880, H⟩ := H
       (try dsimp only at H)
       have A88 := Aside0.mk A880
       clear A880
       by_cases c89 : t627 = true
       ·subst c89
        rw [if_pos rfl] at H
        by_cases c90 : t593 = t597
        ·rw [if_pos c90] at H
         have c90b0 : (t593 == t597) = true := beq_iff_eq.mpr c90
         have c90b1 : (t593 != t597) = false := bne_eq_false_iff_eq.mpr c90
         clear c90
         replace H := Option.bind_eq_some_iff.mp H
         obtain ⟨t628, A910, H⟩ := H
         (try dsimp only at H)
         have A91 := Aside0.mk A910
         clear A910
         by_cases c92 : t628 = true
         ·subst c92
          rw [if_pos rfl] at H
          by_cases c93 : t606 = t610
          ·rw [if_pos c93] at H
           have c93b0 : (t606 == t610) = true := beq_iff_eq.mpr c93
           have c93b1 : (t606 != t610) = false := bne_eq_false_iff_eq.mpr c93
           clear c93
           replace H := Option.bind_eq_some_iff.mp H
           obtain ⟨t629, A940, H⟩ := H
           (try dsimp only at H)
           have A94 := Aside0.mk A940
           clear A940
           by_cases c95 : t629 = true
           ·subst c95
            rw [if_pos rfl] at H
            by_cases c96 : t616 = t618
            ·rw [if_pos c96] at H
             have c96b0 : (t616 == t618) = true := beq_iff_eq.mpr c96
             have c96b1 : (t616 != t618) = false := bne_eq_false_iff_eq.mpr c96
             clear c96
             by_cases c97 : t615 = t617
             ·rw [if_pos c97] at H
              have c97b0 : (t615 == t617) = true := beq_iff_eq.mpr c97
              have c97b1 : (t615 != t617) = false := bne_eq_false_iff_eq.mpr c97
              clear c97
              replace H := Option.bind_eq_some_iff.mp H
              obtain ⟨t630, A980, H⟩ := H
              (try dsimp only at H)
              have A98 := Aside0.mk A980
              clear A980
              replace H := Option.bind_eq_some_iff.mp H
              obtain ⟨t631, A990, H⟩ := H
              (try dsimp only at H)
              have A99 := Aside0.mk A990
              clear A990
              by_cases c100 : (t630 != t631) = true
              ·rw [if_pos c100] at H
               exact absurd H (by simp)
              ·rw [if_neg c100] at H
               have c100b0 : (t630 != t631) = false := by simpa using c100
               (try (have c100b1 : decide (t630 = t631) = true := by simpa using c100))
               (try (have c100b2 : (t630 == t631) = true := by simpa using c100))
               clear c100
               replace H := Option.bind_eq_some_iff.mp H
               obtain ⟨t632, A1110, H⟩ := H
               (try dsimp only at H)
               have A111 := Aside0.mk A1110
               clear A1110
               replace H := Option.bind_eq_some_iff.mp H
               obtain ⟨t633, A1120, H⟩ := H
               (try dsimp only at H)
               have A112 := Aside0.mk A1120
               clear A1120
               by_cases c113 : t632 = t633
               ·rw [if_pos c113] at H
                have c113b0 : (t632 == t633) = true := beq_iff_eq.mpr c113
                have c113b1 : (t632 != t633) = false := bne_eq_false_iff_eq.mpr c113
                clear c113
                replace H := Option.bind_eq_some_iff.mp H
                obtain ⟨t634, A1140, H⟩ := H
                (try dsimp only at H)
                have A114 := Aside0.mk A1140
                clear A1140
                replace H := Option.bind_eq_some_iff.mp H
                obtain ⟨t635, A1150, H⟩ := H
                (try dsimp only at H)
                have A115 := Aside0.mk A1150
                clear A1150
                have H' := Aside0.mk H
                clear H
                try go_wp2
                replace HO582 := Aside0.mk (Kd.R_drew HO582.out)
                replace HO586 := Aside0.mk (Kd.R_drew HO586.out)
                replace HO592 := Aside0.mk (Kd.R_drew HO592.out)
                replace HO596 := Aside0.mk (Kd.R_drew HO596.out)
                replace HO605 := Aside0.mk (Kd.R_drew HO605.out)
                replace HO609 := Aside0.mk (Kd.R_drew HO609.out)
                replace HO622 := Aside0.mk (Kd.R_drew HO622.out)
                replace HO624 := Aside0.mk (Kd.R_drew HO624.out)
                replace BK567 := Aside0.mk (blk_drew BK567.out)
                replace BK568 := Aside0.mk (blk_drew BK568.out)
                replace BK572 := Aside0.mk (blk_drew BK572.out)
                replace BK576 := Aside0.mk (blk_drew BK576.out)
                replace BK589 := Aside0.mk (blk_drew BK589.out)
                replace BK602 := Aside0.mk (blk_drew BK602.out)
                replace BK614 := Aside0.mk (blk_drew BK614.out)
                replace HB := Aside0.mk (below_drew1 HB.out)
                refine start_ (n := 80) (S := fun w' => w'.cell? ⟨gb572, 0, none⟩ = some (.string t569) ∧ w'.cell? ⟨gb572, 1, none⟩ = some (.string t570) ∧ w'.cell? ⟨gb576, 0, none⟩ = some (.string t573) ∧ w'.cell? ⟨gb576, 1, none⟩ = some (.string t574) ∧ w'.cell? ⟨gb568, 0, none⟩ = some (.int .i64 t564) ∧ w'.cell? ⟨gb568, 1, none⟩ = some (.string t565) ∧ w'.cell? ⟨gb568, 2, none⟩ = some (.string t566)) (ds := []) (fl 80 0) (by kernel_rfl) rfl rfl ⟨(blk_cell BK572.out 0).trans rfl, (blk_cell BK572.out 1).trans rfl, (blk_cell BK576.out 0).trans rfl, (blk_cell BK576.out 1).trans rfl, (blk_cell BK568.out 0).trans rfl, (blk_cell BK568.out 1).trans rfl, (blk_cell BK568.out 2).trans rfl⟩ (fun hHeld => ?_); refine with_tabW laws_FnLogs.tab21 laws_FnLogs.bits21 (fun HT_ HW_ => ?_)
                generalize w81.drew = w116 at HO582 HO586 HO592 HO596 HO605 HO609 HO622 HO624 BK567 BK568 BK572 BK576 BK589 BK602 BK614 HB hHeld ⊢
                refine pu_ (i := 0) (N := some 134) (fl 80 1) (any_of HT_.out (by kernel_rfl)) ?_
                refine pu_ (i := 1) (N := some 135) (fl 80 3) (any_of HT_.out (by kernel_rfl)) ?_
                refine pu_ (i := 2) (N := some 136) (fl 80 7) (any_of HT_.out (by kernel_rfl)) ?_
                refine pu_ (i := 3) (N := some 137) (fl 80 15) (any_of HT_.out (by kernel_rfl)) ?_
                refine take_ (i := 4) (N := some 138) (v := ?_) (a' := ?_) (fl 80 31) rfl rfl (take_ofW HT_.out HW_.out (by kernel_rfl)) (fun _ _ _ h => h) (Or.inl ⟨by rfl, ?_⟩) hHeld ?_ ?_
                rotate_left
                ·rintro w' ⟨s0, s1, s2, s3, s4, s5, s6⟩
                 go_simp
                 with_reducible rfl
                rotate_left
                ·simp only [Act.put, List.setIfInBounds_toArray, List.set_cons_zero, List.set_cons_succ, i64_w, i32_w]
                 rfl
                refine take_ (i := 5) (N := some 139) (v := ?_) (a' := ?_) (fl 80 63) rfl rfl (take_ofW HT_.out HW_.out (by kernel_rfl)) (fun _ _ _ h => h) (Or.inl ⟨by rfl, ?_⟩) hHeld ?_ ?_
                rotate_left
                ·rintro w' ⟨s0, s1, s2, s3, s4, s5, s6⟩
                 go_simp
                 with_reducible rfl
                rotate_left
                ·simp only [Act.put, List.setIfInBounds_toArray, List.set_cons_zero, List.set_cons_succ, i64_w, i32_w]
                 rfl
                refine pu_ (i := 6) (N := some 140) (fl 80 127) (any_of HT_.out (by kernel_rfl)) ?_
                refine pu_ (i := 7) (N := some 141) (fl 80 255) (any_of HT_.out (by kernel_rfl)) ?_
                refine pu_ (i := 8) (N := some 142) (fl 80 511) (any_of HT_.out (by kernel_rfl)) ?_
                refine pu_ (i := 9) (N := some 143) (fl 80 1023) (any_of HT_.out (by kernel_rfl)) ?_
                refine take_ (i := 10) (N := some 144) (v := ?_) (a' := ?_) (fl 80 2047) rfl rfl (take_ofW HT_.out HW_.out (by kernel_rfl)) (fun _ _ _ h => h) (Or.inl ⟨by rfl, ?_⟩) hHeld ?_ ?_
                rotate_left
                ·rintro w' ⟨s0, s1, s2, s3, s4, s5, s6⟩
                 go_simp
                 with_reducible rfl
                rotate_left
                ·simp only [Act.put, List.setIfInBounds_toArray, List.set_cons_zero, List.set_cons_succ, i64_w, i32_w]
                 rfl
                refine one_ (i := 11) (N := some 145) (fl 80 4095) rfl rfl (one_of HT_.out (by kernel_rfl)) (by decide) (fun K hK => ?_)
                refine goes_ Tryd.func15 (by kernel_rfl) rfl #[.agg #[.int .i64 t564, .string t565, .string t566]] (by rfl) rfl rfl (by (try simp only [List.map_toArray, List.map_cons, List.map_nil]); first | done | rfl | (simp only [List.length_drop, List.length_take]; rfl) | (simp only [ByteArray.size_append, Int.natCast_add]; rfl)) ?_
                with_reducible refine (spec_FrameOf.calls k t564 t565 t566 t626 _ A85.out).mono ?_
                rintro e w117 ⟨rfl, hb⟩
                refine ⟨_, rfl, ?_⟩
                replace HO582 := Aside0.mk (Kd.R_below (by (with_reducible repeat (first | apply Kd.R_alloc | apply Kd.R_drewN | apply Kd.R_drew)); exact HO582.out) hb)
                replace HO586 := Aside0.mk (Kd.R_below (by (with_reducible repeat (first | apply Kd.R_alloc | apply Kd.R_drewN | apply Kd.R_drew)); exact HO586.out) hb)
                replace HO592 := Aside0.mk (Kd.R_below (by (with_reducible repeat (first | apply Kd.R_alloc | apply Kd.R_drewN | apply Kd.R_drew)); exact HO592.out) hb)
                replace HO596 := Aside0.mk (Kd.R_below (by (with_reducible repeat (first | apply Kd.R_alloc | apply Kd.R_drewN | apply Kd.R_drew)); exact HO596.out) hb)
                replace HO605 := Aside0.mk (Kd.R_below (by (with_reducible repeat (first | apply Kd.R_alloc | apply Kd.R_drewN | apply Kd.R_drew)); exact HO605.out) hb)
                replace HO609 := Aside0.mk (Kd.R_below (by (with_reducible repeat (first | apply Kd.R_alloc | apply Kd.R_drewN | apply Kd.R_drew)); exact HO609.out) hb)
                replace HO622 := Aside0.mk (Kd.R_below (by (with_reducible repeat (first | apply Kd.R_alloc | apply Kd.R_drewN | apply Kd.R_drew)); exact HO622.out) hb)
                replace HO624 := Aside0.mk (Kd.R_below (by (with_reducible repeat (first | apply Kd.R_alloc | apply Kd.R_drewN | apply Kd.R_drew)); exact HO624.out) hb)
                replace BK567 := bkb_ BK567 hb
                replace BK568 := bkb_ BK568 hb
                replace BK572 := bkb_ BK572 hb
                replace BK576 := bkb_ BK576 hb
                replace BK589 := bkb_ BK589 hb
                replace BK602 := bkb_ BK602 hb
                replace BK614 := bkb_ BK614 hb
                replace HB := bst_ hb
                (try clear hb);(try clear hb2);(try clear hk);(try clear hi)
                obtain ⟨Ao118, co118, eo118⟩ := Kd.R_slice HO582.out
                (first | subst eo118 | (injection eo118 with f1_ f2_ f3_; have f4_ := f1_.symm; have f5_ := f3_.symm; clear f1_ f2_ f3_; subst f4_; subst f5_))
                obtain ⟨Ao119, co119, eo119⟩ := Kd.R_slice HO586.out
                (first | subst eo119 | (injection eo119 with f1_ f2_ f3_; have f4_ := f1_.symm; have f5_ := f3_.symm; clear f1_ f2_ f3_; subst f4_; subst f5_))
                refine hK.out _ _ ⟨(blk_cell BK572.out 0).trans rfl, (blk_cell BK572.out 1).trans rfl, (blk_cell BK576.out 0).trans rfl, (blk_cell BK576.out 1).trans rfl, (blk_cell BK568.out 0).trans rfl, (blk_cell BK568.out 1).trans rfl, (blk_cell BK568.out 2).trans rfl⟩ (fun hHeld => ?_)
                clear hK K
                refine norm_ (a' := ?_) ?_ ?_
                rotate_left
                ·show Act.put _ (some 145) _ = _
                 simp only [Act.put, List.setIfInBounds_toArray, List.set_cons_zero, List.set_cons_succ, i64_w, i32_w]
                 rfl
                refine pu_ (i := 12) (N := some 146) (fl 80 8191) (any_of HT_.out (by kernel_rfl)) ?_
                refine pu_ (i := 13) (N := some 147) (fl 80 16383) (any_of HT_.out (by kernel_rfl)) ?_
                refine pu_ (i := 14) (N := some 148) (fl 80 32767) (any_of HT_.out (by kernel_rfl)) ?_
                refine pu_ (i := 15) (N := some 149) (fl 80 65535) (any_of HT_.out (by kernel_rfl)) ?_
                refine pu_ (i := 16) (N := some 150) (fl 80 131071) (any_of HT_.out (by kernel_rfl)) ?_
                refine pu_ (i := 17) (N := some 151) (fl 80 262143) (any_of HT_.out (by kernel_rfl)) ?_
                refine pu_ (i := 18) (N := some 152) (fl 80 524287) (any_of HT_.out (by kernel_rfl)) ?_
                refine pu_ (i := 19) (N := some 153) (fl 80 1048575) (any_of HT_.out (by kernel_rfl)) ?_
                refine pu_ (i := 20) (N := some 154) (fl 80 2097151) (any_of HT_.out (by kernel_rfl)) ?_
                refine pu_ (i := 21) (N := some 155) (fl 80 4194303) (any_of HT_.out (by kernel_rfl)) ?_
                refine one_ (i := 22) (N := some 156) (fl 80 8388607) rfl rfl (one_of HT_.out (by kernel_rfl)) (by decide) (fun K hK => ?_)
                refine goes_ Tryd.func44 (by kernel_rfl) rfl #[.slice Ao118 t579.length co118, .slice Ao119 t583.length co119] (by rfl) rfl rfl (by (try simp only [List.map_toArray, List.map_cons, List.map_nil]); first | done | rfl | (simp only [List.length_drop, List.length_take]; rfl) | (simp only [ByteArray.size_append, Int.natCast_add]; rfl)) ?_
                with_reducible refine (spec_SameEntries.calls k _ _ t579 _ _ t583 true _ ?side1 ?side2 ?side3 ?side4 A88.out).mono ?_
                (case side1 => repeat (first | exact (Kd.R_reads' HO582.out).2.2 | (with_reducible refine Kd.C_alloc ?_ _) | (with_reducible refine Kd.C_drewN ?_ _) | (with_reducible refine Kd.C_drew ?_)))
                (case side2 => exact (Kd.R_reads' HO582.out).2.1)
                (case side3 => repeat (first | exact (Kd.R_reads' HO586.out).2.2 | (with_reducible refine Kd.C_alloc ?_ _) | (with_reducible refine Kd.C_drewN ?_ _) | (with_reducible refine Kd.C_drew ?_)))
                (case side4 => exact (Kd.R_reads' HO586.out).2.1)
                rintro e w' ⟨rfl, ⟨nd, rfl⟩⟩
                refine ⟨_, rfl, ?_⟩
                obtain ⟨Ao120, co120, eo120⟩ := Kd.R_slice HO592.out
                (first | subst eo120 | (injection eo120 with f1_ f2_ f3_; have f4_ := f1_.symm; have f5_ := f3_.symm; clear f1_ f2_ f3_; subst f4_; subst f5_))
                obtain ⟨Ao121, co121, eo121⟩ := Kd.R_slice HO596.out
                (first | subst eo121 | (injection eo121 with f1_ f2_ f3_; have f4_ := f1_.symm; have f5_ := f3_.symm; clear f1_ f2_ f3_; subst f4_; subst f5_))
                refine hK.out _ _ ⟨(blk_cell BK572.out 0).trans rfl, (blk_cell BK572.out 1).trans rfl, (blk_cell BK576.out 0).trans rfl, (blk_cell BK576.out 1).trans rfl, (blk_cell BK568.out 0).trans rfl, (blk_cell BK568.out 1).trans rfl, (blk_cell BK568.out 2).trans rfl⟩ (fun hHeld => ?_)
                clear hK K
                refine norm_ (a' := ?_) ?_ ?_
                rotate_left
                ·show Act.put _ (some 156) _ = _
                 simp only [Act.put, List.setIfInBounds_toArray, List.set_cons_zero, List.set_cons_succ, i64_w, i32_w]
                 rfl
                refine pu_ (i := 23) (N := some 157) (fl 80 16777215) (any_of HT_.out (by kernel_rfl)) ?_
                refine pu_ (i := 24) (N := some 158) (fl 80 33554431) (any_of HT_.out (by kernel_rfl)) ?_
                refine pu_ (i := 25) (N := some 159) (fl 80 67108863) (any_of HT_.out (by kernel_rfl)) ?_
                refine pu_ (i := 26) (N := some 160) (fl 80 134217727) (any_of HT_.out (by kernel_rfl)) ?_
                refine pu_ (i := 27) (N := some 161) (fl 80 268435455) (any_of HT_.out (by kernel_rfl)) ?_
                refine pu_ (i := 28) (N := some 162) (fl 80 536870911) (any_of HT_.out (by kernel_rfl)) ?_
                refine pu_ (i := 29) (N := some 163) (fl 80 1073741823) (any_of HT_.out (by kernel_rfl)) ?_
                refine pu_ (i := 30) (N := some 164) (fl 80 2147483647) (any_of HT_.out (by kernel_rfl)) ?_
                refine pu_ (i := 31) (N := some 165) (fl 80 4294967295) (any_of HT_.out (by kernel_rfl)) ?_
                refine pu_ (i := 32) (N := some 166) (fl 80 8589934591) (any_of HT_.out (by kernel_rfl)) ?_
                refine one_ (i := 33) (N := some 167) (fl 80 17179869183) rfl rfl (one_of HT_.out (by kernel_rfl)) (by decide) (fun K hK => ?_)
                refine goes_ Tryd.func44 (by kernel_rfl) rfl #[.slice Ao120 t590.length co120, .slice Ao121 t594.length co121] (by rfl) rfl rfl (by (try simp only [List.map_toArray, List.map_cons, List.map_nil]); first | done | rfl | (simp only [List.length_drop, List.length_take]; rfl) | (simp only [ByteArray.size_append, Int.natCast_add]; rfl)) ?_
                with_reducible refine (spec_SameEntries.calls k _ _ t590 _ _ t594 true _ ?side1 ?side2 ?side3 ?side4 A91.out).mono ?_
                (case side1 => repeat (first | exact (Kd.R_reads' HO592.out).2.2 | (with_reducible refine Kd.C_alloc ?_ _) | (with_reducible refine Kd.C_drewN ?_ _) | (with_reducible refine Kd.C_drew ?_)))
                (case side2 => exact (Kd.R_reads' HO592.out).2.1)
                (case side3 => repeat (first | exact (Kd.R_reads' HO596.out).2.2 | (with_reducible refine Kd.C_alloc ?_ _) | (with_reducible refine Kd.C_drewN ?_ _) | (with_reducible refine Kd.C_drew ?_)))
                (case side4 => exact (Kd.R_reads' HO596.out).2.1)
                rintro e w' ⟨rfl, ⟨nd, rfl⟩⟩
                refine ⟨_, rfl, ?_⟩
                obtain ⟨Ao122, co122, eo122⟩ := Kd.R_slice HO605.out
                (first | subst eo122 | (injection eo122 with f1_ f2_ f3_; have f4_ := f1_.symm; have f5_ := f3_.symm; clear f1_ f2_ f3_; subst f4_; subst f5_))
                obtain ⟨Ao123, co123, eo123⟩ := Kd.R_slice HO609.out
                (first | subst eo123 | (injection eo123 with f1_ f2_ f3_; have f4_ := f1_.symm; have f5_ := f3_.symm; clear f1_ f2_ f3_; subst f4_; subst f5_))
                refine hK.out _ _ ⟨(blk_cell BK572.out 0).trans rfl, (blk_cell BK572.out 1).trans rfl, (blk_cell BK576.out 0).trans rfl, (blk_cell BK576.out 1).trans rfl, (blk_cell BK568.out 0).trans rfl, (blk_cell BK568.out 1).trans rfl, (blk_cell BK568.out 2).trans rfl⟩ (fun hHeld => ?_)
                clear hK K
                refine norm_ (a' := ?_) ?_ ?_
                rotate_left
                ·show Act.put _ (some 167) _ = _
                 simp only [Act.put, List.setIfInBounds_toArray, List.set_cons_zero, List.set_cons_succ, i64_w, i32_w]
                 rfl
                refine pu_ (i := 34) (N := some 168) (fl 80 34359738367) (any_of HT_.out (by kernel_rfl)) ?_
                refine pu_ (i := 35) (N := some 169) (fl 80 68719476735) (any_of HT_.out (by kernel_rfl)) ?_
                refine pu_ (i := 36) (N := some 170) (fl 80 137438953471) (any_of HT_.out (by kernel_rfl)) ?_
                refine pu_ (i := 37) (N := some 171) (fl 80 274877906943) (any_of HT_.out (by kernel_rfl)) ?_
                refine pu_ (i := 38) (N := some 172) (fl 80 549755813887) (any_of HT_.out (by kernel_rfl)) ?_
                refine pu_ (i := 39) (N := some 173) (fl 80 1099511627775) (any_of HT_.out (by kernel_rfl)) ?_
                refine pu_ (i := 40) (N := some 174) (fl 80 2199023255551) (any_of HT_.out (by kernel_rfl)) ?_
                refine pu_ (i := 41) (N := some 175) (fl 80 4398046511103) (any_of HT_.out (by kernel_rfl)) ?_
                refine pu_ (i := 42) (N := some 176) (fl 80 8796093022207) (any_of HT_.out (by kernel_rfl)) ?_
                refine pu_ (i := 43) (N := some 177) (fl 80 17592186044415) (any_of HT_.out (by kernel_rfl)) ?_
                refine one_ (i := 44) (N := some 178) (fl 80 35184372088831) rfl rfl (one_of HT_.out (by kernel_rfl)) (by decide) (fun K hK => ?_)
                refine goes_ Tryd.func44 (by kernel_rfl) rfl #[.slice Ao122 t603.length co122, .slice Ao123 t607.length co123] (by rfl) rfl rfl (by (try simp only [List.map_toArray, List.map_cons, List.map_nil]); first | done | rfl | (simp only [List.length_drop, List.length_take]; rfl) | (simp only [ByteArray.size_append, Int.natCast_add]; rfl)) ?_
                with_reducible refine (spec_SameEntries.calls k _ _ t603 _ _ t607 true _ ?side1 ?side2 ?side3 ?side4 A94.out).mono ?_
                (case side1 => repeat (first | exact (Kd.R_reads' HO605.out).2.2 | (with_reducible refine Kd.C_alloc ?_ _) | (with_reducible refine Kd.C_drewN ?_ _) | (with_reducible refine Kd.C_drew ?_)))
                (case side2 => exact (Kd.R_reads' HO605.out).2.1)
                (case side3 => repeat (first | exact (Kd.R_reads' HO609.out).2.2 | (with_reducible refine Kd.C_alloc ?_ _) | (with_reducible refine Kd.C_drewN ?_ _) | (with_reducible refine Kd.C_drew ?_)))
                (case side4 => exact (Kd.R_reads' HO609.out).2.1)
                rintro e w' ⟨rfl, ⟨nd, rfl⟩⟩
                refine ⟨_, rfl, ?_⟩
                obtain ⟨Ao124, co124, eo124⟩ := Kd.R_slice HO622.out
                (first | subst eo124 | (injection eo124 with f1_ f2_ f3_; have f4_ := f1_.symm; have f5_ := f3_.symm; clear f1_ f2_ f3_; subst f4_; subst f5_))
                obtain ⟨Ao125, co125, eo125⟩ := Kd.R_slice HO624.out
                (first | subst eo125 | (injection eo125 with f1_ f2_ f3_; have f4_ := f1_.symm; have f5_ := f3_.symm; clear f1_ f2_ f3_; subst f4_; subst f5_))
                refine hK.out _ _ ⟨(blk_cell BK572.out 0).trans rfl, (blk_cell BK572.out 1).trans rfl, (blk_cell BK576.out 0).trans rfl, (blk_cell BK576.out 1).trans rfl, (blk_cell BK568.out 0).trans rfl, (blk_cell BK568.out 1).trans rfl, (blk_cell BK568.out 2).trans rfl⟩ (fun hHeld => ?_)
                clear hK K
                refine norm_ (a' := ?_) ?_ ?_
                rotate_left
                ·show Act.put _ (some 178) _ = _
                 simp only [Act.put, List.setIfInBounds_toArray, List.set_cons_zero, List.set_cons_succ, i64_w, i32_w]
                 rfl
                refine pu_ (i := 45) (N := some 179) (fl 80 70368744177663) (any_of HT_.out (by kernel_rfl)) ?_
                refine pu_ (i := 46) (N := some 180) (fl 80 140737488355327) (any_of HT_.out (by kernel_rfl)) ?_
                refine pu_ (i := 47) (N := some 181) (fl 80 281474976710655) (any_of HT_.out (by kernel_rfl)) ?_
                refine pu_ (i := 48) (N := some 182) (fl 80 562949953421311) (any_of HT_.out (by kernel_rfl)) ?_
                refine pu_ (i := 49) (N := some 183) (fl 80 1125899906842623) (any_of HT_.out (by kernel_rfl)) ?_
                refine pu_ (i := 50) (N := some 184) (fl 80 2251799813685247) (any_of HT_.out (by kernel_rfl)) ?_
                refine pu_ (i := 51) (N := some 185) (fl 80 4503599627370495) (any_of HT_.out (by kernel_rfl)) ?_
                refine pu_ (i := 52) (N := some 186) (fl 80 9007199254740991) (any_of HT_.out (by kernel_rfl)) ?_
                refine pu_ (i := 53) (N := some 187) (fl 80 18014398509481983) (any_of HT_.out (by kernel_rfl)) ?_
                refine pu_ (i := 54) (N := some 188) (fl 80 36028797018963967) (any_of HT_.out (by kernel_rfl)) ?_
                refine pu_ (i := 55) (N := some 189) (fl 80 72057594037927935) (any_of HT_.out (by kernel_rfl)) ?_
                refine pu_ (i := 56) (N := some 190) (fl 80 144115188075855871) (any_of HT_.out (by kernel_rfl)) ?_
                refine pu_ (i := 57) (N := some 191) (fl 80 288230376151711743) (any_of HT_.out (by kernel_rfl)) ?_
                refine pu_ (i := 58) (N := some 192) (fl 80 576460752303423487) (any_of HT_.out (by kernel_rfl)) ?_
                refine pu_ (i := 59) (N := some 193) (fl 80 1152921504606846975) (any_of HT_.out (by kernel_rfl)) ?_
                refine pu_ (i := 61) (N := some 195) (fl 80 3458764513820540927) (any_of HT_.out (by kernel_rfl)) ?_
                refine pu_ (i := 62) (N := some 196) (fl 80 8070450532247928831) (any_of HT_.out (by kernel_rfl)) ?_
                refine one_ (i := 60) (N := some 194) (fl 80 9223372036854775807) rfl rfl (one_of HT_.out (by kernel_rfl)) (by decide) (fun K hK => ?_)
                refine goes_ Tryd.func52 (by kernel_rfl) rfl #[.slice Ao124 t619.length co124, .slice Ao125 t620.length co125] (by rfl) rfl rfl (by (try simp only [List.map_toArray, List.map_cons, List.map_nil]); first | done | rfl | (simp only [List.length_drop, List.length_take]; rfl) | (simp only [ByteArray.size_append, Int.natCast_add]; rfl)) ?_
                with_reducible refine (impl_SameEntries.calls k _ _ t619 _ _ t620 t630 _ ?side1 ?side2 ?side3 ?side4 A98.out).mono ?_
                (case side1 => repeat (first | exact (Kd.R_reads' HO622.out).2.2 | (with_reducible refine Kd.C_alloc ?_ _) | (with_reducible refine Kd.C_drewN ?_ _) | (with_reducible refine Kd.C_drew ?_)))
                (case side2 => exact (Kd.R_reads' HO622.out).2.1)
                (case side3 => repeat (first | exact (Kd.R_reads' HO624.out).2.2 | (with_reducible refine Kd.C_alloc ?_ _) | (with_reducible refine Kd.C_drewN ?_ _) | (with_reducible refine Kd.C_drew ?_)))
                (case side4 => exact (Kd.R_reads' HO624.out).2.1)
                rintro e w' ⟨rfl, ⟨nd, rfl⟩⟩
                refine ⟨_, rfl, ?_⟩
                refine hK.out _ _ ⟨(blk_cell BK572.out 0).trans rfl, (blk_cell BK572.out 1).trans rfl, (blk_cell BK576.out 0).trans rfl, (blk_cell BK576.out 1).trans rfl, (blk_cell BK568.out 0).trans rfl, (blk_cell BK568.out 1).trans rfl, (blk_cell BK568.out 2).trans rfl⟩ (fun hHeld => ?_)
                clear hK K
                refine norm_ (a' := ?_) ?_ ?_
                rotate_left
                ·show Act.put _ (some 194) _ = _
                 simp only [Act.put, List.setIfInBounds_toArray, List.set_cons_zero, List.set_cons_succ, i64_w, i32_w]
                 rfl
                refine one_ (i := 63) (N := some 197) (fl 80 18446744073709551615) rfl rfl (one_of HT_.out (by kernel_rfl)) (by decide) (fun K hK => ?_)
                refine goes_ Tryd.func44 (by kernel_rfl) rfl #[.slice Ao124 t619.length co124, .slice Ao125 t620.length co125] (by rfl) rfl rfl (by (try simp only [List.map_toArray, List.map_cons, List.map_nil]); first | done | rfl | (simp only [List.length_drop, List.length_take]; rfl) | (simp only [ByteArray.size_append, Int.natCast_add]; rfl)) ?_
                with_reducible refine (spec_SameEntries.calls k _ _ t619 _ _ t620 t631 _ ?side1 ?side2 ?side3 ?side4 A99.out).mono ?_
                (case side1 => repeat (first | exact (Kd.R_reads' HO622.out).2.2 | (with_reducible refine Kd.C_alloc ?_ _) | (with_reducible refine Kd.C_drewN ?_ _) | (with_reducible refine Kd.C_drew ?_)))
                (case side2 => exact (Kd.R_reads' HO622.out).2.1)
                (case side3 => repeat (first | exact (Kd.R_reads' HO624.out).2.2 | (with_reducible refine Kd.C_alloc ?_ _) | (with_reducible refine Kd.C_drewN ?_ _) | (with_reducible refine Kd.C_drew ?_)))
                (case side4 => exact (Kd.R_reads' HO624.out).2.1)
                rintro e w' ⟨rfl, ⟨nd, rfl⟩⟩
                refine ⟨_, rfl, ?_⟩
                refine hK.out _ _ ⟨(blk_cell BK572.out 0).trans rfl, (blk_cell BK572.out 1).trans rfl, (blk_cell BK576.out 0).trans rfl, (blk_cell BK576.out 1).trans rfl, (blk_cell BK568.out 0).trans rfl, (blk_cell BK568.out 1).trans rfl, (blk_cell BK568.out 2).trans rfl⟩ (fun hHeld => ?_)
                clear hK K
                refine norm_ (a' := ?_) ?_ ?_
                rotate_left
                ·show Act.put _ (some 197) _ = _
                 simp only [Act.put, List.setIfInBounds_toArray, List.set_cons_zero, List.set_cons_succ, i64_w, i32_w]
                 rfl
                refine pu_ (i := 64) (N := some 198) (fl 80 36893488147419103231) (any_of HT_.out (by kernel_rfl)) ?_
                refine pu_ (i := 65) (N := some 199) (fl 80 73786976294838206463) (any_of HT_.out (by kernel_rfl)) ?_
                refine pu_ (i := 66) (N := some 200) (fl 80 147573952589676412927) (any_of HT_.out (by kernel_rfl)) ?_
                refine pu_ (i := 67) (N := some 201) (fl 80 295147905179352825855) (any_of HT_.out (by kernel_rfl)) ?_
                refine pu_ (i := 69) (N := some 203) (fl 80 885443715538058477567) (any_of HT_.out (by kernel_rfl)) ?_
                refine one_ (i := 68) (N := some 202) (fl 80 1180591620717411303423) rfl rfl (one_of HT_.out (by kernel_rfl)) (by decide) (fun K hK => ?_)
                refine goes_ Tryd.func53 (by kernel_rfl) rfl #[.string t625] (by rfl) rfl rfl (by (try simp only [List.map_toArray, List.map_cons, List.map_nil]); first | done | rfl | (simp only [List.length_drop, List.length_take]; rfl) | (simp only [ByteArray.size_append, Int.natCast_add]; rfl)) ?_
                with_reducible refine (impl_SumOf.calls k t625 t632 _ A111.out).mono ?_
                rintro e w' ⟨rfl, ⟨nd, rfl⟩⟩
                refine ⟨_, rfl, ?_⟩
                refine hK.out _ _ ⟨(blk_cell BK572.out 0).trans rfl, (blk_cell BK572.out 1).trans rfl, (blk_cell BK576.out 0).trans rfl, (blk_cell BK576.out 1).trans rfl, (blk_cell BK568.out 0).trans rfl, (blk_cell BK568.out 1).trans rfl, (blk_cell BK568.out 2).trans rfl⟩ (fun hHeld => ?_)
                clear hK K
                refine norm_ (a' := ?_) ?_ ?_
                rotate_left
                ·show Act.put _ (some 202) _ = _
                 simp only [Act.put, List.setIfInBounds_toArray, List.set_cons_zero, List.set_cons_succ, i64_w, i32_w]
                 rfl
                refine one_ (i := 70) (N := some 204) (fl 80 2361183241434822606847) rfl rfl (one_of HT_.out (by kernel_rfl)) (by decide) (fun K hK => ?_)
                refine goes_ Tryd.func54 (by kernel_rfl) rfl #[.string t625] (by rfl) rfl rfl (by (try simp only [List.map_toArray, List.map_cons, List.map_nil]); first | done | rfl | (simp only [List.length_drop, List.length_take]; rfl) | (simp only [ByteArray.size_append, Int.natCast_add]; rfl)) ?_
                with_reducible refine (spec_SumOf.calls k t625 t633 _ A112.out).mono ?_
                rintro e w' ⟨rfl, ⟨nd, rfl⟩⟩
                refine ⟨_, rfl, ?_⟩
                refine hK.out _ _ ⟨(blk_cell BK572.out 0).trans rfl, (blk_cell BK572.out 1).trans rfl, (blk_cell BK576.out 0).trans rfl, (blk_cell BK576.out 1).trans rfl, (blk_cell BK568.out 0).trans rfl, (blk_cell BK568.out 1).trans rfl, (blk_cell BK568.out 2).trans rfl⟩ (fun hHeld => ?_)
                clear hK K
                refine norm_ (a' := ?_) ?_ ?_
                rotate_left
                ·show Act.put _ (some 204) _ = _
                 simp only [Act.put, List.setIfInBounds_toArray, List.set_cons_zero, List.set_cons_succ, i64_w, i32_w]
                 rfl
                refine pu_ (i := 71) (N := some 205) (fl 80 4722366482869645213695) (any_of HT_.out (by kernel_rfl)) ?_
                refine pu_ (i := 72) (N := some 206) (fl 80 9444732965739290427391) (any_of HT_.out (by kernel_rfl)) ?_
                refine pu_ (i := 73) (N := some 207) (fl 80 18889465931478580854783) (any_of HT_.out (by kernel_rfl)) ?_
                refine take_ (i := 74) (N := some 208) (v := ?_) (a' := ?_) (fl 80 37778931862957161709567) rfl rfl (take_ofW HT_.out HW_.out (by kernel_rfl)) (fun _ _ _ h => h) (Or.inl ⟨by rfl, ?_⟩) hHeld ?_ ?_
                rotate_left
                ·rintro w' ⟨s0, s1, s2, s3, s4, s5, s6⟩
                 go_simp
                 with_reducible rfl
                rotate_left
                ·simp only [Act.put, List.setIfInBounds_toArray, List.set_cons_zero, List.set_cons_succ, i64_w, i32_w]
                 rfl
                refine take_ (i := 76) (N := some 210) (v := ?_) (a' := ?_) (fl 80 113336795588871485128703) rfl rfl (take_ofW HT_.out HW_.out (by kernel_rfl)) (fun _ _ _ h => h) (Or.inl ⟨by rfl, ?_⟩) hHeld ?_ ?_
                rotate_left
                ·rintro w' ⟨s0, s1, s2, s3, s4, s5, s6⟩
                 go_simp
                 with_reducible rfl
                rotate_left
                ·simp only [Act.put, List.setIfInBounds_toArray, List.set_cons_zero, List.set_cons_succ, i64_w, i32_w]
                 rfl
                refine one_ (i := 75) (N := some 209) (fl 80 151115727451828646838271) rfl rfl (one_of HT_.out (by kernel_rfl)) (by decide) (fun K hK => ?_)
                refine goes_ Tryd.func55 (by kernel_rfl) rfl #[.agg #[.int .i64 t564, .string t565, .string t566]] (by rfl) rfl rfl (by (try simp only [List.map_toArray, List.map_cons, List.map_nil]); first | done | rfl | (simp only [List.length_drop, List.length_take]; rfl) | (simp only [ByteArray.size_append, Int.natCast_add]; rfl)) ?_
                with_reducible refine (impl_ValidEntry.calls k t564 t565 t566 t634 _ A114.out).mono ?_
                rintro e w126 ⟨rfl, hb⟩
                refine ⟨_, rfl, ?_⟩
                replace HO582 := Aside0.mk (Kd.R_below (by (with_reducible repeat (first | apply Kd.R_alloc | apply Kd.R_drewN | apply Kd.R_drew)); exact HO582.out) hb)
                replace HO586 := Aside0.mk (Kd.R_below (by (with_reducible repeat (first | apply Kd.R_alloc | apply Kd.R_drewN | apply Kd.R_drew)); exact HO586.out) hb)
                replace HO592 := Aside0.mk (Kd.R_below (by (with_reducible repeat (first | apply Kd.R_alloc | apply Kd.R_drewN | apply Kd.R_drew)); exact HO592.out) hb)
                replace HO596 := Aside0.mk (Kd.R_below (by (with_reducible repeat (first | apply Kd.R_alloc | apply Kd.R_drewN | apply Kd.R_drew)); exact HO596.out) hb)
                replace HO605 := Aside0.mk (Kd.R_below (by (with_reducible repeat (first | apply Kd.R_alloc | apply Kd.R_drewN | apply Kd.R_drew)); exact HO605.out) hb)
                replace HO609 := Aside0.mk (Kd.R_below (by (with_reducible repeat (first | apply Kd.R_alloc | apply Kd.R_drewN | apply Kd.R_drew)); exact HO609.out) hb)
                replace HO622 := Aside0.mk (Kd.R_below (by (with_reducible repeat (first | apply Kd.R_alloc | apply Kd.R_drewN | apply Kd.R_drew)); exact HO622.out) hb)
                replace HO624 := Aside0.mk (Kd.R_below (by (with_reducible repeat (first | apply Kd.R_alloc | apply Kd.R_drewN | apply Kd.R_drew)); exact HO624.out) hb)
                replace BK567 := bkb_ BK567 hb
                replace BK568 := bkb_ BK568 hb
                replace BK572 := bkb_ BK572 hb
                replace BK576 := bkb_ BK576 hb
                replace BK589 := bkb_ BK589 hb
                replace BK602 := bkb_ BK602 hb
                replace BK614 := bkb_ BK614 hb
                replace HB := bst_ hb
                (try clear hb);(try clear hb2);(try clear hk);(try clear hi)
                refine hK.out _ _ ⟨(blk_cell BK572.out 0).trans rfl, (blk_cell BK572.out 1).trans rfl, (blk_cell BK576.out 0).trans rfl, (blk_cell BK576.out 1).trans rfl, (blk_cell BK568.out 0).trans rfl, (blk_cell BK568.out 1).trans rfl, (blk_cell BK568.out 2).trans rfl⟩ (fun hHeld => ?_)
                clear hK K
                refine norm_ (a' := ?_) ?_ ?_
                rotate_left
                ·show Act.put _ (some 209) _ = _
                 simp only [Act.put, List.setIfInBounds_toArray, List.set_cons_zero, List.set_cons_succ, i64_w, i32_w]
                 rfl
                refine one_ (i := 77) (N := some 211) (fl 80 302231454903657293676543) rfl rfl (one_of HT_.out (by kernel_rfl)) (by decide) (fun K hK => ?_)
                refine goes_ Tryd.func56 (by kernel_rfl) rfl #[.agg #[.int .i64 t564, .string t565, .string t566]] (by rfl) rfl rfl (by (try simp only [List.map_toArray, List.map_cons, List.map_nil]); first | done | rfl | (simp only [List.length_drop, List.length_take]; rfl) | (simp only [ByteArray.size_append, Int.natCast_add]; rfl)) ?_
                with_reducible refine (spec_ValidEntry.calls k t564 t565 t566 t635 _ A115.out).mono ?_
                rintro e w127 ⟨rfl, hb⟩
                refine ⟨_, rfl, ?_⟩
                replace HO582 := Aside0.mk (Kd.R_below (by (with_reducible repeat (first | apply Kd.R_alloc | apply Kd.R_drewN | apply Kd.R_drew)); exact HO582.out) hb)
                replace HO586 := Aside0.mk (Kd.R_below (by (with_reducible repeat (first | apply Kd.R_alloc | apply Kd.R_drewN | apply Kd.R_drew)); exact HO586.out) hb)
                replace HO592 := Aside0.mk (Kd.R_below (by (with_reducible repeat (first | apply Kd.R_alloc | apply Kd.R_drewN | apply Kd.R_drew)); exact HO592.out) hb)
                replace HO596 := Aside0.mk (Kd.R_below (by (with_reducible repeat (first | apply Kd.R_alloc | apply Kd.R_drewN | apply Kd.R_drew)); exact HO596.out) hb)
                replace HO605 := Aside0.mk (Kd.R_below (by (with_reducible repeat (first | apply Kd.R_alloc | apply Kd.R_drewN | apply Kd.R_drew)); exact HO605.out) hb)
                replace HO609 := Aside0.mk (Kd.R_below (by (with_reducible repeat (first | apply Kd.R_alloc | apply Kd.R_drewN | apply Kd.R_drew)); exact HO609.out) hb)
                replace HO622 := Aside0.mk (Kd.R_below (by (with_reducible repeat (first | apply Kd.R_alloc | apply Kd.R_drewN | apply Kd.R_drew)); exact HO622.out) hb)
                replace HO624 := Aside0.mk (Kd.R_below (by (with_reducible repeat (first | apply Kd.R_alloc | apply Kd.R_drewN | apply Kd.R_drew)); exact HO624.out) hb)
                replace BK567 := bkb_ BK567 hb
                replace BK568 := bkb_ BK568 hb
                replace BK572 := bkb_ BK572 hb
                replace BK576 := bkb_ BK576 hb
                replace BK589 := bkb_ BK589 hb
                replace BK602 := bkb_ BK602 hb
                replace BK614 := bkb_ BK614 hb
                replace HB := bst_ hb
                (try clear hb);(try clear hb2);(try clear hk);(try clear hi)
                refine hK.out _ _ ⟨(blk_cell BK572.out 0).trans rfl, (blk_cell BK572.out 1).trans rfl, (blk_cell BK576.out 0).trans rfl, (blk_cell BK576.out 1).trans rfl, (blk_cell BK568.out 0).trans rfl, (blk_cell BK568.out 1).trans rfl, (blk_cell BK568.out 2).trans rfl⟩ (fun hHeld => ?_)
                clear hK K
                refine norm_ (a' := ?_) ?_ ?_
                rotate_left
                ·show Act.put _ (some 211) _ = _
                 simp only [Act.put, List.setIfInBounds_toArray, List.set_cons_zero, List.set_cons_succ, i64_w, i32_w]
                 rfl
                refine pu_ (i := 78) (N := some 212) (fl 80 604462909807314587353087) (any_of HT_.out (by kernel_rfl)) ?_
                refine pu_ (i := 79) (N := some 213) (fl 80 1208925819614629174706175) (any_of HT_.out (by kernel_rfl)) ?_
                refine done_ (done_of HT_.out (by kernel_rfl)) ?_
                try go_wp2
                go_meet
                case rel => exact ⟨_, ((t634 != t635)), (by first | rfl | (simp; done) | (simp [*]; done)), H', ⟨by first | omega | exact Nat.le_refl _⟩, ⟨by (with_reducible repeat (first | apply Kd.R_alloc | apply Kd.R_drewN | apply Kd.R_drew)); exact Kd.R_mono HO586.out (fun _ hk => ⟨hk.1.1.2, hk.1.1.1.1.1.1.2⟩)⟩, ⟨by (with_reducible repeat (first | apply Kd.R_alloc | apply Kd.R_drewN | apply Kd.R_drew)); exact Kd.R_mono HO609.out (fun _ hk => ⟨hk.1.1.1.1.1.1.2, hk.1.1.2⟩)⟩, ⟨by (with_reducible repeat (first | refine blk_drewN ?_ _ | refine blk_drew ?_ | refine blk_alloc ?_ _)); exact BK567.out⟩, ⟨by (with_reducible repeat (first | refine blk_drewN ?_ _ | refine blk_drew ?_ | refine blk_alloc ?_ _)); exact BK568.out⟩, ⟨by (with_reducible repeat (first | refine blk_drewN ?_ _ | refine blk_drew ?_ | refine blk_alloc ?_ _)); exact BK572.out⟩, ⟨by (with_reducible repeat (first | refine blk_drewN ?_ _ | refine blk_drew ?_ | refine blk_alloc ?_ _)); exact BK576.out⟩, ⟨by (with_reducible repeat (first | refine blk_drewN ?_ _ | refine blk_drew ?_ | refine blk_alloc ?_ _)); exact BK589.out⟩, ⟨by (with_reducible repeat (first | refine blk_drewN ?_ _ | refine blk_drew ?_ | refine blk_alloc ?_ _)); exact BK602.out⟩, ⟨by (with_reducible repeat (first | refine blk_drewN ?_ _ | refine blk_drew ?_ | refine blk_alloc ?_ _)); exact BK614.out⟩, ⟨bwl_⟩⟩
               ·rw [if_neg c113] at H
                exact absurd H (by simp)
             ·rw [if_neg c97] at H
              exact absurd H (by simp)
            ·rw [if_neg c96] at H
             exact absurd H (by simp)
           ·rw [if_neg c95] at H
            exact absurd H (by simp)
          ·rw [if_neg c93] at H
           exact absurd H (by simp)
         ·rw [if_neg c92] at H
          exact absurd H (by simp)
        ·rw [if_neg c90] at H
         exact absurd H (by simp)
       ·rw [if_neg c89] at H
        exact absurd H (by simp)
      ·rw [if_neg c87] at H
       exact absurd H (by simp)
     ·rw [if_neg c86] at H
      exact absurd H (by simp)
   ·rw [if_neg c82] at H
    exact absurd H (by simp)
  case rest => as_aux_lemma =>
   clear HC22
   (try clear c82);(try clear c82b0);(try clear c82b1)
   obtain ⟨kq, x213_21, rfl, HA, HJ21, HO_13, HO_25, BK567, BK568, BK572, BK576, BK589, BK602, BK614, HB⟩ := hcut
   cases kq with
   | zero => exact absurd HA.out (by simp [laws_FnLogs.j0])
   | succ kj21 =>
    have H := HA.out
    clear HA
    simp only [laws_FnLogs.j0] at H
    by_cases c187 : x213_21 = true
    ·rw [if_pos c187] at H
     exact absurd H (by simp)
    ·replace c187 := Bool.eq_false_iff.mpr c187
     subst c187
     rw [if_neg (show ¬ (false = true) by decide)] at H
     have HC188 := Aside0.mk H
     clear H
     go_upto_if 215 with (fail)
     go_cut [] (fun wc => ∃ (kq : Nat), Aside0 (laws_FnLogs.j1 kq t571 t578 t583 t584 t600 t601 t607 t562 t563 t564 t565 t566 t569 t570 = some r) ∧ Aside0 (kq ≤ kj21) ∧ Aside0 (Kd.R k26 26 wc w.heap.size (fun k_ => some k_ ≠ (v608 : Value).ownBlock ∧ k_ ≠ gb568) v585 t583) ∧ Aside0 (Kd.R k26 26 wc w.heap.size (fun k_ => some k_ ≠ (v585 : Value).ownBlock ∧ k_ ≠ gb568) v608 t607) ∧ Aside0 (wc.heap[gb567]? = some (.cells #[.string t562, .string t563] 32 (0, 0))) ∧ Aside0 (wc.heap[gb568]? = some (.cells #[.int .i64 t564, .string t565, .string t566] 26 (0, 0))) ∧ Aside0 (wc.heap[gb572]? = some (.cells #[.string t569, .string t570] 32 (0, 0))) ∧ Aside0 (wc.heap[gb576]? = some (.cells #[.string t573, .string t574] 32 (0, 0))) ∧ Aside0 (wc.heap[gb589]? = some (.cells #[.string t587, .string t588] 32 (0, 0))) ∧ Aside0 (wc.heap[gb602]? = some (.cells #[.string t598, .string t599] 32 (0, 0))) ∧ Aside0 (wc.heap[gb614]? = some (.cells #[.string t611, .string t612] 32 (0, 0))) ∧ Aside0 (Below w.heap.size w wc))
     case first => as_aux_lemma =>
      have H := HC188.out
      clear HC188
      by_cases c189 : t577.toList = ([] : List UInt8)
      ·rw [if_pos c189] at H
       have c189b0 : (t577.toList == ([] : List UInt8)) = true := beq_iff_eq.mpr c189
       have c189b1 : (t577.toList != ([] : List UInt8)) = false := bne_eq_false_iff_eq.mpr c189
       have c189b9 : t577.toList.isEmpty = true := List.isEmpty_iff.mpr (beq_iff_eq.mp c189b0)
       (try rw [show (!t577.toList.isEmpty) = false from (by rw [c189b9]; rfl)])
       clear c189
       (first | rw [c189b0] | (simp only [i64_w, i32_w]; rw [c189b0]) | skip)
       have H' := Aside0.mk H
       clear H
       go_wp2
       go_meet
       case rel => exact ⟨_, H', ⟨by have := HJ21.out; first | omega | exact Nat.le_refl _⟩, ⟨by (with_reducible repeat (first | apply Kd.R_alloc | apply Kd.R_drewN | apply Kd.R_drew)); exact HO_13.out⟩, ⟨by (with_reducible repeat (first | apply Kd.R_alloc | apply Kd.R_drewN | apply Kd.R_drew)); exact HO_25.out⟩, ⟨by (with_reducible repeat (first | refine blk_drewN ?_ _ | refine blk_drew ?_ | refine blk_alloc ?_ _)); exact BK567.out⟩, ⟨by (with_reducible repeat (first | refine blk_drewN ?_ _ | refine blk_drew ?_ | refine blk_alloc ?_ _)); exact BK568.out⟩, ⟨by (with_reducible repeat (first | refine blk_drewN ?_ _ | refine blk_drew ?_ | refine blk_alloc ?_ _)); exact BK572.out⟩, ⟨by (with_reducible repeat (first | refine blk_drewN ?_ _ | refine blk_drew ?_ | refine blk_alloc ?_ _)); exact BK576.out⟩, ⟨by (with_reducible repeat (first | refine blk_drewN ?_ _ | refine blk_drew ?_ | refine blk_alloc ?_ _)); exact BK589.out⟩, ⟨by (with_reducible repeat (first | refine blk_drewN ?_ _ | refine blk_drew ?_ | refine blk_alloc ?_ _)); exact BK602.out⟩, ⟨by (with_reducible repeat (first | refine blk_drewN ?_ _ | refine blk_drew ?_ | refine blk_alloc ?_ _)); exact BK614.out⟩, ⟨bwl_⟩⟩
      ·rw [if_neg c189] at H
       have c189b0 : (t577.toList == ([] : List UInt8)) = false := beq_eq_false_iff_ne.mpr c189
       have c189b1 : (t577.toList != ([] : List UInt8)) = true := bne_iff_ne.mpr c189
       have c189b9 : t577.toList.isEmpty = false := (by cases h9 : t577.toList.isEmpty with | false => rfl | true => exact absurd (List.isEmpty_iff.mp h9) (bne_iff_ne.mp c189b1))
       (try rw [show (!t577.toList.isEmpty) = true from (by rw [c189b9]; rfl)])
       (first | rw [c189b0] | (simp only [i64_w, i32_w]; rw [c189b0]) | skip)
       replace H := Option.bind_eq_some_iff.mp H
       obtain ⟨⟨t636, t637⟩, A1900, H⟩ := H
       (try dsimp only at H)
       have A190 := Aside0.mk A1900
       clear A1900
       by_cases c191 : t637 = (t577.size : Int)
       ·rw [if_pos c191] at H
        have c191b0 : (t637 == (t577.size : Int)) = true := beq_iff_eq.mpr c191
        have c191b1 : (t637 != (t577.size : Int)) = false := bne_eq_false_iff_eq.mpr c191
        clear c191
        by_cases c192 : (t636.length : Int) = 1
        ·rw [if_pos c192] at H
         have c192b0 : ((t636.length : Int) == 1) = true := beq_iff_eq.mpr c192
         have c192b1 : ((t636.length : Int) != 1) = false := bne_eq_false_iff_eq.mpr c192
         clear c192
         by_cases c193 : 0 < (t636.length : Int)
         ·rw [if_pos c193] at H
          have c193b0 : decide (0 < (t636.length : Int)) = true := decide_eq_true c193
          have c193b1 : decide (0 < t636.length) = true := decide_eq_true (by omega)
          clear c193
          by_cases c194 : (!(((rd_T26 t636 0).f0) == t564) || (!((((rd_T26 t636 0).f1).toList) == t565.toList) || (!((((rd_T26 t636 0).f2).toList) == t566.toList)))) = true
          ·rw [if_pos c194] at H
           exact absurd H (by simp)
          ·rw [if_neg c194] at H
           have c194b0 : (!(((rd_T26 t636 0).f0) == t564) || (!((((rd_T26 t636 0).f1).toList) == t565.toList) || (!((((rd_T26 t636 0).f2).toList) == t566.toList)))) = false := by simpa using c194
           clear c194
           have H' := Aside0.mk H
           clear H
           try go_wp2_with (first | ((with_reducible refine gate_callee (f := 28) rfl ?_); refine gl_ (some 218) Tryd.func28 #[.string t577] ?_; (with_reducible refine (impl_ReadFrames.calls kj21 t577 t636 t637 _ A190.out ?side1).mono ?_); (case side1 => exact HTB.out.below bwl_); rintro e w198 ⟨v638, rfl, ho0, hb⟩; refine ⟨_, rfl, ?_⟩; have HO639 := Aside0.mk (Kd.R_lower (Kd.R_newB (Kd.R_new' (Kd.R_new' ho0 (Kd.R_lt (by (with_reducible repeat (first | apply Kd.R_alloc | apply Kd.R_drewN | apply Kd.R_drew)); exact HO_13.out))) (Kd.R_lt (by (with_reducible repeat (first | apply Kd.R_alloc | apply Kd.R_drewN | apply Kd.R_drew)); exact HO_25.out))) (g := gb568) (o := .cells #[.int .i64 t564, .string t565, .string t566] 26 (0, 0)) (by (with_reducible repeat (first | refine blk_drewN ?_ _ | refine blk_drew ?_ | refine blk_alloc ?_ _)); exact BK568.out)) (below_size bwl_)); replace HO_13 := Aside0.mk (Kd.R_elder' (by (with_reducible repeat (first | apply Kd.R_alloc | apply Kd.R_drewN | apply Kd.R_drew)); exact HO_13.out) (Kd.R_base ho0) hb); replace HO_25 := Aside0.mk (Kd.R_elder' (by (with_reducible repeat (first | apply Kd.R_alloc | apply Kd.R_drewN | apply Kd.R_drew)); exact HO_25.out) (Kd.R_base ho0) hb); replace BK567 := bkb_ BK567 hb; replace BK568 := bkb_ BK568 hb; replace BK572 := bkb_ BK572 hb; replace BK576 := bkb_ BK576 hb; replace BK589 := bkb_ BK589 hb; replace BK602 := bkb_ BK602 hb; replace BK614 := bkb_ BK614 hb; replace HB := bst_ hb; clear hb ho0))
           replace HO_13 := Aside0.mk (Kd.R_drew HO_13.out)
           replace HO_25 := Aside0.mk (Kd.R_drew HO_25.out)
           replace HO639 := Aside0.mk (Kd.R_drew HO639.out)
           replace BK567 := Aside0.mk (blk_drew BK567.out)
           replace BK568 := Aside0.mk (blk_drew BK568.out)
           replace BK572 := Aside0.mk (blk_drew BK572.out)
           replace BK576 := Aside0.mk (blk_drew BK576.out)
           replace BK589 := Aside0.mk (blk_drew BK589.out)
           replace BK602 := Aside0.mk (blk_drew BK602.out)
           replace BK614 := Aside0.mk (blk_drew BK614.out)
           replace HB := Aside0.mk (below_drew1 HB.out)
           obtain ⟨Ao200, co200, eo200⟩ := Kd.R_slice HO639.out
           (first | subst eo200 | (injection eo200 with f1_ f2_ f3_; have f4_ := f1_.symm; have f5_ := f3_.symm; clear f1_ f2_ f3_; subst f4_; subst f5_))
           have p640 : 0 ≤ (0 : Int) := (by omega)
           have q640 : 0 < (t636.length : Int) := od_
           obtain ⟨ad640, e640, hx640_0, hx640_1, hx640_2⟩ := at_T26 (Kd.R_reads' HO639.out).2.2 0 p640 q640
           cases e640
           have qi640 : (0 < t636.length) = True := eq_true (by omega)
           (try rw [show ((0 : Int)).toNat = 0 from rfl] at hx640_0)
           (try rw [show 0 * 3 = 0 from rfl] at hx640_0)
           (try rw [Addr.add_zero'] at hx640_0)
           (try rw [show ((0 : Int)).toNat = 0 from rfl] at hx640_1)
           (try rw [show 0 * 3 = 0 from rfl] at hx640_1)
           (try rw [Addr.add_zero'] at hx640_1)
           (try rw [show ((0 : Int)).toNat = 0 from rfl] at hx640_2)
           (try rw [show 0 * 3 = 0 from rfl] at hx640_2)
           (try rw [Addr.add_zero'] at hx640_2)
           replace p640 := eq_true p640
           replace q640 := eq_true q640
           refine start_ (n := 16) (S := fun w' => w'.cell? ⟨gb568, 0, none⟩ = some (.int .i64 t564) ∧ w'.cell? ⟨gb568, 1, none⟩ = some (.string t565) ∧ w'.cell? ⟨gb568, 2, none⟩ = some (.string t566) ∧ w'.cell? ad640 = some (.int .i64 ((rd_T26 t636 0).f0)) ∧ w'.cell? ⟨ad640.block, ad640.off + 1, none⟩ = some (.string ((rd_T26 t636 0).f1)) ∧ w'.cell? ⟨ad640.block, ad640.off + 2, none⟩ = some (.string ((rd_T26 t636 0).f2))) (ds := []) (fl 16 0) (by kernel_rfl) rfl rfl ⟨(blk_cell BK568.out 0).trans rfl, (blk_cell BK568.out 1).trans rfl, (blk_cell BK568.out 2).trans rfl, hx640_0, hx640_1, hx640_2⟩ (fun hHeld => ?_); refine with_tabW laws_FnLogs.tab25 laws_FnLogs.bits25 (fun HT_ HW_ => ?_)
           generalize w198.drew = w199 at HO_13 HO_25 HO639 BK567 BK568 BK572 BK576 BK589 BK602 BK614 HB hx640_0 hx640_1 hx640_2 hHeld ⊢
           refine pu_ (i := 0) (N := some 221) (fl 16 1) (any_of HT_.out (by kernel_rfl)) ?_
           refine pu_ (i := 1) (N := some 222) (fl 16 3) (any_of HT_.out (by kernel_rfl)) ?_
           refine pu_ (i := 2) (N := some 223) (fl 16 7) (any_of HT_.out (by kernel_rfl)) ?_
           refine pu_ (i := 3) (N := some 224) (fl 16 15) (any_of HT_.out (by kernel_rfl)) ?_
           refine pu_ (i := 4) (N := some 225) (fl 16 31) (any_of HT_.out (by kernel_rfl)) ?_
           refine pu_ (i := 5) (N := some 226) (fl 16 63) (any_of HT_.out (by kernel_rfl)) ?_
           refine pu_ (i := 6) (N := some 227) (fl 16 127) (any_of HT_.out (by kernel_rfl)) ?_
           refine pu_ (i := 7) (N := some 228) (fl 16 255) (any_of HT_.out (by kernel_rfl)) ?_
           refine pu_ (i := 8) (N := some 229) (fl 16 511) (any_of HT_.out (by kernel_rfl)) ?_
           refine pu_ (i := 9) (N := some 230) (fl 16 1023) (any_of HT_.out (by kernel_rfl)) ?_
           refine pu_ (i := 10) (N := some 231) (fl 16 2047) (any_of HT_.out (by kernel_rfl)) ?_
           refine pu_ (i := 11) (N := some 232) (fl 16 4095) (any_of HT_.out (by kernel_rfl)) ?_
           refine take_ (i := 12) (N := some 233) (v := ?_) (a' := ?_) (fl 16 8191) rfl rfl (take_ofW HT_.out HW_.out (by kernel_rfl)) (fun _ _ _ h => h) (Or.inl ⟨by rfl, ?_⟩) hHeld ?_ ?_
           rotate_left
           ·rintro w' ⟨s0, s1, s2, s3, s4, s5⟩
            go_simp
            with_reducible rfl
           rotate_left
           ·simp only [Act.put, List.setIfInBounds_toArray, List.set_cons_zero, List.set_cons_succ, i64_w, i32_w]
            rfl
           refine take_ (i := 13) (N := some 234) (v := ?_) (a' := ?_) (fl 16 16383) rfl rfl (take_ofW HT_.out HW_.out (by kernel_rfl)) (fun _ _ _ h => h) (Or.inl ⟨by rfl, ?_⟩) hHeld ?_ ?_
           rotate_left
           ·rintro w' ⟨s0, s1, s2, s3, s4, s5⟩
            go_simp
            with_reducible rfl
           rotate_left
           ·simp only [Act.put, List.setIfInBounds_toArray, List.set_cons_zero, List.set_cons_succ, i64_w, i32_w]
            rfl
           refine pu_ (i := 14) (N := some 235) (fl 16 32767) (any_of HT_.out (by kernel_rfl)) ?_
           refine pu_ (i := 15) (N := some 236) (fl 16 65535) (any_of HT_.out (by kernel_rfl)) ?_
           refine done_ (done_of HT_.out (by kernel_rfl)) ?_
           try go_wp2
           go_meet
           case rel => exact ⟨_, H', ⟨by have := HJ21.out; first | omega | exact Nat.le_refl _⟩, ⟨by (with_reducible repeat (first | apply Kd.R_alloc | apply Kd.R_drewN | apply Kd.R_drew)); exact Kd.R_mono HO_13.out (fun _ hk => ⟨hk.1.1, hk.1.2⟩)⟩, ⟨by (with_reducible repeat (first | apply Kd.R_alloc | apply Kd.R_drewN | apply Kd.R_drew)); exact Kd.R_mono HO_25.out (fun _ hk => ⟨hk.1.1, hk.1.2⟩)⟩, ⟨by (with_reducible repeat (first | refine blk_drewN ?_ _ | refine blk_drew ?_ | refine blk_alloc ?_ _)); exact BK567.out⟩, ⟨by (with_reducible repeat (first | refine blk_drewN ?_ _ | refine blk_drew ?_ | refine blk_alloc ?_ _)); exact BK568.out⟩, ⟨by (with_reducible repeat (first | refine blk_drewN ?_ _ | refine blk_drew ?_ | refine blk_alloc ?_ _)); exact BK572.out⟩, ⟨by (with_reducible repeat (first | refine blk_drewN ?_ _ | refine blk_drew ?_ | refine blk_alloc ?_ _)); exact BK576.out⟩, ⟨by (with_reducible repeat (first | refine blk_drewN ?_ _ | refine blk_drew ?_ | refine blk_alloc ?_ _)); exact BK589.out⟩, ⟨by (with_reducible repeat (first | refine blk_drewN ?_ _ | refine blk_drew ?_ | refine blk_alloc ?_ _)); exact BK602.out⟩, ⟨by (with_reducible repeat (first | refine blk_drewN ?_ _ | refine blk_drew ?_ | refine blk_alloc ?_ _)); exact BK614.out⟩, ⟨bwl_⟩⟩
         ·rw [if_neg c193] at H
          exact absurd H (by simp)
        ·rw [if_neg c192] at H
         exact absurd H (by simp)
       ·rw [if_neg c191] at H
        exact absurd H (by simp)
     case rest => as_aux_lemma =>
      clear HC188
      (try clear c191);(try clear c191b0);(try clear c191b1);(try clear c192);(try clear c192b0);(try clear c192b1);(try clear c193);(try clear c194);(try clear c194b0);(try clear hx640_0);(try clear hx640_1);(try clear hx640_2);(try clear p640);(try clear q640)
      obtain ⟨kq, HA, HJ187, HO_13, HO_25, BK567, BK568, BK572, BK576, BK589, BK602, BK614, HB⟩ := hcut
      cases kq with
      | zero => exact absurd HA.out (by simp [laws_FnLogs.j1])
      | succ kj187 =>
       have H := HA.out
       clear HA
       simp only [laws_FnLogs.j1] at H
       have H' := Aside0.mk H
       clear H
       go_wp2
       go_loopg [38, 39] kj187 (fun kq v38 v39 w' => ∃ (x38_3 : ByteArray) (x39_3 : Int), v38 = .string x38_3 ∧ v39 = .int .i64 x39_3 ∧ Aside0 (laws_FnLogs.l0 kq t571 t578 t583 t584 t600 t601 t607 x38_3 x39_3 t562 t563 t564 t565 t566 t569 t570 = some r) ∧ Aside0 (kq ≤ kj187) ∧ Aside0 (Kd.R k26 26 w' w.heap.size (fun k_ => some k_ ≠ (v608 : Value).ownBlock ∧ k_ ≠ gb568) v585 t583) ∧ Aside0 (Kd.R k26 26 w' w.heap.size (fun k_ => some k_ ≠ (v585 : Value).ownBlock ∧ k_ ≠ gb568) v608 t607) ∧ Aside0 (w'.heap[gb567]? = some (.cells #[.string t562, .string t563] 32 (0, 0))) ∧ Aside0 (w'.heap[gb568]? = some (.cells #[.int .i64 t564, .string t565, .string t566] 26 (0, 0))) ∧ Aside0 (w'.heap[gb572]? = some (.cells #[.string t569, .string t570] 32 (0, 0))) ∧ Aside0 (w'.heap[gb576]? = some (.cells #[.string t573, .string t574] 32 (0, 0))) ∧ Aside0 (w'.heap[gb589]? = some (.cells #[.string t587, .string t588] 32 (0, 0))) ∧ Aside0 (w'.heap[gb602]? = some (.cells #[.string t598, .string t599] 32 (0, 0))) ∧ Aside0 (w'.heap[gb614]? = some (.cells #[.string t611, .string t612] 32 (0, 0))) ∧ Aside0 (Below w.heap.size w w'))
       case atStart => exact ⟨((⟨#[]⟩ : ByteArray)), (0), (by first | rfl | (simp; done) | (simp [*]; done)), (by first | rfl | (simp; done) | (simp [*]; done)), H', ⟨Nat.le_refl _⟩, ⟨by (with_reducible repeat (first | apply Kd.R_alloc | apply Kd.R_drewN | apply Kd.R_drew)); exact HO_13.out⟩, ⟨by (with_reducible repeat (first | apply Kd.R_alloc | apply Kd.R_drewN | apply Kd.R_drew)); exact HO_25.out⟩, ⟨by (with_reducible repeat (first | refine blk_drewN ?_ _ | refine blk_drew ?_ | refine blk_alloc ?_ _)); exact BK567.out⟩, ⟨by (with_reducible repeat (first | refine blk_drewN ?_ _ | refine blk_drew ?_ | refine blk_alloc ?_ _)); exact BK568.out⟩, ⟨by (with_reducible repeat (first | refine blk_drewN ?_ _ | refine blk_drew ?_ | refine blk_alloc ?_ _)); exact BK572.out⟩, ⟨by (with_reducible repeat (first | refine blk_drewN ?_ _ | refine blk_drew ?_ | refine blk_alloc ?_ _)); exact BK576.out⟩, ⟨by (with_reducible repeat (first | refine blk_drewN ?_ _ | refine blk_drew ?_ | refine blk_alloc ?_ _)); exact BK589.out⟩, ⟨by (with_reducible repeat (first | refine blk_drewN ?_ _ | refine blk_drew ?_ | refine blk_alloc ?_ _)); exact BK602.out⟩, ⟨by (with_reducible repeat (first | refine blk_drewN ?_ _ | refine blk_drew ?_ | refine blk_alloc ?_ _)); exact BK614.out⟩, ⟨bwl_⟩⟩
       case round => as_aux_lemma =>
        clear H'
        (try clear c191);(try clear c191b0);(try clear c191b1);(try clear c192);(try clear c192b0);(try clear c192b1);(try clear c193);(try clear c194);(try clear c194b0);(try clear hx640_0);(try clear hx640_1);(try clear hx640_2);(try clear p640);(try clear q640)
        obtain ⟨x38_3, x39_3, rfl, rfl, HA, HK3, HO_13, HO_25, BK567, BK568, BK572, BK576, BK589, BK602, BK614, HB⟩ := hrel
        cases gk with
        | zero => exact absurd HA.out (by simp [laws_FnLogs.l0])
        | succ k3 =>
         have H := HA.out
         clear HA
         simp only [laws_FnLogs.l0] at H
         by_cases c206 : x39_3 < (t583.length : Int)
         ·rw [if_pos c206] at H
          have c206b0 : decide (x39_3 < (t583.length : Int)) = true := decide_eq_true c206
          clear c206
          by_cases c207 : 0 ≤ x39_3
          ·rw [if_pos c207] at H
           have c207b0 : decide (0 ≤ x39_3) = true := decide_eq_true c207
           clear c207
           replace H := Option.bind_eq_some_iff.mp H
           obtain ⟨t642, A2080, H⟩ := H
           (try dsimp only at H)
           have A208 := Aside0.mk A2080
           clear A2080
           by_cases c209 : x38_3.size + t642.size ≤ 9223372036854775807
           ·rw [if_pos c209] at H
            have c209b0 := eq_true c209
            have c209b1 : decide (x38_3.size + t642.size ≤ 9223372036854775807) = true := decide_eq_true c209
            try have c209b2 : (9223372036854775807 < x38_3.size + t642.size) = False := eq_false (Nat.not_lt.2 c209)
            have H' := Aside0.mk H
            clear H
            obtain ⟨Ao210, co210, eo210⟩ := Kd.R_slice HO_13.out
            subst eo210
            have p641 : 0 ≤ (x39_3 : Int) := od_
            have q641 : x39_3 < (t583.length : Int) := od_
            obtain ⟨ad641, e641, hx641_0, hx641_1, hx641_2⟩ := at_T26 (Kd.R_reads' HO_13.out).2.2 x39_3 p641 q641
            cases e641
            replace p641 := eq_true p641
            replace q641 := eq_true q641
            go_wp2_with (first | ((with_reducible refine gate_callee (f := 17) rfl ?_); refine gl_ (some 248) Tryd.func17 #[.agg #[.int .i64 ((rd_T26 t583 x39_3).f0), .string ((rd_T26 t583 x39_3).f1), .string ((rd_T26 t583 x39_3).f2)]] ?_; (with_reducible refine (impl_FrameOf.calls k3 ((rd_T26 t583 x39_3).f0) ((rd_T26 t583 x39_3).f1) ((rd_T26 t583 x39_3).f2) t642 _ A208.out ?side1).mono ?_); (case side1 => exact HTB.out.below bwl_); rintro e w211 ⟨rfl, hb⟩; refine ⟨_, rfl, ?_⟩; replace HO_13 := Aside0.mk (Kd.R_below (by (with_reducible repeat (first | apply Kd.R_alloc | apply Kd.R_drewN | apply Kd.R_drew)); exact HO_13.out) hb); replace HO_25 := Aside0.mk (Kd.R_below (by (with_reducible repeat (first | apply Kd.R_alloc | apply Kd.R_drewN | apply Kd.R_drew)); exact HO_25.out) hb); replace BK567 := bkb_ BK567 hb; replace BK568 := bkb_ BK568 hb; replace BK572 := bkb_ BK572 hb; replace BK576 := bkb_ BK576 hb; replace BK589 := bkb_ BK589 hb; replace BK602 := bkb_ BK602 hb; replace BK614 := bkb_ BK614 hb; replace HB := bst_ hb; clear hb))
            go_roundg k3
            case measure => have := HJ21.out; have := HJ187.out; have := HK3.out; omega
            case rel => exact ⟨(x38_3 ++ t642), (wrap64 (x39_3 + 1)), (by first | rfl | (simp; done) | (simp [*]; done)), (by first | rfl | (simp; done) | (simp [*]; done)), H', ⟨by have := HJ21.out; have := HJ187.out; have := HK3.out; omega⟩, ⟨by (with_reducible repeat (first | apply Kd.R_alloc | apply Kd.R_drewN | apply Kd.R_drew)); exact HO_13.out⟩, ⟨by (with_reducible repeat (first | apply Kd.R_alloc | apply Kd.R_drewN | apply Kd.R_drew)); exact HO_25.out⟩, ⟨by (with_reducible repeat (first | refine blk_drewN ?_ _ | refine blk_drew ?_ | refine blk_alloc ?_ _)); exact BK567.out⟩, ⟨by (with_reducible repeat (first | refine blk_drewN ?_ _ | refine blk_drew ?_ | refine blk_alloc ?_ _)); exact BK568.out⟩, ⟨by (with_reducible repeat (first | refine blk_drewN ?_ _ | refine blk_drew ?_ | refine blk_alloc ?_ _)); exact BK572.out⟩, ⟨by (with_reducible repeat (first | refine blk_drewN ?_ _ | refine blk_drew ?_ | refine blk_alloc ?_ _)); exact BK576.out⟩, ⟨by (with_reducible repeat (first | refine blk_drewN ?_ _ | refine blk_drew ?_ | refine blk_alloc ?_ _)); exact BK589.out⟩, ⟨by (with_reducible repeat (first | refine blk_drewN ?_ _ | refine blk_drew ?_ | refine blk_alloc ?_ _)); exact BK602.out⟩, ⟨by (with_reducible repeat (first | refine blk_drewN ?_ _ | refine blk_drew ?_ | refine blk_alloc ?_ _)); exact BK614.out⟩, ⟨bwl_⟩⟩
           ·rw [if_neg c209] at H
            exact absurd H (by simp)
          ·rw [if_neg c207] at H
           exact absurd H (by simp)
         ·rw [if_neg c206] at H
          have c206b0 : decide (x39_3 < (t583.length : Int)) = false := decide_eq_false c206
          clear c206
          have HC212 := Aside0.mk H
          clear H
          obtain ⟨Ao213, co213, eo213⟩ := Kd.R_slice HO_13.out
          subst eo213
          go_upto_region 32 with (fail)
          go_cut [264] (fun v264 wc => ∃ (kq : Nat) (x264_211 : Bool), v264 = .bool x264_211 ∧ Aside0 (laws_FnLogs.j3 kq t571 t600 t601 t607 x264_211 t562 t563 t564 t565 t566 t569 t570 = some r) ∧ Aside0 (kq ≤ k3) ∧ Aside0 (Kd.R k26 26 wc w.heap.size (fun k_ => k_ ≠ gb568) v608 t607) ∧ Aside0 (wc.heap[gb567]? = some (.cells #[.string t562, .string t563] 32 (0, 0))) ∧ Aside0 (wc.heap[gb568]? = some (.cells #[.int .i64 t564, .string t565, .string t566] 26 (0, 0))) ∧ Aside0 (wc.heap[gb572]? = some (.cells #[.string t569, .string t570] 32 (0, 0))) ∧ Aside0 (wc.heap[gb576]? = some (.cells #[.string t573, .string t574] 32 (0, 0))) ∧ Aside0 (wc.heap[gb589]? = some (.cells #[.string t587, .string t588] 32 (0, 0))) ∧ Aside0 (wc.heap[gb602]? = some (.cells #[.string t598, .string t599] 32 (0, 0))) ∧ Aside0 (wc.heap[gb614]? = some (.cells #[.string t611, .string t612] 32 (0, 0))) ∧ Aside0 (Below w.heap.size w wc))
          case first => as_aux_lemma =>
           have H := HC212.out
           clear HC212
           by_cases c214 : t584 < 0
           ·rw [if_pos c214] at H
            exact absurd H (by simp)
           ·rw [if_neg c214] at H
            have c214b0 : decide (t584 < 0) = false := decide_eq_false c214
            clear c214
            (first | rw [c214b0] | (simp only [i64_w, i32_w]; rw [c214b0]) | skip)
            by_cases c215 : t584 > (t578.size : Int)
            ·rw [if_pos c215] at H
             exact absurd H (by simp)
            ·rw [if_neg c215] at H
             have c215b0 : decide ((t578.size : Int) < t584) = false := decide_eq_false c215
             clear c215
             by_cases c216 : 0 ≤ t584
             ·rw [if_pos c216] at H
              have c216b0 := eq_true c216
              have c216b1 : decide (0 ≤ t584) = true := decide_eq_true c216
              clear c216
              by_cases c217 : t584 ≤ (t578.size : Int)
              ·rw [if_pos c217] at H
               have c217b0 := eq_true c217
               have c217b1 : decide (t584 ≤ (t578.size : Int)) = true := decide_eq_true c217
               clear c217
               have H' := Aside0.mk H
               clear H
               go_wp2
               go_meet
               case rel => exact ⟨_, ((x38_3.toList != (t578.extract 0 (t584 : Int).toNat).toList)), (by first | rfl | (simp; done) | (simp [*]; done)), H', ⟨by have := HJ21.out; have := HJ187.out; have := HK3.out; first | omega | exact Nat.le_refl _⟩, ⟨by (with_reducible repeat (first | apply Kd.R_alloc | apply Kd.R_drewN | apply Kd.R_drew)); exact Kd.R_mono HO_25.out (fun _ hk => hk.2)⟩, ⟨by (with_reducible repeat (first | refine blk_drewN ?_ _ | refine blk_drew ?_ | refine blk_alloc ?_ _)); exact BK567.out⟩, ⟨by (with_reducible repeat (first | refine blk_drewN ?_ _ | refine blk_drew ?_ | refine blk_alloc ?_ _)); exact BK568.out⟩, ⟨by (with_reducible repeat (first | refine blk_drewN ?_ _ | refine blk_drew ?_ | refine blk_alloc ?_ _)); exact BK572.out⟩, ⟨by (with_reducible repeat (first | refine blk_drewN ?_ _ | refine blk_drew ?_ | refine blk_alloc ?_ _)); exact BK576.out⟩, ⟨by (with_reducible repeat (first | refine blk_drewN ?_ _ | refine blk_drew ?_ | refine blk_alloc ?_ _)); exact BK589.out⟩, ⟨by (with_reducible repeat (first | refine blk_drewN ?_ _ | refine blk_drew ?_ | refine blk_alloc ?_ _)); exact BK602.out⟩, ⟨by (with_reducible repeat (first | refine blk_drewN ?_ _ | refine blk_drew ?_ | refine blk_alloc ?_ _)); exact BK614.out⟩, ⟨bwl_⟩⟩
              ·rw [if_neg c217] at H
               exact absurd H (by simp)
             ·rw [if_neg c216] at H
              exact absurd H (by simp)
          case rest => as_aux_lemma =>
           clear HC212
           (try clear c191);(try clear c191b0);(try clear c191b1);(try clear c192);(try clear c192b0);(try clear c192b1);(try clear c193);(try clear c194);(try clear c194b0);(try clear c206);(try clear c206b0);(try clear c207);(try clear c207b0);(try clear c209);(try clear c209b0);(try clear c209b1);(try clear c209b2);(try clear c214);(try clear c214b0);(try clear c215);(try clear c215b0);(try clear c216)
           (try clear c216b0);(try clear c216b1);(try clear c217);(try clear c217b0);(try clear c217b1);(try clear hx640_0);(try clear hx640_1);(try clear hx640_2);(try clear hx641_0);(try clear hx641_1);(try clear hx641_2);(try clear p640);(try clear p641);(try clear q640);(try clear q641)
           obtain ⟨kq, x264_211, rfl, HA, HJ211, HO_25, BK567, BK568, BK572, BK576, BK589, BK602, BK614, HB⟩ := hcut
           cases kq with
           | zero => exact absurd HA.out (by simp [laws_FnLogs.j3])
           | succ kj211 =>
            have H := HA.out
            clear HA
            simp only [laws_FnLogs.j3] at H
            by_cases c218 : x264_211 = true
            ·rw [if_pos c218] at H
             exact absurd H (by simp)
            ·replace c218 := Bool.eq_false_iff.mpr c218
             subst c218
             rw [if_neg (show ¬ (false = true) by decide)] at H
             have H' := Aside0.mk H
             clear H
             go_wp2
             go_loopg [40] kj211 (fun kq v40 w' => ∃ (x40_5 : Int), v40 = .int .i64 x40_5 ∧ Aside0 (laws_FnLogs.l1 kq t571 t600 t601 t607 x40_5 t562 t563 t564 t565 t566 t569 t570 = some r) ∧ Aside0 (kq ≤ kj211) ∧ Aside0 (Kd.R k26 26 w' w.heap.size (fun k_ => k_ ≠ gb568) v608 t607) ∧ Aside0 (w'.heap[gb567]? = some (.cells #[.string t562, .string t563] 32 (0, 0))) ∧ Aside0 (w'.heap[gb568]? = some (.cells #[.int .i64 t564, .string t565, .string t566] 26 (0, 0))) ∧ Aside0 (w'.heap[gb572]? = some (.cells #[.string t569, .string t570] 32 (0, 0))) ∧ Aside0 (w'.heap[gb576]? = some (.cells #[.string t573, .string t574] 32 (0, 0))) ∧ Aside0 (w'.heap[gb589]? = some (.cells #[.string t587, .string t588] 32 (0, 0))) ∧ Aside0 (w'.heap[gb602]? = some (.cells #[.string t598, .string t599] 32 (0, 0))) ∧ Aside0 (w'.heap[gb614]? = some (.cells #[.string t611, .string t612] 32 (0, 0))) ∧ Aside0 (Below w.heap.size w w'))
             case atStart => exact ⟨(0), (by first | rfl | (simp; done) | (simp [*]; done)), H', ⟨Nat.le_refl _⟩, ⟨by (with_reducible repeat (first | apply Kd.R_alloc | apply Kd.R_drewN | apply Kd.R_drew)); exact HO_25.out⟩, ⟨by (with_reducible repeat (first | refine blk_drewN ?_ _ | refine blk_drew ?_ | refine blk_alloc ?_ _)); exact BK567.out⟩, ⟨by (with_reducible repeat (first | refine blk_drewN ?_ _ | refine blk_drew ?_ | refine blk_alloc ?_ _)); exact BK568.out⟩, ⟨by (with_reducible repeat (first | refine blk_drewN ?_ _ | refine blk_drew ?_ | refine blk_alloc ?_ _)); exact BK572.out⟩, ⟨by (with_reducible repeat (first | refine blk_drewN ?_ _ | refine blk_drew ?_ | refine blk_alloc ?_ _)); exact BK576.out⟩, ⟨by (with_reducible repeat (first | refine blk_drewN ?_ _ | refine blk_drew ?_ | refine blk_alloc ?_ _)); exact BK589.out⟩, ⟨by (with_reducible repeat (first | refine blk_drewN ?_ _ | refine blk_drew ?_ | refine blk_alloc ?_ _)); exact BK602.out⟩, ⟨by (with_reducible repeat (first | refine blk_drewN ?_ _ | refine blk_drew ?_ | refine blk_alloc ?_ _)); exact BK614.out⟩, ⟨bwl_⟩⟩
             case round => as_aux_lemma =>
              clear H'
              (try clear c191);(try clear c191b0);(try clear c191b1);(try clear c192);(try clear c192b0);(try clear c192b1);(try clear c193);(try clear c194);(try clear c194b0);(try clear c206);(try clear c206b0);(try clear c207);(try clear c207b0);(try clear c209);(try clear c209b0);(try clear c209b1);(try clear c209b2);(try clear c214);(try clear c214b0);(try clear c215);(try clear c215b0);(try clear c216)
              (try clear c216b0);(try clear c216b1);(try clear c217);(try clear c217b0);(try clear c217b1);(try clear c218);(try clear hx640_0);(try clear hx640_1);(try clear hx640_2);(try clear hx641_0);(try clear hx641_1);(try clear hx641_2);(try clear p640);(try clear p641);(try clear q640);(try clear q641)
              obtain ⟨x40_5, rfl, HA, HK5, HO_25, BK567, BK568, BK572, BK576, BK589, BK602, BK614, HB⟩ := hrel
              cases gk with
              | zero => exact absurd HA.out (by simp [laws_FnLogs.l1])
              | succ k5 =>
               have H := HA.out
               clear HA
               simp only [laws_FnLogs.l1] at H
               by_cases c219 : x40_5 < (t607.length : Int)
               ·rw [if_pos c219] at H
                have c219b0 : decide (x40_5 < (t607.length : Int)) = true := decide_eq_true c219
                clear c219
                by_cases c220 : 0 ≤ x40_5
                ·rw [if_pos c220] at H
                 have c220b0 : decide (0 ≤ x40_5) = true := decide_eq_true c220
                 clear c220
                 by_cases c221 : ((rd_T26 t607 x40_5).f0) < t600
                 ·rw [if_pos c221] at H
                  exact absurd H (by simp)
                 ·rw [if_neg c221] at H
                  have c221b0 : decide (((rd_T26 t607 x40_5).f0) < t600) = false := decide_eq_false c221
                  clear c221
                  by_cases c223 : ((rd_T26 t607 x40_5).f0) > t601
                  ·rw [if_pos c223] at H
                   exact absurd H (by simp)
                  ·rw [if_neg c223] at H
                   have c223b0 : decide (t601 < ((rd_T26 t607 x40_5).f0)) = false := decide_eq_false c223
                   clear c223
                   have H' := Aside0.mk H
                   clear H
                   obtain ⟨Ao225, co225, eo225⟩ := Kd.R_slice HO_25.out
                   subst eo225
                   have p643 : 0 ≤ (x40_5 : Int) := od_
                   have q643 : x40_5 < (t607.length : Int) := od_
                   obtain ⟨ad643, e643, hx643_0, hx643_1, hx643_2⟩ := at_T26 (Kd.R_reads' HO_25.out).2.2 x40_5 p643 q643
                   cases e643
                   replace p643 := eq_true p643
                   replace q643 := eq_true q643
                   have p644 : 0 ≤ (x40_5 : Int) := od_
                   have q644 : x40_5 < (t607.length : Int) := od_
                   obtain ⟨ad644, e644, hx644_0, hx644_1, hx644_2⟩ := at_T26 (Kd.R_reads' HO_25.out).2.2 x40_5 p644 q644
                   obtain rfl : ad643 = ad644 := (by injection e644)
                   replace p644 := eq_true p644
                   replace q644 := eq_true q644
                   go_wp2
                   go_roundg k5
                   case measure => have := HJ21.out; have := HJ187.out; have := HK3.out; have := HJ211.out; have := HK5.out; omega
                   case rel => exact ⟨(wrap64 (x40_5 + 1)), (by first | rfl | (simp; done) | (simp [*]; done)), H', ⟨by have := HJ21.out; have := HJ187.out; have := HK3.out; have := HJ211.out; have := HK5.out; omega⟩, ⟨by (with_reducible repeat (first | apply Kd.R_alloc | apply Kd.R_drewN | apply Kd.R_drew)); exact HO_25.out⟩, ⟨by (with_reducible repeat (first | refine blk_drewN ?_ _ | refine blk_drew ?_ | refine blk_alloc ?_ _)); exact BK567.out⟩, ⟨by (with_reducible repeat (first | refine blk_drewN ?_ _ | refine blk_drew ?_ | refine blk_alloc ?_ _)); exact BK568.out⟩, ⟨by (with_reducible repeat (first | refine blk_drewN ?_ _ | refine blk_drew ?_ | refine blk_alloc ?_ _)); exact BK572.out⟩, ⟨by (with_reducible repeat (first | refine blk_drewN ?_ _ | refine blk_drew ?_ | refine blk_alloc ?_ _)); exact BK576.out⟩, ⟨by (with_reducible repeat (first | refine blk_drewN ?_ _ | refine blk_drew ?_ | refine blk_alloc ?_ _)); exact BK589.out⟩, ⟨by (with_reducible repeat (first | refine blk_drewN ?_ _ | refine blk_drew ?_ | refine blk_alloc ?_ _)); exact BK602.out⟩, ⟨by (with_reducible repeat (first | refine blk_drewN ?_ _ | refine blk_drew ?_ | refine blk_alloc ?_ _)); exact BK614.out⟩, ⟨bwl_⟩⟩
                ·rw [if_neg c220] at H
                 exact absurd H (by simp)
               ·rw [if_neg c219] at H
                have c219b0 : decide (x40_5 < (t607.length : Int)) = false := decide_eq_false c219
                clear c219
                by_cases c226 : t571 = 0
                ·rw [if_pos c226] at H
                 have c226b0 : (t571 == 0) = true := beq_iff_eq.mpr c226
                 have c226b1 : (t571 != 0) = false := bne_eq_false_iff_eq.mpr c226
                 clear c226
                 replace H := Option.bind_eq_some_iff.mp H
                 obtain ⟨⟨t645, t648⟩, A2270, H⟩ := H
                 (try dsimp only at H)
                 have A227 := Aside0.mk A2270
                 clear A2270
                 replace H := Option.bind_eq_some_iff.mp H
                 obtain ⟨⟨t649, t652⟩, A2280, H⟩ := H
                 (try dsimp only at H)
                 have A228 := Aside0.mk A2280
                 clear A2280
                 by_cases c229 : t648 = 0
                 ·rw [if_pos c229] at H
                  have c229b0 : (t648 == 0) = true := beq_iff_eq.mpr c229
                  have c229b1 : (t648 != 0) = false := bne_eq_false_iff_eq.mpr c229
                  clear c229
                  by_cases c230 : t652 = 0
                  ·rw [if_pos c230] at H
                   have c230b0 : (t652 == 0) = true := beq_iff_eq.mpr c230
                   have c230b1 : (t652 != 0) = false := bne_eq_false_iff_eq.mpr c230
                   clear c230
                   by_cases c231 : (t649.length : Int) = (wrap64 ((t645.length : Int) + 1))
                   ·rw [if_pos c231] at H
                    have c231b0 : ((t649.length : Int) == (wrap64 ((t645.length : Int) + 1))) = true := beq_iff_eq.mpr c231
                    have c231b1 : ((t649.length : Int) != (wrap64 ((t645.length : Int) + 1))) = false := bne_eq_false_iff_eq.mpr c231
                    clear c231
                    obtain ⟨ji232, hji232⟩ : ∃ j_ : Int, (wrap64 ((t649.length : Int) - 1)) = j_ := ⟨_, rfl⟩
                    replace H : (if 0 ≤ (ji232) then (if (ji232) < (t649.length : Int) then (some (((rd_T26 t649 (ji232)).f0) == t564 && ((((rd_T26 t649 (ji232)).f1).toList) == t565.toList && ((((rd_T26 t649 (ji232)).f2).toList) == t566.toList)))) else (none)) else (none)) = some r := by first | (rw [hji232] at H; exact H) | (simp only [hji232] at H ⊢; exact H)
                    (try rw [hji232] at A227)
                    (try rw [hji232] at A228)
                    have hji232w : (IntKind.i64.wrap ((t649.length : Int) - 1)) = ji232 := (i64_w _).trans hji232
                    by_cases c233 : 0 ≤ (ji232)
                    ·rw [if_pos c233] at H
                     have c233b0 : decide (0 ≤ (ji232)) = true := decide_eq_true c233
                     clear c233
                     by_cases c234 : (ji232) < (t649.length : Int)
                     ·rw [if_pos c234] at H
                      have c234b0 : decide ((ji232) < (t649.length : Int)) = true := decide_eq_true c234
                      clear c234
                      obtain rfl := Option.some.inj H
                      obtain ⟨Ao235, co235, eo235⟩ := Kd.R_slice HO_25.out
                      subst eo235
                      have hnb236 := NB567_568.out
                      have hnc236 := NB568_567.out
                      have hnb237 := NB567_572.out
                      have hnc237 := NB572_567.out
                      have hnb238 := NB567_576.out
                      have hnc238 := NB576_567.out
                      have hnb239 := NB567_589.out
                      have hnc239 := NB589_567.out
                      have hnb240 := NB567_602.out
                      have hnc240 := NB602_567.out
                      have hnb241 := NB567_614.out
                      have hnc241 := NB614_567.out
                      have hcz242_0 := b20_ BK567
                      have hcz242_1 := b21_ BK567
                      have hfz242_0 := blk_frozen BK567.out 0
                      have hfz242_1 := blk_frozen BK567.out 1
                      try go_wp2_with (first | ((with_reducible refine gate_callee (f := 36) rfl ?_); refine gl_ (some 291) Tryd.func36 #[.agg #[.string t562, .string t563]] ?_; (with_reducible refine (spec_EntriesOf.calls k5 t562 t563 t645 t648 _ A227.out).mono ?_); rintro e w243 ⟨v646, rfl, ho0, hb⟩; refine ⟨_, rfl, ?_⟩; have HO647 := Aside0.mk (Kd.R_lower (Kd.R_newB (Kd.R_new' ho0 (Kd.R_lt (by (with_reducible repeat (first | apply Kd.R_alloc | apply Kd.R_drewN | apply Kd.R_drew)); exact HO_25.out))) (g := gb568) (o := .cells #[.int .i64 t564, .string t565, .string t566] 26 (0, 0)) (by (with_reducible repeat (first | refine blk_drewN ?_ _ | refine blk_drew ?_ | refine blk_alloc ?_ _)); exact BK568.out)) (below_size bwl_)); replace HO_25 := Aside0.mk (Kd.R_elder' (by (with_reducible repeat (first | apply Kd.R_alloc | apply Kd.R_drewN | apply Kd.R_drew)); exact HO_25.out) (Kd.R_base ho0) hb); replace BK567 := bkb_ BK567 hb; replace BK568 := bkb_ BK568 hb; replace BK572 := bkb_ BK572 hb; replace BK576 := bkb_ BK576 hb; replace BK589 := bkb_ BK589 hb; replace BK602 := bkb_ BK602 hb; replace BK614 := bkb_ BK614 hb; replace HB := bst_ hb; clear hb ho0; have hnb244 := NB572_568.out; have hnc244 := NB568_572.out; have hnb245 := NB572_576.out; have hnc245 := NB576_572.out; have hnb246 := NB572_589.out; have hnc246 := NB589_572.out; have hnb247 := NB572_602.out; have hnc247 := NB602_572.out; have hnb248 := NB572_614.out; have hnc248 := NB614_572.out; have hcz249_0 := b20_ BK572; have hcz249_1 := b21_ BK572; have hfz249_0 := blk_frozen BK572.out 0; have hfz249_1 := blk_frozen BK572.out 1) | ((with_reducible refine gate_callee (f := 37) rfl ?_); refine gl_ (some 296) Tryd.func37 #[.agg #[.string t569, .string t570]] ?_; (with_reducible refine (impl_EntriesOf.calls k5 t569 t570 t649 t652 _ A228.out ?side1).mono ?_); (case side1 => exact HTB.out.below bwl_); rintro e w250 ⟨v650, rfl, ho0, hb⟩; refine ⟨_, rfl, ?_⟩; have HO651 := Aside0.mk (Kd.R_lower (Kd.R_newB (Kd.R_new' (Kd.R_new' ho0 (Kd.R_lt (by (with_reducible repeat (first | apply Kd.R_alloc | apply Kd.R_drewN | apply Kd.R_drew)); exact HO_25.out))) (Kd.R_lt (by (with_reducible repeat (first | apply Kd.R_alloc | apply Kd.R_drewN | apply Kd.R_drew)); exact HO647.out))) (g := gb568) (o := .cells #[.int .i64 t564, .string t565, .string t566] 26 (0, 0)) (by (with_reducible repeat (first | refine blk_drewN ?_ _ | refine blk_drew ?_ | refine blk_alloc ?_ _)); exact BK568.out)) (below_size bwl_)); replace HO_25 := Aside0.mk (Kd.R_elder' (by (with_reducible repeat (first | apply Kd.R_alloc | apply Kd.R_drewN | apply Kd.R_drew)); exact HO_25.out) (Kd.R_base ho0) hb); replace HO647 := Aside0.mk (Kd.R_elder' (by (with_reducible repeat (first | apply Kd.R_alloc | apply Kd.R_drewN | apply Kd.R_drew)); exact HO647.out) (Kd.R_base ho0) hb); replace BK567 := bkb_ BK567 hb; replace BK568 := bkb_ BK568 hb; replace BK572 := bkb_ BK572 hb; replace BK576 := bkb_ BK576 hb; replace BK589 := bkb_ BK589 hb; replace BK602 := bkb_ BK602 hb; replace BK614 := bkb_ BK614 hb; replace HB := bst_ hb; clear hb ho0))
                      replace HO_25 := Aside0.mk (Kd.R_drew HO_25.out)
                      replace HO647 := Aside0.mk (Kd.R_drew HO647.out)
                      replace HO651 := Aside0.mk (Kd.R_drew HO651.out)
                      replace BK567 := Aside0.mk (blk_drew BK567.out)
                      replace BK568 := Aside0.mk (blk_drew BK568.out)
                      replace BK572 := Aside0.mk (blk_drew BK572.out)
                      replace BK576 := Aside0.mk (blk_drew BK576.out)
                      replace BK589 := Aside0.mk (blk_drew BK589.out)
                      replace BK602 := Aside0.mk (blk_drew BK602.out)
                      replace BK614 := Aside0.mk (blk_drew BK614.out)
                      replace HB := Aside0.mk (below_drew1 HB.out)
                      obtain ⟨Ao252, co252, eo252⟩ := Kd.R_slice HO651.out
                      (first | subst eo252 | (injection eo252 with f1_ f2_ f3_; have f4_ := f1_.symm; have f5_ := f3_.symm; clear f1_ f2_ f3_; subst f4_; subst f5_))
                      obtain ⟨Ao253, co253, eo253⟩ := Kd.R_slice HO647.out
                      (first | subst eo253 | (injection eo253 with f1_ f2_ f3_; have f4_ := f1_.symm; have f5_ := f3_.symm; clear f1_ f2_ f3_; subst f4_; subst f5_))
                      have p653 : 0 ≤ ((ji232) : Int) := od_
                      have q653 : (ji232) < (t649.length : Int) := od_
                      obtain ⟨ad653, e653, hx653_0, hx653_1, hx653_2⟩ := at_T26 (Kd.R_reads' HO651.out).2.2 (ji232) p653 q653
                      cases e653
                      replace p653 := eq_true p653
                      replace q653 := eq_true q653
                      refine start_ (n := 21) (S := fun w' => w'.cell? ⟨gb568, 0, none⟩ = some (.int .i64 t564) ∧ w'.cell? ⟨gb568, 1, none⟩ = some (.string t565) ∧ w'.cell? ⟨gb568, 2, none⟩ = some (.string t566) ∧ w'.cell? (ad653.add (((ji232)).toNat * 3)) = some (.int .i64 ((rd_T26 t649 (ji232)).f0)) ∧ w'.cell? ⟨(ad653.add (((ji232)).toNat * 3)).block, (ad653.add (((ji232)).toNat * 3)).off + 1, none⟩ = some (.string ((rd_T26 t649 (ji232)).f1)) ∧ w'.cell? ⟨(ad653.add (((ji232)).toNat * 3)).block, (ad653.add (((ji232)).toNat * 3)).off + 2, none⟩ = some (.string ((rd_T26 t649 (ji232)).f2))) (ds := []) (fl 21 0) (by kernel_rfl) rfl rfl ⟨(blk_cell BK568.out 0).trans rfl, (blk_cell BK568.out 1).trans rfl, (blk_cell BK568.out 2).trans rfl, hx653_0, hx653_1, hx653_2⟩ (fun hHeld => ?_); refine with_tabW laws_FnLogs.tab45 laws_FnLogs.bits45 (fun HT_ HW_ => ?_)
                      generalize w250.drew = w251 at HO_25 HO647 HO651 BK567 BK568 BK572 BK576 BK589 BK602 BK614 HB hx653_0 hx653_1 hx653_2 hHeld ⊢
                      refine pu_ (i := 0) (N := some 304) (fl 21 1) (any_of HT_.out (by kernel_rfl)) ?_
                      refine pu_ (i := 1) (N := some 305) (fl 21 3) (any_of HT_.out (by kernel_rfl)) ?_
                      refine pu_ (i := 2) (N := some 306) (fl 21 7) (any_of HT_.out (by kernel_rfl)) ?_
                      refine pu_ (i := 3) (N := some 307) (fl 21 15) (any_of HT_.out (by kernel_rfl)) ?_
                      refine pu_ (i := 4) (N := some 308) (fl 21 31) (any_of HT_.out (by kernel_rfl)) ?_
                      refine pu_ (i := 5) (N := some 309) (fl 21 63) (any_of HT_.out (by kernel_rfl)) ?_
                      refine pu_ (i := 6) (N := some 310) (fl 21 127) (any_of HT_.out (by kernel_rfl)) ?_
                      refine pu_ (i := 7) (N := some 311) (fl 21 255) (any_of HT_.out (by kernel_rfl)) ?_
                      refine pu_ (i := 8) (N := some 312) (fl 21 511) (any_of HT_.out (by kernel_rfl)) ?_
                      refine pu_ (i := 9) (N := some 313) (fl 21 1023) (any_of HT_.out (by kernel_rfl)) ?_
                      refine pu_ (i := 10) (N := some 314) (fl 21 2047) (any_of HT_.out (by kernel_rfl)) ?_
                      refine pu_ (i := 11) (N := some 315) (fl 21 4095) (any_of HT_.out (by kernel_rfl)) ?_
                      refine pu_ (i := 12) (N := some 316) (fl 21 8191) (any_of HT_.out (by kernel_rfl)) ?_
                      refine pu_ (i := 13) (N := some 317) (fl 21 16383) (any_of HT_.out (by kernel_rfl)) ?_
                      refine pu_ (i := 14) (N := some 318) (fl 21 32767) (any_of HT_.out (by kernel_rfl)) ?_
                      refine pu_ (i := 15) (N := some 319) (fl 21 65535) (any_of HT_.out (by kernel_rfl)) ?_
                      refine take_ (i := 16) (N := some 320) (v := ?_) (a' := ?_) (fl 21 131071) rfl rfl (take_ofW HT_.out HW_.out (by kernel_rfl)) (fun _ _ _ h => h) (Or.inl ⟨by rfl, ?_⟩) hHeld ?_ ?_
                      rotate_left
                      ·rintro w' ⟨s0, s1, s2, s3, s4, s5⟩
                       go_simp
                       with_reducible rfl
                      rotate_left
                      ·simp only [Act.put, List.setIfInBounds_toArray, List.set_cons_zero, List.set_cons_succ, i64_w, i32_w]
                       rfl
                      refine take_ (i := 17) (N := some 321) (v := ?_) (a' := ?_) (fl 21 262143) rfl rfl (take_ofW HT_.out HW_.out (by kernel_rfl)) (fun _ _ _ h => h) (Or.inl ⟨by rfl, ?_⟩) hHeld ?_ ?_
                      rotate_left
                      ·rintro w' ⟨s0, s1, s2, s3, s4, s5⟩
                       go_simp
                       with_reducible rfl
                      rotate_left
                      ·simp only [Act.put, List.setIfInBounds_toArray, List.set_cons_zero, List.set_cons_succ, i64_w, i32_w]
                       rfl
                      refine pu_ (i := 18) (N := some 322) (fl 21 524287) (any_of HT_.out (by kernel_rfl)) ?_
                      refine pu_ (i := 19) (N := some 323) (fl 21 1048575) (any_of HT_.out (by kernel_rfl)) ?_
                      refine pu_ (i := 20) (N := some 2) (fl 21 2097151) (any_of HT_.out (by kernel_rfl)) ?_
                      refine done_ (done_of HT_.out (by kernel_rfl)) ?_
                      try go_wp2
                      go_ret
                      exact ⟨by first | rfl | (simp [errW_none, errW_some] <;> rfl) | (simp only [← hji232]; first | rfl | (simp [errW_none, errW_some] <;> rfl)) | (simp [*, errW_none, errW_some] <;> rfl), bwl_⟩
                     ·rw [if_neg c234] at H
                      exact absurd H (by simp)
                    ·rw [if_neg c233] at H
                     exact absurd H (by simp)
                   ·rw [if_neg c231] at H
                    exact absurd H (by simp)
                  ·rw [if_neg c230] at H
                   exact absurd H (by simp)
                 ·rw [if_neg c229] at H
                  have c229b0 : (t648 == 0) = false := beq_eq_false_iff_ne.mpr c229
                  have c229b1 : (t648 != 0) = true := bne_iff_ne.mpr c229
                  obtain rfl := Option.some.inj H
                  obtain ⟨Ao290, co290, eo290⟩ := Kd.R_slice HO_25.out
                  subst eo290
                  have hnb291 := NB567_568.out
                  have hnc291 := NB568_567.out
                  have hnb292 := NB567_572.out
                  have hnc292 := NB572_567.out
                  have hnb293 := NB567_576.out
                  have hnc293 := NB576_567.out
                  have hnb294 := NB567_589.out
                  have hnc294 := NB589_567.out
                  have hnb295 := NB567_602.out
                  have hnc295 := NB602_567.out
                  have hnb296 := NB567_614.out
                  have hnc296 := NB614_567.out
                  have hcz297_0 := b20_ BK567
                  have hcz297_1 := b21_ BK567
                  have hfz297_0 := blk_frozen BK567.out 0
                  have hfz297_1 := blk_frozen BK567.out 1
                  go_wp2_with (first | ((with_reducible refine gate_callee (f := 36) rfl ?_); refine gl_ (some 291) Tryd.func36 #[.agg #[.string t562, .string t563]] ?_; (with_reducible refine (spec_EntriesOf.calls k5 t562 t563 t645 t648 _ A227.out).mono ?_); rintro e w298 ⟨v646, rfl, ho0, hb⟩; refine ⟨_, rfl, ?_⟩; have HO647 := Aside0.mk (Kd.R_lower (Kd.R_newB (Kd.R_new' ho0 (Kd.R_lt (by (with_reducible repeat (first | apply Kd.R_alloc | apply Kd.R_drewN | apply Kd.R_drew)); exact HO_25.out))) (g := gb568) (o := .cells #[.int .i64 t564, .string t565, .string t566] 26 (0, 0)) (by (with_reducible repeat (first | refine blk_drewN ?_ _ | refine blk_drew ?_ | refine blk_alloc ?_ _)); exact BK568.out)) (below_size bwl_)); replace HO_25 := Aside0.mk (Kd.R_elder' (by (with_reducible repeat (first | apply Kd.R_alloc | apply Kd.R_drewN | apply Kd.R_drew)); exact HO_25.out) (Kd.R_base ho0) hb); replace BK567 := bkb_ BK567 hb; replace BK568 := bkb_ BK568 hb; replace BK572 := bkb_ BK572 hb; replace BK576 := bkb_ BK576 hb; replace BK589 := bkb_ BK589 hb; replace BK602 := bkb_ BK602 hb; replace BK614 := bkb_ BK614 hb; replace HB := bst_ hb; clear hb ho0; have hnb299 := NB572_568.out; have hnc299 := NB568_572.out; have hnb300 := NB572_576.out; have hnc300 := NB576_572.out; have hnb301 := NB572_589.out; have hnc301 := NB589_572.out; have hnb302 := NB572_602.out; have hnc302 := NB602_572.out; have hnb303 := NB572_614.out; have hnc303 := NB614_572.out; have hcz304_0 := b20_ BK572; have hcz304_1 := b21_ BK572; have hfz304_0 := blk_frozen BK572.out 0; have hfz304_1 := blk_frozen BK572.out 1) | ((with_reducible refine gate_callee (f := 37) rfl ?_); refine gl_ (some 296) Tryd.func37 #[.agg #[.string t569, .string t570]] ?_; (with_reducible refine (impl_EntriesOf.calls k5 t569 t570 t649 t652 _ A228.out ?side1).mono ?_); (case side1 => exact HTB.out.below bwl_); rintro e w305 ⟨v650, rfl, ho0, hb⟩; refine ⟨_, rfl, ?_⟩; have HO651 := Aside0.mk (Kd.R_lower (Kd.R_newB (Kd.R_new' (Kd.R_new' ho0 (Kd.R_lt (by (with_reducible repeat (first | apply Kd.R_alloc | apply Kd.R_drewN | apply Kd.R_drew)); exact HO_25.out))) (Kd.R_lt (by (with_reducible repeat (first | apply Kd.R_alloc | apply Kd.R_drewN | apply Kd.R_drew)); exact HO647.out))) (g := gb568) (o := .cells #[.int .i64 t564, .string t565, .string t566] 26 (0, 0)) (by (with_reducible repeat (first | refine blk_drewN ?_ _ | refine blk_drew ?_ | refine blk_alloc ?_ _)); exact BK568.out)) (below_size bwl_)); replace HO_25 := Aside0.mk (Kd.R_elder' (by (with_reducible repeat (first | apply Kd.R_alloc | apply Kd.R_drewN | apply Kd.R_drew)); exact HO_25.out) (Kd.R_base ho0) hb); replace HO647 := Aside0.mk (Kd.R_elder' (by (with_reducible repeat (first | apply Kd.R_alloc | apply Kd.R_drewN | apply Kd.R_drew)); exact HO647.out) (Kd.R_base ho0) hb); replace BK567 := bkb_ BK567 hb; replace BK568 := bkb_ BK568 hb; replace BK572 := bkb_ BK572 hb; replace BK576 := bkb_ BK576 hb; replace BK589 := bkb_ BK589 hb; replace BK602 := bkb_ BK602 hb; replace BK614 := bkb_ BK614 hb; replace HB := bst_ hb; clear hb ho0))
                  go_ret
                  exact ⟨rr_, bwl_⟩
                ·rw [if_neg c226] at H
                 have c226b0 : (t571 == 0) = false := beq_eq_false_iff_ne.mpr c226
                 have c226b1 : (t571 != 0) = true := bne_iff_ne.mpr c226
                 obtain rfl := Option.some.inj H
                 obtain ⟨Ao306, co306, eo306⟩ := Kd.R_slice HO_25.out
                 subst eo306
                 go_wp2
                 go_ret
                 exact ⟨rr_, bwl_⟩
end Go.Proofs.YtlcgonaapmmnkaaDoor.QFnLogs
