/- For all whole numbers the program's RoundPrice and the reference's RoundPrice tell the same: both test the same bounds and compute the same term. -/
import Derived.Test.YtajjnpcpeaiieaaPFnExactRoundPricex1
import Derived.Test.YtajjnpcpeaiieaaBase
namespace Go.Proofs.Ytajjnpcpeaiieaa.Pure
open Go.RowKit Go.Proofs.Ytajjnpcpeaiieaa.PFnExactRoundPrice Go.Proofs.YtajjnpcpeaiieaaW.PrintWords Go.Proofs.YtajjnpcpeaiieaaW.PrintLast Go.Proofs.Ytajjnpcpeaiieaa.Base

namespace FnExactRoundPrice_
theorem within_eq (a b c : Int) : impl_within.f a b c = some (decide (b ≤ a ∧ a ≤ c)) := by
  unfold impl_within.f
  by_cases h : a ≥ b
  · rw [if_pos h]; congr 1; apply Bool.eq_iff_iff.mpr; simp; omega
  · rw [if_neg h]; congr 1; apply Bool.eq_iff_iff.mpr; simp; omega
theorem in_eq (a b c : Int) : spec_l00In.f a b c = some (decide (b ≤ a ∧ a ≤ c)) := by
  unfold spec_l00In.f
  by_cases h : a ≥ b
  · rw [if_pos h]; congr 1; apply Bool.eq_iff_iff.mpr; simp; omega
  · rw [if_neg h]; congr 1; apply Bool.eq_iff_iff.mpr; simp; omega

theorem cents_eq (a : Int) : spec_l25Cents.f a = some (decide (0 ≤ a ∧ a ≤ 100000000)) := by
  unfold spec_l25Cents.f; rw [in_eq]; rfl

def roundAns (a b : Int) : Int × Int := if 0 ≤ a ∧ a ≤ 100000000 then (if 1 ≤ b ∧ b ≤ 100000 then (wrap64 ((wrap64 (Int.tdiv (wrap64 ((wrap64 (a + b)) - 1)) b)) * b), 0) else (0, 2)) else (0, 2)
theorem round_spec (a b : Int) : spec_RoundPrice.f a b = some (roundAns a b) := by
  unfold spec_RoundPrice.f roundAns
  rw [cents_eq, in_eq]
  by_cases h1 : 0 ≤ a ∧ a ≤ 100000000
  · by_cases h2 : 1 ≤ b ∧ b ≤ 100000
    · have hb : ¬ b = 0 := by omega
      simp [h1, h2, hb]
    · simp [h1, h2]
  · simp [h1]
theorem round_impl (a b : Int) : impl_RoundPrice.f a b = some (roundAns a b) := by
  unfold impl_RoundPrice.f roundAns impl_ceilDiv.f
  rw [within_eq, within_eq]
  by_cases h1 : 0 ≤ a ∧ a ≤ 100000000
  · by_cases h2 : 1 ≤ b ∧ b ≤ 100000
    · have hb : ¬ b = 0 := by omega
      simp [h1, h2, hb]
    · simp [h1, h2]
  · simp [h1]

end FnExactRoundPrice_
open FnExactRoundPrice_ in
theorem FnExactRoundPrice : laws_FnExactRoundPrice.Pure := by
  intro a b ha hb
  unfold laws_FnExactRoundPrice.f
  rw [round_spec, round_impl]
  simp

end Go.Proofs.Ytajjnpcpeaiieaa.Pure
