/- For all whole numbers the program's MakingPrice and the reference's MakingPrice tell the same: s + ⌈s·m/100⌉ is ⌈s·(100+m)/100⌉ within the bounds that both test. -/
import Derived.Test.YtajjnpcpeaiieaaPFnExactMakingPricex1
import Derived.Test.YtajjnpcpeaiieaaBase
namespace Go.Proofs.Ytajjnpcpeaiieaa.Pure
open Go.RowKit Go.Proofs.Ytajjnpcpeaiieaa.PFnExactMakingPrice Go.Proofs.YtajjnpcpeaiieaaW.PrintWords Go.Proofs.YtajjnpcpeaiieaaW.PrintLast Go.Proofs.Ytajjnpcpeaiieaa.Base

namespace FnExactMakingPrice_
theorem within_eq (a b c : Int) : impl_within.f a b c = some (decide (b ≤ a ∧ a ≤ c)) := by
  unfold impl_within.f
  by_cases h : a ≥ b
  · rw [if_pos h]; congr 1; apply Bool.eq_iff_iff.mpr; simp; omega
  · rw [if_neg h]; congr 1; apply Bool.eq_iff_iff.mpr; simp; omega
theorem in_eq (a b c : Int) : spec_l00In.f a b c = some (decide (b ≤ a ∧ a ≤ c)) := by
  unfold spec_l00In.f
  by_cases h : a ≥ b
  · rw [if_pos h]; congr 1; apply Bool.eq_iff_iff.mpr; simp; omega
  · rw [if_neg h]; congr 1; apply Bool.eq_iff_iff.mpr; simp; omega

theorem cents_eq (a : Int) : spec_l25Cents.f a = some (decide (0 ≤ a ∧ a ≤ 100000000)) := by
  unfold spec_l25Cents.f; rw [in_eq]; rfl

def makingAns (a b c d : Int) : Int × Int := if (0 ≤ a ∧ a ≤ 100000000) ∧ (0 ≤ b ∧ b ≤ 10000) ∧ (0 ≤ c ∧ c ≤ 100000000) ∧ (0 ≤ d ∧ d ≤ 1000) then (((a + b * c) * (100 + d) + 99) / 100, 0) else (0, 2)
theorem making_spec (a b c d : Int) : spec_MakingPrice.f a b c d = some (makingAns a b c d) := by
  unfold spec_MakingPrice.f makingAns
  rw [cents_eq, in_eq, cents_eq, in_eq]
  by_cases h1 : 0 ≤ a ∧ a ≤ 100000000
  · by_cases h2 : 0 ≤ b ∧ b ≤ 10000
    · by_cases h3 : 0 ≤ c ∧ c ≤ 100000000
      · by_cases h4 : 0 ≤ d ∧ d ≤ 1000
        · obtain ⟨p0, p1⟩ := mul_range h2.1 h2.2 h3.1 h3.2
          obtain ⟨q0, q1⟩ := mul_range (a := a + b * c) (b := 100 + d) (A := 1000100000000) (B := 1100) (by omega) (by omega) (by omega) (by omega)
          rw [w64 (x := b * c) (by omega) (by omega), w64 (x := a + b * c) (by omega) (by omega), w64 (x := 100 + d) (by omega) (by omega), w64 (x := (a + b * c) * (100 + d)) (by omega) (by omega), w64 (x := (a + b * c) * (100 + d) + 99) (by omega) (by omega), tdiv_nn (by omega), w64 (by omega) (by omega)]
          simp [h1, h2, h3, h4]
        · simp [h1, h2, h3, h4]
      · simp [h1, h2, h3]
    · simp [h1, h2]
  · simp [h1]
theorem making_impl (a b c d : Int) : impl_MakingPrice.f a b c d = some (makingAns a b c d) := by
  unfold impl_MakingPrice.f makingAns impl_ceilDiv.f
  rw [within_eq, within_eq, within_eq, within_eq]
  by_cases h1 : 0 ≤ a ∧ a ≤ 100000000
  · by_cases h2 : 0 ≤ b ∧ b ≤ 10000
    · by_cases h3 : 0 ≤ c ∧ c ≤ 100000000
      · by_cases h4 : 0 ≤ d ∧ d ≤ 1000
        · obtain ⟨p0, p1⟩ := mul_range h2.1 h2.2 h3.1 h3.2
          obtain ⟨q0, q1⟩ := mul_range (a := a + b * c) (b := d) (A := 1000100000000) (B := 1000) (by omega) (by omega) (by omega) (by omega)
          have e : (a + b * c) * (100 + d) = 100 * (a + b * c) + (a + b * c) * d := by rw [Int.mul_add, Int.mul_comm _ 100]
          rw [w64 (x := b * c) (by omega) (by omega), w64 (x := a + b * c) (by omega) (by omega), w64 (x := (a + b * c) * d) (by omega) (by omega), w64 (x := (a + b * c) * d + 100) (by omega) (by omega), w64 (x := (a + b * c) * d + 100 - 1) (by omega) (by omega), tdiv_nn (by omega), w64 (x := ((a + b * c) * d + 100 - 1) / 100) (by omega) (by omega), e]
          have e2 : wrap64 (a + b * c + ((a + b * c) * d + 100 - 1) / 100) = (100 * (a + b * c) + (a + b * c) * d + 99) / 100 := by
            generalize (a + b * c) * d = q at *
            generalize b * c = p at *
            rw [w64 (by omega) (by omega)]; omega
          simp [h1, h2, h3, h4, e2]
        · simp [h1, h2, h3, h4]
      · simp [h1, h2, h3]
    · simp [h1, h2]
  · simp [h1]

end FnExactMakingPrice_
open FnExactMakingPrice_ in
theorem FnExactMakingPrice : laws_FnExactMakingPrice.Pure := by
  intro a b c d ha hb hc hd
  unfold laws_FnExactMakingPrice.f
  rw [making_spec, making_impl]
  simp

end Go.Proofs.Ytajjnpcpeaiieaa.Pure
