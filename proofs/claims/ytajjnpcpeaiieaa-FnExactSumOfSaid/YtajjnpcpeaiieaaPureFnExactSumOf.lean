/- For every text of at most 1,048,576 bytes the program's SumOf and the reference's SumOf tell one number: their loops do the same in each round, and both end. -/
import Derived.Test.YtajjnpcpeaiieaaPFnExactSumOfx1
import Derived.Test.YtajjnpcpeaiieaaBase
namespace Go.Proofs.Ytajjnpcpeaiieaa.Pure
open Go.RowKit Go.Proofs.Ytajjnpcpeaiieaa.PFnExactSumOf Go.Proofs.YtajjnpcpeaiieaaW.PrintWords Go.Proofs.YtajjnpcpeaiieaaW.PrintLast Go.Proofs.Ytajjnpcpeaiieaa.Base

namespace FnExactSumOf_
theorem sum_same (s : ByteArray) : ∀ (k : Nat) (x i : Int), impl_SumOf.l0 k s x i = spec_SumOf.l0 k s x i := by
  intro k
  induction k with
  | zero => intros; rfl
  | succ k ih =>
    intro x i
    simp only [impl_SumOf.l0, spec_SumOf.l0, ih]
    rw [Int.mul_comm 131 x]
theorem sum_ends (s : ByteArray) (hs : s.size ≤ 1048576) : ∀ (k : Nat) (x i : Int), 0 ≤ i → i ≤ s.size → (s.size : Int) - i < k → ∃ r, spec_SumOf.l0 k s x i = some r := by
  intro k
  induction k with
  | zero => intro x i h0 h1 h2; omega
  | succ k ih =>
    intro x i h0 h1 h2
    simp only [spec_SumOf.l0]
    by_cases h : i < (s.size : Int)
    · rw [if_pos h, if_pos h0, w64 (x := i + 1) (by omega) (by omega)]
      exact ih _ _ (by omega) (by omega) (by omega)
    · rw [if_neg h]
      exact ⟨_, rfl⟩

end FnExactSumOf_
open FnExactSumOf_ in
theorem FnExactSumOf : laws_FnExactSumOf.Pure := by
  intro s hs
  by_cases h : (s.size : Int) > 1048576
  · exact ⟨0, by unfold laws_FnExactSumOf.f; rw [if_pos h]⟩
  · obtain ⟨r, hr⟩ := sum_ends s (by omega) (s.size + 1) 7 0 (by omega) (by omega) (by omega)
    refine ⟨s.size + 1, ?_⟩
    unfold laws_FnExactSumOf.f spec_SumOf.f impl_SumOf.f
    rw [if_neg h, sum_same, hr]
    simp

end Go.Proofs.Ytajjnpcpeaiieaa.Pure
