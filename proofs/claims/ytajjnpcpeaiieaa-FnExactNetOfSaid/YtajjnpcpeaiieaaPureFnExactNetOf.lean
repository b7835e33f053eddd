/- For all whole numbers the program's NetOf and the reference's NetOf tell the same: both halve an interval down to the least net price whose price with tax is not less. -/
import Derived.Test.YtajjnpcpeaiieaaPFnExactNetOfx1
import Derived.Test.YtajjnpcpeaiieaaBase
namespace Go.Proofs.Ytajjnpcpeaiieaa.Pure
open Go.RowKit Go.Proofs.Ytajjnpcpeaiieaa.PFnExactNetOf Go.Proofs.YtajjnpcpeaiieaaW.PrintWords Go.Proofs.YtajjnpcpeaiieaaW.PrintLast Go.Proofs.Ytajjnpcpeaiieaa.Base

namespace FnExactNetOf_
theorem within_eq (a b c : Int) : impl_within.f a b c = some (decide (b ≤ a ∧ a ≤ c)) := by
  unfold impl_within.f
  by_cases h : a ≥ b
  · rw [if_pos h]; congr 1; apply Bool.eq_iff_iff.mpr; simp; omega
  · rw [if_neg h]; congr 1; apply Bool.eq_iff_iff.mpr; simp; omega
theorem in_eq (a b c : Int) : spec_l00In.f a b c = some (decide (b ≤ a ∧ a ≤ c)) := by
  unfold spec_l00In.f
  by_cases h : a ≥ b
  · rw [if_pos h]; congr 1; apply Bool.eq_iff_iff.mpr; simp; omega
  · rw [if_neg h]; congr 1; apply Bool.eq_iff_iff.mpr; simp; omega

theorem cents_eq (a : Int) : spec_l25Cents.f a = some (decide (0 ≤ a ∧ a ≤ 100000000)) := by
  unfold spec_l25Cents.f; rw [in_eq]; rfl

/-- A net price with its tax. -/
def gross (n p : Int) : Int := n + (n * p + 50) / 100
theorem gross_mono {n m p : Int} (h : n ≤ m) (hp : 0 ≤ p) : gross n p ≤ gross m p := by
  unfold gross
  have := Int.mul_le_mul_of_nonneg_right h hp
  omega
/-- The least net price within bounds whose price with tax is not less than c. -/
def IsNet (c p r : Int) : Prop := 0 ≤ r ∧ r ≤ c ∧ c ≤ gross r p ∧ (r = 0 ∨ gross (r - 1) p < c)
theorem isNet_one {c p r q : Int} (hp : 0 ≤ p) (h : IsNet c p r) (k : IsNet c p q) : r = q := by
  obtain ⟨h0, h1, h2, h3⟩ := h
  obtain ⟨k0, k1, k2, k3⟩ := k
  rcases Int.lt_trichotomy r q with e | e | e
  · rcases k3 with k3 | k3
    · omega
    · have := gross_mono (n := r) (m := q - 1) (p := p) (by omega) hp; omega
  · exact e
  · rcases h3 with h3 | h3
    · omega
    · have := gross_mono (n := q) (m := r - 1) (p := p) (by omega) hp; omega
theorem gross_eq (n p : Int) (hn : 0 ≤ n) (hn1 : n ≤ 100000000) (hp : 0 ≤ p) (hp1 : p ≤ 100) : spec_l25Gross.f n p = some (gross n p) := by
  obtain ⟨q0, q1⟩ := mul_range hn hn1 hp hp1
  unfold spec_l25Gross.f spec_l00Round.f spec_l00Floor.f gross
  generalize n * p = q at *
  rw [w64 (x := q) (by omega) (by omega), w64 (x := 2 * 100) (by omega) (by omega), w64 (x := 2 * q) (by omega) (by omega), w64 (x := 2 * q + 100) (by omega) (by omega), if_neg (by omega), if_neg (by rw [tmod_nn (by omega)]; omega), tdiv_nn (by omega), w64 (x := (2 * q + 100) / (2 * 100)) (by omega) (by omega)]
  simp only [Option.bind_some]
  rw [w64 (by omega) (by omega)]
  congr 1
  omega
theorem gross_impl (n p : Int) (hn : 0 ≤ n) (hn1 : n ≤ 100000000) (hp : 0 ≤ p) (hp1 : p ≤ 100) : wrap64 (n + wrap64 (Int.tdiv (wrap64 (wrap64 (n * p) + 50)) 100)) = gross n p := by
  obtain ⟨q0, q1⟩ := mul_range hn hn1 hp hp1
  unfold gross
  generalize n * p = q at *
  rw [w64 (x := q) (by omega) (by omega), w64 (x := q + 50) (by omega) (by omega), tdiv_nn (by omega), w64 (x := (q + 50) / 100) (by omega) (by omega), w64 (by omega) (by omega)]
theorem net_impl (c p : Int) (hc : c ≤ 100000000) (hp : 0 ≤ p) (hp1 : p ≤ 100) : ∀ (k : Nat) (low high : Int), 0 ≤ low → low ≤ high → high ≤ c → high - low < k → c ≤ gross high p → (low = 0 ∨ gross (low - 1) p < c) → ∃ r, impl_NetOf.l0 k c p low high = some (r, 0) ∧ IsNet c p r := by
  intro k
  induction k with
  | zero => intro low high h0 h1 h2 h3; omega
  | succ k ih =>
    intro low high h0 h1 h2 h3 h4 h5
    simp only [impl_NetOf.l0]
    by_cases h : low < high
    · rw [if_pos h, w64 (x := low + high) (by omega) (by omega), tdiv_nn (by omega), w64 (x := (low + high) / 2) (by omega) (by omega)]
      generalize hm : (low + high) / 2 = mid
      rw [gross_impl mid p (by omega) (by omega) hp hp1]
      by_cases g : gross mid p ≥ c
      · rw [if_pos g]
        exact ih low mid h0 (by omega) (by omega) (by omega) g h5
      · rw [if_neg g, w64 (x := mid + 1) (by omega) (by omega)]
        exact ih (mid + 1) high (by omega) (by omega) h2 (by omega) h4 (.inr (by rw [Int.add_sub_cancel]; omega))
    · rw [if_neg h]
      obtain rfl : low = high := by omega
      exact ⟨low, rfl, h0, h2, h4, h5⟩
theorem net_spec (c p : Int) (hc : c ≤ 100000000) (hp : 0 ≤ p) (hp1 : p ≤ 100) : ∀ (k : Nat) (low high : Int), -1 ≤ low → low < high → high ≤ c → high - low < k → c ≤ gross high p → (low = -1 ∨ gross low p < c) → ∃ r, spec_NetOf.l0 k c p low high = some (r, 0) ∧ IsNet c p r := by
  intro k
  induction k with
  | zero => intro low high h0 h1 h2 h3; omega
  | succ k ih =>
    intro low high h0 h1 h2 h3 h4 h5
    simp only [spec_NetOf.l0]
    rw [w64 (x := high - low) (by omega) (by omega)]
    by_cases h : high - low > 1
    · rw [if_pos h, w64 (x := low + high) (by omega) (by omega), tdiv_nn (by omega), w64 (x := (low + high) / 2) (by omega) (by omega)]
      generalize hm : (low + high) / 2 = mid
      rw [gross_eq mid p (by omega) (by omega) hp hp1]
      simp only [Option.bind_some]
      by_cases g : gross mid p < c
      · rw [if_pos g]
        exact ih mid high (by omega) (by omega) h2 (by omega) h4 (.inr g)
      · rw [if_neg g]
        exact ih low mid h0 (by omega) (by omega) (by omega) (by omega) h5
    · rw [if_neg h]
      obtain rfl : low = high - 1 := by omega
      refine ⟨high, rfl, by omega, h2, h4, ?_⟩
      rcases h5 with h5 | h5
      · exact .inl (by omega)
      · exact .inr h5
theorem percent_eq (a : Int) : spec_l25Percent.f a = some (decide (0 ≤ a ∧ a ≤ 100)) := by
  unfold spec_l25Percent.f; rw [in_eq]; rfl
theorem net_both (c p : Int) : ∃ a : Int × Int, Ev (fun k => spec_NetOf.f k c p) a ∧ Ev (fun k => impl_NetOf.f k c p) a ∧ ((0 ≤ c ∧ c ≤ 100000000) → (0 ≤ p ∧ p ≤ 100) → a.2 = 0 ∧ IsNet c p a.1) := by
  by_cases h1 : 0 ≤ c ∧ c ≤ 100000000
  · by_cases h2 : 0 ≤ p ∧ p ≤ 100
    · have hg : c ≤ gross c p := by
        unfold gross
        have := (mul_range h1.1 h1.2 h2.1 h2.2).1
        omega
      obtain ⟨r, hr, hr1⟩ := net_impl c p h1.2 h2.1 h2.2 (c.toNat + 5) 0 c (by omega) (by omega) (by omega) (by omega) hg (.inl rfl)
      obtain ⟨q, hq, hq1⟩ := net_spec c p h1.2 h2.1 h2.2 (c.toNat + 5) (-1) c (by omega) (by omega) (by omega) (by omega) hg (.inl rfl)
      obtain rfl := isNet_one h2.1 hr1 hq1
      refine ⟨(r, 0), Ev.of (k := c.toNat + 6) (fun k => spec_NetOf.mono c p k) ?_, Ev.of (k := c.toNat + 6) (fun k => impl_NetOf.mono c p k) ?_, fun _ _ => ⟨rfl, hr1⟩⟩
      · unfold spec_NetOf.f
        rw [cents_eq, percent_eq]
        simp only [h1, h2, Option.bind_some, decide_true, and_self, if_true, Bool.not_true]
        simp only [spec_NetOf.j0, Bool.false_eq_true, if_false]
        exact hq
      · unfold impl_NetOf.f
        rw [within_eq, within_eq]
        simp only [h1, h2, Option.bind_some, decide_true, and_self, if_true, Bool.not_true]
        simp only [impl_NetOf.j0, Bool.false_eq_true, if_false]
        exact hr
    · refine ⟨(0, 2), Ev.of (k := 1) (fun k => spec_NetOf.mono c p k) ?_, Ev.of (k := 1) (fun k => impl_NetOf.mono c p k) ?_, fun _ h => absurd h h2⟩
      · unfold spec_NetOf.f
        rw [cents_eq, percent_eq]
        simp only [h1, h2, Option.bind_some, decide_true, decide_false, and_self, if_true, Bool.not_false]
        simp only [spec_NetOf.j0, if_true]
      · unfold impl_NetOf.f
        rw [within_eq, within_eq]
        simp only [h1, h2, Option.bind_some, decide_true, decide_false, and_self, if_true, Bool.not_false]
        simp only [impl_NetOf.j0, if_true]
  · refine ⟨(0, 2), Ev.of (k := 1) (fun k => spec_NetOf.mono c p k) ?_, Ev.of (k := 1) (fun k => impl_NetOf.mono c p k) ?_, fun h => absurd h h1⟩
    · unfold spec_NetOf.f
      rw [cents_eq]
      simp only [h1, Option.bind_some, decide_false, Bool.false_eq_true, if_false]
      simp only [spec_NetOf.j0, if_true]
    · unfold impl_NetOf.f
      rw [within_eq]
      simp only [h1, Option.bind_some, decide_false, Bool.false_eq_true, if_false]
      simp only [impl_NetOf.j0, if_true]

end FnExactNetOf_
open FnExactNetOf_ in
theorem FnExactNetOf : laws_FnExactNetOf.Pure := by
  intro c p hc hp
  obtain ⟨a, ⟨K, hK⟩, ⟨K2, hK2⟩, _⟩ := net_both c p
  dsimp only at hK hK2
  refine ⟨max K K2, ?_⟩
  unfold laws_FnExactNetOf.f
  rw [hK _ (by omega), hK2 _ (by omega)]
  simp

end Go.Proofs.Ytajjnpcpeaiieaa.Pure
