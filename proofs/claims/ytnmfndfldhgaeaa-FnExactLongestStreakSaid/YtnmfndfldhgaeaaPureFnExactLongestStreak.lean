/- For all hands the program's LongestStreak and the reference's LongestStreak tell the same; the hand stays as it is. -/
import Derived.Test.YtnmfndfldhgaeaaQFnExactLongestStreakx4
import Derived.Test.YtnmfndfldhgaeaaQFnExactLongestStreakx3
import Derived.Test.YtnmfndfldhgaeaaQFnExactLongestStreakx2
import Derived.Test.YtnmfndfldhgaeaaQFnExactLongestStreakx1
import Derived.Test.YtnmfndfldhgaeaaBase
namespace Go.Proofs.Ytnmfndfldhgaeaa.Pure
open Go.RowKit Go.Proofs.Ytnmfndfldhgaeaa.QFnExactLongestStreak Go.Proofs.YtnmfndfldhgaeaaW.PrintWords Go.Proofs.YtnmfndfldhgaeaaW.PrintLast Go.Proofs.Ytnmfndfldhgaeaa.Base
set_option linter.unusedVariables false
set_option linter.unusedSimpArgs false

namespace FnExactLongestStreak_
theorem toInt64S_ev (l : List Int) (h : l.length ≤ 35184372088832) : Ev (fun k => laws_toInt64S.f k l) l := by
  have round : ∀ k acc (i : Nat) (h : i < l.length), acc.length = l.length → laws_toInt64S.l0 (k + 1) l acc (i : Int) = laws_toInt64S.l0 k l (acc.set i (id l[i])) ((i : Int) + 1) := by
    intro k acc i hi hl
    simp only [laws_toInt64S.l0]
    rw [if_pos (by omega), if_pos (by omega), if_pos (by omega), w64 (by omega) (by omega), rd_nat l i hi, Int.toNat_natCast]
    rfl
  have fin : ∀ k acc, laws_toInt64S.l0 (k + 1) l acc (l.length : Int) = some acc := by
    intro k acc
    simp only [laws_toInt64S.l0]
    rw [if_neg (by omega)]
  have := fill_to l id (fun k acc i => laws_toInt64S.l0 k l acc i) round fin (List.replicate l.length 0) (by simp)
  rw [List.map_id] at this
  refine Ev.congr (fun k => ?_) this
  unfold laws_toInt64S.f
  rw [if_pos (by omega), if_pos (by simpa using h), Int.toNat_natCast]
theorem eqInt64S_ev (l : List Int) (h : l.length ≤ 35184372088832) : Ev (fun k => laws_eqInt64S.f k l l) true := by
  refine Ev.congr (f := fun k => laws_eqInt64S.l0 k l l 0) (fun k => by unfold laws_eqInt64S.f; rw [if_pos rfl]) ?_
  refine go_to l.length (fun k i => laws_eqInt64S.l0 k l l i) true (fun i hi => ⟨0, fun k _ => ?_⟩) (Ev.const fun k => ?_)
  · simp only [laws_eqInt64S.l0, if_true]
    rw [if_pos (by omega), if_pos (by omega), if_pos (by omega), w64 (by omega) (by omega)]
  · simp only [laws_eqInt64S.l0]
    rw [if_neg (by omega)]
theorem toHand_ev (f0 : ByteArray) (f1 : List Int) (f2 : Int) (h : f1.length ≤ 35184372088832) : Ev (fun k => laws_toHand.f k f0 f1 f2) (f0, f1, f2) := by
  obtain ⟨K, hK⟩ := Ev.pick (toInt64S_ev f1 h)
  refine Ev.intro K fun k hk => ?_
  unfold laws_toHand.f
  rw [hK k hk]
  rfl
theorem eqHand_ev (f0 : ByteArray) (f1 : List Int) (f2 : Int) (h : f1.length ≤ 35184372088832) : Ev (fun k => laws_eqHand.f k f0 f1 f2 f0 f1 f2) true := by
  obtain ⟨K, hK⟩ := Ev.pick (eqInt64S_ev f1 h)
  refine Ev.intro K fun k hk => ?_
  unfold laws_eqHand.f
  rw [hK k hk, if_pos rfl]
  simp
theorem szHand_eq (f0 : ByteArray) (f1 : List Int) (f2 n : Int) : ∃ t, laws_szHand.f f0 f1 f2 n = some t := by
  unfold laws_szHand.f laws_szInt64S.f
  repeat' split
  all_goals first | exact ⟨_, rfl⟩ | (simp only [Option.bind_some]; split <;> exact ⟨_, rfl⟩)
theorem sz_len {f0 : ByteArray} {f1 : List Int} {f2 t : Int} (h : laws_szHand.f f0 f1 f2 1048576 = some t) (ht : ¬ t < 0) (hs : f0.size ≤ maxLen) (hl : f1.length ≤ maxLen) : f1.length ≤ 35184372088832 := by
  unfold maxLen at hl hs
  by_cases k : f1.length ≤ 35184372088832
  · exact k
  · exfalso
    unfold laws_szHand.f laws_szInt64S.f at h
    unfold wrap64 at h
    repeat' split at h
    all_goals first | (injection h with h; omega) | (simp only [Option.bind_some] at h; split at h <;> (injection h with h; omega))

theorem within_eq (a b c : Int) : impl_within.f a b c = some (decide (b ≤ a ∧ a ≤ c)) := by
  unfold impl_within.f
  by_cases h : a ≥ b
  · rw [if_pos h]; congr 1; apply Bool.eq_iff_iff.mpr; simp; omega
  · rw [if_neg h]; congr 1; apply Bool.eq_iff_iff.mpr; simp; omega

theorem name_loop_impl (s : ByteArray) (h : s.size ≤ 12) : Ev (fun k => impl_IsName.l0 k s 0) ((List.range s.size).all fun i => nameByte (bt s i)) := by
  have := all_lt s.size (fun i => nameByte (bt s i)) (fun k i => impl_IsName.l0 k s i) true false (fun i hi hp => ⟨0, fun k _ => ?_⟩) (fun i hi hp => Ev.const fun k => ?_) (fun _ => Ev.const fun k => ?_)
  · rw [ite_bool] at this
    exact this
  · have hp := of_decide_eq_true hp
    simp only [impl_IsName.l0]
    rw [if_pos (by omega), if_pos (by omega), w64 (by omega) (by omega)]
    repeat' split
    all_goals first | rfl | (exfalso; omega)
  · have hp := of_decide_eq_false hp
    simp only [impl_IsName.l0]
    rw [if_pos (by omega), if_pos (by omega)]
    repeat' split
    all_goals first | rfl | (exfalso; omega)
  · simp only [impl_IsName.l0]
    rw [if_neg (by omega)]
theorem name_impl (s : ByteArray) : Ev (fun k => impl_IsName.f k s) (isNameB s) := by
  unfold isNameB
  by_cases h0 : s.size < 1
  · rw [decide_eq_false (by omega), Bool.false_and]
    refine Ev.const fun k => ?_
    unfold impl_IsName.f
    rw [if_pos (by omega)]
    simp only [impl_IsName.j0, if_true]
  · by_cases h12 : s.size ≤ 12
    · by_cases hs : 97 ≤ bt s 0 ∧ bt s 0 ≤ 122
      · rw [decide_eq_true ⟨by omega, h12, hs⟩, Bool.true_and]
        refine Ev.step (f := fun k => impl_IsName.l0 k s 0) (fun k => ?_) (name_loop_impl s h12)
        simp only [impl_IsName.f]
        rw [if_neg (by omega), if_neg (by omega), if_pos (by omega), if_neg (by omega), decide_eq_false (by omega)]
        simp only [impl_IsName.j0, Bool.false_eq_true, if_false]
      · rw [decide_eq_false (fun h => hs h.2.2), Bool.false_and]
        refine Ev.const fun k => ?_
        simp only [impl_IsName.f]
        rw [if_neg (by omega), if_neg (by omega), if_pos (by omega)]
        by_cases h1 : bt s 0 < 97
        · rw [if_pos h1]
          simp only [impl_IsName.j0, if_true]
        · rw [if_neg h1, decide_eq_true (by omega)]
          simp only [impl_IsName.j0, if_true]
    · rw [decide_eq_false (by omega), Bool.false_and]
      refine Ev.const fun k => ?_
      unfold impl_IsName.f
      rw [if_neg (by omega), if_pos (by omega)]
      simp only [impl_IsName.j0, if_true]

theorem areIn_ev (l : List Int) (a b : Int) (h : l.length ≤ 35184372088832) : Ev (fun k => impl_areIn.f k l l.length a b) (l.all fun x => decide (a ≤ x ∧ x ≤ b)) := by
  refine Ev.congr (f := fun k => impl_areIn.l0 k a b l l.length 0) (fun k => by unfold impl_areIn.f; rw [if_pos rfl]) ?_
  have := all_lt l.length (fun i => decide (a ≤ rd l i ∧ rd l i ≤ b)) (fun k i => impl_areIn.l0 k a b l l.length i) true false (fun i hi hp => ⟨0, fun k _ => ?_⟩) (fun i hi hp => Ev.const fun k => ?_) (fun _ => Ev.const fun k => ?_)
  · rw [all_range_list (p := fun x => decide (a ≤ x ∧ x ≤ b)) (fun i hi => by rw [rd_nat l i hi])] at this
    rw [ite_bool] at this
    exact this
  · simp only [impl_areIn.l0]
    rw [if_pos (by omega), if_pos (by omega), if_pos (by omega), within_eq, hp, w64 (by omega) (by omega)]
    rfl
  · simp only [impl_areIn.l0]
    rw [if_pos (by omega), if_pos (by omega), if_pos (by omega), within_eq, hp]
    rfl
  · simp only [impl_areIn.l0]
    rw [if_neg (by omega)]

theorem hand_impl (f0 : ByteArray) (f1 : List Int) (f2 : Int) (h : f1.length ≤ 35184372088832) : Ev (fun k => impl_validHand.f k f0 f1 f2) (handV f0 f1 f2) := by
  obtain ⟨K, hK⟩ := Ev.pick (name_impl f0)
  obtain ⟨J, hJ⟩ := Ev.pick (areIn_ev f1 0 1440 h)
  refine Ev.intro (K + J) fun k hk => ?_
  unfold impl_validHand.f handV
  rw [hK k (by omega), hJ k (by omega), within_eq]
  simp only [Option.bind_some]
  have e : (f1.all fun x => decide (0 ≤ x ∧ x ≤ 1440)) = f1.all shiftOk := rfl
  rw [e]
  by_cases c : f1.length ≤ 14
  · rw [decide_eq_true c]
    have c2 : (f1.length : Int) ≤ 14 := by omega
    simp only [if_pos c2]
    cases isNameB f0 <;> cases f1.all shiftOk <;> simp
  · rw [decide_eq_false c]
    have c2 : ¬ (f1.length : Int) ≤ 14 := by omega
    simp only [if_neg c2]
    cases isNameB f0 <;> simp
theorem handV_shift {f0 : ByteArray} {f1 : List Int} {f2 : Int} (h : handV f0 f1 f2 = true) : (∀ x ∈ f1, 0 ≤ x ∧ x ≤ 1440) ∧ f1.length ≤ 14 ∧ 0 ≤ f2 ∧ f2 ≤ 100000 := by
  unfold handV at h
  simp only [Bool.and_eq_true, decide_eq_true_eq, List.all_eq_true] at h
  obtain ⟨⟨⟨a, _⟩, b⟩, c⟩ := h
  exact ⟨fun x hx => of_decide_eq_true (a x hx), b, c⟩

theorem stk_bd2 {l : List Int} {i : Nat} {b m n : Int} (h : stkS l i = (b, m, n)) : 0 ≤ b ∧ b ≤ i ∧ 0 ≤ m ∧ m ≤ i ∧ 0 ≤ n ∧ n ≤ i := by
  have := stk_bd l i
  rw [h] at this
  exact this
theorem streak_impl (l : List Int) (h : l.length ≤ 35184372088832) : Ev (fun k => impl_LongestStreak.l0 k 0 0 0 l l.length 0) (stkAns l) := by
  have := for_to l.length (fun k (s : Int × Int × Int) i => impl_LongestStreak.l0 k s.1 s.2.1 s.2.2 l l.length i) (fun i => stkS l i) (stkAns l) (fun i hi => ⟨0, fun k _ => ?_⟩) (Ev.const fun k => ?_) l.length 0 (by omega)
  · exact this
  · obtain ⟨b, m, n, hs⟩ : ∃ b m n, stkS l i = (b, m, n) := ⟨_, _, _, rfl⟩
    have hb := stk_bd2 hs
    by_cases hx : rd l (i : Int) = 0
    · rw [stk_zero hs hx]
      simp only [impl_LongestStreak.l0, hs]
      rw [if_pos (by omega), if_pos (by omega), if_pos (by omega), if_pos hx, if_neg (by omega), w64 (x := (i : Int) + 1) (by omega) (by omega)]
    · by_cases hm : m < n + 1
      · rw [stk_more hs hx hm]
        simp only [impl_LongestStreak.l0, hs]
        rw [if_pos (by omega), if_pos (by omega), if_pos (by omega), if_neg hx, w64 (x := n + 1) (by omega) (by omega), if_pos (by omega), w64 (x := (i : Int) + 1) (by omega) (by omega), w64 (x := (i : Int) + 1 - (n + 1)) (by omega) (by omega)]
      · rw [stk_same hs hx hm]
        simp only [impl_LongestStreak.l0, hs]
        rw [if_pos (by omega), if_pos (by omega), if_pos (by omega), if_neg hx, w64 (x := n + 1) (by omega) (by omega), if_neg (by omega), w64 (x := (i : Int) + 1) (by omega) (by omega)]
  · simp only [impl_LongestStreak.l0]
    rw [if_neg (by omega)]
    unfold stkAns
    split <;> rfl

def streakAns (f0 : ByteArray) (f1 : List Int) (f2 : Int) : Int × Int × Int := if handV f0 f1 f2 = true then stkAns f1 else (0, 0, 1)
theorem streak_spec (f0 : ByteArray) (f1 : List Int) (f2 : Int) : spec_LongestStreak.f f0 f1 f2 = some (streakAns f0 f1 f2) := by
  unfold spec_LongestStreak.f streakAns
  cases handV f0 f1 f2 <;> rfl
theorem streak_all (f0 : ByteArray) (f1 : List Int) (f2 : Int) (h : f1.length ≤ 35184372088832) : Ev (fun k => impl_LongestStreak.f k f0 f1 f2) (streakAns f0 f1 f2) := by
  obtain ⟨K, hK⟩ := Ev.pick (hand_impl f0 f1 f2 h)
  obtain ⟨J, hJ⟩ := Ev.pick (streak_impl f1 h)
  refine Ev.intro (K + J) fun k hk => ?_
  unfold impl_LongestStreak.f streakAns
  rw [hK k (by omega), hJ k (by omega)]
  cases handV f0 f1 f2 <;> rfl
end FnExactLongestStreak_
open FnExactLongestStreak_ in
theorem FnExactLongestStreak : ∀ (a0_0 : ByteArray) (l0_1 : List Int) (a0_2 : Int), a0_0.size ≤ maxLen → (l0_1.length ≤ maxLen ∧ ∀ x ∈ l0_1, (Lit.int .i64 x).wf = true) → (Lit.int .i64 a0_2).wf = true → ∃ k, laws_FnExactLongestStreak.f k a0_0 l0_1 a0_2 = some true := by
  intro f0 f1 f2 hs hl _
  obtain ⟨t, ht⟩ := szHand_eq f0 f1 f2 1048576
  by_cases c : t < 0
  · refine ⟨0, ?_⟩
    unfold laws_FnExactLongestStreak.f
    rw [ht]
    simp only [Option.bind_some]
    rw [if_pos c]
  · have hn : f1.length ≤ 35184372088832 := sz_len ht c hs hl.1
    obtain ⟨K1, h1⟩ := Ev.pick (toHand_ev f0 f1 f2 hn)
    obtain ⟨K2, h2⟩ := Ev.pick (streak_all f0 f1 f2 hn)
    obtain ⟨K3, h3⟩ := Ev.pick (eqHand_ev f0 f1 f2 hn)
    refine ⟨K1 + K2 + K3 + 1, ?_⟩
    unfold laws_FnExactLongestStreak.f
    simp (disch := omega) only [ht, h1, h2, h3, streak_spec, c, laws_FnExactLongestStreak.j0, Option.bind_some, if_true, if_false, bne_self_eq_false, Bool.false_eq_true]

end Go.Proofs.Ytnmfndfldhgaeaa.Pure
