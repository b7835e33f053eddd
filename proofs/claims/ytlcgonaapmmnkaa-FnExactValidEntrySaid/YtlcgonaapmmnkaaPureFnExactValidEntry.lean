/- For all entries the program's ValidEntry and the reference's ValidEntry tell the same. -/
import Derived.Test.YtlcgonaapmmnkaaQFnExactValidEntryx3
import Derived.Test.YtlcgonaapmmnkaaQFnExactValidEntryx2
import Derived.Test.YtlcgonaapmmnkaaQFnExactValidEntryx1
import Derived.Test.YtlcgonaapmmnkaaBase
namespace Go.Proofs.Ytlcgonaapmmnkaa.Pure
open Go.RowKit Go.Proofs.Ytlcgonaapmmnkaa.QFnExactValidEntry Go.Proofs.YtlcgonaapmmnkaaW.PrintWords Go.Proofs.YtlcgonaapmmnkaaW.PrintLast Go.Proofs.Ytlcgonaapmmnkaa.Base
set_option linter.unusedVariables false
set_option linter.unusedSimpArgs false

namespace FnExactValidEntry_
theorem in_eq (a b c : Int) : spec_l00In.f a b c = some (decide (b ≤ a ∧ a ≤ c)) := by
  unfold spec_l00In.f
  by_cases h : a ≥ b
  · rw [if_pos h]; congr 1; apply Bool.eq_iff_iff.mpr; simp; omega
  · rw [if_neg h]; congr 1; apply Bool.eq_iff_iff.mpr; simp; omega

theorem name_loop_spec (s : ByteArray) (h : s.size ≤ 12) : Ev (fun k => spec_IsName.l0 k s 0) ((List.range s.size).all fun i => nameByte (bt s i)) := by
  have := all_lt s.size (fun i => nameByte (bt s i)) (fun k i => spec_IsName.l0 k s i) true false (fun i hi hp => ⟨0, fun k _ => ?_⟩) (fun i hi hp => Ev.const fun k => ?_) (fun _ => Ev.const fun k => ?_)
  · rw [ite_bool] at this
    exact this
  · have hp := of_decide_eq_true hp
    simp only [spec_IsName.l0, spec_l01Small.f, spec_l01Digit.f]
    rw [if_pos (by omega), if_pos (by omega), w64 (by omega) (by omega)]
    by_cases h1 : bt s i ≥ 97
    · rw [if_pos h1]
      simp only [Option.bind_some, decide_eq_true_eq]
      by_cases h2 : bt s i ≤ 122
      · rw [if_pos h2]
      · exfalso; omega
    · rw [if_neg h1]
      simp only [Option.bind_some, Bool.false_eq_true, if_false]
      by_cases h3 : bt s i ≥ 48
      · rw [if_pos h3]
        simp only [Option.bind_some, decide_eq_true_eq]
        rw [if_pos (by omega)]
      · rw [if_neg h3]
        simp only [Option.bind_some, Bool.false_eq_true, if_false]
        rw [if_pos (by omega)]
  · have hp := of_decide_eq_false hp
    simp only [spec_IsName.l0, spec_l01Small.f, spec_l01Digit.f]
    rw [if_pos (by omega), if_pos (by omega)]
    by_cases h1 : bt s i ≥ 97
    · rw [if_pos h1, if_pos (by omega)]
      simp only [Option.bind_some, decide_eq_true_eq]
      rw [if_neg (by omega), if_neg (by omega), if_neg (by omega)]
    · rw [if_neg h1]
      simp only [Option.bind_some, Bool.false_eq_true, if_false]
      by_cases h3 : bt s i ≥ 48
      · rw [if_pos h3]
        simp only [Option.bind_some, decide_eq_true_eq]
        rw [if_neg (by omega), if_neg (by omega)]
      · rw [if_neg h3]
        simp only [Option.bind_some, Bool.false_eq_true, if_false]
        rw [if_neg (by omega)]
  · simp only [spec_IsName.l0]
    rw [if_neg (by omega)]
theorem name_j0 (s : ByteArray) (k : Nat) : spec_IsName.j0 (k + 1) s true = some false := by simp only [spec_IsName.j0, if_true]
theorem name_spec (s : ByteArray) : Ev (fun k => spec_IsName.f k s) (isNameB s) := by
  unfold isNameB
  by_cases h0 : s.size = 0
  · rw [decide_eq_false (by omega), Bool.false_and]
    refine Ev.const fun k => ?_
    unfold spec_IsName.f
    rw [if_pos (List.eq_nil_of_length_eq_zero (by rw [size_toList, h0]))]
    exact name_j0 s k
  · have hne : ¬ s.toList = ([] : List UInt8) := fun h => h0 (by rw [← size_toList, h]; rfl)
    by_cases h12 : s.size ≤ 12
    · by_cases hs : 97 ≤ bt s 0 ∧ bt s 0 ≤ 122
      · rw [decide_eq_true ⟨by omega, h12, hs⟩, Bool.true_and]
        refine Ev.step (f := fun k => spec_IsName.l0 k s 0) (fun k => ?_) (name_loop_spec s h12)
        simp only [spec_IsName.f, spec_l01Small.f]
        rw [if_neg hne, if_neg (by omega), if_pos (by omega), if_pos (by omega)]
        simp only [Option.bind_some]
        rw [decide_eq_true hs.2]
        simp only [Bool.not_true, spec_IsName.j0, Bool.false_eq_true, if_false]
      · rw [decide_eq_false (fun h => hs h.2.2), Bool.false_and]
        refine Ev.const fun k => ?_
        simp only [spec_IsName.f, spec_l01Small.f]
        rw [if_neg hne, if_neg (by omega), if_pos (by omega)]
        by_cases h1 : bt s 0 ≥ 97
        · rw [if_pos h1]
          simp only [Option.bind_some]
          rw [decide_eq_false (by omega)]
          exact name_j0 s k
        · rw [if_neg h1]
          exact name_j0 s k
    · rw [decide_eq_false (by omega), Bool.false_and]
      refine Ev.const fun k => ?_
      unfold spec_IsName.f
      rw [if_neg hne, if_pos (by omega)]
      exact name_j0 s k

theorem text_spec (s : ByteArray) (m : Int) (h : s.size ≤ 140737488351232) : Ev (fun k => spec_l00Text.f k s m) (plainB s && decide ((s.size : Int) ≤ m)) := by
  unfold spec_l00Text.f plainB
  have := all_lt s.size (fun i => decide (32 ≤ bt s i ∧ bt s i ≤ 126)) (fun k i => spec_l00Text.l0 k s m i) (decide ((s.size : Int) ≤ m)) false (fun i hi hp => ⟨0, fun k _ => ?_⟩) (fun i hi hp => Ev.const fun k => ?_) (fun _ => Ev.const fun k => ?_)
  · have e : (if ((List.range s.size).all fun i => decide (32 ≤ bt s i ∧ bt s i ≤ 126)) = true then decide ((s.size : Int) ≤ m) else false) = (((List.range s.size).all fun i => decide (32 ≤ bt s i ∧ bt s i ≤ 126)) && decide ((s.size : Int) ≤ m)) := by
      cases ((List.range s.size).all fun i => decide (32 ≤ bt s i ∧ bt s i ≤ 126)) <;> rfl
    rw [e] at this
    exact this
  · have hp := of_decide_eq_true hp
    simp only [spec_l00Text.l0]
    rw [if_pos (by omega), if_pos (by omega), if_neg (by omega), if_neg (by omega), w64 (by omega) (by omega)]
  · have hp := of_decide_eq_false hp
    simp only [spec_l00Text.l0]
    rw [if_pos (by omega), if_pos (by omega)]
    by_cases c : bt s i < 32
    · rw [if_pos c]
    · rw [if_neg c, if_pos (by omega)]
  · simp only [spec_l00Text.l0]
    rw [if_neg (by omega)]
theorem one_spec (f0 : Int) (f1 f2 : ByteArray) (h : f2.size ≤ 140737488351232) : Ev (fun k => spec_l27One.f k f0 f1 f2) (entryV f0 f1 f2, f0, f1, f2) := by
  obtain ⟨K, hK⟩ := Ev.pick (name_spec f1)
  obtain ⟨J, hJ⟩ := Ev.pick (text_spec f2 60 h)
  refine Ev.intro (K + J) fun k hk => ?_
  unfold spec_l27One.f entryV
  rw [in_eq, hK k (by omega), hJ k (by omega)]
  have e : decide ((f2.size : Int) ≤ 60) = decide (f2.size ≤ 60) := by
    by_cases c : f2.size ≤ 60
    · rw [decide_eq_true c, decide_eq_true (by omega)]
    · rw [decide_eq_false c, decide_eq_false (by omega)]
  rw [e]
  cases decide (0 ≤ f0 ∧ f0 ≤ 20000) <;> cases isNameB f1 <;> simp

theorem within_eq (a b c : Int) : impl_within.f a b c = some (decide (b ≤ a ∧ a ≤ c)) := by
  unfold impl_within.f
  by_cases h : a ≥ b
  · rw [if_pos h]; congr 1; apply Bool.eq_iff_iff.mpr; simp; omega
  · rw [if_neg h]; congr 1; apply Bool.eq_iff_iff.mpr; simp; omega

theorem name_loop_impl (s : ByteArray) (h : s.size ≤ 12) : Ev (fun k => impl_IsName.l0 k s 0) ((List.range s.size).all fun i => nameByte (bt s i)) := by
  have := all_lt s.size (fun i => nameByte (bt s i)) (fun k i => impl_IsName.l0 k s i) true false (fun i hi hp => ⟨0, fun k _ => ?_⟩) (fun i hi hp => Ev.const fun k => ?_) (fun _ => Ev.const fun k => ?_)
  · rw [ite_bool] at this
    exact this
  · have hp := of_decide_eq_true hp
    simp only [impl_IsName.l0]
    rw [if_pos (by omega), if_pos (by omega), w64 (by omega) (by omega)]
    repeat' split
    all_goals first | rfl | (exfalso; omega)
  · have hp := of_decide_eq_false hp
    simp only [impl_IsName.l0]
    rw [if_pos (by omega), if_pos (by omega)]
    repeat' split
    all_goals first | rfl | (exfalso; omega)
  · simp only [impl_IsName.l0]
    rw [if_neg (by omega)]
theorem name_impl (s : ByteArray) : Ev (fun k => impl_IsName.f k s) (isNameB s) := by
  unfold isNameB
  by_cases h0 : s.size < 1
  · rw [decide_eq_false (by omega), Bool.false_and]
    refine Ev.const fun k => ?_
    unfold impl_IsName.f
    rw [if_pos (by omega)]
    simp only [impl_IsName.j0, if_true]
  · by_cases h12 : s.size ≤ 12
    · by_cases hs : 97 ≤ bt s 0 ∧ bt s 0 ≤ 122
      · rw [decide_eq_true ⟨by omega, h12, hs⟩, Bool.true_and]
        refine Ev.step (f := fun k => impl_IsName.l0 k s 0) (fun k => ?_) (name_loop_impl s h12)
        simp only [impl_IsName.f]
        rw [if_neg (by omega), if_neg (by omega), if_pos (by omega), if_neg (by omega), decide_eq_false (by omega)]
        simp only [impl_IsName.j0, Bool.false_eq_true, if_false]
      · rw [decide_eq_false (fun h => hs h.2.2), Bool.false_and]
        refine Ev.const fun k => ?_
        simp only [impl_IsName.f]
        rw [if_neg (by omega), if_neg (by omega), if_pos (by omega)]
        by_cases h1 : bt s 0 < 97
        · rw [if_pos h1]
          simp only [impl_IsName.j0, if_true]
        · rw [if_neg h1, decide_eq_true (by omega)]
          simp only [impl_IsName.j0, if_true]
    · rw [decide_eq_false (by omega), Bool.false_and]
      refine Ev.const fun k => ?_
      unfold impl_IsName.f
      rw [if_neg (by omega), if_pos (by omega)]
      simp only [impl_IsName.j0, if_true]

theorem entry_loop (f0 : Int) (f1 f2 : ByteArray) (h : f2.size ≤ 140737488351232) : Ev (fun k => impl_ValidEntry.l0 k 0 f0 f1 f2) (plainB f2) := by
  unfold plainB
  have := all_lt f2.size (fun i => decide (32 ≤ bt f2 i ∧ bt f2 i ≤ 126)) (fun k i => impl_ValidEntry.l0 k i f0 f1 f2) true false (fun i hi hp => ⟨0, fun k _ => ?_⟩) (fun i hi hp => Ev.const fun k => ?_) (fun _ => Ev.const fun k => ?_)
  · rw [ite_bool] at this
    exact this
  · have hp := of_decide_eq_true hp
    simp only [impl_ValidEntry.l0]
    rw [if_pos (by omega), if_pos (by omega), if_neg (by omega), if_neg (by omega), w64 (by omega) (by omega)]
  · have hp := of_decide_eq_false hp
    simp only [impl_ValidEntry.l0]
    rw [if_pos (by omega), if_pos (by omega)]
    by_cases c : bt f2 i < 32
    · rw [if_pos c]
    · rw [if_neg c, if_pos (by omega)]
  · simp only [impl_ValidEntry.l0]
    rw [if_neg (by omega)]
theorem entry_impl (f0 : Int) (f1 f2 : ByteArray) (h : f2.size ≤ 140737488351232) : Ev (fun k => impl_ValidEntry.f k f0 f1 f2) (entryV f0 f1 f2) := by
  obtain ⟨K, hK⟩ := Ev.pick (name_impl f1)
  obtain ⟨J, hJ⟩ := Ev.pick (entry_loop f0 f1 f2 h)
  refine Ev.intro (K + J + 1) fun k hk => ?_
  obtain ⟨m, rfl⟩ : ∃ m, k = m + 1 := ⟨k - 1, by omega⟩
  unfold impl_ValidEntry.f entryV
  rw [within_eq, hK _ (by omega)]
  simp only [Option.bind_some, impl_ValidEntry.j0]
  by_cases c : f2.size ≤ 60
  · have c2 : ¬ (f2.size : Int) > 60 := by omega
    rw [decide_eq_false c2, decide_eq_true c, hJ m (by omega)]
    cases decide (0 ≤ f0 ∧ f0 ≤ 20000) <;> cases isNameB f1 <;> simp
  · have c2 : (f2.size : Int) > 60 := by omega
    rw [decide_eq_true c2, decide_eq_false c]
    cases decide (0 ≤ f0 ∧ f0 ≤ 20000) <;> cases isNameB f1 <;> simp

theorem sz_eq (f0 : Int) (f1 f2 : ByteArray) (h1 : f1.size ≤ maxLen) (h2 : f2.size ≤ maxLen) : ∃ t, laws_szEntry.f f0 f1 f2 1048576 = some t ∧ (t < 0 ∨ f1.size ≤ 1048576 ∧ f2.size ≤ 1048576) := by
  unfold maxLen at h1 h2
  unfold laws_szEntry.f
  rw [w64 (x := 1048576 - (f1.size : Int)) (by omega) (by omega)]
  split
  · exact ⟨-1, rfl, .inl (by omega)⟩
  · rw [w64 (by omega) (by omega)]
    split
    · exact ⟨-1, rfl, .inl (by omega)⟩
    · exact ⟨_, rfl, .inr (by omega)⟩

end FnExactValidEntry_
open FnExactValidEntry_ in
theorem FnExactValidEntry : ∀ (a0_0 : Int) (a0_1 : ByteArray) (a0_2 : ByteArray), (Lit.int .i64 a0_0).wf = true → a0_1.size ≤ maxLen → a0_2.size ≤ maxLen → ∃ k, laws_FnExactValidEntry.f k a0_0 a0_1 a0_2 = some true := by
  intro f0 f1 f2 _ h1 h2
  obtain ⟨t, ht, hz⟩ := sz_eq f0 f1 f2 h1 h2
  by_cases c : t < 0
  · refine ⟨0, ?_⟩
    unfold laws_FnExactValidEntry.f
    rw [ht]
    simp only [Option.bind_some]
    rw [if_pos c]
  · have hm : f2.size ≤ 140737488351232 := by omega
    obtain ⟨K1, g1⟩ := Ev.pick (one_spec f0 f1 f2 hm)
    obtain ⟨K2, g2⟩ := Ev.pick (entry_impl f0 f1 f2 hm)
    refine ⟨K1 + K2, ?_⟩
    unfold laws_FnExactValidEntry.f spec_ValidEntry.f laws_toEntry.f
    simp (disch := omega) only [ht, g1, g2, c, Option.bind_some, if_true, if_false, bne_self_eq_false, Bool.false_eq_true]

end Go.Proofs.Ytlcgonaapmmnkaa.Pure
