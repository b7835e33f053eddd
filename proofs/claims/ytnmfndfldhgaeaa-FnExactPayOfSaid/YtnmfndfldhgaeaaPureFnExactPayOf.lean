/- For all hands the program's PayOf and the reference's PayOf tell the same; the hand stays as it is. -/
import Derived.Test.YtnmfndfldhgaeaaQFnExactPayOfx4
import Derived.Test.YtnmfndfldhgaeaaQFnExactPayOfx3
import Derived.Test.YtnmfndfldhgaeaaQFnExactPayOfx2
import Derived.Test.YtnmfndfldhgaeaaQFnExactPayOfx1
import Derived.Test.YtnmfndfldhgaeaaBase
namespace Go.Proofs.Ytnmfndfldhgaeaa.Pure
open Go.RowKit Go.Proofs.Ytnmfndfldhgaeaa.QFnExactPayOf Go.Proofs.YtnmfndfldhgaeaaW.PrintWords Go.Proofs.YtnmfndfldhgaeaaW.PrintLast Go.Proofs.Ytnmfndfldhgaeaa.Base
set_option linter.unusedVariables false
set_option linter.unusedSimpArgs false

namespace FnExactPayOf_
theorem toInt64S_ev (l : List Int) (h : l.length ≤ 35184372088832) : Ev (fun k => laws_toInt64S.f k l) l := by
  have round : ∀ k acc (i : Nat) (h : i < l.length), acc.length = l.length → laws_toInt64S.l0 (k + 1) l acc (i : Int) = laws_toInt64S.l0 k l (acc.set i (id l[i])) ((i : Int) + 1) := by
    intro k acc i hi hl
    simp only [laws_toInt64S.l0]
    rw [if_pos (by omega), if_pos (by omega), if_pos (by omega), w64 (by omega) (by omega), rd_nat l i hi, Int.toNat_natCast]
    rfl
  have fin : ∀ k acc, laws_toInt64S.l0 (k + 1) l acc (l.length : Int) = some acc := by
    intro k acc
    simp only [laws_toInt64S.l0]
    rw [if_neg (by omega)]
  have := fill_to l id (fun k acc i => laws_toInt64S.l0 k l acc i) round fin (List.replicate l.length 0) (by simp)
  rw [List.map_id] at this
  refine Ev.congr (fun k => ?_) this
  unfold laws_toInt64S.f
  rw [if_pos (by omega), if_pos (by simpa using h), Int.toNat_natCast]
theorem eqInt64S_ev (l : List Int) (h : l.length ≤ 35184372088832) : Ev (fun k => laws_eqInt64S.f k l l) true := by
  refine Ev.congr (f := fun k => laws_eqInt64S.l0 k l l 0) (fun k => by unfold laws_eqInt64S.f; rw [if_pos rfl]) ?_
  refine go_to l.length (fun k i => laws_eqInt64S.l0 k l l i) true (fun i hi => ⟨0, fun k _ => ?_⟩) (Ev.const fun k => ?_)
  · simp only [laws_eqInt64S.l0, if_true]
    rw [if_pos (by omega), if_pos (by omega), if_pos (by omega), w64 (by omega) (by omega)]
  · simp only [laws_eqInt64S.l0]
    rw [if_neg (by omega)]
theorem toHand_ev (f0 : ByteArray) (f1 : List Int) (f2 : Int) (h : f1.length ≤ 35184372088832) : Ev (fun k => laws_toHand.f k f0 f1 f2) (f0, f1, f2) := by
  obtain ⟨K, hK⟩ := Ev.pick (toInt64S_ev f1 h)
  refine Ev.intro K fun k hk => ?_
  unfold laws_toHand.f
  rw [hK k hk]
  rfl
theorem eqHand_ev (f0 : ByteArray) (f1 : List Int) (f2 : Int) (h : f1.length ≤ 35184372088832) : Ev (fun k => laws_eqHand.f k f0 f1 f2 f0 f1 f2) true := by
  obtain ⟨K, hK⟩ := Ev.pick (eqInt64S_ev f1 h)
  refine Ev.intro K fun k hk => ?_
  unfold laws_eqHand.f
  rw [hK k hk, if_pos rfl]
  simp
theorem szHand_eq (f0 : ByteArray) (f1 : List Int) (f2 n : Int) : ∃ t, laws_szHand.f f0 f1 f2 n = some t := by
  unfold laws_szHand.f laws_szInt64S.f
  repeat' split
  all_goals first | exact ⟨_, rfl⟩ | (simp only [Option.bind_some]; split <;> exact ⟨_, rfl⟩)
theorem sz_len {f0 : ByteArray} {f1 : List Int} {f2 t : Int} (h : laws_szHand.f f0 f1 f2 1048576 = some t) (ht : ¬ t < 0) (hs : f0.size ≤ maxLen) (hl : f1.length ≤ maxLen) : f1.length ≤ 35184372088832 := by
  unfold maxLen at hl hs
  by_cases k : f1.length ≤ 35184372088832
  · exact k
  · exfalso
    unfold laws_szHand.f laws_szInt64S.f at h
    unfold wrap64 at h
    repeat' split at h
    all_goals first | (injection h with h; omega) | (simp only [Option.bind_some] at h; split at h <;> (injection h with h; omega))

theorem within_eq (a b c : Int) : impl_within.f a b c = some (decide (b ≤ a ∧ a ≤ c)) := by
  unfold impl_within.f
  by_cases h : a ≥ b
  · rw [if_pos h]; congr 1; apply Bool.eq_iff_iff.mpr; simp; omega
  · rw [if_neg h]; congr 1; apply Bool.eq_iff_iff.mpr; simp; omega

theorem name_loop_impl (s : ByteArray) (h : s.size ≤ 12) : Ev (fun k => impl_IsName.l0 k s 0) ((List.range s.size).all fun i => nameByte (bt s i)) := by
  have := all_lt s.size (fun i => nameByte (bt s i)) (fun k i => impl_IsName.l0 k s i) true false (fun i hi hp => ⟨0, fun k _ => ?_⟩) (fun i hi hp => Ev.const fun k => ?_) (fun _ => Ev.const fun k => ?_)
  · rw [ite_bool] at this
    exact this
  · have hp := of_decide_eq_true hp
    simp only [impl_IsName.l0]
    rw [if_pos (by omega), if_pos (by omega), w64 (by omega) (by omega)]
    repeat' split
    all_goals first | rfl | (exfalso; omega)
  · have hp := of_decide_eq_false hp
    simp only [impl_IsName.l0]
    rw [if_pos (by omega), if_pos (by omega)]
    repeat' split
    all_goals first | rfl | (exfalso; omega)
  · simp only [impl_IsName.l0]
    rw [if_neg (by omega)]
theorem name_impl (s : ByteArray) : Ev (fun k => impl_IsName.f k s) (isNameB s) := by
  unfold isNameB
  by_cases h0 : s.size < 1
  · rw [decide_eq_false (by omega), Bool.false_and]
    refine Ev.const fun k => ?_
    unfold impl_IsName.f
    rw [if_pos (by omega)]
    simp only [impl_IsName.j0, if_true]
  · by_cases h12 : s.size ≤ 12
    · by_cases hs : 97 ≤ bt s 0 ∧ bt s 0 ≤ 122
      · rw [decide_eq_true ⟨by omega, h12, hs⟩, Bool.true_and]
        refine Ev.step (f := fun k => impl_IsName.l0 k s 0) (fun k => ?_) (name_loop_impl s h12)
        simp only [impl_IsName.f]
        rw [if_neg (by omega), if_neg (by omega), if_pos (by omega), if_neg (by omega), decide_eq_false (by omega)]
        simp only [impl_IsName.j0, Bool.false_eq_true, if_false]
      · rw [decide_eq_false (fun h => hs h.2.2), Bool.false_and]
        refine Ev.const fun k => ?_
        simp only [impl_IsName.f]
        rw [if_neg (by omega), if_neg (by omega), if_pos (by omega)]
        by_cases h1 : bt s 0 < 97
        · rw [if_pos h1]
          simp only [impl_IsName.j0, if_true]
        · rw [if_neg h1, decide_eq_true (by omega)]
          simp only [impl_IsName.j0, if_true]
    · rw [decide_eq_false (by omega), Bool.false_and]
      refine Ev.const fun k => ?_
      unfold impl_IsName.f
      rw [if_neg (by omega), if_pos (by omega)]
      simp only [impl_IsName.j0, if_true]

theorem areIn_ev (l : List Int) (a b : Int) (h : l.length ≤ 35184372088832) : Ev (fun k => impl_areIn.f k l l.length a b) (l.all fun x => decide (a ≤ x ∧ x ≤ b)) := by
  refine Ev.congr (f := fun k => impl_areIn.l0 k a b l l.length 0) (fun k => by unfold impl_areIn.f; rw [if_pos rfl]) ?_
  have := all_lt l.length (fun i => decide (a ≤ rd l i ∧ rd l i ≤ b)) (fun k i => impl_areIn.l0 k a b l l.length i) true false (fun i hi hp => ⟨0, fun k _ => ?_⟩) (fun i hi hp => Ev.const fun k => ?_) (fun _ => Ev.const fun k => ?_)
  · rw [all_range_list (p := fun x => decide (a ≤ x ∧ x ≤ b)) (fun i hi => by rw [rd_nat l i hi])] at this
    rw [ite_bool] at this
    exact this
  · simp only [impl_areIn.l0]
    rw [if_pos (by omega), if_pos (by omega), if_pos (by omega), within_eq, hp, w64 (by omega) (by omega)]
    rfl
  · simp only [impl_areIn.l0]
    rw [if_pos (by omega), if_pos (by omega), if_pos (by omega), within_eq, hp]
    rfl
  · simp only [impl_areIn.l0]
    rw [if_neg (by omega)]

theorem hand_impl (f0 : ByteArray) (f1 : List Int) (f2 : Int) (h : f1.length ≤ 35184372088832) : Ev (fun k => impl_validHand.f k f0 f1 f2) (handV f0 f1 f2) := by
  obtain ⟨K, hK⟩ := Ev.pick (name_impl f0)
  obtain ⟨J, hJ⟩ := Ev.pick (areIn_ev f1 0 1440 h)
  refine Ev.intro (K + J) fun k hk => ?_
  unfold impl_validHand.f handV
  rw [hK k (by omega), hJ k (by omega), within_eq]
  simp only [Option.bind_some]
  have e : (f1.all fun x => decide (0 ≤ x ∧ x ≤ 1440)) = f1.all shiftOk := rfl
  rw [e]
  by_cases c : f1.length ≤ 14
  · rw [decide_eq_true c]
    have c2 : (f1.length : Int) ≤ 14 := by omega
    simp only [if_pos c2]
    cases isNameB f0 <;> cases f1.all shiftOk <;> simp
  · rw [decide_eq_false c]
    have c2 : ¬ (f1.length : Int) ≤ 14 := by omega
    simp only [if_neg c2]
    cases isNameB f0 <;> simp
def extraW (lim : Int) (l : List Int) : Int := l.foldl (fun a m => wrap64 (a + mx 0 (wrap64 (m - lim)))) 0
theorem extra_impl (f0 : ByteArray) (l : List Int) (f2 lim : Int) (h : l.length ≤ 35184372088832) : Ev (fun k => impl_extraMinutes.f k f0 l f2 lim) (extraW lim l) := by
  have := for_to l.length (fun k (s : Int) i => impl_extraMinutes.l0 k lim s l l.length i) (fun i => extraW lim (l.take i)) (extraW lim l) (fun i hi => ⟨0, fun k _ => ?_⟩) (Ev.const fun k => ?_) l.length 0 (by omega)
  · exact this
  · simp only [impl_extraMinutes.l0]
    rw [if_pos (by omega), if_pos (by omega), if_pos (by omega), rd_nat l i hi, List.take_succ_eq_append_getElem hi, w64 (x := (i : Int) + 1) (by omega) (by omega)]
    unfold extraW
    rw [List.foldl_append]
    rfl
  · simp only [impl_extraMinutes.l0]
    rw [if_neg (by omega), List.take_of_length_le (Nat.le_refl _)]
theorem handV_shift {f0 : ByteArray} {f1 : List Int} {f2 : Int} (h : handV f0 f1 f2 = true) : (∀ x ∈ f1, 0 ≤ x ∧ x ≤ 1440) ∧ f1.length ≤ 14 ∧ 0 ≤ f2 ∧ f2 ≤ 100000 := by
  unfold handV at h
  simp only [Bool.and_eq_true, decide_eq_true_eq, List.all_eq_true] at h
  obtain ⟨⟨⟨a, _⟩, b⟩, c⟩ := h
  exact ⟨fun x hx => of_decide_eq_true (a x hx), b, c⟩
theorem mx_zero {x : Int} (h : 0 ≤ x) : mx 0 x = x := by unfold mx; split <;> omega
theorem extra_zero : ∀ (l : List Int) (a : Int), (∀ x ∈ l, 0 ≤ x ∧ x ≤ 1440) → l.foldl (fun a m => wrap64 (a + mx 0 (wrap64 (m - 0)))) a = l.foldl (fun a m => wrap64 (a + m)) a
  | [], _, _ => rfl
  | x :: xs, a, h => by
    have hx := h x (by simp)
    rw [List.foldl_cons, List.foldl_cons, Int.sub_zero, w64 (x := x) (by omega) (by omega), mx_zero hx.1]
    exact extra_zero xs _ (fun y hy => h y (by simp [hy]))

def payW (wage : Int) (l : List Int) (lim ex : Int) : Int := wrap64 (Int.tdiv (wrap64 (wrap64 (wrap64 (wage * extraW 0 l) * 100) + wrap64 (wrap64 (wage * extraW lim l) * ex))) 6000)
theorem pay_impl (f0 : ByteArray) (f1 : List Int) (f2 lim ex : Int) (h : f1.length ≤ 35184372088832) : Ev (fun k => impl_payOf.f k f0 f1 f2 lim ex) (payW f2 f1 lim ex) := by
  obtain ⟨K, hK⟩ := Ev.pick (extra_impl f0 f1 f2 0 h)
  obtain ⟨J, hJ⟩ := Ev.pick (extra_impl f0 f1 f2 lim h)
  refine Ev.intro (K + J) fun k hk => ?_
  unfold impl_payOf.f
  rw [hK k (by omega), hJ k (by omega)]
  rfl

def payAns (f0 : ByteArray) (f1 : List Int) (f2 lim ex : Int) : Int × Int := if handV f0 f1 f2 = true then (if decide (0 ≤ lim ∧ lim ≤ 1440) = true then (if decide (0 ≤ ex ∧ ex ≤ 200) = true then (payS f2 f1 lim ex, 0) else (0, 2)) else (0, 2)) else (0, 1)
theorem pay_spec (f0 : ByteArray) (f1 : List Int) (f2 lim ex : Int) : spec_PayOf.f f0 f1 f2 lim ex = some (payAns f0 f1 f2 lim ex) := by
  unfold spec_PayOf.f payAns
  cases handV f0 f1 f2 <;> cases decide (0 ≤ lim ∧ lim ≤ 1440) <;> cases decide (0 ≤ ex ∧ ex ≤ 200) <;> rfl
theorem pay_all (f0 : ByteArray) (f1 : List Int) (f2 lim ex : Int) (h : f1.length ≤ 35184372088832) : Ev (fun k => impl_PayOf.f k f0 f1 f2 lim ex) (payAns f0 f1 f2 lim ex) := by
  obtain ⟨K, hK⟩ := Ev.pick (hand_impl f0 f1 f2 h)
  obtain ⟨J, hJ⟩ := Ev.pick (pay_impl f0 f1 f2 lim ex h)
  refine Ev.intro (K + J) fun k hk => ?_
  unfold impl_PayOf.f payAns
  rw [hK k (by omega), hJ k (by omega), within_eq, within_eq]
  simp only [Option.bind_some]
  cases hv : handV f0 f1 f2 with
  | false => rfl
  | true =>
    have e : payW f2 f1 lim ex = payS f2 f1 lim ex := by
      unfold payW payS
      have e0 : extraW 0 f1 = sumW f1 := extra_zero f1 0 (handV_shift hv).1
      have e1 : extraW lim f1 = extraS lim f1 := rfl
      rw [e0, e1]
    rw [e]
    cases decide (0 ≤ lim ∧ lim ≤ 1440) <;> cases decide (0 ≤ ex ∧ ex ≤ 200) <;> rfl
end FnExactPayOf_
open FnExactPayOf_ in
theorem FnExactPayOf : ∀ (a0_0 : ByteArray) (l0_1 : List Int) (a0_2 : Int) (a1 : Int) (a2 : Int), a0_0.size ≤ maxLen → (l0_1.length ≤ maxLen ∧ ∀ x ∈ l0_1, (Lit.int .i64 x).wf = true) → (Lit.int .i64 a0_2).wf = true → (Lit.int .i64 a1).wf = true → (Lit.int .i64 a2).wf = true → ∃ k, laws_FnExactPayOf.f k a0_0 l0_1 a0_2 a1 a2 = some true := by
  intro f0 f1 f2 lim ex hs hl _ _ _
  obtain ⟨t, ht⟩ := szHand_eq f0 f1 f2 1048576
  by_cases c : t < 0
  · refine ⟨0, ?_⟩
    unfold laws_FnExactPayOf.f
    rw [ht]
    simp only [Option.bind_some]
    rw [if_pos c]
  · have hn : f1.length ≤ 35184372088832 := sz_len ht c hs hl.1
    obtain ⟨K1, h1⟩ := Ev.pick (toHand_ev f0 f1 f2 hn)
    obtain ⟨K2, h2⟩ := Ev.pick (pay_all f0 f1 f2 lim ex hn)
    obtain ⟨K3, h3⟩ := Ev.pick (eqHand_ev f0 f1 f2 hn)
    refine ⟨K1 + K2 + K3 + 1, ?_⟩
    unfold laws_FnExactPayOf.f
    simp (disch := omega) only [ht, h1, h2, h3, pay_spec, c, laws_FnExactPayOf.j0, Option.bind_some, if_true, if_false, bne_self_eq_false, Bool.false_eq_true]

end Go.Proofs.Ytnmfndfldhgaeaa.Pure
