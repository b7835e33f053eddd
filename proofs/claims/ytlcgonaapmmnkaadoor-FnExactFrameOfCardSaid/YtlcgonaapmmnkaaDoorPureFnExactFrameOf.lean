/- For all entries the program's FrameOf and the reference's FrameOf tell the same text. -/
import Derived.Test.YtlcgonaapmmnkaaDoorQFnExactFrameOfx4
import Derived.Test.YtlcgonaapmmnkaaDoorQFnExactFrameOfx2
import Derived.Test.YtlcgonaapmmnkaaDoorBase
import Derived.Lib.ItoaLen
namespace Go.Proofs.YtlcgonaapmmnkaaDoor.Pure
open Go.RowKit Go.Proofs.YtlcgonaapmmnkaaDoor.QFnExactFrameOf Go.Proofs.YtlcgonaapmmnkaaDoorW.PrintWords Go.Proofs.YtlcgonaapmmnkaaDoorW.PrintLast Go.Proofs.YtlcgonaapmmnkaaDoor.Base
set_option linter.unusedVariables false
set_option linter.unusedSimpArgs false

namespace FnExactFrameOf_
theorem in_eq (a b c : Int) : spec_l00In.f a b c = some (decide (b ≤ a ∧ a ≤ c)) := by
  unfold spec_l00In.f
  by_cases h : a ≥ b
  · rw [if_pos h]; congr 1; apply Bool.eq_iff_iff.mpr; simp; omega
  · rw [if_neg h]; congr 1; apply Bool.eq_iff_iff.mpr; simp; omega

theorem name_loop_spec (s : ByteArray) (h : s.size ≤ 12) : Ev (fun k => spec_IsName.l0 k s 0) ((List.range s.size).all fun i => nameByte (bt s i)) := by
  have := all_lt s.size (fun i => nameByte (bt s i)) (fun k i => spec_IsName.l0 k s i) true false (fun i hi hp => ⟨0, fun k _ => ?_⟩) (fun i hi hp => Ev.const fun k => ?_) (fun _ => Ev.const fun k => ?_)
  · rw [ite_bool] at this
    exact this
  · have hp := of_decide_eq_true hp
    simp only [spec_IsName.l0, spec_l01Small.f, spec_l01Digit.f]
    rw [if_pos (by omega), if_pos (by omega), w64 (by omega) (by omega)]
    by_cases h1 : bt s i ≥ 97
    · rw [if_pos h1]
      simp only [Option.bind_some, decide_eq_true_eq]
      by_cases h2 : bt s i ≤ 122
      · rw [if_pos h2]
      · exfalso; omega
    · rw [if_neg h1]
      simp only [Option.bind_some, Bool.false_eq_true, if_false]
      by_cases h3 : bt s i ≥ 48
      · rw [if_pos h3]
        simp only [Option.bind_some, decide_eq_true_eq]
        rw [if_pos (by omega)]
      · rw [if_neg h3]
        simp only [Option.bind_some, Bool.false_eq_true, if_false]
        rw [if_pos (by omega)]
  · have hp := of_decide_eq_false hp
    simp only [spec_IsName.l0, spec_l01Small.f, spec_l01Digit.f]
    rw [if_pos (by omega), if_pos (by omega)]
    by_cases h1 : bt s i ≥ 97
    · rw [if_pos h1, if_pos (by omega)]
      simp only [Option.bind_some, decide_eq_true_eq]
      rw [if_neg (by omega), if_neg (by omega), if_neg (by omega)]
    · rw [if_neg h1]
      simp only [Option.bind_some, Bool.false_eq_true, if_false]
      by_cases h3 : bt s i ≥ 48
      · rw [if_pos h3]
        simp only [Option.bind_some, decide_eq_true_eq]
        rw [if_neg (by omega), if_neg (by omega)]
      · rw [if_neg h3]
        simp only [Option.bind_some, Bool.false_eq_true, if_false]
        rw [if_neg (by omega)]
  · simp only [spec_IsName.l0]
    rw [if_neg (by omega)]
theorem name_j0 (s : ByteArray) (k : Nat) : spec_IsName.j0 (k + 1) s true = some false := by simp only [spec_IsName.j0, if_true]
theorem name_spec (s : ByteArray) : Ev (fun k => spec_IsName.f k s) (isNameB s) := by
  unfold isNameB
  by_cases h0 : s.size = 0
  · rw [decide_eq_false (by omega), Bool.false_and]
    refine Ev.const fun k => ?_
    unfold spec_IsName.f
    rw [if_pos (List.eq_nil_of_length_eq_zero (by rw [size_toList, h0]))]
    exact name_j0 s k
  · have hne : ¬ s.toList = ([] : List UInt8) := fun h => h0 (by rw [← size_toList, h]; rfl)
    by_cases h12 : s.size ≤ 12
    · by_cases hs : 97 ≤ bt s 0 ∧ bt s 0 ≤ 122
      · rw [decide_eq_true ⟨by omega, h12, hs⟩, Bool.true_and]
        refine Ev.step (f := fun k => spec_IsName.l0 k s 0) (fun k => ?_) (name_loop_spec s h12)
        simp only [spec_IsName.f, spec_l01Small.f]
        rw [if_neg hne, if_neg (by omega), if_pos (by omega), if_pos (by omega)]
        simp only [Option.bind_some]
        rw [decide_eq_true hs.2]
        simp only [Bool.not_true, spec_IsName.j0, Bool.false_eq_true, if_false]
      · rw [decide_eq_false (fun h => hs h.2.2), Bool.false_and]
        refine Ev.const fun k => ?_
        simp only [spec_IsName.f, spec_l01Small.f]
        rw [if_neg hne, if_neg (by omega), if_pos (by omega)]
        by_cases h1 : bt s 0 ≥ 97
        · rw [if_pos h1]
          simp only [Option.bind_some]
          rw [decide_eq_false (by omega)]
          exact name_j0 s k
        · rw [if_neg h1]
          exact name_j0 s k
    · rw [decide_eq_false (by omega), Bool.false_and]
      refine Ev.const fun k => ?_
      unfold spec_IsName.f
      rw [if_neg hne, if_pos (by omega)]
      exact name_j0 s k

theorem text_spec (s : ByteArray) (m : Int) (h : s.size ≤ 140737488351232) : Ev (fun k => spec_l00Text.f k s m) (plainB s && decide ((s.size : Int) ≤ m)) := by
  unfold spec_l00Text.f plainB
  have := all_lt s.size (fun i => decide (32 ≤ bt s i ∧ bt s i ≤ 126)) (fun k i => spec_l00Text.l0 k s m i) (decide ((s.size : Int) ≤ m)) false (fun i hi hp => ⟨0, fun k _ => ?_⟩) (fun i hi hp => Ev.const fun k => ?_) (fun _ => Ev.const fun k => ?_)
  · have e : (if ((List.range s.size).all fun i => decide (32 ≤ bt s i ∧ bt s i ≤ 126)) = true then decide ((s.size : Int) ≤ m) else false) = (((List.range s.size).all fun i => decide (32 ≤ bt s i ∧ bt s i ≤ 126)) && decide ((s.size : Int) ≤ m)) := by
      cases ((List.range s.size).all fun i => decide (32 ≤ bt s i ∧ bt s i ≤ 126)) <;> rfl
    rw [e] at this
    exact this
  · have hp := of_decide_eq_true hp
    simp only [spec_l00Text.l0]
    rw [if_pos (by omega), if_pos (by omega), if_neg (by omega), if_neg (by omega), w64 (by omega) (by omega)]
  · have hp := of_decide_eq_false hp
    simp only [spec_l00Text.l0]
    rw [if_pos (by omega), if_pos (by omega)]
    by_cases c : bt s i < 32
    · rw [if_pos c]
    · rw [if_neg c, if_pos (by omega)]
  · simp only [spec_l00Text.l0]
    rw [if_neg (by omega)]
theorem one_spec (f0 : Int) (f1 f2 : ByteArray) (h : f2.size ≤ 140737488351232) : Ev (fun k => spec_l27One.f k f0 f1 f2) (entryV f0 f1 f2, f0, f1, f2) := by
  obtain ⟨K, hK⟩ := Ev.pick (name_spec f1)
  obtain ⟨J, hJ⟩ := Ev.pick (text_spec f2 60 h)
  refine Ev.intro (K + J) fun k hk => ?_
  unfold spec_l27One.f entryV
  rw [in_eq, hK k (by omega), hJ k (by omega)]
  have e : decide ((f2.size : Int) ≤ 60) = decide (f2.size ≤ 60) := by
    by_cases c : f2.size ≤ 60
    · rw [decide_eq_true c, decide_eq_true (by omega)]
    · rw [decide_eq_false c, decide_eq_false (by omega)]
  rw [e]
  cases decide (0 ≤ f0 ∧ f0 ≤ 20000) <;> cases isNameB f1 <;> simp

theorem within_eq (a b c : Int) : impl_within.f a b c = some (decide (b ≤ a ∧ a ≤ c)) := by
  unfold impl_within.f
  by_cases h : a ≥ b
  · rw [if_pos h]; congr 1; apply Bool.eq_iff_iff.mpr; simp; omega
  · rw [if_neg h]; congr 1; apply Bool.eq_iff_iff.mpr; simp; omega

theorem name_loop_impl (s : ByteArray) (h : s.size ≤ 12) : Ev (fun k => impl_IsName.l0 k s 0) ((List.range s.size).all fun i => nameByte (bt s i)) := by
  have := all_lt s.size (fun i => nameByte (bt s i)) (fun k i => impl_IsName.l0 k s i) true false (fun i hi hp => ⟨0, fun k _ => ?_⟩) (fun i hi hp => Ev.const fun k => ?_) (fun _ => Ev.const fun k => ?_)
  · rw [ite_bool] at this
    exact this
  · have hp := of_decide_eq_true hp
    simp only [impl_IsName.l0]
    rw [if_pos (by omega), if_pos (by omega), w64 (by omega) (by omega)]
    repeat' split
    all_goals first | rfl | (exfalso; omega)
  · have hp := of_decide_eq_false hp
    simp only [impl_IsName.l0]
    rw [if_pos (by omega), if_pos (by omega)]
    repeat' split
    all_goals first | rfl | (exfalso; omega)
  · simp only [impl_IsName.l0]
    rw [if_neg (by omega)]
theorem name_impl (s : ByteArray) : Ev (fun k => impl_IsName.f k s) (isNameB s) := by
  unfold isNameB
  by_cases h0 : s.size < 1
  · rw [decide_eq_false (by omega), Bool.false_and]
    refine Ev.const fun k => ?_
    unfold impl_IsName.f
    rw [if_pos (by omega)]
    simp only [impl_IsName.j0, if_true]
  · by_cases h12 : s.size ≤ 12
    · by_cases hs : 97 ≤ bt s 0 ∧ bt s 0 ≤ 122
      · rw [decide_eq_true ⟨by omega, h12, hs⟩, Bool.true_and]
        refine Ev.step (f := fun k => impl_IsName.l0 k s 0) (fun k => ?_) (name_loop_impl s h12)
        simp only [impl_IsName.f]
        rw [if_neg (by omega), if_neg (by omega), if_pos (by omega), if_neg (by omega), decide_eq_false (by omega)]
        simp only [impl_IsName.j0, Bool.false_eq_true, if_false]
      · rw [decide_eq_false (fun h => hs h.2.2), Bool.false_and]
        refine Ev.const fun k => ?_
        simp only [impl_IsName.f]
        rw [if_neg (by omega), if_neg (by omega), if_pos (by omega)]
        by_cases h1 : bt s 0 < 97
        · rw [if_pos h1]
          simp only [impl_IsName.j0, if_true]
        · rw [if_neg h1, decide_eq_true (by omega)]
          simp only [impl_IsName.j0, if_true]
    · rw [decide_eq_false (by omega), Bool.false_and]
      refine Ev.const fun k => ?_
      unfold impl_IsName.f
      rw [if_neg (by omega), if_pos (by omega)]
      simp only [impl_IsName.j0, if_true]

theorem entry_loop (f0 : Int) (f1 f2 : ByteArray) (h : f2.size ≤ 140737488351232) : Ev (fun k => impl_ValidEntry.l0 k 0 f0 f1 f2) (plainB f2) := by
  unfold plainB
  have := all_lt f2.size (fun i => decide (32 ≤ bt f2 i ∧ bt f2 i ≤ 126)) (fun k i => impl_ValidEntry.l0 k i f0 f1 f2) true false (fun i hi hp => ⟨0, fun k _ => ?_⟩) (fun i hi hp => Ev.const fun k => ?_) (fun _ => Ev.const fun k => ?_)
  · rw [ite_bool] at this
    exact this
  · have hp := of_decide_eq_true hp
    simp only [impl_ValidEntry.l0]
    rw [if_pos (by omega), if_pos (by omega), if_neg (by omega), if_neg (by omega), w64 (by omega) (by omega)]
  · have hp := of_decide_eq_false hp
    simp only [impl_ValidEntry.l0]
    rw [if_pos (by omega), if_pos (by omega)]
    by_cases c : bt f2 i < 32
    · rw [if_pos c]
    · rw [if_neg c, if_pos (by omega)]
  · simp only [impl_ValidEntry.l0]
    rw [if_neg (by omega)]
theorem entry_impl (f0 : Int) (f1 f2 : ByteArray) (h : f2.size ≤ 140737488351232) : Ev (fun k => impl_ValidEntry.f k f0 f1 f2) (entryV f0 f1 f2) := by
  obtain ⟨K, hK⟩ := Ev.pick (name_impl f1)
  obtain ⟨J, hJ⟩ := Ev.pick (entry_loop f0 f1 f2 h)
  refine Ev.intro (K + J + 1) fun k hk => ?_
  obtain ⟨m, rfl⟩ : ∃ m, k = m + 1 := ⟨k - 1, by omega⟩
  unfold impl_ValidEntry.f entryV
  rw [within_eq, hK _ (by omega)]
  simp only [Option.bind_some, impl_ValidEntry.j0]
  by_cases c : f2.size ≤ 60
  · have c2 : ¬ (f2.size : Int) > 60 := by omega
    rw [decide_eq_false c2, decide_eq_true c, hJ m (by omega)]
    cases decide (0 ≤ f0 ∧ f0 ≤ 20000) <;> cases isNameB f1 <;> simp
  · have c2 : (f2.size : Int) > 60 := by omega
    rw [decide_eq_true c2, decide_eq_false c]
    cases decide (0 ≤ f0 ∧ f0 ≤ 20000) <;> cases isNameB f1 <;> simp

theorem sz_eq (f0 : Int) (f1 f2 : ByteArray) (h1 : f1.size ≤ maxLen) (h2 : f2.size ≤ maxLen) : ∃ t, laws_szEntry.f f0 f1 f2 1048576 = some t ∧ (t < 0 ∨ f1.size ≤ 1048576 ∧ f2.size ≤ 1048576) := by
  unfold maxLen at h1 h2
  unfold laws_szEntry.f
  rw [w64 (x := 1048576 - (f1.size : Int)) (by omega) (by omega)]
  split
  · exact ⟨-1, rfl, .inl (by omega)⟩
  · rw [w64 (by omega) (by omega)]
    split
    · exact ⟨-1, rfl, .inl (by omega)⟩
    · exact ⟨_, rfl, .inr (by omega)⟩

/-- The digits of a number, as numbers of bytes; none for 0. -/
def decL (u : Nat) : List Int := if h : u = 0 then [] else decL (u / 10) ++ [(48 + (u % 10 : Nat) : Int)]
termination_by u
decreasing_by omega
theorem decL_zero : decL 0 = [] := by unfold decL; rfl
theorem decL_pos {u : Nat} (h : ¬ u = 0) : decL u = decL (u / 10) ++ [(48 + (u % 10 : Nat) : Int)] := by rw [decL, dif_neg h]
theorem decL_bytes (u : Nat) (h : 0 < u) : (decL u).map (fun n : Int => UInt8.ofNat n.toNat) = Lib.decDigits u := by
  induction u using Nat.strongRecOn with
  | _ u ih =>
    rw [decL_pos (by omega), Lib.decDigits]
    have e : (48 + ((u % 10 : Nat) : Int)).toNat = 48 + u % 10 := by omega
    by_cases h10 : u < 10
    · rw [dif_pos h10, Nat.div_eq_of_lt h10, decL_zero]
      simp only [List.nil_append, List.map_cons, List.map_nil, e]
      rw [Nat.mod_eq_of_lt h10]
    · rw [dif_neg h10, List.map_append, ih (u / 10) (by omega) (by omega)]
      simp only [List.map_cons, List.map_nil, e]
theorem strOfNums_size (xs : List Int) : (strOfNums xs).size = xs.length := by unfold strOfNums; show (Array.size _) = _; simp
def finD (n : Int) (xs : List Int) : ByteArray := if (xs.length : Int) = 0 then (⟨#[48]⟩ : ByteArray) else if n < 0 then (⟨#[45]⟩ : ByteArray) ++ strOfNums xs else strOfNums xs
theorem mod256 {x : Int} (h0 : 0 ≤ x) (h1 : x < 256) : x % 256 = x := Int.emod_eq_of_lt h0 h1
theorem dec_end (n : Int) (acc : List Int) (h : acc.length ≤ 200) : Ev (fun k => spec_l01Dec.l0 k n acc 0) (finD n acc) := by
  refine Ev.const fun k => ?_
  simp only [spec_l01Dec.l0, if_true]
  unfold finD
  split
  · rfl
  · split
    · rw [if_pos (by rw [strOfNums_size]; omega)]
    · rfl
theorem dec_loop (n : Int) : ∀ (m u : Nat) (acc : List Int) (x : Int), (x = u ∨ x = -(u : Int)) → u < 10 ^ m → acc.length + m ≤ 100 → u ≤ 9223372036854775808 → Ev (fun k => spec_l01Dec.l0 k n acc x) (finD n (decL u ++ acc))
  | 0, u, acc, x, hx, hu, ha, _ => by
    have h0 : u = 0 := by simpa using hu
    subst h0
    obtain rfl : x = 0 := by omega
    rw [decL_zero, List.nil_append]
    exact dec_end n acc (by omega)
  | m + 1, u, acc, x, hx, hu, ha, hb => by
    by_cases h0 : u = 0
    · subst h0
      obtain rfl : x = 0 := by omega
      rw [decL_zero, List.nil_append]
      exact dec_end n acc (by omega)
    · have hlt : u / 10 < 10 ^ m := by rw [Nat.pow_succ] at hu; omega
      have ih := dec_loop n m (u / 10) ((48 + (u % 10 : Nat) : Int) :: acc) (Int.tdiv x 10) ?_ hlt (by simp only [List.length_cons]; omega) (by omega)
      · rw [decL_pos h0, List.append_assoc, List.singleton_append]
        refine Ev.step (fun k => ?_) ih
        have hxn : ¬ x = 0 := by omega
        simp only [spec_l01Dec.l0]
        rw [if_neg hxn]
        have hw : wrap64 (Int.tdiv x 10) = Int.tdiv x 10 := by
          rcases hx with rfl | rfl
          · rw [tdiv_nn (by omega)]; exact w64 (by omega) (by omega)
          · rw [Int.neg_tdiv, tdiv_nn (by omega)]; exact w64 (by omega) (by omega)
        have hm : (Int.tmod x 10 = (u % 10 : Nat) ∨ Int.tmod x 10 = -((u % 10 : Nat) : Int)) := by
          rcases hx with rfl | rfl
          · left; rw [tmod_nn (by omega)]; omega
          · right; rw [Int.neg_tmod, tmod_nn (by omega)]; omega
        have hd : u % 10 < 10 := Nat.mod_lt _ (by omega)
        generalize u % 10 = d at hm hd ⊢
        rw [hw]
        by_cases hneg : Int.tmod x 10 < 0
        · have hm2 : Int.tmod x 10 = -(d : Int) := by omega
          rw [if_pos hneg, hm2]
          simp only [Option.bind_some, List.length_cons, List.length_nil]
          rw [if_pos (by omega), w64 (x := - -(d : Int)) (by omega) (by omega), w64 (x := 48 + - -(d : Int)) (by omega) (by omega), mod256 (by omega) (by omega), Int.neg_neg]
          rfl
        · have hm2 : Int.tmod x 10 = (d : Int) := by omega
          rw [if_neg hneg, hm2]
          simp only [Option.bind_some, List.length_cons, List.length_nil]
          rw [if_pos (by omega), w64 (x := 48 + (d : Int)) (by omega) (by omega), mod256 (by omega) (by omega)]
          rfl
      · rcases hx with rfl | rfl
        · left; rw [tdiv_nn (by omega)]; omega
        · right; rw [Int.neg_tdiv, tdiv_nn (by omega)]; omega
theorem finD_itoa (n : Int) : finD n (decL n.natAbs) = ⟨(Lib.itoa n).toArray⟩ := by
  unfold finD Lib.itoa
  by_cases h0 : n = 0
  · subst h0
    rw [show (0 : Int).natAbs = 0 from rfl, decL_zero]
    rw [if_pos (show (([] : List Int).length : Int) = 0 from rfl), if_neg (by omega)]
    rw [show (0 : Int).toNat = 0 from rfl, Lib.decDigits]
    rfl
  · have hpos : 0 < n.natAbs := by omega
    have hlen : ¬ ((decL n.natAbs).length : Int) = 0 := by
      rw [decL_pos (by omega), List.length_append]
      simp only [List.length_cons, List.length_nil]
      omega
    rw [if_neg hlen]
    have hs : strOfNums (decL n.natAbs) = ⟨(Lib.decDigits n.natAbs).toArray⟩ := by
      unfold strOfNums
      rw [decL_bytes _ hpos]
    rw [hs]
    by_cases hn : n < 0
    · rw [if_pos hn, if_pos hn]
      apply ByteArray.ext
      rw [ByteArray.data_append]
      simp
    · rw [if_neg hn, if_neg hn]
      have : n.toNat = n.natAbs := by omega
      rw [this]
/-- A number in decimal. -/
def dec (n : Int) : ByteArray := ⟨(Lib.itoa n).toArray⟩
theorem dec_spec (n : Int) (h0 : -9223372036854775808 ≤ n) (h1 : n ≤ 9223372036854775807) : Ev (fun k => spec_l01Dec.f k n) (dec n) := by
  have := dec_loop n 20 n.natAbs [] n (by omega) (by omega) (by simp) (by omega)
  rw [List.append_nil, finD_itoa] at this
  exact this
theorem dec_size (n : Int) (h0 : -9223372036854775808 ≤ n) (h1 : n ≤ 9223372036854775807) : (dec n).size ≤ 21 := by
  have := Lib.itoa_length_le n h0 h1
  show (Lib.itoa n).toArray.size ≤ 21
  rw [List.size_toArray]
  exact this

theorem dec_impl (n : Int) (h0 : -9223372036854775808 ≤ n) (h1 : n ≤ 9223372036854775807) : impl_Decimal.f n = some (dec n) := by
  unfold impl_Decimal.f strconv_FormatInt.f
  rw [if_pos ⟨rfl, h0, h1⟩]
  rfl

theorem bt_bd (s : ByteArray) (i : Int) : 0 ≤ bt s i ∧ bt s i ≤ 255 := by
  unfold bt
  split
  · have := (s[i.toNat]).toNat_lt
    omega
  · omega
theorem sum_same (s : ByteArray) : ∀ (k : Nat) (a i : Int), impl_SumOf.l0 k s a i = spec_SumOf.l0 k s a i
  | 0, _, _ => rfl
  | k + 1, a, i => by
    simp only [impl_SumOf.l0, spec_SumOf.l0]
    rw [Int.mul_comm 131 a]
    split
    · split
      · exact sum_same s k _ _
      · rfl
    · rfl
theorem sum_ev (s : ByteArray) (h : s.size ≤ 140737488351232) : ∃ v, (0 ≤ v ∧ v < 9973) ∧ Ev (fun k => spec_SumOf.f k s) v := by
  refine for_ev s.size (fun k (a : Int) i => spec_SumOf.l0 k s a i) (fun _ a => 0 ≤ a ∧ a < 9973) (fun v => 0 ≤ v ∧ v < 9973) (fun i a hi ha => .inl ⟨Int.tmod (a * 131 + bt s i + 1) 9973, ?_, 0, fun k _ => ?_⟩) (fun a ha => ⟨a, ha, Ev.const fun k => ?_⟩) s.size 0 7 (by omega) (by omega)
  · have hb := bt_bd s i
    rw [tmod_nn (by omega)]
    omega
  · have hb := bt_bd s i
    simp only [spec_SumOf.l0]
    rw [if_pos (by omega), if_pos (by omega), w64 (x := a * 131) (by omega) (by omega), w64 (x := bt s i) (by omega) (by omega), w64 (x := a * 131 + bt s i) (by omega) (by omega), w64 (x := a * 131 + bt s i + 1) (by omega) (by omega), w64 (x := (i : Int) + 1) (by omega) (by omega)]
  · simp only [spec_SumOf.l0]
    rw [if_neg (by omega)]

/-- The frame of a valid entry is the same text on both roads, at enough rounds. -/
theorem frame_both (f0 : Int) (f1 f2 : ByteArray) (h0 : 0 ≤ f0 ∧ f0 ≤ 20000) (h1 : f1.size ≤ 12) (h2 : f2.size ≤ 60) :
    ∃ v, (0 ≤ v ∧ v < 9973) ∧ Ev (fun k => spec_l27Frame.g k f0 f1 f2) (frameText (dec (frameBody (dec f0) f1 f2).size) (frameBody (dec f0) f1 f2) (dec v)) ∧ Ev (fun k => impl_SumOf.f k (frameBody (dec f0) f1 f2)) v := by
  have hz : (frameBody (dec f0) f1 f2).size = (dec f0).size + 1 + f1.size + 1 + f2.size := by unfold frameBody; simp only [ByteArray.size_append]; rfl
  have s1 := dec_size f0 (by omega) (by omega)
  obtain ⟨v, hv, hs⟩ := sum_ev (frameBody (dec f0) f1 f2) (by omega)
  refine ⟨v, hv, ?_, ?_⟩
  · obtain ⟨K1, g1⟩ := Ev.pick (dec_spec f0 (by omega) (by omega))
    obtain ⟨K2, g2⟩ := Ev.pick (dec_spec ((frameBody (dec f0) f1 f2).size : Int) (by omega) (by omega))
    obtain ⟨K3, g3⟩ := Ev.pick hs
    obtain ⟨K4, g4⟩ := Ev.pick (dec_spec v (by omega) (by omega))
    have s2 := dec_size ((frameBody (dec f0) f1 f2).size : Int) (by omega) (by omega)
    have s3 := dec_size v (by omega) (by omega)
    refine Ev.intro (K1 + K2 + K3 + K4) fun k hk => ?_
    unfold spec_l27Frame.g
    rw [if_pos ⟨by omega, by omega⟩, g1 k (by omega)]
    simp only [Option.bind_some]
    rw [if_pos (by omega), g2 k (by omega)]
    simp only [Option.bind_some]
    rw [if_pos (by omega), g3 k (by omega)]
    simp only [Option.bind_some]
    rw [g4 k (by omega)]
    simp only [Option.bind_some]
    rw [if_pos (by omega)]
  · refine Ev.congr (fun k => ?_) hs
    exact sum_same _ k 7 0
theorem frame_impl (f0 : Int) (f1 f2 : ByteArray) (h0 : 0 ≤ f0 ∧ f0 ≤ 20000) (h1 : f1.size ≤ 12) (h2 : f2.size ≤ 60) (hv : entryV f0 f1 f2 = true) (v : Int) (hv0 : 0 ≤ v ∧ v < 9973) (hs : Ev (fun k => impl_SumOf.f k (frameBody (dec f0) f1 f2)) v) :
    Ev (fun k => impl_FrameOf.f k f0 f1 f2) (frameText (dec (frameBody (dec f0) f1 f2).size) (frameBody (dec f0) f1 f2) (dec v)) := by
  obtain ⟨K1, g1⟩ := Ev.pick (entry_impl f0 f1 f2 (by omega))
  obtain ⟨K2, g2⟩ := Ev.pick hs
  have s1 : (dec f0).size ≤ 21 := dec_size f0 (by omega) (by omega)
  have hz : (frameBody (dec f0) f1 f2).size = (dec f0).size + 1 + f1.size + 1 + f2.size := by unfold frameBody; simp only [ByteArray.size_append]; rfl
  have d1 : impl_Decimal.f f0 = some (dec f0) := dec_impl f0 (by omega) (by omega)
  have d2 : impl_Decimal.f ((frameBody (dec f0) f1 f2).size : Int) = some (dec (frameBody (dec f0) f1 f2).size) := dec_impl _ (by omega) (by omega)
  have d3 : impl_Decimal.f v = some (dec v) := dec_impl v (by omega) (by omega)
  have s2 : (dec (frameBody (dec f0) f1 f2).size).size ≤ 21 := dec_size _ (by omega) (by omega)
  have s3 : (dec v).size ≤ 21 := dec_size v (by omega) (by omega)
  generalize hu : dec (frameBody (dec f0) f1 f2).size = u at *
  generalize dec v = x at *
  refine Ev.intro (K1 + K2) fun k hk => ?_
  have e2 := g2 k (by omega)
  generalize dec f0 = t at *
  unfold frameBody at *
  unfold impl_FrameOf.f
  rw [g1 k (by omega), hv]
  simp only [Option.bind_some, if_true]
  rw [d1]
  simp only [Option.bind_some]
  have z : ∀ b : UInt8, (⟨#[b]⟩ : ByteArray).size = 1 := fun _ => rfl
  rw [if_pos (by omega), if_pos (by simp only [ByteArray.size_append, z]; omega), if_pos (by simp only [ByteArray.size_append, z]; omega), if_pos (by simp only [ByteArray.size_append, z]; omega), d2]
  simp only [Option.bind_some]
  rw [if_pos (by omega), if_pos (by simp only [ByteArray.size_append, z]; omega), if_pos (by simp only [ByteArray.size_append, z]; omega), e2]
  simp only [Option.bind_some]
  rw [d3]
  simp only [Option.bind_some]
  rw [if_pos (by simp only [ByteArray.size_append, z]; omega), if_pos (by simp only [ByteArray.size_append, z]; omega)]
  rfl
theorem entry_bd {f0 : Int} {f1 f2 : ByteArray} (h : entryV f0 f1 f2 = true) : (0 ≤ f0 ∧ f0 ≤ 20000) ∧ f1.size ≤ 12 ∧ f2.size ≤ 60 := by
  unfold entryV isNameB at h
  simp only [Bool.and_eq_true, decide_eq_true_eq] at h
  exact ⟨h.1, h.2.1.1.2.1, h.2.2.2⟩
/-- Both roads end in one text. -/
theorem frame_same (f0 : Int) (f1 f2 : ByteArray) (h2 : f2.size ≤ 140737488351232) : ∃ r, Ev (fun k => spec_FrameOf.f k f0 f1 f2) r ∧ Ev (fun k => impl_FrameOf.f k f0 f1 f2) r := by
  obtain ⟨K1, g1⟩ := Ev.pick (one_spec f0 f1 f2 h2)
  cases hv : entryV f0 f1 f2 with
  | false =>
    obtain ⟨K2, g2⟩ := Ev.pick (entry_impl f0 f1 f2 h2)
    refine ⟨(⟨#[]⟩ : ByteArray), Ev.intro K1 fun k hk => ?_, Ev.intro K2 fun k hk => ?_⟩
    · unfold spec_FrameOf.f
      rw [g1 k hk, hv]
      rfl
    · unfold impl_FrameOf.f
      rw [g2 k hk, hv]
      rfl
  | true =>
    obtain ⟨a0, a1, a2⟩ := entry_bd hv
    obtain ⟨v, hv0, hg, hs⟩ := frame_both f0 f1 f2 a0 a1 a2
    refine ⟨_, ?_, frame_impl f0 f1 f2 a0 a1 a2 hv v hv0 hs⟩
    obtain ⟨K2, g2⟩ := Ev.pick hg
    refine Ev.intro (K1 + K2) fun k hk => ?_
    unfold spec_FrameOf.f
    rw [g1 k (by omega), hv]
    simp only [Option.bind_some, if_true]
    exact g2 k (by omega)

end FnExactFrameOf_
open FnExactFrameOf_ in
theorem FnExactFrameOf : ∀ (a0_0 : Int) (a0_1 : ByteArray) (a0_2 : ByteArray), (Lit.int .i64 a0_0).wf = true → a0_1.size ≤ maxLen → a0_2.size ≤ maxLen → ∃ k, laws_FnExactFrameOf.f k a0_0 a0_1 a0_2 = some true := by
  intro f0 f1 f2 _ h1 h2
  obtain ⟨t, ht, hz⟩ := sz_eq f0 f1 f2 h1 h2
  by_cases c : t < 0
  · refine ⟨0, ?_⟩
    unfold laws_FnExactFrameOf.f
    rw [ht]
    simp only [Option.bind_some]
    rw [if_pos c]
  · obtain ⟨r, hs, hi⟩ := frame_same f0 f1 f2 (by omega)
    obtain ⟨K1, g1⟩ := Ev.pick hs
    obtain ⟨K2, g2⟩ := Ev.pick hi
    refine ⟨K1 + K2, ?_⟩
    unfold laws_FnExactFrameOf.f laws_toEntry.f
    simp (disch := omega) only [ht, g1, g2, c, Option.bind_some, if_true, if_false]

end Go.Proofs.YtlcgonaapmmnkaaDoor.Pure
