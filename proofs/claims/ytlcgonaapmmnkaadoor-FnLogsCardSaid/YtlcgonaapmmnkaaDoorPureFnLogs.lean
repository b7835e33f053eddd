/- For all bytes: frames are read back, an entry that is written is the last one, and entries of days and kinds are those of the log. -/
import Derived.Test.YtlcgonaapmmnkaaDoorQFnLogsx19
import Derived.Test.YtlcgonaapmmnkaaDoorBase
import Derived.Lib.ItoaLen
namespace Go.Proofs.YtlcgonaapmmnkaaDoor.Pure
open Go.RowKit Go.Proofs.YtlcgonaapmmnkaaDoor.QFnLogs Go.Proofs.YtlcgonaapmmnkaaDoorW.PrintWords Go.Proofs.YtlcgonaapmmnkaaDoorW.PrintLast Go.Proofs.YtlcgonaapmmnkaaDoor.Base
set_option linter.unusedVariables false
set_option linter.unusedSimpArgs false
namespace FnLogs_
abbrev IT := S26
theorem in_eq (a b c : Int) : spec_l00In.f a b c = some (decide (b ≤ a ∧ a ≤ c)) := by
  unfold spec_l00In.f
  by_cases h : a ≥ b
  · rw [if_pos h]; congr 1; apply Bool.eq_iff_iff.mpr; simp; omega
  · rw [if_neg h]; congr 1; apply Bool.eq_iff_iff.mpr; simp; omega
theorem name_loop_spec (s : ByteArray) (h : s.size ≤ 12) : Ev (fun k => spec_IsName.l0 k s 0) ((List.range s.size).all fun i => nameByte (bt s i)) := by
  have := all_lt s.size (fun i => nameByte (bt s i)) (fun k i => spec_IsName.l0 k s i) true false (fun i hi hp => ⟨0, fun k _ => ?_⟩) (fun i hi hp => Ev.const fun k => ?_) (fun _ => Ev.const fun k => ?_)
  · rw [ite_bool] at this
    exact this
  · have hp := of_decide_eq_true hp
    simp only [spec_IsName.l0, spec_l01Small.f, spec_l01Digit.f]
    rw [if_pos (by omega), if_pos (by omega), w64 (by omega) (by omega)]
    by_cases h1 : bt s i ≥ 97
    · rw [if_pos h1]
      simp only [Option.bind_some, decide_eq_true_eq]
      by_cases h2 : bt s i ≤ 122
      · rw [if_pos h2]
      · exfalso; omega
    · rw [if_neg h1]
      simp only [Option.bind_some, Bool.false_eq_true, if_false]
      by_cases h3 : bt s i ≥ 48
      · rw [if_pos h3]
        simp only [Option.bind_some, decide_eq_true_eq]
        rw [if_pos (by omega)]
      · rw [if_neg h3]
        simp only [Option.bind_some, Bool.false_eq_true, if_false]
        rw [if_pos (by omega)]
  · have hp := of_decide_eq_false hp
    simp only [spec_IsName.l0, spec_l01Small.f, spec_l01Digit.f]
    rw [if_pos (by omega), if_pos (by omega)]
    by_cases h1 : bt s i ≥ 97
    · rw [if_pos h1, if_pos (by omega)]
      simp only [Option.bind_some, decide_eq_true_eq]
      rw [if_neg (by omega), if_neg (by omega), if_neg (by omega)]
    · rw [if_neg h1]
      simp only [Option.bind_some, Bool.false_eq_true, if_false]
      by_cases h3 : bt s i ≥ 48
      · rw [if_pos h3]
        simp only [Option.bind_some, decide_eq_true_eq]
        rw [if_neg (by omega), if_neg (by omega)]
      · rw [if_neg h3]
        simp only [Option.bind_some, Bool.false_eq_true, if_false]
        rw [if_neg (by omega)]
  · simp only [spec_IsName.l0]
    rw [if_neg (by omega)]
theorem name_j0 (s : ByteArray) (k : Nat) : spec_IsName.j0 (k + 1) s true = some false := by simp only [spec_IsName.j0, if_true]
theorem name_spec (s : ByteArray) : Ev (fun k => spec_IsName.f k s) (isNameB s) := by
  unfold isNameB
  by_cases h0 : s.size = 0
  · rw [decide_eq_false (by omega), Bool.false_and]
    refine Ev.const fun k => ?_
    unfold spec_IsName.f
    rw [if_pos (List.eq_nil_of_length_eq_zero (by rw [size_toList, h0]))]
    exact name_j0 s k
  · have hne : ¬ s.toList = ([] : List UInt8) := fun h => h0 (by rw [← size_toList, h]; rfl)
    by_cases h12 : s.size ≤ 12
    · by_cases hs : 97 ≤ bt s 0 ∧ bt s 0 ≤ 122
      · rw [decide_eq_true ⟨by omega, h12, hs⟩, Bool.true_and]
        refine Ev.step (f := fun k => spec_IsName.l0 k s 0) (fun k => ?_) (name_loop_spec s h12)
        simp only [spec_IsName.f, spec_l01Small.f]
        rw [if_neg hne, if_neg (by omega), if_pos (by omega), if_pos (by omega)]
        simp only [Option.bind_some]
        rw [decide_eq_true hs.2]
        simp only [Bool.not_true, spec_IsName.j0, Bool.false_eq_true, if_false]
      · rw [decide_eq_false (fun h => hs h.2.2), Bool.false_and]
        refine Ev.const fun k => ?_
        simp only [spec_IsName.f, spec_l01Small.f]
        rw [if_neg hne, if_neg (by omega), if_pos (by omega)]
        by_cases h1 : bt s 0 ≥ 97
        · rw [if_pos h1]
          simp only [Option.bind_some]
          rw [decide_eq_false (by omega)]
          exact name_j0 s k
        · rw [if_neg h1]
          exact name_j0 s k
    · rw [decide_eq_false (by omega), Bool.false_and]
      refine Ev.const fun k => ?_
      unfold spec_IsName.f
      rw [if_neg hne, if_pos (by omega)]
      exact name_j0 s k
theorem text_spec (s : ByteArray) (m : Int) (h : s.size ≤ 140737488351232) : Ev (fun k => spec_l00Text.f k s m) (plainB s && decide ((s.size : Int) ≤ m)) := by
  unfold spec_l00Text.f plainB
  have := all_lt s.size (fun i => decide (32 ≤ bt s i ∧ bt s i ≤ 126)) (fun k i => spec_l00Text.l0 k s m i) (decide ((s.size : Int) ≤ m)) false (fun i hi hp => ⟨0, fun k _ => ?_⟩) (fun i hi hp => Ev.const fun k => ?_) (fun _ => Ev.const fun k => ?_)
  · have e : (if ((List.range s.size).all fun i => decide (32 ≤ bt s i ∧ bt s i ≤ 126)) = true then decide ((s.size : Int) ≤ m) else false) = (((List.range s.size).all fun i => decide (32 ≤ bt s i ∧ bt s i ≤ 126)) && decide ((s.size : Int) ≤ m)) := by
      cases ((List.range s.size).all fun i => decide (32 ≤ bt s i ∧ bt s i ≤ 126)) <;> rfl
    rw [e] at this
    exact this
  · have hp := of_decide_eq_true hp
    simp only [spec_l00Text.l0]
    rw [if_pos (by omega), if_pos (by omega), if_neg (by omega), if_neg (by omega), w64 (by omega) (by omega)]
  · have hp := of_decide_eq_false hp
    simp only [spec_l00Text.l0]
    rw [if_pos (by omega), if_pos (by omega)]
    by_cases c : bt s i < 32
    · rw [if_pos c]
    · rw [if_neg c, if_pos (by omega)]
  · simp only [spec_l00Text.l0]
    rw [if_neg (by omega)]
theorem one_spec (f0 : Int) (f1 f2 : ByteArray) (h : f2.size ≤ 140737488351232) : Ev (fun k => spec_l27One.f k f0 f1 f2) (entryV f0 f1 f2, f0, f1, f2) := by
  obtain ⟨K, hK⟩ := Ev.pick (name_spec f1)
  obtain ⟨J, hJ⟩ := Ev.pick (text_spec f2 60 h)
  refine Ev.intro (K + J) fun k hk => ?_
  unfold spec_l27One.f entryV
  rw [in_eq, hK k (by omega), hJ k (by omega)]
  have e : decide ((f2.size : Int) ≤ 60) = decide (f2.size ≤ 60) := by
    by_cases c : f2.size ≤ 60
    · rw [decide_eq_true c, decide_eq_true (by omega)]
    · rw [decide_eq_false c, decide_eq_false (by omega)]
  rw [e]
  cases decide (0 ≤ f0 ∧ f0 ≤ 20000) <;> cases isNameB f1 <;> simp
theorem within_eq (a b c : Int) : impl_within.f a b c = some (decide (b ≤ a ∧ a ≤ c)) := by
  unfold impl_within.f
  by_cases h : a ≥ b
  · rw [if_pos h]; congr 1; apply Bool.eq_iff_iff.mpr; simp; omega
  · rw [if_neg h]; congr 1; apply Bool.eq_iff_iff.mpr; simp; omega
theorem name_loop_impl (s : ByteArray) (h : s.size ≤ 12) : Ev (fun k => impl_IsName.l0 k s 0) ((List.range s.size).all fun i => nameByte (bt s i)) := by
  have := all_lt s.size (fun i => nameByte (bt s i)) (fun k i => impl_IsName.l0 k s i) true false (fun i hi hp => ⟨0, fun k _ => ?_⟩) (fun i hi hp => Ev.const fun k => ?_) (fun _ => Ev.const fun k => ?_)
  · rw [ite_bool] at this
    exact this
  · have hp := of_decide_eq_true hp
    simp only [impl_IsName.l0]
    rw [if_pos (by omega), if_pos (by omega), w64 (by omega) (by omega)]
    repeat' split
    all_goals first | rfl | (exfalso; omega)
  · have hp := of_decide_eq_false hp
    simp only [impl_IsName.l0]
    rw [if_pos (by omega), if_pos (by omega)]
    repeat' split
    all_goals first | rfl | (exfalso; omega)
  · simp only [impl_IsName.l0]
    rw [if_neg (by omega)]
theorem name_impl (s : ByteArray) : Ev (fun k => impl_IsName.f k s) (isNameB s) := by
  unfold isNameB
  by_cases h0 : s.size < 1
  · rw [decide_eq_false (by omega), Bool.false_and]
    refine Ev.const fun k => ?_
    unfold impl_IsName.f
    rw [if_pos (by omega)]
    simp only [impl_IsName.j0, if_true]
  · by_cases h12 : s.size ≤ 12
    · by_cases hs : 97 ≤ bt s 0 ∧ bt s 0 ≤ 122
      · rw [decide_eq_true ⟨by omega, h12, hs⟩, Bool.true_and]
        refine Ev.step (f := fun k => impl_IsName.l0 k s 0) (fun k => ?_) (name_loop_impl s h12)
        simp only [impl_IsName.f]
        rw [if_neg (by omega), if_neg (by omega), if_pos (by omega), if_neg (by omega), decide_eq_false (by omega)]
        simp only [impl_IsName.j0, Bool.false_eq_true, if_false]
      · rw [decide_eq_false (fun h => hs h.2.2), Bool.false_and]
        refine Ev.const fun k => ?_
        simp only [impl_IsName.f]
        rw [if_neg (by omega), if_neg (by omega), if_pos (by omega)]
        by_cases h1 : bt s 0 < 97
        · rw [if_pos h1]
          simp only [impl_IsName.j0, if_true]
        · rw [if_neg h1, decide_eq_true (by omega)]
          simp only [impl_IsName.j0, if_true]
    · rw [decide_eq_false (by omega), Bool.false_and]
      refine Ev.const fun k => ?_
      unfold impl_IsName.f
      rw [if_neg (by omega), if_pos (by omega)]
      simp only [impl_IsName.j0, if_true]
theorem entry_loop (f0 : Int) (f1 f2 : ByteArray) (h : f2.size ≤ 140737488351232) : Ev (fun k => impl_ValidEntry.l0 k 0 f0 f1 f2) (plainB f2) := by
  unfold plainB
  have := all_lt f2.size (fun i => decide (32 ≤ bt f2 i ∧ bt f2 i ≤ 126)) (fun k i => impl_ValidEntry.l0 k i f0 f1 f2) true false (fun i hi hp => ⟨0, fun k _ => ?_⟩) (fun i hi hp => Ev.const fun k => ?_) (fun _ => Ev.const fun k => ?_)
  · rw [ite_bool] at this
    exact this
  · have hp := of_decide_eq_true hp
    simp only [impl_ValidEntry.l0]
    rw [if_pos (by omega), if_pos (by omega), if_neg (by omega), if_neg (by omega), w64 (by omega) (by omega)]
  · have hp := of_decide_eq_false hp
    simp only [impl_ValidEntry.l0]
    rw [if_pos (by omega), if_pos (by omega)]
    by_cases c : bt f2 i < 32
    · rw [if_pos c]
    · rw [if_neg c, if_pos (by omega)]
  · simp only [impl_ValidEntry.l0]
    rw [if_neg (by omega)]
theorem entry_impl (f0 : Int) (f1 f2 : ByteArray) (h : f2.size ≤ 140737488351232) : Ev (fun k => impl_ValidEntry.f k f0 f1 f2) (entryV f0 f1 f2) := by
  obtain ⟨K, hK⟩ := Ev.pick (name_impl f1)
  obtain ⟨J, hJ⟩ := Ev.pick (entry_loop f0 f1 f2 h)
  refine Ev.intro (K + J + 1) fun k hk => ?_
  obtain ⟨m, rfl⟩ : ∃ m, k = m + 1 := ⟨k - 1, by omega⟩
  unfold impl_ValidEntry.f entryV
  rw [within_eq, hK _ (by omega)]
  simp only [Option.bind_some, impl_ValidEntry.j0]
  by_cases c : f2.size ≤ 60
  · have c2 : ¬ (f2.size : Int) > 60 := by omega
    rw [decide_eq_false c2, decide_eq_true c, hJ m (by omega)]
    cases decide (0 ≤ f0 ∧ f0 ≤ 20000) <;> cases isNameB f1 <;> simp
  · have c2 : (f2.size : Int) > 60 := by omega
    rw [decide_eq_true c2, decide_eq_false c]
    cases decide (0 ≤ f0 ∧ f0 ≤ 20000) <;> cases isNameB f1 <;> simp
def decL (u : Nat) : List Int := if h : u = 0 then [] else decL (u / 10) ++ [(48 + (u % 10 : Nat) : Int)]
termination_by u
decreasing_by omega
theorem decL_zero : decL 0 = [] := by unfold decL; rfl
theorem decL_pos {u : Nat} (h : ¬ u = 0) : decL u = decL (u / 10) ++ [(48 + (u % 10 : Nat) : Int)] := by rw [decL, dif_neg h]
theorem decL_bytes (u : Nat) (h : 0 < u) : (decL u).map (fun n : Int => UInt8.ofNat n.toNat) = Lib.decDigits u := by
  induction u using Nat.strongRecOn with
  | _ u ih =>
    rw [decL_pos (by omega), Lib.decDigits]
    have e : (48 + ((u % 10 : Nat) : Int)).toNat = 48 + u % 10 := by omega
    by_cases h10 : u < 10
    · rw [dif_pos h10, Nat.div_eq_of_lt h10, decL_zero]
      simp only [List.nil_append, List.map_cons, List.map_nil, e]
      rw [Nat.mod_eq_of_lt h10]
    · rw [dif_neg h10, List.map_append, ih (u / 10) (by omega) (by omega)]
      simp only [List.map_cons, List.map_nil, e]
theorem strOfNums_size (xs : List Int) : (strOfNums xs).size = xs.length := by unfold strOfNums; show (Array.size _) = _; simp
def finD (n : Int) (xs : List Int) : ByteArray := if (xs.length : Int) = 0 then (⟨#[48]⟩ : ByteArray) else if n < 0 then (⟨#[45]⟩ : ByteArray) ++ strOfNums xs else strOfNums xs
theorem mod256 {x : Int} (h0 : 0 ≤ x) (h1 : x < 256) : x % 256 = x := Int.emod_eq_of_lt h0 h1
theorem dec_end (n : Int) (acc : List Int) (h : acc.length ≤ 200) : Ev (fun k => spec_l01Dec.l0 k n acc 0) (finD n acc) := by
  refine Ev.const fun k => ?_
  simp only [spec_l01Dec.l0, if_true]
  unfold finD
  split
  · rfl
  · split
    · rw [if_pos (by rw [strOfNums_size]; omega)]
    · rfl
theorem dec_loop (n : Int) : ∀ (m u : Nat) (acc : List Int) (x : Int), (x = u ∨ x = -(u : Int)) → u < 10 ^ m → acc.length + m ≤ 100 → u ≤ 9223372036854775808 → Ev (fun k => spec_l01Dec.l0 k n acc x) (finD n (decL u ++ acc))
  | 0, u, acc, x, hx, hu, ha, _ => by
    have h0 : u = 0 := by simpa using hu
    subst h0
    obtain rfl : x = 0 := by omega
    rw [decL_zero, List.nil_append]
    exact dec_end n acc (by omega)
  | m + 1, u, acc, x, hx, hu, ha, hb => by
    by_cases h0 : u = 0
    · subst h0
      obtain rfl : x = 0 := by omega
      rw [decL_zero, List.nil_append]
      exact dec_end n acc (by omega)
    · have hlt : u / 10 < 10 ^ m := by rw [Nat.pow_succ] at hu; omega
      have ih := dec_loop n m (u / 10) ((48 + (u % 10 : Nat) : Int) :: acc) (Int.tdiv x 10) ?_ hlt (by simp only [List.length_cons]; omega) (by omega)
      · rw [decL_pos h0, List.append_assoc, List.singleton_append]
        refine Ev.step (fun k => ?_) ih
        have hxn : ¬ x = 0 := by omega
        simp only [spec_l01Dec.l0]
        rw [if_neg hxn]
        have hw : wrap64 (Int.tdiv x 10) = Int.tdiv x 10 := by
          rcases hx with rfl | rfl
          · rw [tdiv_nn (by omega)]; exact w64 (by omega) (by omega)
          · rw [Int.neg_tdiv, tdiv_nn (by omega)]; exact w64 (by omega) (by omega)
        have hm : (Int.tmod x 10 = (u % 10 : Nat) ∨ Int.tmod x 10 = -((u % 10 : Nat) : Int)) := by
          rcases hx with rfl | rfl
          · left; rw [tmod_nn (by omega)]; omega
          · right; rw [Int.neg_tmod, tmod_nn (by omega)]; omega
        have hd : u % 10 < 10 := Nat.mod_lt _ (by omega)
        generalize u % 10 = d at hm hd ⊢
        rw [hw]
        by_cases hneg : Int.tmod x 10 < 0
        · have hm2 : Int.tmod x 10 = -(d : Int) := by omega
          rw [if_pos hneg, hm2]
          simp only [Option.bind_some, List.length_cons, List.length_nil]
          rw [if_pos (by omega), w64 (x := - -(d : Int)) (by omega) (by omega), w64 (x := 48 + - -(d : Int)) (by omega) (by omega), mod256 (by omega) (by omega), Int.neg_neg]
          rfl
        · have hm2 : Int.tmod x 10 = (d : Int) := by omega
          rw [if_neg hneg, hm2]
          simp only [Option.bind_some, List.length_cons, List.length_nil]
          rw [if_pos (by omega), w64 (x := 48 + (d : Int)) (by omega) (by omega), mod256 (by omega) (by omega)]
          rfl
      · rcases hx with rfl | rfl
        · left; rw [tdiv_nn (by omega)]; omega
        · right; rw [Int.neg_tdiv, tdiv_nn (by omega)]; omega
theorem finD_itoa (n : Int) : finD n (decL n.natAbs) = ⟨(Lib.itoa n).toArray⟩ := by
  unfold finD Lib.itoa
  by_cases h0 : n = 0
  · subst h0
    rw [show (0 : Int).natAbs = 0 from rfl, decL_zero]
    rw [if_pos (show (([] : List Int).length : Int) = 0 from rfl), if_neg (by omega)]
    rw [show (0 : Int).toNat = 0 from rfl, Lib.decDigits]
    rfl
  · have hpos : 0 < n.natAbs := by omega
    have hlen : ¬ ((decL n.natAbs).length : Int) = 0 := by
      rw [decL_pos (by omega), List.length_append]
      simp only [List.length_cons, List.length_nil]
      omega
    rw [if_neg hlen]
    have hs : strOfNums (decL n.natAbs) = ⟨(Lib.decDigits n.natAbs).toArray⟩ := by
      unfold strOfNums
      rw [decL_bytes _ hpos]
    rw [hs]
    by_cases hn : n < 0
    · rw [if_pos hn, if_pos hn]
      apply ByteArray.ext
      rw [ByteArray.data_append]
      simp
    · rw [if_neg hn, if_neg hn]
      have : n.toNat = n.natAbs := by omega
      rw [this]
def dec (n : Int) : ByteArray := ⟨(Lib.itoa n).toArray⟩
theorem dec_spec (n : Int) (h0 : -9223372036854775808 ≤ n) (h1 : n ≤ 9223372036854775807) : Ev (fun k => spec_l01Dec.f k n) (dec n) := by
  have := dec_loop n 20 n.natAbs [] n (by omega) (by omega) (by simp) (by omega)
  rw [List.append_nil, finD_itoa] at this
  exact this
theorem dec_size (n : Int) (h0 : -9223372036854775808 ≤ n) (h1 : n ≤ 9223372036854775807) : (dec n).size ≤ 21 := by
  have := Lib.itoa_length_le n h0 h1
  show (Lib.itoa n).toArray.size ≤ 21
  rw [List.size_toArray]
  exact this
theorem dec_impl (n : Int) (h0 : -9223372036854775808 ≤ n) (h1 : n ≤ 9223372036854775807) : impl_Decimal.f n = some (dec n) := by
  unfold impl_Decimal.f strconv_FormatInt.f
  rw [if_pos ⟨rfl, h0, h1⟩]
  rfl
theorem bt_bd (s : ByteArray) (i : Int) : 0 ≤ bt s i ∧ bt s i ≤ 255 := by
  unfold bt
  split
  · have := (s[i.toNat]).toNat_lt
    omega
  · omega
theorem sum_same (s : ByteArray) : ∀ (k : Nat) (a i : Int), impl_SumOf.l0 k s a i = spec_SumOf.l0 k s a i
  | 0, _, _ => rfl
  | k + 1, a, i => by
    simp only [impl_SumOf.l0, spec_SumOf.l0]
    rw [Int.mul_comm 131 a]
    split
    · split
      · exact sum_same s k _ _
      · rfl
    · rfl
theorem sum_ev (s : ByteArray) (h : s.size ≤ 140737488351232) : ∃ v, (0 ≤ v ∧ v < 9973) ∧ Ev (fun k => spec_SumOf.f k s) v := by
  refine for_ev s.size (fun k (a : Int) i => spec_SumOf.l0 k s a i) (fun _ a => 0 ≤ a ∧ a < 9973) (fun v => 0 ≤ v ∧ v < 9973) (fun i a hi ha => .inl ⟨Int.tmod (a * 131 + bt s i + 1) 9973, ?_, 0, fun k _ => ?_⟩) (fun a ha => ⟨a, ha, Ev.const fun k => ?_⟩) s.size 0 7 (by omega) (by omega)
  · have hb := bt_bd s i
    rw [tmod_nn (by omega)]
    omega
  · have hb := bt_bd s i
    simp only [spec_SumOf.l0]
    rw [if_pos (by omega), if_pos (by omega), w64 (x := a * 131) (by omega) (by omega), w64 (x := bt s i) (by omega) (by omega), w64 (x := a * 131 + bt s i) (by omega) (by omega), w64 (x := a * 131 + bt s i + 1) (by omega) (by omega), w64 (x := (i : Int) + 1) (by omega) (by omega)]
  · simp only [spec_SumOf.l0]
    rw [if_neg (by omega)]
theorem frame_both (f0 : Int) (f1 f2 : ByteArray) (h0 : 0 ≤ f0 ∧ f0 ≤ 20000) (h1 : f1.size ≤ 12) (h2 : f2.size ≤ 60) :
    ∃ v, (0 ≤ v ∧ v < 9973) ∧ Ev (fun k => spec_l27Frame.g k f0 f1 f2) (frameText (dec (frameBody (dec f0) f1 f2).size) (frameBody (dec f0) f1 f2) (dec v)) ∧ Ev (fun k => impl_SumOf.f k (frameBody (dec f0) f1 f2)) v := by
  have hz : (frameBody (dec f0) f1 f2).size = (dec f0).size + 1 + f1.size + 1 + f2.size := by unfold frameBody; simp only [ByteArray.size_append]; rfl
  have s1 := dec_size f0 (by omega) (by omega)
  obtain ⟨v, hv, hs⟩ := sum_ev (frameBody (dec f0) f1 f2) (by omega)
  refine ⟨v, hv, ?_, ?_⟩
  · obtain ⟨K1, g1⟩ := Ev.pick (dec_spec f0 (by omega) (by omega))
    obtain ⟨K2, g2⟩ := Ev.pick (dec_spec ((frameBody (dec f0) f1 f2).size : Int) (by omega) (by omega))
    obtain ⟨K3, g3⟩ := Ev.pick hs
    obtain ⟨K4, g4⟩ := Ev.pick (dec_spec v (by omega) (by omega))
    have s2 := dec_size ((frameBody (dec f0) f1 f2).size : Int) (by omega) (by omega)
    have s3 := dec_size v (by omega) (by omega)
    refine Ev.intro (K1 + K2 + K3 + K4) fun k hk => ?_
    unfold spec_l27Frame.g
    rw [if_pos ⟨by omega, by omega⟩, g1 k (by omega)]
    simp only [Option.bind_some]
    rw [if_pos (by omega), g2 k (by omega)]
    simp only [Option.bind_some]
    rw [if_pos (by omega), g3 k (by omega)]
    simp only [Option.bind_some]
    rw [g4 k (by omega)]
    simp only [Option.bind_some]
    rw [if_pos (by omega)]
  · refine Ev.congr (fun k => ?_) hs
    exact sum_same _ k 7 0
theorem frame_impl (f0 : Int) (f1 f2 : ByteArray) (h0 : 0 ≤ f0 ∧ f0 ≤ 20000) (h1 : f1.size ≤ 12) (h2 : f2.size ≤ 60) (hv : entryV f0 f1 f2 = true) (v : Int) (hv0 : 0 ≤ v ∧ v < 9973) (hs : Ev (fun k => impl_SumOf.f k (frameBody (dec f0) f1 f2)) v) :
    Ev (fun k => impl_FrameOf.f k f0 f1 f2) (frameText (dec (frameBody (dec f0) f1 f2).size) (frameBody (dec f0) f1 f2) (dec v)) := by
  obtain ⟨K1, g1⟩ := Ev.pick (entry_impl f0 f1 f2 (by omega))
  obtain ⟨K2, g2⟩ := Ev.pick hs
  have s1 : (dec f0).size ≤ 21 := dec_size f0 (by omega) (by omega)
  have hz : (frameBody (dec f0) f1 f2).size = (dec f0).size + 1 + f1.size + 1 + f2.size := by unfold frameBody; simp only [ByteArray.size_append]; rfl
  have d1 : impl_Decimal.f f0 = some (dec f0) := dec_impl f0 (by omega) (by omega)
  have d2 : impl_Decimal.f ((frameBody (dec f0) f1 f2).size : Int) = some (dec (frameBody (dec f0) f1 f2).size) := dec_impl _ (by omega) (by omega)
  have d3 : impl_Decimal.f v = some (dec v) := dec_impl v (by omega) (by omega)
  have s2 : (dec (frameBody (dec f0) f1 f2).size).size ≤ 21 := dec_size _ (by omega) (by omega)
  have s3 : (dec v).size ≤ 21 := dec_size v (by omega) (by omega)
  generalize hu : dec (frameBody (dec f0) f1 f2).size = u at *
  generalize dec v = x at *
  refine Ev.intro (K1 + K2) fun k hk => ?_
  have e2 := g2 k (by omega)
  generalize dec f0 = t at *
  unfold frameBody at *
  unfold impl_FrameOf.f
  rw [g1 k (by omega), hv]
  simp only [Option.bind_some, if_true]
  rw [d1]
  simp only [Option.bind_some]
  have z : ∀ b : UInt8, (⟨#[b]⟩ : ByteArray).size = 1 := fun _ => rfl
  rw [if_pos (by omega), if_pos (by simp only [ByteArray.size_append, z]; omega), if_pos (by simp only [ByteArray.size_append, z]; omega), if_pos (by simp only [ByteArray.size_append, z]; omega), d2]
  simp only [Option.bind_some]
  rw [if_pos (by omega), if_pos (by simp only [ByteArray.size_append, z]; omega), if_pos (by simp only [ByteArray.size_append, z]; omega), e2]
  simp only [Option.bind_some]
  rw [d3]
  simp only [Option.bind_some]
  rw [if_pos (by simp only [ByteArray.size_append, z]; omega), if_pos (by simp only [ByteArray.size_append, z]; omega)]
  rfl
theorem entry_bd {f0 : Int} {f1 f2 : ByteArray} (h : entryV f0 f1 f2 = true) : (0 ≤ f0 ∧ f0 ≤ 20000) ∧ f1.size ≤ 12 ∧ f2.size ≤ 60 := by
  unfold entryV isNameB at h
  simp only [Bool.and_eq_true, decide_eq_true_eq] at h
  exact ⟨h.1, h.2.1.1.2.1, h.2.2.2⟩
theorem bt_list (s : ByteArray) (i : Nat) (h : i < s.data.toList.length) : bt s (i : Int) = ((s.data.toList[i]).toNat : Int) := by
  unfold bt
  have h2 : i < s.size := by simpa using h
  rw [dif_pos (by simpa using h2)]
  rfl
theorem size_list (s : ByteArray) : s.size = s.data.toList.length := by rw [Array.length_toList]; rfl
theorem bytes_ext {a b : ByteArray} (h : a.data.toList = b.data.toList) : a = b := by
  have h3 : a.data = b.data := Array.toList_inj.mp h
  cases a; cases b; exact congrArg ByteArray.mk h3
theorem toList_iff {a b : ByteArray} : a.toList = b.toList ↔ a = b := by
  constructor
  · intro h
    rw [ByteArray.toList_eq, ByteArray.toList_eq] at h
    exact bytes_ext h
  · intro h; rw [h]
def valL (l : List UInt8) : Int := l.foldl (fun a b => 10 * a + ((b.toNat : Int) - 48)) 0
theorem valL_snoc (l : List UInt8) (b : UInt8) : valL (l ++ [b]) = 10 * valL l + ((b.toNat : Int) - 48) := by unfold valL; rw [List.foldl_append]; rfl
def valD (t : ByteArray) (i : Nat) : Int := valL (t.data.toList.take i)
theorem valD_succ (t : ByteArray) (i : Nat) (h : i < t.size) : valD t (i + 1) = 10 * valD t i + (bt t (i : Int) - 48) := by
  have h2 : i < t.data.toList.length := by rw [← size_list]; exact h
  unfold valD
  rw [List.take_succ_eq_append_getElem h2, valL_snoc, bt_list t i h2]
def digitB (b : Int) : Bool := decide (48 ≤ b ∧ b ≤ 57)
def allD (t : ByteArray) : Bool := (List.range t.size).all fun i => digitB (bt t (i : Int))
theorem valD_bd (t : ByteArray) : ∀ (i : Nat), i ≤ t.size → (∀ j, j < i → digitB (bt t (j : Int)) = true) → 0 ≤ valD t i ∧ valD t i < (10 ^ i : Nat)
  | 0, _, _ => by simp [valD, valL]
  | i + 1, hi, hd => by
    have ih := valD_bd t i (by omega) (fun j hj => hd j (by omega))
    have h := of_decide_eq_true (hd i (by omega))
    rw [valD_succ t i (by omega), Nat.pow_succ]
    omega
theorem pow_le18 {i : Nat} (h : i ≤ 18) : 10 ^ i ≤ 1000000000000000000 := by
  have := Nat.pow_le_pow_right (n := 10) (by omega) h
  simpa using this
def bare (s : ByteArray) : ByteArray := if 0 < s.size ∧ bt s 0 = 45 then s.extract 1 s.size else s
theorem bare_size (s : ByteArray) : (bare s).size ≤ s.size := by
  unfold bare
  split
  · rw [ByteArray.size_extract]; omega
  · exact Nat.le_refl _
def numAt (s : ByteArray) (n : Int) : Int × Bool := if dec n = s then (n, true) else (0, false)
def numEnd (s t : ByteArray) : Int × Bool := numAt s (if t.size < s.size then -valD t t.size else valD t t.size)
def numV (s : ByteArray) : Int × Bool := if (bare s).size < 1 ∨ 18 < (bare s).size then (0, false) else if allD (bare s) = true then numEnd s (bare s) else (0, false)
theorem numAt_bd {s : ByteArray} {n : Int} (h0 : -1000000000000000000 ≤ n) (h1 : n ≤ 1000000000000000000) : -1000000000000000000 ≤ (numAt s n).1 ∧ (numAt s n).1 ≤ 1000000000000000000 := by
  unfold numAt
  by_cases c : dec n = s
  · rw [if_pos c]; exact ⟨h0, h1⟩
  · rw [if_neg c]; simp
theorem numV_bd (s : ByteArray) : -1000000000000000000 ≤ (numV s).1 ∧ (numV s).1 ≤ 1000000000000000000 := by
  unfold numV
  by_cases c : (bare s).size < 1 ∨ 18 < (bare s).size
  · rw [if_pos c]; simp
  · rw [if_neg c]
    by_cases c2 : allD (bare s) = true
    · rw [if_pos c2]
      have h := valD_bd (bare s) (bare s).size (Nat.le_refl _) (fun j hj => List.all_eq_true.1 c2 j (List.mem_range.2 hj))
      have hp := pow_le18 (i := (bare s).size) (by omega)
      unfold numEnd
      split
      · exact numAt_bd (by omega) (by omega)
      · exact numAt_bd (by omega) (by omega)
    · rw [if_neg c2]; simp
theorem dec_digits {u : Nat} : ∀ b ∈ Lib.decDigits u, 48 ≤ b.toNat ∧ b.toNat ≤ 57 := by
  induction u using Nat.strongRecOn with
  | _ u ih =>
    intro b hb
    rw [Lib.decDigits] at hb
    split at hb
    · rename_i h10
      rw [List.mem_singleton] at hb
      subst hb
      rw [UInt8.toNat_ofNat']
      omega
    · rename_i h10
      rw [List.mem_append] at hb
      rcases hb with hb | hb
      · exact ih (u / 10) (by omega) b hb
      · rw [List.mem_singleton] at hb
        subst hb
        rw [UInt8.toNat_ofNat']
        omega
theorem dec_val (u : Nat) : valL (Lib.decDigits u) = u := by
  induction u using Nat.strongRecOn with
  | _ u ih =>
    rw [Lib.decDigits]
    split
    · rename_i h10
      show 10 * 0 + (((UInt8.ofNat (48 + u)).toNat : Int) - 48) = u
      rw [UInt8.toNat_ofNat']
      omega
    · rename_i h10
      rw [valL_snoc, ih (u / 10) (by omega), UInt8.toNat_ofNat']
      omega
theorem nDigits_le : ∀ (m u : Nat), u < 10 ^ (m + 1) → Lib.nDigits u ≤ m + 1
  | 0, u, h => by rw [Lib.nDigits_small (by simpa using h)]; omega
  | m + 1, u, h => by
    by_cases h10 : u < 10
    · rw [Lib.nDigits_small h10]; omega
    · rw [Lib.nDigits_big h10]
      rw [Nat.pow_succ] at h
      have := nDigits_le m (u / 10) (by omega)
      omega
theorem numV_dec (n : Nat) (h : n < 1000000000000000000) : numV (dec (n : Int)) = ((n : Int), true) := by
  have hl : (dec (n : Int)).data.toList = Lib.decDigits n := by
    show (Lib.itoa (n : Int)).toArray.toList = _
    rw [Lib.itoa_nonneg]
  have hsz : (dec (n : Int)).size = Lib.nDigits n := by rw [size_list, hl, Lib.decDigits_length]
  have hn18 := nDigits_le 17 n (by omega)
  have hn1 := Lib.nDigits_pos n
  have hd : ∀ j, j < (dec (n : Int)).size → digitB (bt (dec (n : Int)) (j : Int)) = true := by
    intro j hj
    have hj2 : j < (dec (n : Int)).data.toList.length := by rw [← size_list]; exact hj
    rw [bt_list _ j hj2]
    have := dec_digits (u := n) ((dec (n : Int)).data.toList[j]) (by rw [← hl]; exact List.getElem_mem hj2)
    exact decide_eq_true (by omega)
  have hb : bare (dec (n : Int)) = dec (n : Int) := by
    unfold bare
    rw [if_neg]
    rintro ⟨g0, g1⟩
    have := of_decide_eq_true (hd 0 g0)
    rw [show ((0 : Nat) : Int) = 0 from rfl] at this
    omega
  have hv : valD (dec (n : Int)) (dec (n : Int)).size = n := by
    unfold valD
    rw [size_list, List.take_length, hl, dec_val]
  unfold numV
  rw [hb, if_neg (by omega), if_pos (show allD (dec (n : Int)) = true from List.all_eq_true.2 fun j hj => hd j (List.mem_range.1 hj))]
  unfold numEnd numAt
  rw [if_neg (Nat.lt_irrefl _), hv, if_pos rfl]
theorem digit_spec (b : Int) : spec_l01Digit.f b = some (digitB b) := by
  unfold spec_l01Digit.f digitB
  by_cases h : b ≥ 48
  · rw [if_pos h]; congr 1; apply Bool.eq_iff_iff.mpr; simp; omega
  · rw [if_neg h]; congr 1; symm; simp; omega
theorem num_loop_spec (s t : ByteArray) (h18 : t.size ≤ 18) (hts : t.size ≤ s.size) : Ev (fun k => spec_l01Number.l0 k s t 0 0) (if allD t = true then numEnd s t else (0, false)) := by
  have key : ∀ (d i : Nat), i + d = t.size → (∀ j, j < i → digitB (bt t (j : Int)) = true) → Ev (fun k => spec_l01Number.l0 k s t (valD t i) i) (if allD t = true then numEnd s t else (0, false)) := by
    intro d
    induction d with
    | zero =>
      intro i hi hd
      obtain rfl : i = t.size := by omega
      have ha : allD t = true := List.all_eq_true.2 fun j hj => hd j (List.mem_range.1 hj)
      have hb := valD_bd t t.size (Nat.le_refl _) hd
      have hp := pow_le18 h18
      rw [if_pos ha]
      unfold numEnd numAt
      by_cases c : t.size < s.size
      · rw [if_pos c]
        obtain ⟨K, hK⟩ := Ev.pick (dec_spec (-valD t t.size) (by omega) (by omega))
        refine Ev.step (f := fun k => (spec_l01Dec.f k (-valD t t.size)).bind fun t117 => if t117.toList = s.toList then some (-valD t t.size, true) else some (0, false)) (fun k => ?_) (Ev.intro K fun k hk => ?_)
        · simp only [spec_l01Number.l0]
          rw [if_neg (by omega), if_pos (by omega), w64 (x := -valD t t.size) (by omega) (by omega)]
        · rw [hK k hk]
          simp only [Option.bind_some, toList_iff]
          split <;> rfl
      · rw [if_neg c]
        obtain ⟨K, hK⟩ := Ev.pick (dec_spec (valD t t.size) (by omega) (by omega))
        refine Ev.step (f := fun k => (spec_l01Dec.f k (valD t t.size)).bind fun t117 => if t117.toList = s.toList then some (valD t t.size, true) else some (0, false)) (fun k => ?_) (Ev.intro K fun k hk => ?_)
        · simp only [spec_l01Number.l0]
          rw [if_neg (by omega), if_neg (by omega)]
        · rw [hK k hk]
          simp only [Option.bind_some, toList_iff]
          split <;> rfl
    | succ d ih =>
      intro i hi hd
      have hb := valD_bd t i (by omega) hd
      have hp := pow_le18 (i := i) (by omega)
      have hr := bt_range t (i : Int)
      cases hdi : digitB (bt t (i : Int)) with
      | true =>
        have hdig := of_decide_eq_true hdi
        have ih2 := ih (i + 1) (by omega) (fun j hj => by
          by_cases e : j = i
          · subst e; exact hdi
          · exact hd j (by omega))
        refine Ev.step (fun k => ?_) ih2
        simp only [spec_l01Number.l0]
        rw [if_pos (by omega), if_pos (by omega), digit_spec, hdi]
        simp only [Option.bind_some, if_true]
        have hps : (10 ^ i : Nat) ≤ 100000000000000000 := by
          have := Nat.pow_le_pow_right (n := 10) (by omega) (show i ≤ 17 by omega)
          simpa using this
        rw [valD_succ t i (by omega), mod256 (by omega) (by omega), w64 (x := 10 * valD t i) (by omega) (by omega), w64 (x := 10 * valD t i + _) (by omega) (by omega), w64 (x := (i : Int) + 1) (by omega) (by omega)]
        rfl
      | false =>
        have ha : ¬ allD t = true := fun g => by
          have := List.all_eq_true.1 g i (List.mem_range.2 (by omega))
          rw [hdi] at this
          cases this
        rw [if_neg ha]
        refine Ev.const fun k => ?_
        simp only [spec_l01Number.l0]
        rw [if_pos (by omega), if_pos (by omega), digit_spec, hdi]
        rfl
  exact key t.size 0 (by omega) (fun j hj => absurd hj (Nat.not_lt_zero _))
theorem num_spec (s : ByteArray) (hs : s.size ≤ 140737488351232) : Ev (fun k => spec_l01Number.f k s) (numV s) := by
  have tail : ∀ t : ByteArray, t.size ≤ s.size → Ev (fun k => spec_l01Number.j1 k s t) (if t.size < 1 ∨ 18 < t.size then (0, false) else if allD t = true then numEnd s t else (0, false)) := by
    intro t ht
    by_cases c1 : t.size < 1
    · rw [if_pos (.inl c1)]
      refine Ev.intro 2 fun k hk => ?_
      obtain ⟨m, rfl⟩ : ∃ m, k = m + 2 := ⟨k - 2, by omega⟩
      simp only [spec_l01Number.j1]
      rw [if_pos (by omega)]
      simp only [spec_l01Number.j2, if_true]
    · by_cases c2 : 18 < t.size
      · rw [if_pos (.inr c2)]
        refine Ev.intro 2 fun k hk => ?_
        obtain ⟨m, rfl⟩ : ∃ m, k = m + 2 := ⟨k - 2, by omega⟩
        simp only [spec_l01Number.j1]
        rw [if_neg (by omega), decide_eq_true (by omega)]
        simp only [spec_l01Number.j2, if_true]
      · rw [if_neg (by omega)]
        refine Ev.step (f := fun k => spec_l01Number.j2 k s t false) (fun k => ?_) (Ev.step (fun k => ?_) (num_loop_spec s t (by omega) ht))
        · simp only [spec_l01Number.j1]
          rw [if_neg (by omega), decide_eq_false (by omega)]
        · simp only [spec_l01Number.j2, Bool.false_eq_true, if_false]
  unfold numV
  by_cases h0 : s.size = 0
  · have hb : bare s = s := by unfold bare; rw [if_neg (by omega)]
    have hn : s.toList = ([] : List UInt8) := List.eq_nil_of_length_eq_zero (by rw [size_toList, h0])
    rw [hb]
    refine Ev.congr (f := fun k => spec_l01Number.j0 k s s false) (fun k => ?_) (Ev.step (fun k => ?_) (tail s (Nat.le_refl _)))
    · unfold spec_l01Number.f
      rw [if_pos hn]
    · simp only [spec_l01Number.j0, Bool.false_eq_true, if_false]
  · have hn : ¬ s.toList = ([] : List UInt8) := fun g => h0 (by rw [← size_toList, g]; rfl)
    refine Ev.congr (f := fun k => spec_l01Number.j0 k s s (bt s 0 == 45)) (fun k => ?_) ?_
    · unfold spec_l01Number.f
      rw [if_neg hn, if_pos (by omega)]
    · by_cases h45 : bt s 0 = 45
      · have hb : bare s = s.extract 1 s.size := by unfold bare; rw [if_pos ⟨by omega, h45⟩]
        have he : (bt s 0 == 45) = true := by simpa using h45
        rw [he]
        refine Ev.step (fun k => ?_) (tail (bare s) (bare_size s))
        rw [hb]
        simp only [spec_l01Number.j0, if_true]
        rw [if_pos (by omega)]
      · have hb : bare s = s := by unfold bare; rw [if_neg (fun g => h45 g.2)]
        have he : (bt s 0 == 45) = false := by simpa using h45
        rw [hb, he]
        refine Ev.step (fun k => ?_) (tail s (Nat.le_refl _))
        simp only [spec_l01Number.j0, Bool.false_eq_true, if_false]
theorem num_loop_impl (s t : ByteArray) (h18 : t.size ≤ 18) (hts : t.size ≤ s.size) : Ev (fun k => impl_ReadDecimal.l0 k s t 0 0) (if allD t = true then numEnd s t else (0, false)) := by
  have key : ∀ (d i : Nat), i + d = t.size → (∀ j, j < i → digitB (bt t (j : Int)) = true) → Ev (fun k => impl_ReadDecimal.l0 k s t (valD t i) i) (if allD t = true then numEnd s t else (0, false)) := by
    intro d
    induction d with
    | zero =>
      intro i hi hd
      obtain rfl : i = t.size := by omega
      have ha : allD t = true := List.all_eq_true.2 fun j hj => hd j (List.mem_range.1 hj)
      have hb := valD_bd t t.size (Nat.le_refl _) hd
      have hp := pow_le18 h18
      rw [if_pos ha]
      unfold numEnd numAt
      by_cases c : t.size < s.size
      · rw [if_pos c]
        refine Ev.const fun k => ?_
        simp only [impl_ReadDecimal.l0]
        rw [if_neg (by omega), if_pos (by omega), w64 (x := -valD t t.size) (by omega) (by omega), dec_impl (-valD t t.size) (by omega) (by omega)]
        simp only [Option.bind_some, toList_iff]
        split <;> rfl
      · rw [if_neg c]
        refine Ev.const fun k => ?_
        simp only [impl_ReadDecimal.l0]
        rw [if_neg (by omega), if_neg (by omega), dec_impl (valD t t.size) (by omega) (by omega)]
        simp only [Option.bind_some, toList_iff]
        split <;> rfl
    | succ d ih =>
      intro i hi hd
      have hb := valD_bd t i (by omega) hd
      have hp := pow_le18 (i := i) (by omega)
      have hr := bt_range t (i : Int)
      cases hdi : digitB (bt t (i : Int)) with
      | true =>
        have hdig := of_decide_eq_true hdi
        have ih2 := ih (i + 1) (by omega) (fun j hj => by
          by_cases e : j = i
          · subst e; exact hdi
          · exact hd j (by omega))
        refine Ev.step (fun k => ?_) ih2
        simp only [impl_ReadDecimal.l0]
        rw [if_pos (by omega), if_pos (by omega), if_neg (by omega), if_neg (by omega)]
        have hps : (10 ^ i : Nat) ≤ 100000000000000000 := by
          have := Nat.pow_le_pow_right (n := 10) (by omega) (show i ≤ 17 by omega)
          simpa using this
        rw [valD_succ t i (by omega), mod256 (by omega) (by omega), w64 (x := 10 * valD t i) (by omega) (by omega), w64 (x := 10 * valD t i + _) (by omega) (by omega), w64 (x := (i : Int) + 1) (by omega) (by omega)]
        rfl
      | false =>
        have ha : ¬ allD t = true := fun g => by
          have := List.all_eq_true.1 g i (List.mem_range.2 (by omega))
          rw [hdi] at this
          cases this
        rw [if_neg ha]
        have hdig := of_decide_eq_false hdi
        refine Ev.const fun k => ?_
        simp only [impl_ReadDecimal.l0]
        rw [if_pos (by omega), if_pos (by omega)]
        by_cases c : bt t (i : Int) < 48
        · rw [if_pos c]
        · rw [if_neg c, if_pos (by omega)]
  exact key t.size 0 (by omega) (fun j hj => absurd hj (Nat.not_lt_zero _))
theorem prefix_one (s : ByteArray) : strings_TrimPrefix.f s (⟨#[45]⟩ : ByteArray) = some (bare s) := by
  unfold strings_TrimPrefix.f stringslite_TrimPrefix.f stringslite_HasPrefix.f
  have z : (⟨#[45]⟩ : ByteArray).size = 1 := rfl
  rw [z]
  by_cases h0 : s.size = 0
  · rw [if_neg (by omega)]
    simp only [Option.bind_some, Bool.false_eq_true, if_false]
    unfold bare
    rw [if_neg (by omega)]
  · rw [if_pos (by omega), if_pos (by omega), if_pos (by omega)]
    simp only [Option.bind_some]
    have e1 : ((1 : Nat) : Int).toNat = 1 := rfl
    rw [e1]
    have hl : 0 < s.data.toList.length := by rw [← size_list]; omega
    have hb0 := bt_list s 0 hl
    have key : (((s.extract 0 1).toList == (⟨#[45]⟩ : ByteArray).toList) = true) ↔ bt s 0 = 45 := by
      rw [beq_iff_eq, toList_iff]
      have hx : (s.extract 0 1).data.toList = [s.data.toList[0]] := by
        rw [Lib.extract_data]
        rw [List.drop_zero, Nat.sub_zero, List.take_succ_eq_append_getElem hl, List.take_zero]
        rfl
      rw [show (0 : Int) = ((0 : Nat) : Int) from rfl, hb0]
      constructor
      · intro g
        rw [g] at hx
        have h2 : [(45 : UInt8)] = [s.data.toList[0]] := hx
        have h3 : (45 : UInt8) = s.data.toList[0] := by simpa using h2
        rw [← h3]; rfl
      · intro g
        apply bytes_ext
        rw [hx]
        show [s.data.toList[0]] = [(45 : UInt8)]
        have h3 : s.data.toList[0] = 45 := UInt8.toNat_inj.mp (by
          have : (s.data.toList[0]).toNat = 45 := by omega
          rw [this]; rfl)
        rw [h3]
    unfold bare
    by_cases h45 : bt s 0 = 45
    · have hb := key.mpr h45
      rw [hb]
      simp only [if_true]
      rw [if_pos (by omega), if_pos (by omega), if_pos ⟨by omega, h45⟩]
      rfl
    · have hb : ((s.extract 0 1).toList == (⟨#[45]⟩ : ByteArray).toList) = false := Bool.eq_false_iff.mpr fun g => h45 (key.mp g)
      rw [hb]
      simp only [Bool.false_eq_true, if_false]
      rw [if_neg (fun g => h45 g.2)]
      rfl
theorem num_impl (s : ByteArray) (hs : s.size ≤ 140737488351232) : Ev (fun k => impl_ReadDecimal.f k s) (numV s) := by
  have ht := bare_size s
  unfold numV
  have h1 : ∀ k, impl_ReadDecimal.f k s = if ((bare s).size : Int) < 1 then impl_ReadDecimal.j0 k s (bare s) true else impl_ReadDecimal.j0 k s (bare s) (decide (((bare s).size : Int) > 18)) := by
    intro k
    unfold impl_ReadDecimal.f
    rw [prefix_one]
    rfl
  generalize bare s = t at *
  by_cases c1 : t.size < 1
  · rw [if_pos (.inl c1)]
    refine Ev.const fun k => ?_
    rw [h1, if_pos (by omega)]
    simp only [impl_ReadDecimal.j0, if_true]
  · by_cases c2 : 18 < t.size
    · rw [if_pos (.inr c2)]
      refine Ev.const fun k => ?_
      rw [h1, if_neg (by omega), decide_eq_true (by omega)]
      simp only [impl_ReadDecimal.j0, if_true]
    · rw [if_neg (by omega)]
      refine Ev.step (fun k => ?_) (num_loop_impl s t (by omega) ht)
      rw [h1, if_neg (by omega), decide_eq_false (by omega)]
      simp only [impl_ReadDecimal.j0, Bool.false_eq_true, if_false]
def sumS (s : ByteArray) : Int := s.data.toList.foldl (fun a b => Int.tmod (a * 131 + (b.toNat : Int) + 1) 9973) 7
theorem sumS_bd (s : ByteArray) : 0 ≤ sumS s ∧ sumS s < 9973 := by
  unfold sumS
  have : ∀ (l : List UInt8) (a : Int), 0 ≤ a ∧ a < 9973 → 0 ≤ l.foldl (fun a b => Int.tmod (a * 131 + (b.toNat : Int) + 1) 9973) a ∧ l.foldl (fun a b => Int.tmod (a * 131 + (b.toNat : Int) + 1) 9973) a < 9973 := by
    intro l
    induction l with
    | nil => exact fun a h => h
    | cons b l ih =>
      intro a h
      rw [List.foldl_cons]
      refine ih _ ?_
      rw [tmod_nn (by omega)]
      omega
  exact this _ 7 (by omega)
theorem sum_spec (s : ByteArray) (h : s.size ≤ 140737488351232) : Ev (fun k => spec_SumOf.f k s) (sumS s) := by
  have hb := fun (i : Nat) => bt_range s (i : Int)
  have hbd : ∀ (l : List UInt8) (a : Int), 0 ≤ a ∧ a < 9973 → 0 ≤ l.foldl (fun a b => Int.tmod (a * 131 + (b.toNat : Int) + 1) 9973) a ∧ l.foldl (fun a b => Int.tmod (a * 131 + (b.toNat : Int) + 1) 9973) a < 9973 := by
    intro l
    induction l with
    | nil => exact fun a h => h
    | cons b l ih =>
      intro a h
      rw [List.foldl_cons]
      refine ih _ ?_
      rw [tmod_nn (by omega)]
      omega
  have := for_to s.size (fun k (a : Int) i => spec_SumOf.l0 k s a i) (fun i => (s.data.toList.take i).foldl (fun a b => Int.tmod (a * 131 + (b.toNat : Int) + 1) 9973) 7) (sumS s) (fun i hi => ⟨0, fun k _ => ?_⟩) (Ev.const fun k => ?_) s.size 0 (by omega)
  · exact this
  · have hb1 := hb i
    have ha := hbd (s.data.toList.take i) 7 (by omega)
    have h2 : i < s.data.toList.length := by rw [← size_list]; exact hi
    simp only [spec_SumOf.l0]
    rw [if_pos (by omega), if_pos (by omega), List.take_succ_eq_append_getElem h2, List.foldl_append, bt_list s i h2]
    rw [bt_list s i h2] at hb1
    generalize (s.data.toList.take i).foldl (fun a b => Int.tmod (a * 131 + (b.toNat : Int) + 1) 9973) 7 = a at ha ⊢
    rw [w64 (x := a * 131) (by omega) (by omega), w64 (x := ((s.data.toList[i]).toNat : Int)) (by omega) (by omega), w64 (x := a * 131 + _) (by omega) (by omega), w64 (x := a * 131 + _ + 1) (by omega) (by omega), w64 (x := (i : Int) + 1) (by omega) (by omega)]
    rfl
  · simp only [spec_SumOf.l0]
    rw [if_neg (by omega), size_list, List.take_length]
    rfl
theorem sum_impl (s : ByteArray) (h : s.size ≤ 140737488351232) : Ev (fun k => impl_SumOf.f k s) (sumS s) := Ev.congr (fun k => sum_same s k 7 0) (sum_spec s h)
def bodyV (f0 : Int) (f1 f2 : ByteArray) : ByteArray := frameBody (dec f0) f1 f2
def frV (f0 : Int) (f1 f2 : ByteArray) : ByteArray := frameText (dec (bodyV f0 f1 f2).size) (bodyV f0 f1 f2) (dec (sumS (bodyV f0 f1 f2)))
theorem body_size (f0 : Int) (f1 f2 : ByteArray) : (bodyV f0 f1 f2).size = (dec f0).size + 1 + f1.size + 1 + f2.size := by unfold bodyV frameBody; simp only [ByteArray.size_append]; rfl
theorem frV_spec {f0 : Int} {f1 f2 : ByteArray} (hv : entryV f0 f1 f2 = true) : Ev (fun k => spec_l27Frame.g k f0 f1 f2) (frV f0 f1 f2) := by
  obtain ⟨a0, a1, a2⟩ := entry_bd hv
  obtain ⟨v, hv0, hg, hs⟩ := frame_both f0 f1 f2 a0 a1 a2
  have s1 := dec_size f0 (by omega) (by omega)
  have hz := body_size f0 f1 f2
  have e : v = sumS (bodyV f0 f1 f2) := Ev.one hs (sum_impl (bodyV f0 f1 f2) (by omega))
  subst e
  exact hg
theorem frV_impl {f0 : Int} {f1 f2 : ByteArray} (hv : entryV f0 f1 f2 = true) : Ev (fun k => impl_FrameOf.f k f0 f1 f2) (frV f0 f1 f2) := by
  obtain ⟨a0, a1, a2⟩ := entry_bd hv
  have s1 := dec_size f0 (by omega) (by omega)
  have hz := body_size f0 f1 f2
  exact frame_impl f0 f1 f2 a0 a1 a2 hv _ (sumS_bd _) (sum_impl (bodyV f0 f1 f2) (by omega))
theorem frV_none {f0 : Int} {f1 f2 : ByteArray} (hv : entryV f0 f1 f2 = false) (h2 : f2.size ≤ 140737488351232) : Ev (fun k => impl_FrameOf.f k f0 f1 f2) (⟨#[]⟩ : ByteArray) := by
  obtain ⟨K2, g2⟩ := Ev.pick (entry_impl f0 f1 f2 h2)
  refine Ev.intro K2 fun k hk => ?_
  unfold impl_FrameOf.f
  rw [g2 k hk, hv]
  rfl
theorem app_list (a b : ByteArray) : (a ++ b).data.toList = a.data.toList ++ b.data.toList := by rw [ByteArray.data_append, Array.toList_append]
theorem ext_list (s : ByteArray) (i j : Nat) : (s.extract i j).data.toList = (s.data.toList.drop i).take (j - i) := Lib.extract_data s i j
theorem dec_list (n : Nat) : (dec (n : Int)).data.toList = Lib.decDigits n := by
  show (Lib.itoa (n : Int)).toArray.toList = _
  rw [Lib.itoa_nonneg]
theorem body_list (d : Nat) (f1 f2 : ByteArray) : (bodyV (d : Int) f1 f2).data.toList = Lib.decDigits d ++ 32 :: (f1.data.toList ++ 32 :: f2.data.toList) := by
  unfold bodyV frameBody
  rw [app_list, app_list, app_list, app_list, dec_list]
  simp
def Pre (r s : ByteArray) : Prop := ∃ l, s.data.toList = r.data.toList ++ l
theorem pre_size {r s : ByteArray} (h : Pre r s) : r.size ≤ s.size := by
  obtain ⟨l, h⟩ := h
  rw [size_list, size_list, h, List.length_append]
  omega
theorem pre_iff (r s : ByteArray) : (r.size ≤ s.size ∧ ((s.extract 0 r.size).toList == r.toList) = true) ↔ Pre r s := by
  rw [beq_iff_eq, toList_iff]
  constructor
  · rintro ⟨h1, h2⟩
    have := congrArg (fun x : ByteArray => x.data.toList) h2
    simp only [ext_list, List.drop_zero, Nat.sub_zero] at this
    exact ⟨s.data.toList.drop r.size, by rw [← this, List.take_append_drop]⟩
  · intro h
    refine ⟨pre_size h, bytes_ext ?_⟩
    obtain ⟨l, h⟩ := h
    rw [ext_list, List.drop_zero, Nat.sub_zero, h, size_list, List.take_left]
theorem frame_list (f0 : Int) (f1 f2 : ByteArray) : ∃ e, (frV f0 f1 f2).data.toList = Lib.decDigits (bodyV f0 f1 f2).size ++ 58 :: ((bodyV f0 f1 f2).data.toList ++ e) := by
  refine ⟨35 :: ((dec (sumS (bodyV f0 f1 f2))).data.toList ++ [10]), ?_⟩
  unfold frV frameText
  rw [app_list, app_list, app_list, app_list, app_list, dec_list]
  simp
theorem digit_ne {u : Nat} {b c : UInt8} (hb : b ∈ Lib.decDigits u) (hc : c.toNat < 48 ∨ 57 < c.toNat) : ¬ b = c := by
  intro e
  have := dec_digits b hb
  subst e
  omega
theorem name_bytes {s : ByteArray} (h : isNameB s = true) : ∀ b ∈ s.data.toList, ¬ b = 32 := by
  unfold isNameB at h
  rw [Bool.and_eq_true, List.all_eq_true] at h
  intro b hb e
  obtain ⟨i, hi, rfl⟩ := List.getElem_of_mem hb
  have := h.2 i (List.mem_range.2 (by rw [size_list]; exact hi))
  rw [bt_list s i hi, e] at this
  exact absurd this (by decide)
theorem blank_at (s : ByteArray) (c : Nat) (hc : c < s.size) (hb : bt s (c : Int) = 32) : ∀ (d i : Nat), i + d = c → (∀ j, i ≤ j → j < c → ¬ bt s (j : Int) = 32) → blankFrom s i = c
  | 0, i, h, _ => by
    obtain rfl : i = c := by omega
    exact blank_here hb
  | d + 1, i, h, hn => by
    rw [blank_go (by omega) (hn i (Nat.le_refl _) (by omega))]
    exact blank_at s c hc hb d (i + 1) (by omega) (fun j h1 h2 => hn j (by omega) h2)
theorem colon_at (s : ByteArray) (c : Nat) (hb : bt s (c : Int) = 58) (hc : c < s.size) (h4 : c ≤ 4) : ∀ (d i : Nat), i + d = c → (∀ j, i ≤ j → j < c → ¬ bt s (j : Int) = 58) → colonFrom s i = c
  | 0, i, h, _ => by
    obtain rfl : i = c := by omega
    exact colon_stop fun g => g.2.2 hb
  | d + 1, i, h, hn => by
    rw [colon_go (by omega) (by omega) (hn i (Nat.le_refl _) (by omega))]
    exact colon_at s c hb hc h4 d (i + 1) (by omega) (fun j h1 h2 => hn j (by omega) h2)
theorem bt_byte {s : ByteArray} {l : List UInt8} (h : s.data.toList = l) (j : Nat) (hj : j < l.length) : bt s (j : Int) = ((l[j]).toNat : Int) := by
  subst h
  exact bt_list s j hj
theorem cut_at {s : ByteArray} {D R : List UInt8} {c : UInt8} (h : s.data.toList = D ++ c :: R) :
    D.length < s.size ∧ bt s (D.length : Int) = (c.toNat : Int) ∧ (∀ j (hj : j < D.length), bt s (j : Int) = ((D[j]).toNat : Int)) ∧ (s.extract 0 D.length).data.toList = D ∧ (∀ m, (s.extract (D.length + 1) (D.length + 1 + m)).data.toList = R.take m) ∧ s.size = D.length + 1 + R.length := by
  have hsz : s.size = D.length + 1 + R.length := by rw [size_list, h, List.length_append, List.length_cons]; omega
  refine ⟨by omega, ?_, fun j hj => ?_, ?_, fun m => ?_, hsz⟩
  · rw [bt_byte h D.length (by rw [List.length_append, List.length_cons]; omega), List.getElem_append_right (Nat.le_refl _)]
    simp
  · rw [bt_byte h j (by rw [List.length_append]; omega), List.getElem_append_left hj]
  · rw [ext_list, h, List.drop_zero, Nat.sub_zero, List.take_left]
  · rw [ext_list, h, show D.length + 1 + m - (D.length + 1) = m by omega]
    congr 1
    rw [show D ++ c :: R = (D ++ [c]) ++ R by simp, show D.length + 1 = (D ++ [c]).length by simp, List.drop_left]
theorem frame_cut {f0 : Int} {f1 f2 s : ByteArray} (hp : Pre (frV f0 f1 f2) s) : ∃ R, s.data.toList = Lib.decDigits (bodyV f0 f1 f2).size ++ 58 :: R ∧ R.take (bodyV f0 f1 f2).size = (bodyV f0 f1 f2).data.toList := by
  obtain ⟨e, he⟩ := frame_list f0 f1 f2
  obtain ⟨l, hl⟩ := hp
  refine ⟨((bodyV f0 f1 f2).data.toList ++ e) ++ l, ?_, ?_⟩
  · rw [hl, he]; simp
  · rw [size_list, List.append_assoc, List.take_left]
theorem body_hit {f0 : Int} {f1 f2 : ByteArray} (hv : entryV f0 f1 f2 = true) : Ev (fun k => spec_l27Body.f k (bodyV f0 f1 f2)) (f0, f1, f2, true) := by
  obtain ⟨a0, a1, a2⟩ := entry_bd hv
  obtain ⟨d, rfl⟩ : ∃ d : Nat, f0 = (d : Int) := ⟨f0.toNat, by omega⟩
  have s1 := dec_size (d : Int) (by omega) (by omega)
  have hz := body_size (d : Int) f1 f2
  have hB := body_list d f1 f2
  have hname : isNameB f1 = true := by unfold entryV at hv; simp only [Bool.and_eq_true] at hv; exact hv.2.1
  obtain ⟨c1, c2, c3, c4, c5, c6⟩ := cut_at hB
  have hB2 : (bodyV (d : Int) f1 f2).data.toList = (Lib.decDigits d ++ 32 :: f1.data.toList) ++ 32 :: f2.data.toList := by rw [hB]; simp
  obtain ⟨e1, e2, e3, e4, e5, e6⟩ := cut_at hB2
  have hlen : (Lib.decDigits d ++ 32 :: f1.data.toList).length = (Lib.decDigits d).length + 1 + f1.size := by rw [List.length_append, List.length_cons, size_list]; omega
  have hb0 : blankFrom (bodyV (d : Int) f1 f2) 0 = (Lib.decDigits d).length := blank_at _ _ c1 c2 (Lib.decDigits d).length 0 (by omega) (fun j _ hj => by
    rw [c3 j hj]
    have := dec_digits _ (List.getElem_mem hj)
    omega)
  have hb1 : blankFrom (bodyV (d : Int) f1 f2) ((Lib.decDigits d).length + 1) = (Lib.decDigits d).length + 1 + f1.size := by
    rw [← hlen]
    refine blank_at _ _ e1 e2 f1.size _ (by omega) (fun j h1 h2 => ?_)
    rw [e3 j h2]
    have hj : j - (Lib.decDigits d).length - 1 < f1.data.toList.length := by rw [← size_list]; omega
    have hx : (Lib.decDigits d ++ 32 :: f1.data.toList)[j] = f1.data.toList[j - (Lib.decDigits d).length - 1] := by
      rw [List.getElem_append_right (by omega), List.getElem_cons]
      rw [dif_neg (by omega)]
    rw [hx]
    have hne := name_bytes hname _ (List.getElem_mem hj)
    intro g
    exact hne (UInt8.toNat_inj.mp (by
      have : (f1.data.toList[j - (Lib.decDigits d).length - 1]).toNat = 32 := by omega
      rw [this]; rfl))
  have x1 : (bodyV (d : Int) f1 f2).extract 0 (Lib.decDigits d).length = dec (d : Int) := bytes_ext (by rw [c4, dec_list])
  have x2 : (bodyV (d : Int) f1 f2).extract ((Lib.decDigits d).length + 1) ((Lib.decDigits d).length + 1 + f1.size) = f1 := bytes_ext (by rw [c5, size_list, List.take_left])
  have x3 : (bodyV (d : Int) f1 f2).extract ((Lib.decDigits d).length + 1 + f1.size + 1) (bodyV (d : Int) f1 f2).size = f2 := by
    apply bytes_ext
    rw [← hlen, show (bodyV (d : Int) f1 f2).size = (Lib.decDigits d ++ 32 :: f1.data.toList).length + 1 + f2.data.toList.length from e6, e5, List.take_length]
  obtain ⟨K1, g1⟩ := Ev.pick (num_spec (dec (d : Int)) (by omega))
  obtain ⟨K2, g2⟩ := Ev.pick (one_spec (d : Int) f1 f2 (by omega))
  refine Ev.intro (K1 + K2) fun k hk => ?_
  unfold spec_l27Body.f
  rw [if_pos (by omega), hb0, hb1, if_neg (by rw [e6, hlen]; omega), x1, x2, x3, g1 k (by omega), numV_dec d (by omega)]
  simp only [Option.bind_some, if_true]
  rw [g2 k (by omega), hv]
  simp only [Option.bind_some, if_true]
theorem next_hit {f0 : Int} {f1 f2 s : ByteArray} (hv : entryV f0 f1 f2 = true) (hp : Pre (frV f0 f1 f2) s) (hs : s.size ≤ 140737488351232) : Ev (fun k => spec_l27Next.f k s) (f0, f1, f2, ((frV f0 f1 f2).size : Int), true) := by
  obtain ⟨a0, a1, a2⟩ := entry_bd hv
  have s1 := dec_size f0 (by omega) (by omega)
  have hz := body_size f0 f1 f2
  obtain ⟨R, hR, hRt⟩ := frame_cut hp
  obtain ⟨c1, c2, c3, c4, c5, c6⟩ := cut_at hR
  have hn : (Lib.decDigits (bodyV f0 f1 f2).size).length ≤ 3 := by rw [Lib.decDigits_length]; exact nDigits_le 2 _ (by omega)
  have hc : colonFrom s 0 = (Lib.decDigits (bodyV f0 f1 f2).size).length := colon_at s _ c2 c1 (by omega) (Lib.decDigits (bodyV f0 f1 f2).size).length 0 (by omega) (fun j _ hj => by
    rw [c3 j hj]
    have := dec_digits _ (List.getElem_mem hj)
    omega)
  have x1 : s.extract 0 (Lib.decDigits (bodyV f0 f1 f2).size).length = dec ((bodyV f0 f1 f2).size : Int) := bytes_ext (by rw [c4, dec_list])
  have x2 : s.extract ((Lib.decDigits (bodyV f0 f1 f2).size).length + 1) ((Lib.decDigits (bodyV f0 f1 f2).size).length + 1 + (bodyV f0 f1 f2).size) = bodyV f0 f1 f2 := bytes_ext (by rw [c5, hRt])
  have hRl : (bodyV f0 f1 f2).size ≤ R.length := by
    have := congrArg List.length hRt
    rw [List.length_take, ← size_list] at this
    omega
  obtain ⟨K1, g1⟩ := Ev.pick (num_spec (dec ((bodyV f0 f1 f2).size : Int)) (by have := dec_size ((bodyV f0 f1 f2).size : Int) (by omega) (by omega); omega))
  obtain ⟨K2, g2⟩ := Ev.pick (body_hit hv)
  obtain ⟨K3, g3⟩ := Ev.pick (frV_spec hv)
  refine Ev.intro (K1 + K2 + K3) fun k hk => ?_
  unfold spec_l27Next.f
  rw [if_pos hs, hc, x1, g1 k (by omega), numV_dec _ (by omega)]
  simp only [Option.bind_some, Int.toNat_natCast]
  rw [if_pos (by omega), if_pos ⟨trivial, by omega, by omega⟩, x2, g2 k (by omega)]
  simp only [Option.bind_some, if_true]
  rw [g3 k (by omega)]
  simp only [Option.bind_some]
  rw [if_pos ((pre_iff _ _).mpr hp)]
theorem next_any (s : ByteArray) (hs : s.size ≤ 140737488351232) : (∃ f0 f1 f2, entryV f0 f1 f2 = true ∧ Pre (frV f0 f1 f2) s) ∨ Ev (fun k => spec_l27Next.f k s) noEntry := by
  have hb := numV_bd (s.extract 0 (colonFrom s 0))
  have hx : ∀ i j, (s.extract i j).size ≤ 140737488351232 := fun i j => by rw [ByteArray.size_extract]; omega
  obtain ⟨K1, g1⟩ := Ev.pick (num_spec (s.extract 0 (colonFrom s 0)) (hx _ _))
  by_cases c : (numV (s.extract 0 (colonFrom s 0))).2 = true ∧ 1 ≤ (numV (s.extract 0 (colonFrom s 0))).1 ∧ ((colonFrom s 0 : Nat) : Int) + 1 + (numV (s.extract 0 (colonFrom s 0))).1 ≤ (s.size : Int)
  ·
    generalize hbd : s.extract (colonFrom s 0 + 1) (colonFrom s 0 + 1 + (numV (s.extract 0 (colonFrom s 0))).1.toNat) = b
    have hbs : b.size ≤ 140737488351232 := by rw [← hbd]; exact hx _ _
    have hbx : ∀ i j, (b.extract i j).size ≤ 140737488351232 := fun i j => by rw [ByteArray.size_extract]; omega
    have hbody : (∃ d kd tx, entryV d kd tx = true ∧ Ev (fun k => spec_l27Body.f k b) (d, kd, tx, true)) ∨ Ev (fun k => spec_l27Body.f k b) (0, ⟨#[]⟩, ⟨#[]⟩, false) := by
      by_cases c1 : b.size ≤ blankFrom b (blankFrom b 0 + 1)
      · right
        refine Ev.all fun k => ?_
        unfold spec_l27Body.f
        rw [if_pos hbs, if_pos c1]
      · obtain ⟨J1, j1⟩ := Ev.pick (num_spec (b.extract 0 (blankFrom b 0)) (hbx _ _))
        cases hok : (numV (b.extract 0 (blankFrom b 0))).2 with
        | false =>
          right
          refine Ev.intro J1 fun k hk => ?_
          unfold spec_l27Body.f
          rw [if_pos hbs, if_neg c1, j1 k hk]
          simp only [Option.bind_some]
          rw [hok]
          rfl
        | true =>
          obtain ⟨J2, j2⟩ := Ev.pick (one_spec (numV (b.extract 0 (blankFrom b 0))).1 (b.extract (blankFrom b 0 + 1) (blankFrom b (blankFrom b 0 + 1))) (b.extract (blankFrom b (blankFrom b 0 + 1) + 1) b.size) (hbx _ _))
          cases hv : entryV (numV (b.extract 0 (blankFrom b 0))).1 (b.extract (blankFrom b 0 + 1) (blankFrom b (blankFrom b 0 + 1))) (b.extract (blankFrom b (blankFrom b 0 + 1) + 1) b.size) with
          | false =>
            right
            refine Ev.intro (J1 + J2) fun k hk => ?_
            unfold spec_l27Body.f
            rw [if_pos hbs, if_neg c1, j1 k (by omega)]
            simp only [Option.bind_some]
            rw [hok, if_pos rfl, j2 k (by omega), hv]
            rfl
          | true =>
            left
            refine ⟨_, _, _, hv, Ev.intro (J1 + J2) fun k hk => ?_⟩
            unfold spec_l27Body.f
            rw [if_pos hbs, if_neg c1, j1 k (by omega)]
            simp only [Option.bind_some]
            rw [hok, if_pos rfl, j2 k (by omega), hv]
            rfl
    rcases hbody with ⟨d, kd, tx, hv, hev⟩ | hev
    · by_cases hp : Pre (frV d kd tx) s
      · exact .inl ⟨d, kd, tx, hv, hp⟩
      · right
        obtain ⟨K2, g2⟩ := Ev.pick hev
        obtain ⟨K3, g3⟩ := Ev.pick (frV_spec hv)
        refine Ev.intro (K1 + K2 + K3) fun k hk => ?_
        unfold spec_l27Next.f
        rw [if_pos hs, g1 k (by omega)]
        simp only [Option.bind_some]
        rw [if_pos (by omega), if_pos c, hbd, g2 k (by omega)]
        simp only [Option.bind_some, if_true]
        rw [g3 k (by omega)]
        simp only [Option.bind_some]
        rw [if_neg (fun g => hp ((pre_iff _ _).mp g))]
    · right
      obtain ⟨K2, g2⟩ := Ev.pick hev
      refine Ev.intro (K1 + K2) fun k hk => ?_
      unfold spec_l27Next.f
      rw [if_pos hs, g1 k (by omega)]
      simp only [Option.bind_some]
      rw [if_pos (by omega), if_pos c, hbd, g2 k (by omega)]
      rfl
  · right
    refine Ev.intro K1 fun k hk => ?_
    unfold spec_l27Next.f
    rw [if_pos hs, g1 k hk]
    simp only [Option.bind_some]
    rw [if_pos (by omega), if_neg c]
theorem index_at (D R : List UInt8) (c : UInt8) (h : ∀ b ∈ D, ¬ b = c) : Lib.index (D ++ c :: R) [c] = (D.length : Int) := by
  induction D with
  | nil => simp [Lib.index]
  | cons b D ih =>
    have hb : ¬ b = c := h b List.mem_cons_self
    have ih := ih (fun x hx => h x (List.mem_cons_of_mem _ hx))
    rw [List.cons_append, Lib.index]
    have hp : [c].isPrefixOf (b :: (D ++ c :: R)) = false := by
      simp only [List.isPrefixOf, Bool.and_true]
      exact beq_eq_false_iff_ne.mpr fun e => hb e.symm
    rw [hp, ih]
    have h1 : (((D.length : Int)) == -1) = false := by
      apply beq_eq_false_iff_ne.mpr
      omega
    rw [h1]
    simp
theorem cut_hit (D R : List UInt8) (c : UInt8) (h : ∀ b ∈ D, ¬ b = c) : Lib.cut (D ++ c :: R) [c] = (D, R, true) := by
  unfold Lib.cut
  rw [index_at D R c h, if_pos (by omega)]
  rw [Int.toNat_natCast, List.take_left]
  rw [show D ++ c :: R = (D ++ [c]) ++ R by simp, show D.length + [c].length = (D ++ [c]).length by simp, List.drop_left]
theorem cut_len (l : List UInt8) (c : List UInt8) : (Lib.cut l c).1.length ≤ l.length ∧ (Lib.cut l c).2.1.length ≤ l.length := by
  unfold Lib.cut
  split
  · exact ⟨by simp only [List.length_take]; omega, by simp only [List.length_drop]; omega⟩
  · simp
theorem mk_size (l : List UInt8) : (⟨l.toArray⟩ : ByteArray).size = l.length := by show l.toArray.size = _; rw [List.size_toArray]
theorem mk_list (l : List UInt8) : (⟨l.toArray⟩ : ByteArray).data.toList = l := rfl
theorem splitK_three (D K T : List UInt8) (c : UInt8) (hD : ∀ b ∈ D, ¬ b = c) (hK : ∀ b ∈ K, ¬ b = c) : Lib.splitK [c] 0 2 (D ++ c :: (K ++ c :: T)) = [D, K, T] := by
  have step : ∀ (k : Nat) (A B : List UInt8), (∀ b ∈ A, ¬ b = c) → Lib.splitK [c] 0 (k + 1) (A ++ c :: B) = A :: Lib.splitK [c] 0 k B := by
    intro k A B hA
    rw [Lib.splitK, index_at A B c hA]
    have h1 : (((A.length : Int)) == -1) = false := by
      apply beq_eq_false_iff_ne.mpr
      omega
    rw [h1]
    simp only [Bool.false_eq_true, if_false, Int.toNat_natCast, Nat.add_zero, List.take_left]
    rw [show A ++ c :: B = (A ++ [c]) ++ B by simp, show A.length + [c].length = (A ++ [c]).length by simp, List.drop_left]
  rw [step 1 D _ hD, step 0 K T hK]
  rfl
theorem splitB_size (sep : ByteArray) : ∀ (k : Nat) (s : ByteArray), ∀ x ∈ Lib.splitB sep 0 k s, x.size ≤ s.size
  | 0, s, x, hx => by
    rw [Lib.splitB_zero, List.mem_singleton] at hx
    rw [hx]; exact Nat.le_refl _
  | k + 1, s, x, hx => by
    unfold Lib.splitB at hx
    split at hx
    · rw [List.mem_singleton] at hx
      rw [hx]; exact Nat.le_refl _
    · rcases List.mem_cons.1 hx with rfl | hx
      · rw [ByteArray.size_extract]; omega
      · have := splitB_size sep k _ x hx
        rw [ByteArray.size_extract] at this
        omega
theorem has_yes {s r : ByteArray} (h : Pre r s) : strings_HasPrefix.f s r = some true := by
  have hs := pre_size h
  have hb := ((pre_iff r s).mpr h).2
  unfold strings_HasPrefix.f stringslite_HasPrefix.f
  rw [if_pos (by omega), if_pos (by omega), if_pos (by omega), Int.toNat_natCast, hb]
  rfl
theorem has_no {s r : ByteArray} (h : ¬ Pre r s) : strings_HasPrefix.f s r = some false := by
  unfold strings_HasPrefix.f stringslite_HasPrefix.f
  by_cases c : r.size ≤ s.size
  · rw [if_pos (by omega), if_pos (by omega), if_pos (by omega), Int.toNat_natCast]
    have hb : ((s.extract 0 r.size).toList == r.toList) = false := Bool.eq_false_iff.mpr fun g => h ((pre_iff r s).mp ⟨c, g⟩)
    rw [hb]
    rfl
  · rw [if_neg (by omega)]
    rfl
theorem fr_pos {f0 : Int} {f1 f2 : ByteArray} : 0 < (frV f0 f1 f2).size := by
  obtain ⟨e, he⟩ := frame_list f0 f1 f2
  rw [size_list, he, List.length_append, List.length_cons]
  omega
theorem fr_some {f0 : Int} {f1 f2 : ByteArray} : ¬ (frV f0 f1 f2).toList = ([] : List UInt8) := by
  intro g
  have := fr_pos (f0 := f0) (f1 := f1) (f2 := f2)
  rw [← size_toList, g] at this
  simp at this
def noFrame : Int × ByteArray × ByteArray × Int := (0, ⟨#[]⟩, ⟨#[]⟩, 0)
theorem read_hit {f0 : Int} {f1 f2 s : ByteArray} (hv : entryV f0 f1 f2 = true) (hp : Pre (frV f0 f1 f2) s) (hs : s.size ≤ 1048576) : Ev (fun k => impl_readFrame.f k s) (f0, f1, f2, ((frV f0 f1 f2).size : Int)) := by
  obtain ⟨a0, a1, a2⟩ := entry_bd hv
  have s1 := dec_size f0 (by omega) (by omega)
  have hz := body_size f0 f1 f2
  obtain ⟨R, hR, hRt⟩ := frame_cut hp
  have hRl : (bodyV f0 f1 f2).size ≤ R.length := by
    have := congrArg List.length hRt
    rw [List.length_take, ← size_list] at this
    omega
  have hcut : strings_Cut.f s (⟨#[58]⟩ : ByteArray) = some (dec ((bodyV f0 f1 f2).size : Int), (⟨R.toArray⟩ : ByteArray), true) := by
    unfold strings_Cut.f
    rw [if_pos (by omega), hR]
    rw [show (⟨#[58]⟩ : ByteArray).data.toList = [58] from rfl, cut_hit _ _ _ (fun b hb => digit_ne hb (.inr (by decide)))]
    first | done | (congr 1; done) | (congr 1; exact Prod.ext (bytes_ext (by rw [dec_list])) rfl)
  have hbd : (⟨R.toArray⟩ : ByteArray).extract 0 (bodyV f0 f1 f2).size = bodyV f0 f1 f2 := bytes_ext (by rw [ext_list, List.drop_zero, Nat.sub_zero]; exact hRt)
  obtain ⟨d, rfl⟩ : ∃ d : Nat, f0 = (d : Int) := ⟨f0.toNat, by omega⟩
  have hname : isNameB f1 = true := by unfold entryV at hv; simp only [Bool.and_eq_true] at hv; exact hv.2.1
  have hspl : strings_SplitN.f (bodyV (d : Int) f1 f2) (⟨#[32]⟩ : ByteArray) 3 = some [dec (d : Int), f1, f2] := by
    unfold strings_SplitN.f
    rw [if_pos ⟨by omega, by decide, by omega, by omega⟩]
    congr 1
    have hm : min (3 : Int).toNat ((bodyV (d : Int) f1 f2).size + 1) - 1 = 2 := by
      rw [show (3 : Int).toNat = 3 from rfl]
      have h1 : 1 ≤ (dec (d : Int)).size := by rw [size_list, dec_list, Lib.decDigits_length]; exact Lib.nDigits_pos d
      omega
    rw [hm]
    have hd := Lib.splitB_data (⟨#[32]⟩ : ByteArray) 0 2 (bodyV (d : Int) f1 f2)
    rw [body_list, show (⟨#[32]⟩ : ByteArray).data.toList = [32] from rfl, splitK_three _ _ _ _ (fun b hb => digit_ne hb (.inl (by decide))) (name_bytes hname)] at hd
    generalize Lib.splitB (⟨#[32]⟩ : ByteArray) 0 2 (bodyV (d : Int) f1 f2) = ws at hd
    have hl : ws.length = 3 := by
      have := congrArg List.length hd
      simpa using this
    match ws, hl, hd with
    | [x, y, z], _, hd =>
      simp only [List.map_cons, List.map_nil, List.cons.injEq, and_true] at hd
      rw [bytes_ext (hd.1.trans (dec_list d).symm), bytes_ext hd.2.1, bytes_ext hd.2.2]
  have hns := dec_size ((bodyV (d : Int) f1 f2).size : Int) (by omega) (by omega)
  obtain ⟨K1, g1⟩ := Ev.pick (num_impl (dec ((bodyV (d : Int) f1 f2).size : Int)) (by omega))
  obtain ⟨K2, g2⟩ := Ev.pick (num_impl (dec (d : Int)) (by omega))
  obtain ⟨K3, g3⟩ := Ev.pick (frV_impl hv)
  refine Ev.intro (K1 + K2 + K3 + 1) fun k hk => ?_
  obtain ⟨m, rfl⟩ : ∃ m, k = m + 1 := ⟨k - 1, by omega⟩
  unfold impl_readFrame.f
  rw [hcut]
  simp only [Option.bind_some]
  rw [g1 _ (by omega), numV_dec _ (by omega)]
  simp only [Option.bind_some, if_true]
  rw [within_eq, mk_size R, decide_eq_true (by omega)]
  simp only [Option.bind_some, Bool.not_true, impl_readFrame.j0, Bool.false_eq_true, if_false]
  rw [if_pos (by omega), if_pos (by rw [mk_size R]; omega), Int.toNat_natCast, hbd, hspl]
  simp only [Option.bind_some, List.length_cons, List.length_nil]
  have r0 : rdOf ByteArray.empty [dec (d : Int), f1, f2] 0 = dec (d : Int) := rfl
  have r1 : rdOf ByteArray.empty [dec (d : Int), f1, f2] 1 = f1 := rfl
  have r2 : rdOf ByteArray.empty [dec (d : Int), f1, f2] 2 = f2 := rfl
  rw [if_pos (by omega), if_pos (by omega), r0, r1, r2, g2 _ (by omega), numV_dec d (by omega)]
  simp only [Option.bind_some]
  rw [if_pos (by omega), if_pos (by omega), g3 _ (by omega)]
  simp only [Option.bind_some, if_true]
  rw [if_neg fr_some, has_yes hp]
  simp only [Option.bind_some, if_true]
theorem read_any (s : ByteArray) (hs : s.size ≤ 1048576) : (∃ f0 f1 f2, entryV f0 f1 f2 = true ∧ Pre (frV f0 f1 f2) s) ∨ Ev (fun k => impl_readFrame.f k s) noFrame := by
  obtain ⟨a, b, ok, hcut, ha, hb⟩ : ∃ a b ok, strings_Cut.f s (⟨#[58]⟩ : ByteArray) = some (a, b, ok) ∧ a.size ≤ 1048576 ∧ b.size ≤ 1048576 := by
    have hl := cut_len s.data.toList (⟨#[58]⟩ : ByteArray).data.toList
    rw [← size_list] at hl
    refine ⟨_, _, _, by unfold strings_Cut.f; rw [if_pos (by omega)], by rw [mk_size]; omega, by rw [mk_size]; omega⟩
  obtain ⟨K1, g1⟩ := Ev.pick (num_impl a (by omega))
  have stop : (¬ (ok = true ∧ (numV a).2 = true ∧ 0 ≤ (numV a).1 ∧ (numV a).1 ≤ (b.size : Int))) → Ev (fun k => impl_readFrame.f k s) noFrame := by
    intro hn
    refine Ev.intro (K1 + 1) fun k hk => ?_
    obtain ⟨m, rfl⟩ : ∃ m, k = m + 1 := ⟨k - 1, by omega⟩
    unfold impl_readFrame.f
    rw [hcut]
    simp only [Option.bind_some]
    rw [g1 _ (by omega)]
    simp only [Option.bind_some]
    cases ok with
    | false => simp only [Bool.false_eq_true, if_false, impl_readFrame.j0, if_true]; rfl
    | true =>
      simp only [if_true]
      cases hf : (numV a).2 with
      | false => simp only [Bool.false_eq_true, if_false, impl_readFrame.j0, if_true]; rfl
      | true =>
        simp only [if_true]
        rw [within_eq, decide_eq_false (fun g => hn ⟨rfl, hf, g.1, g.2⟩)]
        simp only [Option.bind_some, Bool.not_false, impl_readFrame.j0, if_true]
        rfl
  by_cases c : ok = true ∧ (numV a).2 = true ∧ 0 ≤ (numV a).1 ∧ (numV a).1 ≤ (b.size : Int)
  · obtain ⟨c1, c2, c3, c4⟩ := c
    subst c1
    generalize ht : b.extract 0 (numV a).1.toNat = t
    have hts : t.size ≤ 1048576 := by rw [← ht, ByteArray.size_extract]; omega
    have hspl : strings_SplitN.f t (⟨#[32]⟩ : ByteArray) 3 = some (Lib.splitB (⟨#[32]⟩ : ByteArray) 0 (min (3 : Int).toNat (t.size + 1) - 1) t) := by
      unfold strings_SplitN.f
      rw [if_pos ⟨by omega, by decide, by omega, by omega⟩]
    have hsz := splitB_size (⟨#[32]⟩ : ByteArray) (min (3 : Int).toNat (t.size + 1) - 1) t
    generalize Lib.splitB (⟨#[32]⟩ : ByteArray) 0 (min (3 : Int).toNat (t.size + 1) - 1) t = ws at hspl hsz
    have head : ∀ m, K1 ≤ m + 1 → impl_readFrame.f (m + 1) s = impl_readFrame.j0 (m + 1) s b (numV a).1 false := by
      intro m hm
      unfold impl_readFrame.f
      rw [hcut]
      simp only [Option.bind_some]
      rw [g1 _ hm]
      simp only [Option.bind_some, if_true]
      rw [c2, if_pos rfl, within_eq, decide_eq_true ⟨c3, c4⟩]
      rfl
    by_cases hlen : ws.length = 3
    · match ws, hlen, hspl, hsz with
      | [x, y, z], _, hspl, hsz =>
        have hx := hsz x (by simp)
        have hz := hsz z (by simp)
        have r0 : rdOf ByteArray.empty [x, y, z] 0 = x := rfl
        have r1 : rdOf ByteArray.empty [x, y, z] 1 = y := rfl
        have r2 : rdOf ByteArray.empty [x, y, z] 2 = z := rfl
        obtain ⟨K2, g2⟩ := Ev.pick (num_impl x (by omega))
        cases hv : entryV (numV x).1 y z with
        | false =>
          right
          obtain ⟨K3, g3⟩ := Ev.pick (frV_none hv (by omega))
          refine Ev.intro (K1 + K2 + K3 + 1) fun k hk => ?_
          obtain ⟨m, rfl⟩ : ∃ m, k = m + 1 := ⟨k - 1, by omega⟩
          rw [head m (by omega)]
          simp only [impl_readFrame.j0, Bool.false_eq_true, if_false]
          rw [if_pos c3, if_pos c4, ht, hspl]
          simp only [Option.bind_some, List.length_cons, List.length_nil]
          rw [if_pos (by omega), if_pos (by omega), r0, r1, r2, g2 _ (by omega)]
          simp only [Option.bind_some]
          rw [if_pos (by omega), if_pos (by omega), g3 _ (by omega)]
          simp only [Option.bind_some]
          split
          · rw [if_pos (List.eq_nil_of_length_eq_zero (by rw [size_toList]; rfl))]
            rfl
          · rfl
        | true =>
          by_cases hok : (numV x).2 = true
          · by_cases hp : Pre (frV (numV x).1 y z) s
            · exact .inl ⟨_, _, _, hv, hp⟩
            · right
              obtain ⟨K3, g3⟩ := Ev.pick (frV_impl hv)
              refine Ev.intro (K1 + K2 + K3 + 1) fun k hk => ?_
              obtain ⟨m, rfl⟩ : ∃ m, k = m + 1 := ⟨k - 1, by omega⟩
              rw [head m (by omega)]
              simp only [impl_readFrame.j0, Bool.false_eq_true, if_false]
              rw [if_pos c3, if_pos c4, ht, hspl]
              simp only [Option.bind_some, List.length_cons, List.length_nil]
              rw [if_pos (by omega), if_pos (by omega), r0, r1, r2, g2 _ (by omega)]
              simp only [Option.bind_some]
              rw [if_pos (by omega), if_pos (by omega), g3 _ (by omega)]
              simp only [Option.bind_some]
              rw [if_pos hok, if_neg fr_some, has_no hp]
              simp only [Option.bind_some, Bool.false_eq_true, if_false]
              rfl
          · right
            obtain ⟨K3, g3⟩ := Ev.pick (frV_impl hv)
            refine Ev.intro (K1 + K2 + K3 + 1) fun k hk => ?_
            obtain ⟨m, rfl⟩ : ∃ m, k = m + 1 := ⟨k - 1, by omega⟩
            rw [head m (by omega)]
            simp only [impl_readFrame.j0, Bool.false_eq_true, if_false]
            rw [if_pos c3, if_pos c4, ht, hspl]
            simp only [Option.bind_some, List.length_cons, List.length_nil]
            rw [if_pos (by omega), if_pos (by omega), r0, r1, r2, g2 _ (by omega)]
            simp only [Option.bind_some]
            rw [if_pos (by omega), if_pos (by omega), g3 _ (by omega)]
            simp only [Option.bind_some]
            rw [if_neg hok]
            rfl
    · right
      refine Ev.intro (K1 + 1) fun k hk => ?_
      obtain ⟨m, rfl⟩ : ∃ m, k = m + 1 := ⟨k - 1, by omega⟩
      rw [head m (by omega)]
      simp only [impl_readFrame.j0, Bool.false_eq_true, if_false]
      rw [if_pos c3, if_pos c4, ht, hspl]
      simp only [Option.bind_some]
      rw [if_neg (by omega)]
      rfl
  · exact .inr (stop c)
theorem rdI (xs : List IT) (i : Nat) (h : i < xs.length) : rd_T26 xs (i : Int) = xs[i] := by
  unfold rd_T26; rw [Int.toNat_natCast, List.getD_eq_getElem?_getD, List.getElem?_eq_getElem h]; rfl
def fr (x : IT) : List UInt8 := (frV x.f0 x.f1 x.f2).data.toList
def okE (x : IT) : Prop := entryV x.f0 x.f1 x.f2 = true
def flat : List IT → List UInt8
  | [] => []
  | x :: l => fr x ++ flat l
def Head (r : List UInt8) : Prop := ∃ x : IT, okE x ∧ ∃ e, r = fr x ++ e
theorem fr_len (x : IT) : 0 < (fr x).length := by unfold fr; rw [← size_list]; exact fr_pos
theorem flat_app (a b : List IT) : flat (a ++ b) = flat a ++ flat b := by
  induction a with
  | nil => rfl
  | cons x a ih => simp only [List.cons_append, flat, ih, List.append_assoc]
theorem flat_len (l : List IT) : l.length ≤ (flat l).length := by
  induction l with
  | nil => exact Nat.le_refl _
  | cons x l ih => have := fr_len x; simp only [flat, List.length_cons, List.length_append]; omega
theorem no_head : ¬ Head [] := by
  rintro ⟨x, _, e, h⟩
  have := fr_len x
  have h2 := congrArg List.length h
  rw [List.length_append, List.length_nil] at h2
  omega
theorem fr_det {x y : IT} {a b : List UInt8} (hx : okE x) (hy : okE y) (h : fr x ++ a = fr y ++ b) (hs : (fr x ++ a).length ≤ 1048576) : x = y := by
  have e := mk_size (fr x ++ a)
  have h1 := next_hit (s := ⟨(fr x ++ a).toArray⟩) hx ⟨a, mk_list _⟩ (by omega)
  have h2 := next_hit (s := ⟨(fr x ++ a).toArray⟩) hy ⟨b, (mk_list _).trans h⟩ (by omega)
  have := Ev.one h1 h2
  obtain ⟨x0, x1, x2⟩ := x
  obtain ⟨y0, y1, y2⟩ := y
  simp only [Prod.mk.injEq] at this
  obtain ⟨rfl, rfl, rfl, _⟩ := this
  rfl
structure Rd (s : List UInt8) (l : List IT) (n : Nat) : Prop where
  ok : ∀ x ∈ l, okE x
  eq : ∃ r, s = flat l ++ r ∧ ¬ Head r
  len : n = (flat l).length
theorem Rd.le {s : List UInt8} {l : List IT} {n : Nat} (h : Rd s l n) : n ≤ s.length := by
  obtain ⟨_, ⟨r, e, _⟩, hn⟩ := h
  rw [hn, e, List.length_append]
  omega
theorem rd_uniq : ∀ (l l' : List IT) (r r' : List UInt8), (∀ x ∈ l, okE x) → (∀ x ∈ l', okE x) → flat l ++ r = flat l' ++ r' → ¬ Head r → ¬ Head r' → (flat l ++ r).length ≤ 1048576 → l = l'
  | [], [], _, _, _, _, _, _, _, _ => rfl
  | [], y :: l', r, r', _, hy, e, hr, _, _ => absurd ⟨y, hy y (List.mem_cons_self ..), flat l' ++ r', by simpa only [flat, List.nil_append, List.append_assoc] using e⟩ hr
  | x :: l, [], r, r', hx, _, e, _, hr', _ => absurd ⟨x, hx x (List.mem_cons_self ..), flat l ++ r, by simpa only [flat, List.nil_append, List.append_assoc] using e.symm⟩ hr'
  | x :: l, y :: l', r, r', hx, hy, e, hr, hr', hs => by
    simp only [flat, List.append_assoc] at e hs
    have hxy := fr_det (hx x (List.mem_cons_self ..)) (hy y (List.mem_cons_self ..)) e hs
    subst hxy
    have e2 := List.append_cancel_left e
    rw [List.length_append] at hs
    rw [rd_uniq l l' r r' (fun z hz => hx z (List.mem_cons_of_mem _ hz)) (fun z hz => hy z (List.mem_cons_of_mem _ hz)) e2 hr hr' (by omega)]
theorem Rd.uniq {s : List UInt8} {l l' : List IT} {n n' : Nat} (h : Rd s l n) (h' : Rd s l' n') (hs : s.length ≤ 1048576) : l = l' ∧ n = n' := by
  obtain ⟨o, ⟨r, e, hr⟩, hn⟩ := h
  obtain ⟨o', ⟨r', e', hr'⟩, hn'⟩ := h'
  have := rd_uniq l l' r r' o o' (e.symm.trans e') hr hr' (by rw [← e]; exact hs)
  subst this
  exact ⟨rfl, hn.trans hn'.symm⟩
theorem rd_flat {l : List IT} (h : ∀ x ∈ l, okE x) : Rd (flat l) l (flat l).length := ⟨h, ⟨[], (List.append_nil _).symm, no_head⟩, rfl⟩
theorem rd_whole {s : List UInt8} {l : List IT} {n : Nat} (h : Rd s l n) (hn : n = s.length) : s = flat l := by
  obtain ⟨_, ⟨r, e, _⟩, hl⟩ := h
  have : r = [] := List.eq_nil_of_length_eq_zero (by have := congrArg List.length e; rw [List.length_append] at this; omega)
  rw [e, this, List.append_nil]
theorem rd_front {s : List UInt8} {l : List IT} {n : Nat} (h : Rd s l n) : s.take n = flat l := by
  obtain ⟨_, ⟨r, e, _⟩, hl⟩ := h
  rw [e, hl, List.take_left]
theorem ok_app {a b : List IT} (ha : ∀ x ∈ a, okE x) (hb : ∀ x ∈ b, okE x) : ∀ x ∈ a ++ b, okE x := fun x hx => (List.mem_append.1 hx).elim (ha x) (hb x)
theorem drop_list (s : ByteArray) (i : Nat) : (s.extract i s.size).data.toList = s.data.toList.drop i := by
  rw [ext_list, List.take_of_length_le (by rw [List.length_drop, ← size_list]; omega)]
theorem rd_loop (s : ByteArray) (hs : s.size ≤ 1048576) : ∀ (d at_ : Nat) (acc : List IT), at_ + d = s.size → acc.length ≤ at_ →
    ∃ (l : List IT) (n : Nat), Rd (s.data.toList.drop at_) l n ∧ Ev (fun k => spec_l27Read.l0 k s acc (at_ : Int)) (acc ++ l, ((at_ + n : Nat) : Int)) ∧ Ev (fun k => impl_ReadFrames.l0 k s acc (at_ : Int)) (acc ++ l, ((at_ + n : Nat) : Int)) := by
  intro d
  induction d using Nat.strongRecOn with
  | _ d ih =>
    intro at_ acc hat hacc
    have hsz : (s.extract at_ s.size).size = d := by rw [ByteArray.size_extract]; omega
    have hdl := drop_list s at_
    by_cases c : ∃ f0 f1 f2, entryV f0 f1 f2 = true ∧ Pre (frV f0 f1 f2) (s.extract at_ s.size)
    · obtain ⟨f0, f1, f2, hv, hp⟩ := c
      have h1 := next_hit hv hp (by omega)
      have h2 := read_hit hv hp (by omega)
      have hn0 : 0 < (frV f0 f1 f2).size := fr_pos
      have hn1 := pre_size hp
      obtain ⟨e, he⟩ := hp
      have hfl := size_list (frV f0 f1 f2)
      have hok : okE ⟨f0, f1, f2⟩ := hv
      have hfr : fr ⟨f0, f1, f2⟩ = (frV f0 f1 f2).data.toList := rfl
      rw [← hfr] at he hfl
      generalize hnn : (frV f0 f1 f2).size = n at h1 h2 hn0 hn1 hfl
      obtain ⟨l, m, hR, i1, i2⟩ := ih (d - n) (by omega) (at_ + n) (acc ++ [⟨f0, f1, f2⟩]) (by omega) (by rw [List.length_append, List.length_cons, List.length_nil]; omega)
      have hdd : s.data.toList.drop (at_ + n) = e := by
        rw [← List.drop_drop, ← hdl, he, hfl, List.drop_left]
      rw [hdd] at hR
      obtain ⟨o, ⟨r, er, hr⟩, hm⟩ := hR
      have ea : acc ++ [(⟨f0, f1, f2⟩ : IT)] ++ l = acc ++ ⟨f0, f1, f2⟩ :: l := by rw [List.append_assoc]; rfl
      rw [ea, Nat.add_assoc] at i1 i2
      refine ⟨⟨f0, f1, f2⟩ :: l, n + m, ⟨?_, ⟨r, ?_, hr⟩, ?_⟩, ?_, ?_⟩
      · intro z hz
        rcases List.mem_cons.1 hz with rfl | hz
        · exact hok
        · exact o z hz
      · rw [← hdl, he, er, flat, List.append_assoc]
      · rw [flat, List.length_append, hm, hfl]
      · obtain ⟨K1, g1⟩ := Ev.pick h1
        obtain ⟨K2, g2⟩ := Ev.pick i1
        refine Ev.intro (K1 + K2 + 1) fun k hk => ?_
        obtain ⟨q, rfl⟩ : ∃ q, k = q + 1 := ⟨k - 1, by omega⟩
        simp only [spec_l27Read.l0]
        rw [if_pos (by omega), if_pos (by omega), Int.toNat_natCast, g1 q (by omega)]
        simp only [Option.bind_some, if_true]
        rw [if_pos (by omega), w64 (by omega) (by omega)]
        exact g2 q (by omega)
      · obtain ⟨K1, g1⟩ := Ev.pick h2
        obtain ⟨K2, g2⟩ := Ev.pick i2
        refine Ev.intro (K1 + K2 + 1) fun k hk => ?_
        obtain ⟨q, rfl⟩ : ∃ q, k = q + 1 := ⟨k - 1, by omega⟩
        simp only [impl_ReadFrames.l0]
        rw [if_pos (by omega), if_pos (by omega), Int.toNat_natCast, g1 q (by omega)]
        simp only [Option.bind_some]
        rw [if_neg (by omega), if_pos (by omega), w64 (by omega) (by omega)]
        exact g2 q (by omega)
    · have h1 := (next_any (s.extract at_ s.size) (by omega)).resolve_left c
      have h2 := (read_any (s.extract at_ s.size) (by omega)).resolve_left c
      refine ⟨[], 0, ⟨by intro x hx; simp at hx, ⟨s.data.toList.drop at_, rfl, ?_⟩, rfl⟩, ?_, ?_⟩
      · rintro ⟨x, hx, e, he⟩
        exact c ⟨x.f0, x.f1, x.f2, hx, e, by rw [hdl]; exact he⟩
      · obtain ⟨K1, g1⟩ := Ev.pick h1
        refine Ev.intro (K1 + 1) fun k hk => ?_
        obtain ⟨q, rfl⟩ : ∃ q, k = q + 1 := ⟨k - 1, by omega⟩
        simp only [spec_l27Read.l0]
        rw [if_pos (by omega), if_pos (by omega), Int.toNat_natCast, g1 q (by omega), List.append_nil]
        rfl
      · obtain ⟨K1, g1⟩ := Ev.pick h2
        refine Ev.intro (K1 + 1) fun k hk => ?_
        obtain ⟨q, rfl⟩ : ∃ q, k = q + 1 := ⟨k - 1, by omega⟩
        simp only [impl_ReadFrames.l0]
        rw [if_pos (by omega), if_pos (by omega), Int.toNat_natCast, g1 q (by omega), List.append_nil]
        rfl
theorem rd_both (s : ByteArray) (hs : s.size ≤ 1048576) : ∃ (l : List IT) (n : Nat), Rd s.data.toList l n ∧ n ≤ s.size ∧ l.length ≤ s.size ∧ Ev (fun k => spec_l27Read.f k s) (l, (n : Int)) ∧ Ev (fun k => impl_ReadFrames.f k s) (l, (n : Int)) := by
  obtain ⟨l, n, h, h1, h2⟩ := rd_loop s hs s.size 0 [] (by omega) (by simp)
  rw [List.drop_zero] at h
  rw [List.nil_append, Nat.zero_add] at h1 h2
  have a := h.le
  have b := flat_len l
  rw [← h.len] at b
  rw [← size_list] at a
  exact ⟨l, n, h, a, by omega, h1, h2⟩
def Ok (a b : ByteArray) : Prop := (∃ lb : List IT, (∀ x ∈ lb, okE x) ∧ b.data.toList = flat lb) ∧ a.size + b.size ≤ 4000
theorem log_ok (a b : ByteArray) (ha : a.size ≤ 1048576) (hb : b.size ≤ 1048576) : ∃ ok : Bool, (ok = true ↔ Ok a b) ∧ Ev (fun k => spec_l27Ok.f k a b) (ok, a, b) ∧ Ev (fun k => impl_validLog.f k a b) ok := by
  obtain ⟨l, n, hR, hn, _, h1, h2⟩ := rd_both b hb
  obtain ⟨K1, g1⟩ := Ev.pick h1
  obtain ⟨K2, g2⟩ := Ev.pick h2
  by_cases c : (n : Int) = (b.size : Int)
  · refine ⟨decide ((a.size : Int) + (b.size : Int) ≤ 4000), ⟨fun h => ⟨⟨l, hR.ok, rd_whole hR (by rw [← size_list]; omega)⟩, by have := of_decide_eq_true h; omega⟩, fun h => decide_eq_true (by have := h.2; omega)⟩, Ev.intro K1 fun k hk => ?_, Ev.intro K2 fun k hk => ?_⟩
    · unfold spec_l27Ok.f
      rw [g1 k hk, Option.bind_some, if_pos c, w64 (by omega) (by omega)]
    · unfold impl_validLog.f
      rw [g2 k hk, Option.bind_some, if_pos c, w64 (by omega) (by omega)]
  · refine ⟨false, ⟨fun h => (by cases h), fun h => ?_⟩, Ev.intro K1 fun k hk => ?_, Ev.intro K2 fun k hk => ?_⟩
    · obtain ⟨⟨lb, o, e⟩, _⟩ := h
      have h3 : Rd b.data.toList lb (flat lb).length := by rw [e]; exact rd_flat o
      have h4 := (hR.uniq h3 (by rw [← size_list]; exact hb)).2
      rw [← e, ← size_list] at h4
      omega
    · unfold spec_l27Ok.f
      rw [g1 k hk, Option.bind_some, if_neg c]
    · unfold impl_validLog.f
      rw [g2 k hk, Option.bind_some, if_neg c]
theorem entries2 (a b : ByteArray) (ha : a.size ≤ 1048576) (hb : b.size ≤ 1048576) : ∃ (l : List IT) (c : Int), l.length ≤ 2000000 ∧ Ev (fun k => spec_EntriesOf.f k a b) (l, c) ∧ Ev (fun k => impl_EntriesOf.f k a b) (l, c) ∧
    (∀ la : List IT, (∀ x ∈ la, okE x) → a.data.toList = flat la → Ok a b → c = 0) ∧ (c = 0 → ∃ la lb : List IT, (∀ x ∈ la, okE x) ∧ (∀ x ∈ lb, okE x) ∧ a.data.toList = flat la ∧ b.data.toList = flat lb ∧ a.size + b.size ≤ 4000 ∧ l = la ++ lb) := by
  obtain ⟨ok, hok, h1, h2⟩ := log_ok a b ha hb
  obtain ⟨K1, g1⟩ := Ev.pick h1
  obtain ⟨K2, g2⟩ := Ev.pick h2
  obtain ⟨la, na, Ra, hna, hla, ra1, ra2⟩ := rd_both a ha
  obtain ⟨lb, nb, Rb, hnb, hlb, rb1, rb2⟩ := rd_both b hb
  obtain ⟨K3, g3⟩ := Ev.pick ra1
  obtain ⟨K4, g4⟩ := Ev.pick ra2
  obtain ⟨K5, g5⟩ := Ev.pick rb1
  obtain ⟨K6, g6⟩ := Ev.pick rb2
  cases ok with
  | true =>
    have hz := hok.1 rfl
    have hz2 := hz.2
    by_cases c : na = a.size
    · refine ⟨la ++ lb, 0, by rw [List.length_append]; omega, Ev.intro (K1 + K3 + K5) fun k hk => ?_, Ev.intro (K2 + K4 + K6) fun k hk => ?_, fun _ _ _ _ => rfl, fun _ => ⟨la, lb, Ra.ok, Rb.ok, rd_whole Ra (by rw [← size_list]; exact c), ?_, hz2, rfl⟩⟩
      · unfold spec_EntriesOf.f spec_l27All.f
        rw [g1 k (by omega)]
        simp only [Option.bind_some, if_true]
        rw [g3 k (by omega)]
        simp only [Option.bind_some]
        rw [if_neg (by omega), g5 k (by omega)]
        simp only [Option.bind_some]
        rw [if_pos (by omega)]
        rfl
      · unfold impl_EntriesOf.f impl_isWhole.f impl_entriesOf.f
        rw [g2 k (by omega)]
        simp only [Option.bind_some, if_true]
        rw [g4 k (by omega), g6 k (by omega)]
        simp only [Option.bind_some]
        rw [if_pos (by rw [beq_iff_eq]; omega), if_pos (by omega)]
        simp only [Option.bind_some]
      · obtain ⟨⟨lb', o, e⟩, _⟩ := hz
        have h3 : Rd b.data.toList lb' (flat lb').length := by rw [e]; exact rd_flat o
        rw [(Rb.uniq h3 (by rw [← size_list]; exact hb)).1]
        exact e
    · refine ⟨[], 6, by simp, Ev.intro (K1 + K3) fun k hk => ?_, Ev.intro (K2 + K4) fun k hk => ?_, fun l o e _ => ?_, fun h => by cases h⟩
      · unfold spec_EntriesOf.f spec_l27All.f
        rw [g1 k (by omega)]
        simp only [Option.bind_some, if_true]
        rw [g3 k (by omega)]
        simp only [Option.bind_some]
        rw [if_pos (by omega)]
        rfl
      · unfold impl_EntriesOf.f impl_isWhole.f
        rw [g2 k (by omega)]
        simp only [Option.bind_some, if_true]
        rw [g4 k (by omega)]
        simp only [Option.bind_some]
        rw [if_neg (by rw [beq_iff_eq]; omega)]
      · have h3 : Rd a.data.toList l (flat l).length := by rw [e]; exact rd_flat o
        have h4 := (Ra.uniq h3 (by rw [← size_list]; exact ha)).2
        rw [← e, ← size_list] at h4
        exact absurd h4 c
  | false =>
    refine ⟨[], 1, by simp, Ev.intro K1 fun k hk => ?_, Ev.intro K2 fun k hk => ?_, fun l o e h => ?_, fun h => by cases h⟩
    · unfold spec_EntriesOf.f spec_l27All.f
      rw [g1 k hk]
      simp only [Option.bind_some, Bool.false_eq_true, if_false]
    · unfold impl_EntriesOf.f
      rw [g2 k hk]
      simp only [Option.bind_some, Bool.false_eq_true, if_false]
    · exact absurd (hok.2 h) (by simp)
theorem and255 (x : Int) : 0 ≤ Go.bits .and .u64 x 255 ∧ Go.bits .and .u64 x 255 ≤ 255 := by
  unfold Go.bits
  have h : (BitVec.ofInt 64 x &&& BitVec.ofInt 64 255).toNat ≤ 255 := by
    rw [BitVec.toNat_and]
    exact Nat.and_le_right
  have e : IntKind.u64.wrap (((BitVec.ofInt 64 x &&& BitVec.ofInt 64 255).toNat : Nat) : Int) = (((BitVec.ofInt 64 x &&& BitVec.ofInt 64 255).toNat : Nat) : Int) := by
    simp only [IntKind.wrap, IntKind.bits, IntKind.signed, Bool.false_and, Bool.false_eq_true, if_false]
    omega
  show 0 ≤ IntKind.u64.wrap (((BitVec.ofInt 64 x &&& BitVec.ofInt 64 255).toNat : Nat) : Int) ∧ IntKind.u64.wrap (((BitVec.ofInt 64 x &&& BitVec.ofInt 64 255).toNat : Nat) : Int) ≤ 255
  rw [e]
  omega
def Bytes (l : List Int) : Prop := ∀ x ∈ l, 0 ≤ x ∧ x ≤ 255
theorem bytes_wf {l : List Int} (h : ∀ x ∈ l, (Lit.int .u8 x).wf = true) : Bytes l := by
  intro x hx
  have := h x hx
  simp only [Lit.wf, IntKind.min, IntKind.max, IntKind.signed, IntKind.bits, Bool.and_eq_true, decide_eq_true_eq, Bool.false_eq_true, if_false] at this
  omega
theorem bytes_rd {l : List Int} (h : Bytes l) {i : Int} (h0 : 0 ≤ i) (h1 : i < l.length) : 0 ≤ rd l i ∧ rd l i ≤ 255 := by
  obtain ⟨n, rfl⟩ := Int.eq_ofNat_of_zero_le h0
  rw [rd_nat l n (by omega)]
  exact h _ (List.getElem_mem _)
theorem next_ok {l : List Int} (h : Bytes l) (hl : l.length ≤ 5000) (p s : Int) (h0 : 0 ≤ p) (h1 : p ≤ 1000000) : ∃ v s', spec_l00Src_next.f l p s = some (v, p + 1, s') ∧ 0 ≤ v ∧ v ≤ 255 := by
  unfold spec_l00Src_next.f
  rw [w64 (x := p + 1) (by omega) (by omega)]
  by_cases c : p < (l.length : Int)
  · have hb := bytes_rd h h0 c
    rw [if_pos c, if_pos h0, if_pos (by omega)]
    exact ⟨_, _, rfl, by rw [w64 (by omega) (by omega)]; exact hb⟩
  · rw [if_neg c, if_neg (by omega)]
    refine ⟨_, _, rfl, ?_⟩
    have := and255 (IntKind.u64.wrap (IntKind.u64.wrap (IntKind.u64.wrap (s * 6364136223846793005) + 0) + 1442695040888963407) / 1099511627776)
    rw [w64 (by omega) (by omega)]
    exact this
theorem tmod_range {a n : Int} (h0 : 0 ≤ a) (hn : 1 ≤ n) : 0 ≤ Int.tmod a n ∧ Int.tmod a n < n := by
  rw [tmod_nn h0]
  exact ⟨Int.emod_nonneg _ (by omega), Int.emod_lt_of_pos _ (by omega)⟩
theorem pick_ok {l : List Int} (h : Bytes l) (hl : l.length ≤ 5000) (p s n : Int) (h0 : 0 ≤ p) (h1 : p ≤ 999999) (hn : 1 ≤ n) : ∃ r p' s', spec_l00Src_pick.f l p s n = some (r, p', s') ∧ (0 ≤ r ∧ r < n) ∧ p ≤ p' ∧ p' ≤ p + 2 := by
  unfold spec_l00Src_pick.f
  by_cases c : n ≤ 1
  · rw [if_pos c]
    exact ⟨_, _, _, rfl, by omega, by omega, by omega⟩
  · obtain ⟨v, s1, e1, v0, v1⟩ := next_ok h hl p s h0 (by omega)
    rw [if_neg c, e1]
    simp only [Option.bind_some]
    by_cases c2 : n > 200
    · obtain ⟨u, s2, e2, u0, u1⟩ := next_ok h hl (p + 1) s1 (by omega) (by omega)
      rw [if_pos c2, e2]
      simp only [Option.bind_some]
      rw [if_neg (by omega), w64 (x := v * 256) (by omega) (by omega), w64 (x := v * 256 + u) (by omega) (by omega)]
      exact ⟨_, _, _, rfl, tmod_range (by omega) hn, by omega, by omega⟩
    · rw [if_neg c2, if_neg (by omega)]
      exact ⟨_, _, _, rfl, tmod_range v0 hn, by omega, by omega⟩
def kinds27 : List ByteArray := [(⟨#[115, 112, 108, 105, 99, 101]⟩ : ByteArray), (⟨#[115, 97, 105, 108]⟩ : ByteArray), (⟨#[111, 114, 100, 101, 114]⟩ : ByteArray), (⟨#[119, 101, 97, 114]⟩ : ByteArray)]
def texts27 : List ByteArray := [(⟨#[]⟩ : ByteArray), (⟨#[109, 97, 105, 110]⟩ : ByteArray), (⟨#[116, 119, 111, 32, 32, 99, 111, 105, 108, 115]⟩ : ByteArray), (⟨#[32, 35, 49, 58, 50]⟩ : ByteArray), (⟨#[104, 101, 109, 112, 58, 32, 51, 48, 32, 109]⟩ : ByteArray), (⟨#[49, 50, 51, 52, 53, 54, 55, 56, 57, 48, 49, 50, 51, 52, 53, 54, 55, 56, 57, 48, 49, 50, 51, 52, 53, 54, 55, 56, 57, 48, 49, 50, 51, 52, 53, 54, 55, 56, 57, 48, 49, 50, 51, 52, 53, 54, 55, 56, 57, 48, 49, 50, 51, 52, 53, 54, 55, 56, 57, 48]⟩ : ByteArray)]
theorem kinds_size : ∀ x ∈ kinds27, x.size ≤ 12 := by decide
theorem texts_size : ∀ x ∈ texts27, x.size ≤ 60 := by decide
theorem text_ok {b : List Int} (hb : Bytes b) (hl : b.length ≤ 5000) (p s : Int) (h0 : 0 ≤ p) (h1 : p ≤ 999999) (ts : List ByteArray) (hn : 1 ≤ ts.length) : ∃ x p' s', spec_l00Src_text.f b p s ts = some (x, p', s') ∧ x ∈ ts ∧ p ≤ p' ∧ p' ≤ p + 2 := by
  obtain ⟨r, p1, s1, e, hr, hp⟩ := pick_ok hb hl p s ts.length h0 h1 (by omega)
  unfold spec_l00Src_text.f
  rw [e]
  simp only [Option.bind_some]
  rw [if_pos hr.1, if_pos hr.2]
  refine ⟨_, _, _, rfl, ?_, hp.1, hp.2⟩
  obtain ⟨n, rfl⟩ := Int.eq_ofNat_of_zero_le hr.1
  unfold rdOf
  rw [Int.toNat_natCast, List.getD_eq_getElem?_getD, List.getElem?_eq_getElem (by omega)]
  exact List.getElem_mem _
theorem new_ev {c : List Int} (hc : Bytes c) (hl : c.length ≤ 5000) (p s : Int) (h0 : 0 ≤ p) (h1 : p ≤ 900000) : ∃ d kd tx p' s', spec_l27New.f c p s = some (d, kd, tx, p', s') ∧ (0 ≤ d ∧ d < 100) ∧ kd.size ≤ 12 ∧ tx.size ≤ 60 ∧ p ≤ p' ∧ p' ≤ p + 6 := by
  obtain ⟨r, p1, s1, e1, hr, hp1⟩ := pick_ok hc hl p s 100 h0 (by omega) (by omega)
  obtain ⟨kd, p2, s2, e2, hk, hp2⟩ := text_ok hc hl p1 s1 (by omega) (by omega) kinds27 (by decide)
  obtain ⟨tx, p3, s3, e3, ht, hp3⟩ := text_ok hc hl p2 s2 (by omega) (by omega) texts27 (by decide)
  refine ⟨r, kd, tx, p3, s3, ?_, hr, kinds_size _ hk, texts_size _ ht, by omega, by omega⟩
  unfold kinds27 at e2
  unfold texts27 at e3
  unfold spec_l27New.f
  rw [e1]
  simp only [Option.bind_some]
  rw [e2]
  simp only [Option.bind_some]
  rw [e3]
  rfl
theorem frame_any (f0 : Int) (f1 f2 : ByteArray) (h0 : 0 ≤ f0 ∧ f0 ≤ 20000) (h1 : f1.size ≤ 12) (h2 : f2.size ≤ 60) : ∃ t, Ev (fun k => spec_l27Frame.g k f0 f1 f2) t ∧ t.size ≤ 200 := by
  obtain ⟨v, hv, hg, _⟩ := frame_both f0 f1 f2 h0 h1 h2
  have hz : (frameBody (dec f0) f1 f2).size = (dec f0).size + 1 + f1.size + 1 + f2.size := by unfold frameBody; simp only [ByteArray.size_append]; rfl
  have s1 := dec_size f0 (by omega) (by omega)
  have s2 := dec_size ((frameBody (dec f0) f1 f2).size : Int) (by omega) (by omega)
  have s3 := dec_size v (by omega) (by omega)
  have hy : (frameText (dec (frameBody (dec f0) f1 f2).size) (frameBody (dec f0) f1 f2) (dec v)).size = (dec ((frameBody (dec f0) f1 f2).size : Int)).size + 1 + (frameBody (dec f0) f1 f2).size + 1 + (dec v).size + 1 := by unfold frameText; simp only [ByteArray.size_append]; rfl
  exact ⟨_, hg, by omega⟩
theorem frames_ev {c : List Int} (hc : Bytes c) (hl : c.length ≤ 5000) : ∀ (n : Nat) (p s : Int) (out : ByteArray), 0 ≤ p → p + 6 * n ≤ 900000 → out.size + 200 * n ≤ 1000000 →
    ∃ r p' s', Ev (fun k => spec_l27Frames.run k c n p s out) (r, p', s') ∧ p ≤ p' ∧ p' ≤ p + 6 * n ∧ r.size ≤ out.size + 200 * n := by
  intro n
  induction n with
  | zero => exact fun p s out _ _ _ => ⟨out, p, s, Ev.all fun _ => rfl, by omega, by omega, by omega⟩
  | succ n ih =>
    intro p s out h0 h1 h2
    obtain ⟨d, kd, tx, p1, s1, e1, hd, hk, ht, hp, hp'⟩ := new_ev hc hl p s h0 (by omega)
    obtain ⟨t, hg, hz⟩ := frame_any d kd tx (by omega) hk ht
    · obtain ⟨r, p2, s2, hr, q1, q2, q3⟩ := ih p1 s1 (out ++ t) (by omega) (by omega) (by rw [ByteArray.size_append]; omega)
      rw [ByteArray.size_append] at q3
      obtain ⟨K1, g1⟩ := Ev.pick hg
      obtain ⟨K2, g2⟩ := Ev.pick hr
      refine ⟨r, p2, s2, Ev.intro (K1 + K2) fun k hk => ?_, by omega, by omega, by omega⟩
      unfold spec_l27Frames.run
      rw [e1]
      simp only [Option.bind_some]
      rw [g1 k (by omega)]
      simp only [Option.bind_some]
      rw [if_pos (by omega)]
      exact g2 k (by omega)
theorem grow_ev {c : List Int} (n p s : Int) (b : ByteArray) (hn : n ≤ 10000) : ∀ (d : Nat) (a : ByteArray), n ≤ a.size + d → a.size ≤ 10000 → ∃ a', Ev (fun k => spec_l27Draw.l0 k n c p s a b) (a', b, p, s) ∧ a'.size ≤ 10000 := by
  intro d
  induction d with
  | zero =>
    intro a h1 h2
    refine ⟨a, Ev.const fun k => ?_, h2⟩
    simp only [spec_l27Draw.l0]
    rw [if_neg (by omega)]
  | succ d ih =>
    intro a h1 h2
    by_cases c1 : (a.size : Int) < n
    · obtain ⟨a', h, hz⟩ := ih (a ++ (⟨#[120]⟩ : ByteArray)) (by rw [ByteArray.size_append, show (⟨#[120]⟩ : ByteArray).size = 1 from rfl]; omega) (by rw [ByteArray.size_append, show (⟨#[120]⟩ : ByteArray).size = 1 from rfl]; omega)
      obtain ⟨K, g⟩ := Ev.pick h
      refine ⟨a', Ev.intro (K + 1) fun k hk => ?_, hz⟩
      obtain ⟨q, rfl⟩ : ∃ q, k = q + 1 := ⟨k - 1, by omega⟩
      simp only [spec_l27Draw.l0]
      rw [if_pos c1, if_pos (by omega)]
      exact g q (by omega)
    · refine ⟨a, Ev.const fun k => ?_, h2⟩
      simp only [spec_l27Draw.l0]
      rw [if_neg c1]
theorem j0_log {c : List Int} (hc : Bytes c) (hl : c.length ≤ 5000) (i : Int) (f : Bool) (p s : Int) (a b : ByteArray) (h0 : 0 ≤ p) (h1 : p ≤ 900000) (ha : a.size ≤ 5000) (hb : b.size ≤ 5000) : ∃ a' b' p' s', Ev (fun k => spec_l27Draw.j0 k i f c p s a b) (a', b', p', s') ∧ a'.size ≤ 10000 ∧ b'.size ≤ 10000 ∧ p ≤ p' ∧ p' ≤ p + 2 := by
  cases f with
  | true =>
    obtain ⟨r, p1, s1, e1, hr, hp⟩ := pick_ok hc hl p s 2 h0 (by omega) (by omega)
    have hz : (a ++ (⟨#[57, 58, 53, 32, 115, 97, 105, 108]⟩ : ByteArray)).size ≤ 10000 := by rw [ByteArray.size_append, show (⟨#[57, 58, 53, 32, 115, 97, 105, 108]⟩ : ByteArray).size = 8 from rfl]; omega
    cases h : (r == 0) with
    | true =>
      refine ⟨_, ⟨#[]⟩, p1, s1, Ev.const fun k => ?_, hz, by decide, hp.1, hp.2⟩
      simp only [spec_l27Draw.j0, if_true]
      rw [if_pos (by omega)]
      unfold spec_l00Src_one.f
      rw [e1]
      simp only [Option.bind_some, h, if_true]
    | false =>
      refine ⟨_, b, p1, s1, Ev.const fun k => ?_, hz, by omega, hp.1, hp.2⟩
      simp only [spec_l27Draw.j0, if_true]
      rw [if_pos (by omega)]
      unfold spec_l00Src_one.f
      rw [e1]
      simp only [Option.bind_some, h, Bool.false_eq_true, if_false]
  | false =>
    by_cases c2 : i = 2
    · refine ⟨a, b ++ (⟨#[49]⟩ : ByteArray), p, s, Ev.const fun k => ?_, by omega, by rw [ByteArray.size_append, show (⟨#[49]⟩ : ByteArray).size = 1 from rfl]; omega, by omega, by omega⟩
      simp only [spec_l27Draw.j0, Bool.false_eq_true, if_false]
      rw [if_pos c2, if_pos (by omega)]
    · by_cases c3 : i = 3
      · obtain ⟨r, p1, s1, e1, hr, hp⟩ := pick_ok hc hl p s 2 h0 (by omega) (by omega)
        have w1 : wrap64 (4000 - (b.size : Int)) = 4000 - (b.size : Int) := w64 (by omega) (by omega)
        have w2 : wrap64 (4000 - (b.size : Int) + r) = 4000 - (b.size : Int) + r := w64 (by omega) (by omega)
        obtain ⟨a', h, hz⟩ := grow_ev (c := c) (4000 - (b.size : Int) + r) p1 s1 b (by omega) 10000 a (by omega) (by omega)
        obtain ⟨K, g⟩ := Ev.pick h
        refine ⟨a', b, p1, s1, Ev.intro (K + 1) fun k hk => ?_, hz, by omega, hp.1, hp.2⟩
        obtain ⟨q, rfl⟩ : ∃ q, k = q + 1 := ⟨k - 1, by omega⟩
        simp only [spec_l27Draw.j0, Bool.false_eq_true, if_false]
        rw [if_neg c2, if_pos c3, e1]
        simp only [Option.bind_some]
        rw [w1, w2]
        exact g q (by omega)
      · refine ⟨a, b, p, s, Ev.const fun k => ?_, by omega, by omega, by omega, by omega⟩
        simp only [spec_l27Draw.j0, Bool.false_eq_true, if_false]
        rw [if_neg c2, if_neg c3]
theorem draw_ev {c : List Int} (hc : Bytes c) (hl : c.length ≤ 5000) : ∃ a b p s, Ev (fun k => spec_l27Draw.f k c 0 0) (a, b, p, s) ∧ a.size ≤ 10000 ∧ b.size ≤ 10000 ∧ 0 ≤ p ∧ p ≤ 1000 := by
  obtain ⟨r1, p1, s1, e1, hr1, hp1⟩ := pick_ok hc hl 0 0 5 (by omega) (by omega) (by omega)
  obtain ⟨n1, rfl⟩ := Int.eq_ofNat_of_zero_le hr1.1
  obtain ⟨a, p2, s2, hA, hp2, hp2', hza⟩ := frames_ev hc hl n1 p1 s1 (⟨#[]⟩ : ByteArray) (by omega) (by omega) (by rw [show (⟨#[]⟩ : ByteArray).size = 0 from rfl]; omega)
  rw [show (⟨#[]⟩ : ByteArray).size = 0 from rfl] at hza
  obtain ⟨r3, p3, s3, e3, hr3, hp3⟩ := pick_ok hc hl p2 s2 4 (by omega) (by omega) (by omega)
  obtain ⟨n3, rfl⟩ := Int.eq_ofNat_of_zero_le hr3.1
  obtain ⟨b, p4, s4, hB, hp4, hp4', hzb⟩ := frames_ev hc hl n3 p3 s3 (⟨#[]⟩ : ByteArray) (by omega) (by omega) (by rw [show (⟨#[]⟩ : ByteArray).size = 0 from rfl]; omega)
  rw [show (⟨#[]⟩ : ByteArray).size = 0 from rfl] at hzb
  obtain ⟨r5, p5, s5, e5, hr5, hp5⟩ := pick_ok hc hl p4 s4 12 (by omega) (by omega) (by omega)
  obtain ⟨f, hf⟩ : ∃ f : Bool, ∀ k : Nat, (if r5 = 0 then (spec_l27Draw.j0 k r5 (r5 == 0) c p5 s5 a b) else (spec_l27Draw.j0 k r5 (r5 == 1) c p5 s5 a b)) = spec_l27Draw.j0 k r5 f c p5 s5 a b := by
    by_cases c5 : r5 = 0
    · exact ⟨(r5 == 0), fun k => by rw [if_pos c5]⟩
    · exact ⟨(r5 == 1), fun k => by rw [if_neg c5]⟩
  obtain ⟨a', b', p', s', hj, hz1, hz2, q1, q2⟩ := j0_log hc hl r5 f p5 s5 a b (by omega) (by omega) (by omega) (by omega)
  obtain ⟨K1, g1⟩ := Ev.pick hA
  obtain ⟨K2, g2⟩ := Ev.pick hB
  obtain ⟨K3, g3⟩ := Ev.pick hj
  refine ⟨a', b', p', s', Ev.intro (K1 + K2 + K3) fun k hk => ?_, hz1, hz2, by omega, by omega⟩
  unfold spec_l27Draw.f
  rw [e1]
  simp only [Option.bind_some]
  unfold spec_l27Frames.f
  rw [if_pos (by omega), Int.toNat_natCast, g1 k (by omega)]
  simp only [Option.bind_some]
  rw [e3]
  simp only [Option.bind_some]
  rw [if_pos (by omega), Int.toNat_natCast, g2 k (by omega)]
  simp only [Option.bind_some]
  rw [e5]
  simp only [Option.bind_some]
  rw [hf k]
  exact g3 k (by omega)
theorem size_flat {a : ByteArray} {l : List IT} (h : a.data.toList = flat l) : (flat l).length = a.size := by rw [← h, ← size_list]
theorem none_size : (⟨#[]⟩ : ByteArray).size = 0 := rfl
theorem flat_inj {a b : List IT} (ha : ∀ x ∈ a, okE x) (hb : ∀ x ∈ b, okE x) (h : flat a = flat b) (hs : (flat a).length ≤ 1048576) : a = b := by
  have h1 : Rd (flat a) b (flat b).length := by rw [h]; exact rd_flat hb
  exact ((rd_flat ha).uniq h1 hs).1
theorem write2 (a b : ByteArray) (d : Int) (f1 f2 : ByteArray) (ha : a.size ≤ 1048576) (hb : b.size ≤ 1048576) (h2 : f2.size ≤ 140737488351232) : ∃ r : ByteArray × ByteArray × Int, Ev (fun k => spec_WriteEntry.f k a b d f1 f2) r ∧ Ev (fun k => impl_WriteEntry.f k a b d f1 f2) r ∧ (r.2.2 = 0 → Ok a b ∧ entryV d f1 f2 = true ∧ r.1 = a ∧ r.2.1 = b ++ frV d f1 f2 ∧ Ok a (b ++ frV d f1 f2)) := by
  obtain ⟨ok, hok, h1, h3⟩ := log_ok a b ha hb
  obtain ⟨K1, g1⟩ := Ev.pick h1
  obtain ⟨K2, g2⟩ := Ev.pick h3
  cases ok with
  | false =>
    refine ⟨(⟨#[]⟩, ⟨#[]⟩, 1), Ev.intro K1 fun k hk => ?_, Ev.intro K2 fun k hk => ?_, fun h => absurd h (by decide)⟩
    · unfold spec_WriteEntry.f
      rw [g1 k hk]
      simp only [Option.bind_some, Bool.false_eq_true, if_false]
    · unfold impl_WriteEntry.f
      rw [g2 k hk]
      simp only [Option.bind_some, Bool.false_eq_true, if_false]
  | true =>
    obtain ⟨K3, g3⟩ := Ev.pick (one_spec d f1 f2 h2)
    obtain ⟨K4, g4⟩ := Ev.pick (entry_impl d f1 f2 h2)
    cases hv : entryV d f1 f2 with
    | false =>
      rw [hv] at g3 g4
      refine ⟨(⟨#[]⟩, ⟨#[]⟩, 2), Ev.intro (K1 + K3) fun k hk => ?_, Ev.intro (K2 + K4) fun k hk => ?_, fun h => absurd h (by decide)⟩
      · unfold spec_WriteEntry.f
        rw [g1 k (by omega)]
        simp only [Option.bind_some, if_true]
        rw [g3 k (by omega)]
        simp only [Option.bind_some, Bool.false_eq_true, if_false]
      · unfold impl_WriteEntry.f
        rw [g2 k (by omega)]
        simp only [Option.bind_some, if_true]
        rw [g4 k (by omega)]
        simp only [Option.bind_some, Bool.false_eq_true, if_false]
    | true =>
      rw [hv] at g3 g4
      obtain ⟨K5, g5⟩ := Ev.pick (frV_spec hv)
      obtain ⟨K6, g6⟩ := Ev.pick (frV_impl hv)
      have hok1 := hok.1 rfl
      have hsz := hok1.2
      have hf : (frV d f1 f2).size ≤ 1000 := by
        obtain ⟨a0, a1, a2⟩ := entry_bd hv
        have s1 := dec_size d (by omega) (by omega)
        have hz := body_size d f1 f2
        have s2 := dec_size ((bodyV d f1 f2).size : Int) (by omega) (by omega)
        have s3 := dec_size (sumS (bodyV d f1 f2)) (by have := sumS_bd (bodyV d f1 f2); omega) (by have := sumS_bd (bodyV d f1 f2); omega)
        unfold frV frameText
        simp only [ByteArray.size_append]
        have e1 : (⟨#[58]⟩ : ByteArray).size = 1 := rfl
        have e2 : (⟨#[35]⟩ : ByteArray).size = 1 := rfl
        have e3 : (⟨#[10]⟩ : ByteArray).size = 1 := rfl
        omega
      generalize frV d f1 f2 = fr at g5 g6 hf ⊢
      have hbf : (b ++ fr).size ≤ 1048576 := by rw [ByteArray.size_append]; omega
      obtain ⟨ok2, hok2, h7, h8⟩ := log_ok a (b ++ fr) ha hbf
      obtain ⟨K7, g7⟩ := Ev.pick h7
      obtain ⟨K8, g8⟩ := Ev.pick h8
      refine ⟨if ok2 = true then (a, b ++ fr, 0) else (⟨#[]⟩, ⟨#[]⟩, 5), Ev.intro (K1 + K3 + K5 + K7) fun k hk => ?_, Ev.intro (K2 + K4 + K6 + K8) fun k hk => ?_, fun h => ?_⟩
      · unfold spec_WriteEntry.f
        rw [g1 k (by omega)]
        simp only [Option.bind_some, if_true]
        rw [g3 k (by omega)]
        simp only [Option.bind_some, if_true]
        rw [g5 k (by omega)]
        simp only [Option.bind_some]
        rw [if_pos (by omega), g7 k (by omega)]
        simp only [Option.bind_some]
        cases ok2 <;> rfl
      · unfold impl_WriteEntry.f
        rw [g2 k (by omega)]
        simp only [Option.bind_some, if_true]
        rw [g4 k (by omega)]
        simp only [Option.bind_some, if_true]
        rw [g6 k (by omega)]
        simp only [Option.bind_some]
        rw [if_pos (by omega), g8 k (by omega)]
        simp only [Option.bind_some]
        cases ok2 <;> rfl
      · cases ok2 with
        | true => exact ⟨hok1, rfl, rfl, rfl, hok2.1 rfl⟩
        | false => exact absurd h (by simp)
theorem frame_same (f0 : Int) (f1 f2 : ByteArray) (h2 : f2.size ≤ 140737488351232) : ∃ r, Ev (fun k => spec_FrameOf.f k f0 f1 f2) r ∧ Ev (fun k => impl_FrameOf.f k f0 f1 f2) r := by
  obtain ⟨K1, g1⟩ := Ev.pick (one_spec f0 f1 f2 h2)
  cases hv : entryV f0 f1 f2 with
  | false =>
    obtain ⟨K2, g2⟩ := Ev.pick (entry_impl f0 f1 f2 h2)
    refine ⟨(⟨#[]⟩ : ByteArray), Ev.intro K1 fun k hk => ?_, Ev.intro K2 fun k hk => ?_⟩
    · unfold spec_FrameOf.f
      rw [g1 k hk, hv]
      rfl
    · unfold impl_FrameOf.f
      rw [g2 k hk, hv]
      rfl
  | true =>
    obtain ⟨a0, a1, a2⟩ := entry_bd hv
    obtain ⟨v, hv0, hg, hs⟩ := frame_both f0 f1 f2 a0 a1 a2
    refine ⟨_, ?_, frame_impl f0 f1 f2 a0 a1 a2 hv v hv0 hs⟩
    obtain ⟨K2, g2⟩ := Ev.pick hg
    refine Ev.intro (K1 + K2) fun k hk => ?_
    unfold spec_FrameOf.f
    rw [g1 k (by omega), hv]
    simp only [Option.bind_some, if_true]
    exact g2 k (by omega)
theorem read_both (s : ByteArray) (hs : s.size ≤ 1048576) : ∃ (l : List IT) (n : Nat), n ≤ s.size ∧ l.length ≤ s.size ∧ Ev (fun k => spec_l27Read.f k s) (l, (n : Int)) ∧ Ev (fun k => impl_ReadFrames.f k s) (l, (n : Int)) := by
  obtain ⟨l, n, _, h1, h2, h3, h4⟩ := rd_both s hs
  exact ⟨l, n, h1, h2, h3, h4⟩
theorem log_ok0 (a b : ByteArray) (ha : a.size ≤ 1048576) (hb : b.size ≤ 1048576) : ∃ ok : Bool, (ok = true → a.size + b.size ≤ 4000) ∧ Ev (fun k => spec_l27Ok.f k a b) (ok, a, b) ∧ Ev (fun k => impl_validLog.f k a b) ok := by
  obtain ⟨ok, h, h1, h2⟩ := log_ok a b ha hb
  exact ⟨ok, fun e => (h.1 e).2, h1, h2⟩
theorem parts_both (a b : ByteArray) (ha : a.size ≤ 1048576) (hb : b.size ≤ 1048576) : ∃ (ok wh : Bool) (l : List S26), l.length ≤ 2000000 ∧
    Ev (fun k => spec_l27All.f k a b) (if ok = true then (if wh = true then (l, 0, a, b) else ([], 6, a, b)) else ([], 1, a, b)) ∧
    Ev (fun k => impl_validLog.f k a b) ok ∧ Ev (fun k => impl_isWhole.f k a b) wh ∧ (ok = true → Ev (fun k => impl_entriesOf.f k a b) l) := by
  obtain ⟨ok, hok, h1, h2⟩ := log_ok0 a b ha hb
  obtain ⟨K1, g1⟩ := Ev.pick h1
  obtain ⟨la, na, hna, hla, ra1, ra2⟩ := read_both a ha
  obtain ⟨lb, nb, hnb, hlb, rb1, rb2⟩ := read_both b hb
  obtain ⟨K3, g3⟩ := Ev.pick ra1
  obtain ⟨K4, g4⟩ := Ev.pick ra2
  obtain ⟨K5, g5⟩ := Ev.pick rb1
  obtain ⟨K6, g6⟩ := Ev.pick rb2
  have hwh : Ev (fun k => impl_isWhole.f k a b) ((na : Int) == (a.size : Int)) := Ev.intro K4 fun k hk => by
    unfold impl_isWhole.f
    rw [g4 k hk, Option.bind_some]
  by_cases hcut : ok = true
  · have hz := hok hcut
    refine ⟨ok, (na : Int) == (a.size : Int), la ++ lb, by rw [List.length_append]; omega, ?_, h2, hwh, fun _ => Ev.intro (K4 + K6) fun k hk => ?_⟩
    · subst hcut
      simp only [if_true]
      by_cases c : na = a.size
      · rw [if_pos (show ((na : Int) == (a.size : Int)) = true by rw [beq_iff_eq]; omega)]
        refine Ev.intro (K1 + K3 + K5) fun k hk => ?_
        unfold spec_l27All.f
        rw [g1 k (by omega)]
        simp only [Option.bind_some, if_true]
        rw [g3 k (by omega)]
        simp only [Option.bind_some]
        rw [if_neg (by omega), g5 k (by omega)]
        simp only [Option.bind_some]
        rw [if_pos (by omega)]
      · rw [if_neg (show ¬ ((na : Int) == (a.size : Int)) = true by rw [beq_iff_eq]; omega)]
        refine Ev.intro (K1 + K3) fun k hk => ?_
        unfold spec_l27All.f
        rw [g1 k (by omega)]
        simp only [Option.bind_some, if_true]
        rw [g3 k (by omega)]
        simp only [Option.bind_some]
        rw [if_pos (by omega)]
    · unfold impl_entriesOf.f
      rw [g4 k (by omega), g6 k (by omega)]
      simp only [Option.bind_some]
      rw [if_pos (by omega)]
  · refine ⟨ok, (na : Int) == (a.size : Int), [], by simp, ?_, h2, hwh, fun h => absurd h hcut⟩
    rw [if_neg hcut]
    obtain rfl : ok = false := by simpa using hcut
    refine Ev.intro K1 fun k hk => ?_
    unfold spec_l27All.f
    rw [g1 k hk]
    simp only [Option.bind_some, Bool.false_eq_true, if_false]
def inDays (f t : Int) (x : S26) : Bool := decide (f ≤ x.f0 ∧ x.f0 ≤ t)
theorem btw_spec (f t : Int) (l : List S26) (hl : l.length ≤ 2000000) : ∀ (d i : Nat) (out : List S26), i + d = l.length → out.length ≤ i → Ev (fun k => spec_EntriesBetween.l0 k f t l out (i : Int)) (out ++ (l.drop i).filter (inDays f t), 0)
  | 0, i, out, hi, ho => by
    rw [List.drop_of_length_le (by omega), List.filter_nil, List.append_nil]
    refine Ev.const fun k => ?_
    simp only [spec_EntriesBetween.l0]
    rw [if_neg (by omega)]
  | d + 1, i, out, hi, ho => by
    have hil : i < l.length := by omega
    rw [List.drop_eq_getElem_cons hil]
    have hr := rdI l i hil
    cases e : inDays f t l[i] with
    | true =>
      have ih := btw_spec f t l hl d (i + 1) (out ++ [l[i]]) (by omega) (by rw [List.length_append, List.length_singleton]; omega)
      rw [List.filter_cons_of_pos e, show out ++ l[i] :: (l.drop (i + 1)).filter (inDays f t) = out ++ [l[i]] ++ (l.drop (i + 1)).filter (inDays f t) by simp]
      refine Ev.step (fun k => ?_) ih
      have e2 : spec_l00In.f l[i].f0 f t = some true := by rw [in_eq]; exact congrArg some e
      simp only [spec_EntriesBetween.l0]
      rw [if_pos (by omega), if_pos (by omega), hr, e2, Option.bind_some, if_pos rfl, if_pos (by omega), w64 (x := (i : Int) + 1) (by omega) (by omega)]
      rfl
    | false =>
      have ih := btw_spec f t l hl d (i + 1) out (by omega) (by omega)
      rw [List.filter_cons_of_neg (by rw [e]; simp)]
      refine Ev.step (fun k => ?_) ih
      have e2 : spec_l00In.f l[i].f0 f t = some false := by rw [in_eq]; exact congrArg some e
      simp only [spec_EntriesBetween.l0]
      rw [if_pos (by omega), if_pos (by omega), hr, e2, Option.bind_some, if_neg (by simp), w64 (x := (i : Int) + 1) (by omega) (by omega)]
      rfl
theorem btw_impl (f t : Int) (l : List S26) (hl : l.length ≤ 2000000) : ∀ (d i : Nat) (out : List S26), i + d = l.length → out.length ≤ i → Ev (fun k => impl_EntriesBetween.l0 k f t out l (l.length : Int) (i : Int)) (out ++ (l.drop i).filter (inDays f t), 0)
  | 0, i, out, hi, ho => by
    rw [List.drop_of_length_le (by omega), List.filter_nil, List.append_nil]
    refine Ev.const fun k => ?_
    simp only [impl_EntriesBetween.l0]
    rw [if_neg (by omega)]
  | d + 1, i, out, hi, ho => by
    have hil : i < l.length := by omega
    rw [List.drop_eq_getElem_cons hil]
    have hr := rdI l i hil
    cases e : inDays f t l[i] with
    | true =>
      have ih := btw_impl f t l hl d (i + 1) (out ++ [l[i]]) (by omega) (by rw [List.length_append, List.length_singleton]; omega)
      rw [List.filter_cons_of_pos e, show out ++ l[i] :: (l.drop (i + 1)).filter (inDays f t) = out ++ [l[i]] ++ (l.drop (i + 1)).filter (inDays f t) by simp]
      refine Ev.step (fun k => ?_) ih
      have e2 : impl_within.f l[i].f0 f t = some true := by rw [within_eq]; exact congrArg some e
      simp only [impl_EntriesBetween.l0]
      rw [if_pos (by omega), if_pos (by omega), if_pos (by omega), hr, e2, Option.bind_some, if_pos rfl, if_pos (by omega), w64 (x := (i : Int) + 1) (by omega) (by omega)]
      rfl
    | false =>
      have ih := btw_impl f t l hl d (i + 1) out (by omega) (by omega)
      rw [List.filter_cons_of_neg (by rw [e]; simp)]
      refine Ev.step (fun k => ?_) ih
      have e2 : impl_within.f l[i].f0 f t = some false := by rw [within_eq]; exact congrArg some e
      simp only [impl_EntriesBetween.l0]
      rw [if_pos (by omega), if_pos (by omega), if_pos (by omega), hr, e2, Option.bind_some, if_neg (by simp), w64 (x := (i : Int) + 1) (by omega) (by omega)]
      rfl
theorem between2 (a b : ByteArray) (f t : Int) (ha : a.size ≤ 1048576) (hb : b.size ≤ 1048576) : ∃ (l : List S26) (c : Int), l.length ≤ 2000000 ∧ Ev (fun k => spec_EntriesBetween.f k a b f t) (l, c) ∧ Ev (fun k => impl_EntriesBetween.f k a b f t) (l, c) ∧ (∀ x ∈ l, f ≤ x.f0 ∧ x.f0 ≤ t) := by
  obtain ⟨ok, wh, l, hl, hall, hv, hw, he⟩ := parts_both a b ha hb
  obtain ⟨K1, g1⟩ := Ev.pick hall
  obtain ⟨K2, g2⟩ := Ev.pick hv
  obtain ⟨K3, g3⟩ := Ev.pick hw
  cases ok with
  | false =>
    refine ⟨[], 1, by simp, Ev.intro K1 fun k hk => ?_, Ev.intro K2 fun k hk => ?_, fun x hx => absurd hx (by simp)⟩
    · unfold spec_EntriesBetween.f
      rw [g1 k hk]
      simp only [Bool.false_eq_true, if_false, Option.bind_some, if_true]
    · unfold impl_EntriesBetween.f
      rw [g2 k hk]
      simp only [Bool.false_eq_true, if_false, Option.bind_some]
  | true =>
    simp only [if_true] at g1
    by_cases hg : 0 ≤ f ∧ f ≤ t ∧ t ≤ 20000
    · obtain ⟨p1, p2, p3⟩ := hg
      have s1 : spec_l00In.f f 0 20000 = some true := by rw [in_eq]; exact congrArg some (decide_eq_true ⟨by omega, by omega⟩)
      have s2 : spec_l00In.f t f 20000 = some true := by rw [in_eq]; exact congrArg some (decide_eq_true ⟨by omega, by omega⟩)
      cases wh with
      | false =>
        refine ⟨[], 6, by simp, Ev.intro (K1 + 1) fun k hk => ?_, Ev.intro (K2 + K3 + 1) fun k hk => ?_, fun x hx => absurd hx (by simp)⟩
        · obtain ⟨m, rfl⟩ : ∃ m, k = m + 1 := ⟨k - 1, by omega⟩
          unfold spec_EntriesBetween.f
          rw [g1 (m + 1) (by omega)]
          simp only [Bool.false_eq_true, if_false, Option.bind_some]
          rw [if_neg (by omega), s1, Option.bind_some, if_pos rfl, s2, Option.bind_some]
          simp only [spec_EntriesBetween.j0, Bool.not_true, Bool.false_eq_true, if_false]
          rw [if_neg (by omega)]
        · obtain ⟨m, rfl⟩ : ∃ m, k = m + 1 := ⟨k - 1, by omega⟩
          unfold impl_EntriesBetween.f
          rw [g2 (m + 1) (by omega)]
          simp only [Option.bind_some, if_true]
          rw [if_neg (by omega), if_neg (by omega), show decide (t > 20000) = false from decide_eq_false (by omega)]
          simp only [impl_EntriesBetween.j0, Bool.false_eq_true, if_false]
          rw [g3 m (by omega)]
          simp only [Option.bind_some, Bool.false_eq_true, if_false]
      | true =>
        obtain ⟨K6, g6⟩ := Ev.pick (he rfl)
        obtain ⟨K7, g7⟩ := Ev.pick (btw_spec f t l hl l.length 0 [] (by omega) (by simp))
        obtain ⟨K8, g8⟩ := Ev.pick (btw_impl f t l hl l.length 0 [] (by omega) (by simp))
        refine ⟨l.filter (inDays f t), 0, Nat.le_trans (List.length_filter_le _ _) hl, Ev.intro (K1 + K7 + 1) fun k hk => ?_, Ev.intro (K2 + K3 + K6 + K8 + 1) fun k hk => ?_, fun x hx => of_decide_eq_true (List.mem_filter.1 hx).2⟩
        · obtain ⟨m, rfl⟩ : ∃ m, k = m + 1 := ⟨k - 1, by omega⟩
          unfold spec_EntriesBetween.f
          rw [g1 (m + 1) (by omega)]
          simp only [if_true, Option.bind_some]
          rw [if_neg (by omega), s1, Option.bind_some, if_pos rfl, s2, Option.bind_some]
          simp only [spec_EntriesBetween.j0, Bool.not_true, Bool.false_eq_true, if_false, if_true]
          exact g7 m (by omega)
        · obtain ⟨m, rfl⟩ : ∃ m, k = m + 1 := ⟨k - 1, by omega⟩
          unfold impl_EntriesBetween.f
          rw [g2 (m + 1) (by omega)]
          simp only [Option.bind_some, if_true]
          rw [if_neg (by omega), if_neg (by omega), show decide (t > 20000) = false from decide_eq_false (by omega)]
          simp only [impl_EntriesBetween.j0, Bool.false_eq_true, if_false]
          rw [g3 m (by omega)]
          simp only [Option.bind_some, if_true]
          rw [g6 m (by omega), Option.bind_some]
          exact g8 m (by omega)
    · refine ⟨[], 2, by simp, Ev.intro (K1 + 1) fun k hk => ?_, Ev.intro (K2 + 1) fun k hk => ?_, fun x hx => absurd hx (by simp)⟩
      · obtain ⟨m, rfl⟩ : ∃ m, k = m + 1 := ⟨k - 1, by omega⟩
        unfold spec_EntriesBetween.f
        rw [g1 (m + 1) (by omega), Option.bind_some]
        rw [if_neg (by cases wh <;> simp)]
        by_cases c1 : 0 ≤ f ∧ f ≤ 20000
        · rw [show spec_l00In.f f 0 20000 = some true by rw [in_eq]; exact congrArg some (decide_eq_true c1), Option.bind_some, if_pos rfl]
          rw [show spec_l00In.f t f 20000 = some false by rw [in_eq]; exact congrArg some (decide_eq_false (by omega)), Option.bind_some]
          simp only [spec_EntriesBetween.j0, Bool.not_false, if_true]
        · rw [show spec_l00In.f f 0 20000 = some false by rw [in_eq]; exact congrArg some (decide_eq_false c1), Option.bind_some, if_neg (by simp)]
          simp only [spec_EntriesBetween.j0, if_true]
      · obtain ⟨m, rfl⟩ : ∃ m, k = m + 1 := ⟨k - 1, by omega⟩
        unfold impl_EntriesBetween.f
        rw [g2 (m + 1) (by omega)]
        simp only [Option.bind_some, if_true]
        by_cases c1 : f < 0
        · rw [if_pos c1]
          simp only [impl_EntriesBetween.j0, if_true]
        · rw [if_neg c1]
          by_cases c2 : f > t
          · rw [if_pos c2]
            simp only [impl_EntriesBetween.j0, if_true]
          · rw [if_neg c2, show decide (t > 20000) = true from decide_eq_true (by omega)]
            simp only [impl_EntriesBetween.j0, if_true]
def cntK (kd_ : ByteArray) (l : List S26) : Int := (l.countP fun x => decide (x.f1 = kd_) : Nat)
theorem cnt_spec (kd_ : ByteArray) (l : List S26) (hl : l.length ≤ 2000000) : ∀ (d i : Nat) (n : Int), i + d = l.length → 0 ≤ n → n ≤ i → Ev (fun k => spec_CountKinds.l0 k kd_ l n (i : Int)) (n + cntK kd_ (l.drop i), 0)
  | 0, i, n, hi, h0, h1 => by
    rw [List.drop_of_length_le (by omega), show cntK kd_ [] = 0 from rfl, Int.add_zero]
    refine Ev.const fun k => ?_
    simp only [spec_CountKinds.l0]
    rw [if_neg (by omega)]
  | d + 1, i, n, hi, h0, h1 => by
    have hil : i < l.length := by omega
    rw [List.drop_eq_getElem_cons hil]
    have hr := rdI l i hil
    by_cases e : l[i].f1 = kd_
    · have ih := cnt_spec kd_ l hl d (i + 1) (n + 1) (by omega) (by omega) (by omega)
      rw [show n + cntK kd_ (l[i] :: l.drop (i + 1)) = n + 1 + cntK kd_ (l.drop (i + 1)) by unfold cntK; rw [List.countP_cons, if_pos (decide_eq_true e)]; omega]
      refine Ev.step (fun k => ?_) ih
      simp only [spec_CountKinds.l0]
      rw [if_pos (by omega), if_pos (by omega), hr, if_pos (toList_iff.2 e), w64 (x := n + 1) (by omega) (by omega), w64 (x := (i : Int) + 1) (by omega) (by omega)]
      rfl
    · have ih := cnt_spec kd_ l hl d (i + 1) n (by omega) (by omega) (by omega)
      rw [show n + cntK kd_ (l[i] :: l.drop (i + 1)) = n + cntK kd_ (l.drop (i + 1)) by unfold cntK; rw [List.countP_cons, if_neg (by simpa using e)]; omega]
      refine Ev.step (fun k => ?_) ih
      simp only [spec_CountKinds.l0]
      rw [if_pos (by omega), if_pos (by omega), hr, if_neg (fun g => e (toList_iff.1 g)), w64 (x := (i : Int) + 1) (by omega) (by omega)]
      rfl
theorem cnt_impl (kd_ : ByteArray) (l : List S26) (hl : l.length ≤ 2000000) : ∀ (d i : Nat) (n : Int), i + d = l.length → 0 ≤ n → n ≤ i → Ev (fun k => impl_CountKinds.l0 k kd_ n l (l.length : Int) (i : Int)) (n + cntK kd_ (l.drop i), 0)
  | 0, i, n, hi, h0, h1 => by
    rw [List.drop_of_length_le (by omega), show cntK kd_ [] = 0 from rfl, Int.add_zero]
    refine Ev.const fun k => ?_
    simp only [impl_CountKinds.l0]
    rw [if_neg (by omega)]
  | d + 1, i, n, hi, h0, h1 => by
    have hil : i < l.length := by omega
    rw [List.drop_eq_getElem_cons hil]
    have hr := rdI l i hil
    by_cases e : l[i].f1 = kd_
    · have ih := cnt_impl kd_ l hl d (i + 1) (n + 1) (by omega) (by omega) (by omega)
      rw [show n + cntK kd_ (l[i] :: l.drop (i + 1)) = n + 1 + cntK kd_ (l.drop (i + 1)) by unfold cntK; rw [List.countP_cons, if_pos (decide_eq_true e)]; omega]
      refine Ev.step (fun k => ?_) ih
      simp only [impl_CountKinds.l0]
      rw [if_pos (by omega), if_pos (by omega), if_pos (by omega), hr, if_pos (toList_iff.2 e), w64 (x := n + 1) (by omega) (by omega), w64 (x := (i : Int) + 1) (by omega) (by omega)]
      rfl
    · have ih := cnt_impl kd_ l hl d (i + 1) n (by omega) (by omega) (by omega)
      rw [show n + cntK kd_ (l[i] :: l.drop (i + 1)) = n + cntK kd_ (l.drop (i + 1)) by unfold cntK; rw [List.countP_cons, if_neg (by simpa using e)]; omega]
      refine Ev.step (fun k => ?_) ih
      simp only [impl_CountKinds.l0]
      rw [if_pos (by omega), if_pos (by omega), if_pos (by omega), hr, if_neg (fun g => e (toList_iff.1 g)), w64 (x := (i : Int) + 1) (by omega) (by omega)]
      rfl
theorem count_both (a b q : ByteArray) (ha : a.size ≤ 1048576) (hb : b.size ≤ 1048576) : ∃ r : Int × Int, Ev (fun k => spec_CountKinds.f k a b q) r ∧ Ev (fun k => impl_CountKinds.f k a b q) r := by
  obtain ⟨ok, wh, l, hl, hall, hv, hw, he⟩ := parts_both a b ha hb
  obtain ⟨K1, g1⟩ := Ev.pick hall
  obtain ⟨K2, g2⟩ := Ev.pick hv
  obtain ⟨K3, g3⟩ := Ev.pick hw
  obtain ⟨K4, g4⟩ := Ev.pick (name_spec q)
  obtain ⟨K5, g5⟩ := Ev.pick (name_impl q)
  cases ok with
  | false =>
    refine ⟨(0, 1), Ev.intro K1 fun k hk => ?_, Ev.intro K2 fun k hk => ?_⟩
    · unfold spec_CountKinds.f
      rw [g1 k hk]
      simp only [Bool.false_eq_true, if_false, Option.bind_some, if_true]
    · unfold impl_CountKinds.f
      rw [g2 k hk]
      simp only [Bool.false_eq_true, if_false, Option.bind_some]
  | true =>
    cases hq : isNameB q with
    | false =>
      rw [hq] at g4 g5
      refine ⟨(0, 2), Ev.intro (K1 + K4) fun k hk => ?_, Ev.intro (K2 + K5) fun k hk => ?_⟩
      · unfold spec_CountKinds.f
        rw [g1 k (by omega), g4 k (by omega)]
        cases wh <;> simp
      · unfold impl_CountKinds.f
        rw [g2 k (by omega)]
        simp only [Option.bind_some, if_true]
        rw [g5 k (by omega)]
        simp only [Bool.false_eq_true, if_false, Option.bind_some]
    | true =>
      rw [hq] at g4 g5
      cases wh with
      | false =>
        refine ⟨(0, 6), Ev.intro (K1 + K4) fun k hk => ?_, Ev.intro (K2 + K3 + K5) fun k hk => ?_⟩
        · unfold spec_CountKinds.f
          rw [g1 k (by omega), g4 k (by omega)]
          simp
        · unfold impl_CountKinds.f
          rw [g2 k (by omega)]
          simp only [Option.bind_some, if_true]
          rw [g5 k (by omega)]
          simp only [Option.bind_some, if_true]
          rw [g3 k (by omega)]
          simp only [Bool.false_eq_true, if_false, Option.bind_some]
      | true =>
        obtain ⟨K6, g6⟩ := Ev.pick (he rfl)
        obtain ⟨K7, g7⟩ := Ev.pick (cnt_spec q l hl l.length 0 0 (by omega) (by omega) (by omega))
        obtain ⟨K8, g8⟩ := Ev.pick (cnt_impl q l hl l.length 0 0 (by omega) (by omega) (by omega))
        refine ⟨(0 + cntK q (l.drop 0), 0), Ev.intro (K1 + K4 + K7) fun k hk => ?_, Ev.intro (K2 + K3 + K5 + K6 + K8) fun k hk => ?_⟩
        rotate_left
        · unfold impl_CountKinds.f
          rw [g2 k (by omega)]
          simp only [Option.bind_some, if_true]
          rw [g5 k (by omega)]
          simp only [Option.bind_some, if_true]
          rw [g3 k (by omega)]
          simp only [Option.bind_some, if_true]
          rw [g6 k (by omega)]
          simp only [Option.bind_some]
          exact g8 k (by omega)
        · unfold spec_CountKinds.f
          rw [g1 k (by omega), g4 k (by omega)]
          simp only [Option.bind_some, if_true]
          rw [if_neg (by omega)]
          exact g7 k (by omega)
def unlike (x y : IT) : Bool := !(x.f0 == y.f0) || (!(x.f1.toList == y.f1.toList) || (!(x.f2.toList == y.f2.toList)))
def likeB (a b : List IT) : Bool := if (a.length : Int) = (b.length : Int) then (List.range a.length).all (fun i => !unlike (rd_T26 a (i : Int)) (rd_T26 b (i : Int))) else false
theorem like_spec (a b : List IT) (h : a.length ≤ 2000000) : Ev (fun k => spec_SameEntries.f k a b) (likeB a b) := by
  unfold spec_SameEntries.f likeB
  by_cases hl : (a.length : Int) = (b.length : Int)
  · simp only [if_pos hl]
    have := all_lt a.length (fun i => !unlike (rd_T26 a (i : Int)) (rd_T26 b (i : Int))) (fun k i => spec_SameEntries.l0 k a b i) true false (fun i hi hp => ⟨0, fun k _ => ?_⟩) (fun i hi hp => Ev.const fun k => ?_) (fun _ => Ev.const fun k => ?_)
    · rw [ite_bool] at this
      exact this
    · have hp2 : ¬ unlike (rd_T26 a (i : Int)) (rd_T26 b (i : Int)) = true := by simpa using hp
      unfold unlike at hp2
      simp only [spec_SameEntries.l0]
      rw [if_pos (by omega), if_pos (by omega), if_pos (by omega), if_neg hp2, w64 (by omega) (by omega)]
    · have hp2 : unlike (rd_T26 a (i : Int)) (rd_T26 b (i : Int)) = true := by simpa using hp
      unfold unlike at hp2
      simp only [spec_SameEntries.l0]
      rw [if_pos (by omega), if_pos (by omega), if_pos (by omega), if_pos hp2]
    · simp only [spec_SameEntries.l0]
      rw [if_neg (by omega)]
  · simp only [if_neg hl]
    exact Ev.all fun _ => rfl
theorem like_impl (a b : List IT) (h : a.length ≤ 2000000) : Ev (fun k => impl_SameEntries.f k a b) (likeB a b) := by
  refine Ev.congr (f := fun k => impl_Entry.f k a b) (fun k => by unfold impl_SameEntries.f; cases impl_Entry.f k a b <;> rfl) ?_
  unfold impl_Entry.f likeB
  by_cases hl : (a.length : Int) = (b.length : Int)
  · simp only [if_pos hl]
    have := all_lt a.length (fun i => !unlike (rd_T26 a (i : Int)) (rd_T26 b (i : Int))) (fun k i => impl_Entry.l0 k a b a.length i) true false (fun i hi hp => ⟨0, fun k _ => ?_⟩) (fun i hi hp => Ev.const fun k => ?_) (fun _ => Ev.const fun k => ?_)
    · rw [ite_bool] at this
      exact this
    · have hp2 : ¬ unlike (rd_T26 a (i : Int)) (rd_T26 b (i : Int)) = true := by simpa using hp
      unfold unlike at hp2
      simp only [impl_Entry.l0]
      rw [if_pos (by omega), if_pos (by omega), if_pos (by omega), if_pos (by omega), if_neg hp2, w64 (by omega) (by omega)]
    · have hp2 : unlike (rd_T26 a (i : Int)) (rd_T26 b (i : Int)) = true := by simpa using hp
      unfold unlike at hp2
      simp only [impl_Entry.l0]
      rw [if_pos (by omega), if_pos (by omega), if_pos (by omega), if_pos (by omega), if_pos hp2]
    · simp only [impl_Entry.l0]
      rw [if_neg (by omega)]
  · simp only [if_neg hl]
    exact Ev.all fun _ => rfl
def sp1 : List ByteArray := [(⟨#[32]⟩ : ByteArray), (⟨#[48]⟩ : ByteArray), (⟨#[45]⟩ : ByteArray), (⟨#[120]⟩ : ByteArray), (⟨#[49]⟩ : ByteArray), (⟨#[57]⟩ : ByteArray), (⟨#[46]⟩ : ByteArray)]
theorem sp1_size : ∀ x ∈ sp1, x.size ≤ 1 := by decide
def rf1 : List ByteArray := [(⟨#[57, 58, 53, 32, 115, 97, 105, 108, 32, 97, 98, 35, 48, 10]⟩ : ByteArray), (⟨#[48, 58, 35, 55, 10]⟩ : ByteArray), (⟨#[58]⟩ : ByteArray), (⟨#[48, 55, 58, 49, 32, 97, 32, 98, 35, 49, 10]⟩ : ByteArray), (⟨#[120]⟩ : ByteArray), (⟨#[45, 49, 58]⟩ : ByteArray)]
theorem rf1_size : ∀ x ∈ rf1, x.size ≤ 14 := by decide
def ck1 : List ByteArray := [(⟨#[115, 112, 108, 105, 99, 101]⟩ : ByteArray), (⟨#[115, 97, 105, 108]⟩ : ByteArray), (⟨#[111, 114, 100, 101, 114]⟩ : ByteArray), (⟨#[110, 111, 110, 101]⟩ : ByteArray), (⟨#[]⟩ : ByteArray), (⟨#[83, 97, 105, 108]⟩ : ByteArray)]
def se1 : List ByteArray := [(⟨#[]⟩ : ByteArray), (⟨#[120]⟩ : ByteArray)]
theorem se1_size : ∀ x ∈ se1, x.size ≤ 1 := by decide
def wk1 : List ByteArray := [(⟨#[]⟩ : ByteArray), (⟨#[83, 97, 105, 108]⟩ : ByteArray), (⟨#[116, 119, 111, 32, 119, 111, 114, 100, 115]⟩ : ByteArray)]
theorem wk1_size : ∀ x ∈ wk1, x.size ≤ 9 := by decide
def wt1 : List ByteArray := [(⟨#[10]⟩ : ByteArray), (⟨#[127]⟩ : ByteArray), (⟨#[49, 50, 51, 52, 53, 54, 55, 56, 57, 48, 49, 50, 51, 52, 53, 54, 55, 56, 57, 48, 49, 50, 51, 52, 53, 54, 55, 56, 57, 48, 49, 50, 51, 52, 53, 54, 55, 56, 57, 48, 49, 50, 51, 52, 53, 54, 55, 56, 57, 48, 49, 50, 51, 52, 53, 54, 55, 56, 57, 48, 49]⟩ : ByteArray)]
theorem wt1_size : ∀ x ∈ wt1, x.size ≤ 61 := by decide
theorem ext_le (s : ByteArray) (i j : Nat) : (s.extract i j).size ≤ s.size := by rw [ByteArray.size_extract]; omega
theorem spoil_ev {c : List Int} (hc : Bytes c) (hl : c.length ≤ 5000) (p s : Int) (h0 : 0 ≤ p) (h1 : p ≤ 900000) (a : ByteArray) (ha : a.size ≤ 100000) : ∃ t p' s', spec_l01Spoil.f c p s a = some (t, p', s') ∧ t.size ≤ 300000 := by
  obtain ⟨r, p1, s1, e1, hr, hp⟩ := pick_ok hc hl p s 5 h0 (by omega) (by omega)
  unfold spec_l01Spoil.f
  rw [e1, Option.bind_some]
  by_cases c0 : r = 0
  · have w1 : wrap64 ((a.size : Int) + 1) = (a.size : Int) + 1 := w64 (by omega) (by omega)
    obtain ⟨q, p2, s2, e2, hq, hp2⟩ := pick_ok hc hl p1 s1 ((a.size : Int) + 1) (by omega) (by omega) (by omega)
    obtain ⟨x, p3, s3, e3, hx, hp3⟩ := text_ok hc hl p2 s2 (by omega) (by omega) sp1 (by decide)
    have hxs := sp1_size _ hx
    have z1 := ext_le a 0 q.toNat
    have z2 := ext_le a q.toNat a.size
    unfold sp1 at e3
    rw [if_pos c0, w1, e2, Option.bind_some]
    dsimp only
    rw [if_pos hq.1, if_pos (by omega), e3, Option.bind_some]
    dsimp only
    rw [if_pos (by omega), if_pos (by rw [ByteArray.size_append]; omega)]
    exact ⟨_, _, _, rfl, by rw [ByteArray.size_append, ByteArray.size_append]; omega⟩
  · rw [if_neg c0]
    by_cases c1 : r = 1
    · rw [if_pos c1]
      by_cases c2 : a.toList = ([] : List UInt8)
      · rw [if_pos c2]
        exact ⟨_, _, _, rfl, by omega⟩
      · have hz : 0 < a.size := Nat.pos_of_ne_zero fun e => c2 (List.eq_nil_of_length_eq_zero (by rw [ByteArray.toList_eq, ← size_list]; exact e))
        obtain ⟨q, p2, s2, e2, hq, hp2⟩ := pick_ok hc hl p1 s1 (a.size : Int) (by omega) (by omega) (by omega)
        have w1 : wrap64 (q + 1) = q + 1 := w64 (by omega) (by omega)
        have z1 := ext_le a 0 q.toNat
        have z2 := ext_le a (q + 1).toNat a.size
        rw [if_neg c2, e2, Option.bind_some]
        dsimp only
        rw [w1, if_pos hq.1, if_pos (by omega), if_pos (by omega), if_pos (by omega), if_pos (by omega)]
        exact ⟨_, _, _, rfl, by rw [ByteArray.size_append]; omega⟩
    · rw [if_neg c1]
      exact ⟨_, _, _, rfl, by omega⟩
theorem drawr_ev {c : List Int} (hc : Bytes c) (hl : c.length ≤ 5000) : ∃ t, Ev (fun k => spec_DrawReadFrames.f k c) t ∧ t.size ≤ 300000 := by
  obtain ⟨r1, p1, s1, e1, hr1, hp1⟩ := pick_ok hc hl 0 0 5 (by omega) (by omega) (by omega)
  obtain ⟨n1, rfl⟩ := Int.eq_ofNat_of_zero_le hr1.1
  obtain ⟨a, p2, s2, hA, hp2, hp2', hza⟩ := frames_ev hc hl n1 p1 s1 (⟨#[]⟩ : ByteArray) (by omega) (by omega) (by rw [none_size]; omega)
  rw [none_size] at hza
  obtain ⟨r3, p3, s3, e3, hr3, hp3⟩ := pick_ok hc hl p2 s2 5 (by omega) (by omega) (by omega)
  obtain ⟨K, g⟩ := Ev.pick hA
  have head : ∀ k, K ≤ k → ∀ F : Int × Int × Int → ByteArray × Int × Int → Option ByteArray, ((spec_l00Src_pick.f c 0 0 5).bind fun bt => (spec_l27Frames.f k c bt.2.1 bt.2.2 bt.1).bind fun bt2 => (spec_l00Src_pick.f c bt2.2.1 bt2.2.2 5).bind fun bt3 => F bt3 bt2) = F (r3, p3, s3) (a, p2, s2) := fun k hk F => by
    rw [e1, Option.bind_some]
    unfold spec_l27Frames.f
    rw [if_pos (show ((n1 : Int), p1, s1).1 ≤ 1000000 by omega), show ((n1 : Int), p1, s1).1.toNat = n1 from Int.toNat_natCast n1, g k hk, Option.bind_some, e3, Option.bind_some]
  by_cases c0 : r3 = 0
  · by_cases c2 : a.toList = ([] : List UInt8)
    · refine ⟨a, Ev.intro K fun k hk => ?_, by omega⟩
      unfold spec_DrawReadFrames.f spec_l00From.f
      rw [Option.bind_some]
      refine (head k hk _).trans ?_
      rw [if_pos c0, if_pos c2]
    · have hz : 0 < a.size := Nat.pos_of_ne_zero fun e => c2 (List.eq_nil_of_length_eq_zero (by rw [ByteArray.toList_eq, ← size_list]; exact e))
      obtain ⟨q, p4, s4, e4, hq, hp4⟩ := pick_ok hc hl p3 s3 (a.size : Int) (by omega) (by omega) (by omega)
      refine ⟨a.extract 0 q.toNat, Ev.intro K fun k hk => ?_, by have := ext_le a 0 q.toNat; omega⟩
      unfold spec_DrawReadFrames.f spec_l00From.f
      rw [Option.bind_some]
      refine (head k hk _).trans ?_
      rw [if_pos c0, if_neg c2, e4, Option.bind_some, if_pos hq.1, if_pos (show q ≤ (a.size : Int) by omega)]
  · by_cases c1 : r3 = 1
    · obtain ⟨t, p4, s4, e4, ht⟩ := spoil_ev hc hl p3 s3 (by omega) (by omega) a (by omega)
      refine ⟨t, Ev.intro K fun k hk => ?_, ht⟩
      unfold spec_DrawReadFrames.f spec_l00From.f
      rw [Option.bind_some]
      refine (head k hk _).trans ?_
      rw [if_neg c0, if_pos c1, e4]
      rfl
    · by_cases c2 : r3 = 2
      · obtain ⟨x, p4, s4, e4, hx, hp4⟩ := text_ok hc hl p3 s3 (by omega) (by omega) rf1 (by decide)
        have hxs := rf1_size _ hx
        unfold rf1 at e4
        refine ⟨a ++ x, Ev.intro K fun k hk => ?_, by rw [ByteArray.size_append]; omega⟩
        unfold spec_DrawReadFrames.f spec_l00From.f
        rw [Option.bind_some]
        refine (head k hk _).trans ?_
        rw [if_neg c0, if_neg c1, if_pos c2, e4, Option.bind_some]
        dsimp only
        rw [if_pos (by omega)]
      · refine ⟨a, Ev.intro K fun k hk => ?_, by omega⟩
        unfold spec_DrawReadFrames.f spec_l00From.f
        rw [Option.bind_some]
        refine (head k hk _).trans ?_
        rw [if_neg c0, if_neg c1, if_neg c2]
theorem among_ok {b : List Int} (hb : Bytes b) (hl : b.length ≤ 5000) (p s : Int) (h0 : 0 ≤ p) (h1 : p ≤ 999999) (ts : List Int) (hn : 1 ≤ ts.length) : ∃ x p' s', spec_l00Src_among.f b p s ts = some (x, p', s') ∧ p ≤ p' ∧ p' ≤ p + 2 := by
  obtain ⟨r, p1, s1, e, hr, hp⟩ := pick_ok hb hl p s ts.length h0 h1 (by omega)
  unfold spec_l00Src_among.f
  rw [e, Option.bind_some, if_pos hr.1, if_pos hr.2]
  exact ⟨_, _, _, rfl, hp.1, hp.2⟩
theorem one_ok {b : List Int} (hb : Bytes b) (hl : b.length ≤ 5000) (p s n : Int) (h0 : 0 ≤ p) (h1 : p ≤ 999999) (hn : 1 ≤ n) : ∃ (x : Bool) (p' s' : Int), spec_l00Src_one.f b p s n = some (x, p', s') ∧ p ≤ p' ∧ p' ≤ p + 2 := by
  obtain ⟨r, p1, s1, e, hr, hp⟩ := pick_ok hb hl p s n h0 h1 hn
  unfold spec_l00Src_one.f
  rw [e]
  exact ⟨_, _, _, rfl, hp.1, hp.2⟩
theorem btwj_ev {c : List Int} (hc : Bytes c) (hl : c.length ≤ 5000) (f p s : Int) (a b : ByteArray) (h0 : 0 ≤ p) (h1 : p ≤ 900000) : ∃ t, Ev (fun k => spec_DrawEntriesBetween.j0 k f c p s a b) (a, b, f, t) := by
  obtain ⟨x, p1, s1, e1, hp⟩ := one_ok hc hl p s 10 h0 (by omega) (by omega)
  cases x with
  | true =>
    obtain ⟨y, p2, s2, e2, _⟩ := among_ok hc hl p1 s1 (by omega) (by omega) [(-1), f, 20000, 20001] (by simp)
    refine ⟨y, Ev.const fun k => ?_⟩
    simp only [spec_DrawEntriesBetween.j0]
    rw [e1, Option.bind_some, if_pos rfl, e2]
    rfl
  | false =>
    obtain ⟨y, p2, s2, e2, _⟩ := pick_ok hc hl p1 s1 40 (by omega) (by omega) (by omega)
    refine ⟨wrap64 (f + y), Ev.const fun k => ?_⟩
    simp only [spec_DrawEntriesBetween.j0]
    rw [e1, Option.bind_some, if_neg (by simp), e2, Option.bind_some]
theorem drawb_ev {c : List Int} (hc : Bytes c) (hl : c.length ≤ 5000) : ∃ a b f t, Ev (fun k => spec_DrawEntriesBetween.f k c) (a, b, f, t) ∧ a.size ≤ 10000 ∧ b.size ≤ 10000 := by
  obtain ⟨a, b, p, s, h, ha, hb, h0, h1⟩ := draw_ev hc hl
  obtain ⟨K, g⟩ := Ev.pick h
  obtain ⟨r1, p1, s1, e1, _, hp1⟩ := pick_ok hc hl p s 80 (by omega) (by omega) (by omega)
  obtain ⟨x, p2, s2, e2, hp2⟩ := one_ok hc hl p1 s1 10 (by omega) (by omega) (by omega)
  cases x with
  | true =>
    obtain ⟨y, p3, s3, e3, hp3⟩ := among_ok hc hl p2 s2 (by omega) (by omega) [(-1), 0, 20000, 20001] (by simp)
    obtain ⟨t, hj⟩ := btwj_ev hc hl y p3 s3 a b (by omega) (by omega)
    obtain ⟨J, j⟩ := Ev.pick hj
    refine ⟨a, b, y, t, Ev.intro (K + J) fun k hk => ?_, ha, hb⟩
    unfold spec_DrawEntriesBetween.f spec_l00From.f
    rw [Option.bind_some, g k (by omega), Option.bind_some, e1, Option.bind_some, e2, Option.bind_some, if_pos rfl, e3, Option.bind_some]
    exact j k (by omega)
  | false =>
    obtain ⟨t, hj⟩ := btwj_ev hc hl r1 p2 s2 a b (by omega) (by omega)
    obtain ⟨J, j⟩ := Ev.pick hj
    refine ⟨a, b, r1, t, Ev.intro (K + J) fun k hk => ?_, ha, hb⟩
    unfold spec_DrawEntriesBetween.f spec_l00From.f
    rw [Option.bind_some, g k (by omega), Option.bind_some, e1, Option.bind_some, e2, Option.bind_some, if_neg (by simp)]
    exact j k (by omega)
theorem drawk_ev {c : List Int} (hc : Bytes c) (hl : c.length ≤ 5000) : ∃ a b q, Ev (fun k => spec_DrawCountKinds.f k c) (a, b, q) ∧ a.size ≤ 10000 ∧ b.size ≤ 10000 := by
  obtain ⟨a, b, p, s, h, ha, hb, h0, h1⟩ := draw_ev hc hl
  obtain ⟨K, g⟩ := Ev.pick h
  obtain ⟨x, p1, s1, e1, _, _⟩ := text_ok hc hl p s (by omega) (by omega) ck1 (by decide)
  unfold ck1 at e1
  refine ⟨a, b, x, Ev.intro K fun k hk => ?_, ha, hb⟩
  unfold spec_DrawCountKinds.f spec_l00From.f
  rw [Option.bind_some, g k hk, Option.bind_some, e1]
  rfl
theorem drawe_ev {c : List Int} (hc : Bytes c) (hl : c.length ≤ 5000) : ∃ a b, Ev (fun k => spec_DrawEntriesOf.f k c) (a, b) ∧ a.size ≤ 10000 ∧ b.size ≤ 10000 := by
  obtain ⟨a, b, p, s, h, ha, hb, h0, h1⟩ := draw_ev hc hl
  obtain ⟨K, g⟩ := Ev.pick h
  refine ⟨a, b, Ev.intro K fun k hk => ?_, ha, hb⟩
  unfold spec_DrawEntriesOf.f spec_l00From.f
  rw [Option.bind_some, g k hk]
  rfl
theorem word_ev {c : List Int} (hc : Bytes c) (hl : c.length ≤ 5000) : ∀ (n : Nat) (xs : List Int) (p s : Int), 0 ≤ p → p + n ≤ 900000 → xs.length + n ≤ 1000 → ∃ t p' s', Ev (fun k => spec_l00Src_word.l0 k xs (n : Int) c p s) (t, p', s') ∧ t.size ≤ 1000 := by
  intro n
  induction n with
  | zero =>
    intro xs p s h0 h1 h2
    refine ⟨strOfNums xs, p, s, Ev.const fun k => ?_, by rw [strOfNums_size]; omega⟩
    simp only [spec_l00Src_word.l0]
    rw [if_neg (by omega)]
  | succ n ih =>
    intro xs p s h0 h1 h2
    obtain ⟨v, s1, e1, _, _⟩ := next_ok hc hl p s h0 (by omega)
    obtain ⟨t, p', s', h, ht⟩ := ih (xs ++ [v % 256]) (p + 1) s1 (by omega) (by omega) (by rw [List.length_append, List.length_singleton]; omega)
    obtain ⟨K, g⟩ := Ev.pick h
    refine ⟨t, p', s', Ev.intro (K + 1) fun k hk => ?_, ht⟩
    obtain ⟨q, rfl⟩ : ∃ q, k = q + 1 := ⟨k - 1, by omega⟩
    simp only [spec_l00Src_word.l0]
    rw [if_pos (by omega), e1, Option.bind_some, if_pos (by omega), show wrap64 (((n + 1 : Nat) : Int) - 1) = (n : Int) by rw [w64 (by omega) (by omega)]; omega]
    exact g q (by omega)
theorem draws_ev {c : List Int} (hc : Bytes c) (hl : c.length ≤ 5000) : ∃ t, Ev (fun k => spec_DrawSumOf.f k c) t ∧ t.size ≤ 1000 := by
  obtain ⟨r, p1, s1, e1, hr, hp⟩ := pick_ok hc hl 0 0 40 (by omega) (by omega) (by omega)
  obtain ⟨n, rfl⟩ := Int.eq_ofNat_of_zero_le hr.1
  obtain ⟨t, p', s', h, ht⟩ := word_ev hc hl n [] p1 s1 (by omega) (by omega) (by rw [List.length_nil]; omega)
  obtain ⟨K, g⟩ := Ev.pick h
  refine ⟨t, Ev.intro K fun k hk => ?_, ht⟩
  unfold spec_DrawSumOf.f spec_l00From.f spec_l00Src_word.f
  rw [Option.bind_some, e1, Option.bind_some, g k hk]
  rfl
def smallE (l : List IT) : Prop := ∀ x ∈ l, x.f2.size ≤ 1000
theorem sej_ev {c : List Int} (hc : Bytes c) (hl : c.length ≤ 5000) (x y : List IT) (f : Bool) (p s : Int) (h0 : 0 ≤ p) (h1 : p ≤ 900000) (hy : y.length ≤ 1000) (hf : f = true → 0 < y.length) (hs : smallE y) : ∃ z, Ev (fun k => spec_DrawSameEntries.j1 k x y f c p s) (x, z) := by
  cases f with
  | true =>
    have hy0 := hf rfl
    obtain ⟨t, p1, s1, e1, ht, hp1⟩ := text_ok hc hl p s (by omega) (by omega) se1 (by decide)
    have hts := se1_size _ ht
    unfold se1 at e1
    obtain ⟨b, p2, s2, e2, _⟩ := one_ok hc hl p1 s1 5 (by omega) (by omega) (by omega)
    have hr : rd_T26 y 0 = y[0] := rdI y 0 hy0
    have hz := hs _ (List.getElem_mem hy0)
    have hlen : ∀ v : IT, (y.set (0 : Int).toNat v).length = y.length := fun v => List.length_set
    cases b with
    | true =>
      refine ⟨(y.set (0 : Int).toNat (⟨(rd_T26 y 0).f0, (rd_T26 y 0).f1, ((rd_T26 y 0).f2) ++ t⟩ : IT)) ++ [(⟨0, (⟨#[]⟩ : ByteArray), (⟨#[]⟩ : ByteArray)⟩ : IT)], Ev.const fun k => ?_⟩
      · simp only [spec_DrawSameEntries.j1, if_true]
        rw [if_pos (by omega), e1, Option.bind_some]
        dsimp only
        rw [if_pos (by rw [hr]; omega), Option.bind_some, e2, Option.bind_some, if_pos rfl, if_pos (by rw [hlen]; omega)]
    | false =>
      refine ⟨(y.set (0 : Int).toNat (⟨(rd_T26 y 0).f0, (rd_T26 y 0).f1, ((rd_T26 y 0).f2) ++ t⟩ : IT)), Ev.const fun k => ?_⟩
      · simp only [spec_DrawSameEntries.j1, if_true]
        rw [if_pos (by omega), e1, Option.bind_some]
        dsimp only
        rw [if_pos (by rw [hr]; omega), Option.bind_some, e2, Option.bind_some, if_neg (by simp)]
  | false =>
    obtain ⟨b, p2, s2, e2, _⟩ := one_ok hc hl p s 5 (by omega) (by omega) (by omega)
    cases b with
    | true =>
      refine ⟨y ++ [(⟨0, (⟨#[]⟩ : ByteArray), (⟨#[]⟩ : ByteArray)⟩ : IT)], Ev.const fun k => ?_⟩
      · simp only [spec_DrawSameEntries.j1, Bool.false_eq_true, if_false]
        rw [e2, Option.bind_some, if_pos rfl, if_pos (by omega)]
    | false =>
      refine ⟨y, Ev.const fun k => ?_⟩
      · simp only [spec_DrawSameEntries.j1, Bool.false_eq_true, if_false]
        rw [e2, Option.bind_some, if_neg (by simp)]
theorem sel_ev {c : List Int} (hc : Bytes c) (hl : c.length ≤ 5000) : ∀ (n : Nat) (xs : List IT) (p s : Int), 0 ≤ p → p + 6 * n ≤ 800000 → xs.length + n ≤ 100 → smallE xs → ∃ y z, Ev (fun k => spec_DrawSameEntries.l0 k xs (n : Int) c p s) (y, z) ∧ y.length ≤ 1000 := by
  intro n
  induction n with
  | zero =>
    intro xs p s h0 h1 h2 h3
    by_cases c0 : (xs.length : Int) > 0
    · obtain ⟨b, p1, s1, e1, hp1⟩ := one_ok hc hl p s 2 h0 (by omega) (by omega)
      obtain ⟨z, hz⟩ := sej_ev hc hl xs xs b p1 s1 (by omega) (by omega) (by omega) (fun _ => by omega) h3
      obtain ⟨K, g⟩ := Ev.pick hz
      refine ⟨xs, z, Ev.intro (K + 1) fun k hk => ?_, by omega⟩
      obtain ⟨q, rfl⟩ : ∃ q, k = q + 1 := ⟨k - 1, by omega⟩
      simp only [spec_DrawSameEntries.l0]
      rw [if_neg (by omega), Option.bind_some, if_pos (by rw [List.length_nil]; omega), Option.bind_some, List.nil_append, if_pos c0, e1, Option.bind_some]
      exact g q (by omega)
    · obtain ⟨z, hz⟩ := sej_ev hc hl xs xs false p s (by omega) (by omega) (by omega) (fun h => by cases h) h3
      obtain ⟨K, g⟩ := Ev.pick hz
      refine ⟨xs, z, Ev.intro (K + 1) fun k hk => ?_, by omega⟩
      obtain ⟨q, rfl⟩ : ∃ q, k = q + 1 := ⟨k - 1, by omega⟩
      simp only [spec_DrawSameEntries.l0]
      rw [if_neg (by omega), Option.bind_some, if_pos (by rw [List.length_nil]; omega), Option.bind_some, List.nil_append, if_neg c0]
      exact g q (by omega)
  | succ n ih =>
    intro xs p s h0 h1 h2 h3
    obtain ⟨d, kd, tx, p1, s1, e1, hd, hk, ht, hp, hp'⟩ := new_ev hc hl p s h0 (by omega)
    obtain ⟨y, z, h, hy⟩ := ih (xs ++ [(⟨d, kd, tx⟩ : IT)]) p1 s1 (by omega) (by omega) (by rw [List.length_append, List.length_singleton]; omega) (fun x hx => (List.mem_append.1 hx).elim (h3 x) (fun h => by rw [List.mem_singleton.1 h]; show tx.size ≤ 1000; omega))
    obtain ⟨K, g⟩ := Ev.pick h
    refine ⟨y, z, Ev.intro (K + 1) fun k hk => ?_, hy⟩
    obtain ⟨q, rfl⟩ : ∃ q, k = q + 1 := ⟨k - 1, by omega⟩
    simp only [spec_DrawSameEntries.l0]
    rw [if_pos (by omega), e1, Option.bind_some, if_pos (by omega), show wrap64 (((n + 1 : Nat) : Int) - 1) = (n : Int) by rw [w64 (by omega) (by omega)]; omega]
    exact g q (by omega)
theorem drawse_ev {c : List Int} (hc : Bytes c) (hl : c.length ≤ 5000) : ∃ y z, Ev (fun k => spec_DrawSameEntries.f k c) (y, z) ∧ y.length ≤ 1000 := by
  obtain ⟨r, p1, s1, e1, hr, hp⟩ := pick_ok hc hl 0 0 5 (by omega) (by omega) (by omega)
  obtain ⟨n, rfl⟩ := Int.eq_ofNat_of_zero_le hr.1
  obtain ⟨y, z, h, hy⟩ := sel_ev hc hl n [] p1 s1 (by omega) (by omega) (by rw [List.length_nil]; omega) (fun x hx => absurd hx (by simp))
  obtain ⟨K, g⟩ := Ev.pick h
  refine ⟨y, z, Ev.intro K fun k hk => ?_, hy⟩
  unfold spec_DrawSameEntries.f spec_l00From.f
  rw [Option.bind_some, e1, Option.bind_some]
  exact g k hk
theorem spoile_ev {c : List Int} (hc : Bytes c) (hl : c.length ≤ 5000) (p s d : Int) (kd tx : ByteArray) (h0 : 0 ≤ p) (h1 : p ≤ 900000) (hk : kd.size ≤ 12) (ht : tx.size ≤ 60) : ∃ d' kd' tx' p' s', spec_l27Spoil.f c p s d kd tx = some (d', kd', tx', p', s') ∧ kd'.size ≤ 1000 ∧ tx'.size ≤ 1000 := by
  obtain ⟨r, p1, s1, e1, hr, hp⟩ := pick_ok hc hl p s 3 h0 (by omega) (by omega)
  unfold spec_l27Spoil.f
  rw [e1, Option.bind_some]
  by_cases c0 : r = 0
  · obtain ⟨y, p3, s3, e3, hp3⟩ := among_ok hc hl p1 s1 (by omega) (by omega) [(-1), 0, 20000, 20001, (-9223372036854775808)] (by simp)
    rw [if_pos c0, e3, Option.bind_some]
    exact ⟨_, _, _, _, _, rfl, by omega, by omega⟩
  · rw [if_neg c0]
    by_cases c1 : r = 1
    · obtain ⟨y, p3, s3, e3, hy, _⟩ := text_ok hc hl p1 s1 (by omega) (by omega) wk1 (by decide)
      have hys := wk1_size _ hy
      unfold wk1 at e3
      rw [if_pos c1, e3, Option.bind_some]
      dsimp only
      exact ⟨_, _, _, _, _, rfl, by omega, by omega⟩
    · rw [if_neg c1]
      by_cases c2 : r = 2
      · obtain ⟨y, p3, s3, e3, hy, _⟩ := text_ok hc hl p1 s1 (by omega) (by omega) wt1 (by decide)
        have hys := wt1_size _ hy
        unfold wt1 at e3
        rw [if_pos c2, e3, Option.bind_some]
        dsimp only
        rw [if_pos (by omega)]
        exact ⟨_, _, _, _, _, rfl, by omega, by rw [ByteArray.size_append]; omega⟩
      · rw [if_neg c2]
        exact ⟨_, _, _, _, _, rfl, by omega, by omega⟩
theorem draww_ev {c : List Int} (hc : Bytes c) (hl : c.length ≤ 5000) : ∃ a b d kd tx, Ev (fun k => spec_DrawWriteEntry.f k c) (a, b, d, kd, tx) ∧ a.size ≤ 10000 ∧ b.size ≤ 10000 ∧ kd.size ≤ 1000 ∧ tx.size ≤ 1000 := by
  obtain ⟨a, b, p, s, h, ha, hb, h0, h1⟩ := draw_ev hc hl
  obtain ⟨K, g⟩ := Ev.pick h
  obtain ⟨d, kd, tx, p1, s1, e1, hd, hk, ht, hp, hp'⟩ := new_ev hc hl p s h0 (by omega)
  obtain ⟨x, p2, s2, e2, hp2⟩ := one_ok hc hl p1 s1 8 (by omega) (by omega) (by omega)
  cases x with
  | true =>
    obtain ⟨d', kd', tx', p', s', e3, hk', ht'⟩ := spoile_ev hc hl p2 s2 d kd tx (by omega) (by omega) hk ht
    refine ⟨a, b, d', kd', tx', Ev.intro K fun k hkk => ?_, ha, hb, hk', ht'⟩
    unfold spec_DrawWriteEntry.f spec_l00From.f
    rw [Option.bind_some, g k hkk, Option.bind_some, e1, Option.bind_some, e2, Option.bind_some, if_pos rfl, e3]
    rfl
  | false =>
    refine ⟨a, b, d, kd, tx, Ev.intro K fun k hkk => ?_, ha, hb, by omega, by omega⟩
    unfold spec_DrawWriteEntry.f spec_l00From.f
    rw [Option.bind_some, g k hkk, Option.bind_some, e1, Option.bind_some, e2, Option.bind_some, if_neg (by simp)]
theorem entries_code {a b : ByteArray} (ha : a.size ≤ 1048576) (hb : b.size ≤ 1048576) (hok : Ok a b) {l : List IT} {c : Int} (h : Ev (fun k => spec_EntriesOf.f k a b) (l, c)) : c = 0 ∨ c = 6 := by
  obtain ⟨ok, wh, l', _, h1, h2, _, _⟩ := parts_both a b ha hb
  obtain ⟨ok', hok', _, h3⟩ := log_ok a b ha hb
  have e := Ev.one h2 h3
  have e2 := hok'.2 hok
  rw [e, e2] at h1
  obtain ⟨K, g⟩ := Ev.pick h1
  cases wh with
  | true =>
    have h5 : Ev (fun k => spec_EntriesOf.f k a b) (l', 0) := Ev.intro K fun k hk => by
      unfold spec_EntriesOf.f
      rw [g k hk]
      rfl
    exact .inl (congrArg Prod.snd (Ev.one h h5))
  | false =>
    have h5 : Ev (fun k => spec_EntriesOf.f k a b) ([], 6) := Ev.intro K fun k hk => by
      unfold spec_EntriesOf.f
      rw [g k hk]
      rfl
    exact .inr (congrArg Prod.snd (Ev.one h h5))
theorem frame_text (d : Int) (kd tx : ByteArray) (h2 : tx.size ≤ 140737488351232) : ∃ r, Ev (fun k => spec_FrameOf.f k d kd tx) r ∧ Ev (fun k => impl_FrameOf.f k d kd tx) r ∧ ((entryV d kd tx = true ∧ r = frV d kd tx) ∨ r = ⟨#[]⟩) := by
  obtain ⟨r, h1, h3⟩ := frame_same d kd tx h2
  refine ⟨r, h1, h3, ?_⟩
  cases hv : entryV d kd tx with
  | true => exact .inl ⟨rfl, Ev.one h3 (frV_impl hv)⟩
  | false => exact .inr (Ev.one h3 (frV_none hv h2))
theorem fr_size {d : Int} {kd tx : ByteArray} (hv : entryV d kd tx = true) : (frV d kd tx).size ≤ 1000 := by
  obtain ⟨a0, a1, a2⟩ := entry_bd hv
  have s1 := dec_size d (by omega) (by omega)
  have hz := body_size d kd tx
  have s2 := dec_size ((bodyV d kd tx).size : Int) (by omega) (by omega)
  have s3 := dec_size (sumS (bodyV d kd tx)) (by have := sumS_bd (bodyV d kd tx); omega) (by have := sumS_bd (bodyV d kd tx); omega)
  unfold frV frameText
  simp only [ByteArray.size_append]
  have e1 : (⟨#[58]⟩ : ByteArray).size = 1 := rfl
  have e2 : (⟨#[35]⟩ : ByteArray).size = 1 := rfl
  have e3 : (⟨#[10]⟩ : ByteArray).size = 1 := rfl
  omega
def Wrote (c : Int) (a b : ByteArray) (d : Int) (kd tx y0 y1 : ByteArray) : Prop := c = 0 → Ok a b ∧ entryV d kd tx = true ∧ y0 = a ∧ y1 = b ++ frV d kd tx ∧ Ok a (b ++ frV d kd tx)
theorem wrote_entries {a b : ByteArray} {d : Int} {kd tx : ByteArray} (ha : a.size ≤ 10000) (hb : b.size ≤ 10000) (hok : Ok a b) (hv : entryV d kd tx = true) (hok2 : Ok a (b ++ frV d kd tx)) :
    (∃ l : List IT, l.length ≤ 2000000 ∧ Ev (fun k => spec_EntriesOf.f k a b) (l, 0) ∧ Ev (fun k => impl_EntriesOf.f k a (b ++ frV d kd tx)) (l ++ [⟨d, kd, tx⟩], 0)) ∨ (∃ l l' : List IT, Ev (fun k => spec_EntriesOf.f k a b) (l, 6) ∧ Ev (fun k => impl_EntriesOf.f k a (b ++ frV d kd tx)) (l', 6)) := by
  have hfs := fr_size hv
  have hys : (b ++ frV d kd tx).size ≤ 20000 := by rw [ByteArray.size_append]; omega
  have hy : (b ++ frV d kd tx).data.toList = b.data.toList ++ fr ⟨d, kd, tx⟩ := app_list _ _
  clear hfs
  revert hok2 hys hy
  generalize b ++ frV d kd tx = y
  intro hok2 hys hy
  obtain ⟨l, ce, hl, h1, _, hce, hent⟩ := entries2 a b (by omega) (by omega)
  obtain ⟨l', ce', hl', h2', h2, hce', hent'⟩ := entries2 a y (by omega) (by omega)
  by_cases ce0 : ce = 0
  · left
    obtain ⟨la, lb, oa, ob, ea, eb, hsz, hl2⟩ := hent ce0
    have ce1 : ce' = 0 := hce' la oa ea hok2
    obtain ⟨la', lb', oa', ob', ea', eb', hsz', hl2'⟩ := hent' ce1
    have q1 : la' = la := flat_inj oa' oa (ea'.symm.trans ea) (by rw [size_flat ea']; omega)
    have ox : ∀ z ∈ [(⟨d, kd, tx⟩ : IT)], okE z := fun z hz => by rw [List.mem_singleton.1 hz]; exact hv
    have q2 : lb' = lb ++ [⟨d, kd, tx⟩] := flat_inj ob' (ok_app ob ox) (by rw [← eb', hy, eb, flat_app]; show _ = flat lb ++ (fr ⟨d, kd, tx⟩ ++ []); rw [List.append_nil]) (by rw [size_flat eb']; omega)
    subst ce0 ce1
    rw [hl2', q1, q2, ← List.append_assoc, ← hl2] at h2
    exact ⟨l, hl, h1, h2⟩
  · right
    have c6 : ce = 6 := (entries_code (by omega) (by omega) hok h1).resolve_left ce0
    have c6' : ce' = 6 := by
      refine (entries_code (by omega) (by omega) hok2 h2').resolve_left fun e => ce0 ?_
      obtain ⟨la', lb', oa', ob', ea', eb', _, _⟩ := hent' e
      exact hce la' oa' ea' hok
    subst c6 c6'
    exact ⟨l, l', h1, h2⟩
theorem l1_fin {q : Nat} {c f tt : Int} {days : List IT} {a b : ByteArray} {d : Int} {kd tx y0 y1 : ByteArray} {l : List IT} (c0 : c = 0) (hl : l.length ≤ 2000000) (g1 : spec_EntriesOf.f q a b = some (l, 0)) (g2 : impl_EntriesOf.f q y0 y1 = some (l ++ [⟨d, kd, tx⟩], 0)) : laws_FnLogs.l1 (q + 1) c f tt days (days.length : Int) a b d kd tx y0 y1 = some true := by
  have hlen : (l ++ [(⟨d, kd, tx⟩ : IT)]).length = l.length + 1 := by rw [List.length_append]; rfl
  have hrd : rd_T26 (l ++ [(⟨d, kd, tx⟩ : IT)]) (l.length : Int) = ⟨d, kd, tx⟩ := by
    rw [rdI _ l.length (by omega)]
    exact List.getElem_concat_length rfl _
  revert g2 hlen hrd
  generalize l ++ [(⟨d, kd, tx⟩ : IT)] = l'
  intro g2 hlen hrd
  have w1 : wrap64 ((l.length : Int) + 1) = (l'.length : Int) := by rw [w64 (by omega) (by omega)]; omega
  have w2 : wrap64 ((l'.length : Int) - 1) = (l.length : Int) := by rw [w64 (by omega) (by omega)]; omega
  unfold laws_FnLogs.l1
  rw [if_neg (by omega), if_pos c0, g1, Option.bind_some, g2, Option.bind_some]
  dsimp only
  rw [if_pos rfl, if_pos rfl, w1, if_pos rfl, w2, if_pos (by omega), if_pos (by omega), hrd]
  dsimp only
  rw [beq_self_eq_true, beq_self_eq_true, beq_self_eq_true]
  rfl
theorem l1_six {q : Nat} {c f tt : Int} {days : List IT} {a b : ByteArray} {d : Int} {kd tx y0 y1 : ByteArray} {l l' : List IT} (c0 : c = 0) (g1 : spec_EntriesOf.f q a b = some (l, 6)) (g2 : impl_EntriesOf.f q y0 y1 = some (l', 6)) : laws_FnLogs.l1 (q + 1) c f tt days (days.length : Int) a b d kd tx y0 y1 = some true := by
  unfold laws_FnLogs.l1
  rw [if_neg (by omega), if_pos c0, g1, Option.bind_some, g2, Option.bind_some]
  dsimp only
  rw [if_neg (by omega)]
  rfl
theorem end_ev (c f tt : Int) (days : List IT) (a b : ByteArray) (d : Int) (kd tx y0 y1 : ByteArray) (ha : a.size ≤ 10000) (hb : b.size ≤ 10000) (hw : Wrote c a b d kd tx y0 y1) : Ev (fun k => laws_FnLogs.l1 k c f tt days (days.length : Int) a b d kd tx y0 y1) true := by
  by_cases c0 : c = 0
  · obtain ⟨hok, hv, hy0, hy1, hok2⟩ := hw c0
    subst hy0 hy1
    rcases wrote_entries ha hb hok hv hok2 with ⟨l, hl, h1, h2⟩ | ⟨l, l', h1, h2⟩
    · obtain ⟨K1, g1⟩ := Ev.pick h1
      obtain ⟨K2, g2⟩ := Ev.pick h2
      refine Ev.intro (K1 + K2 + 1) fun k hk => ?_
      obtain ⟨q, rfl⟩ : ∃ q, k = q + 1 := ⟨k - 1, by omega⟩
      exact l1_fin c0 hl (g1 q (by omega)) (g2 q (by omega))
    · obtain ⟨K1, g1⟩ := Ev.pick h1
      obtain ⟨K2, g2⟩ := Ev.pick h2
      refine Ev.intro (K1 + K2 + 1) fun k hk => ?_
      obtain ⟨q, rfl⟩ : ∃ q, k = q + 1 := ⟨k - 1, by omega⟩
      exact l1_six c0 (g1 q (by omega)) (g2 q (by omega))
  · refine Ev.const fun k => ?_
    unfold laws_FnLogs.l1
    rw [if_neg (by omega), if_neg c0]
theorem days_ev (c f tt : Int) (days : List IT) (a b : ByteArray) (d : Int) (kd tx y0 y1 : ByteArray) (ha : a.size ≤ 10000) (hb : b.size ≤ 10000) (hd : days.length ≤ 2000000) (hin : ∀ x ∈ days, f ≤ x.f0 ∧ x.f0 ≤ tt) (hw : Wrote c a b d kd tx y0 y1) : Ev (fun k => laws_FnLogs.j3 k c f tt days false a b d kd tx y0 y1) true := by
  have hl : Ev (fun k => laws_FnLogs.l1 k c f tt days 0 a b d kd tx y0 y1) true := by
    refine go_to days.length (fun k i => laws_FnLogs.l1 k c f tt days i a b d kd tx y0 y1) true (fun i hi => ⟨0, fun k _ => ?_⟩) (end_ev c f tt days a b d kd tx y0 y1 ha hb hw)
    have h := hin _ (List.getElem_mem hi)
    have hr := rdI days i hi
    simp only [laws_FnLogs.l1]
    rw [if_pos (by omega), if_pos (by omega), hr, if_neg (by omega), if_neg (by omega), w64 (by omega) (by omega)]
  obtain ⟨K, g⟩ := Ev.pick hl
  refine Ev.intro (K + 1) fun k hk => ?_
  obtain ⟨q, rfl⟩ : ∃ q, k = q + 1 := ⟨k - 1, by omega⟩
  simp only [laws_FnLogs.j3, Bool.false_eq_true, if_false]
  exact g q (by omega)
theorem again_ev (c f tt : Int) (days es : List IT) (t : ByteArray) (n : Nat) (a b : ByteArray) (d : Int) (kd tx y0 y1 : ByteArray) (ht : t.size ≤ 300000) (hR : Rd t.data.toList es n)
    (hj : Ev (fun k => laws_FnLogs.j3 k c f tt days false a b d kd tx y0 y1) true) : ∀ (m i : Nat) (acc : ByteArray), i + m = es.length → acc.data.toList = flat (es.take i) → Ev (fun k => laws_FnLogs.l0 k c t es (n : Int) f tt days acc (i : Int) a b d kd tx y0 y1) true := by
  have hle := hR.le
  rw [← size_list] at hle
  have hn := hR.len
  have hfl := flat_len es
  intro m
  induction m with
  | zero =>
    intro i acc hi hacc
    rw [List.take_of_length_le (by omega)] at hacc
    have e : acc = t.extract 0 n := bytes_ext (by rw [hacc, ext_list, List.drop_zero, Nat.sub_zero]; exact (rd_front hR).symm)
    obtain ⟨K, g⟩ := Ev.pick hj
    refine Ev.intro (K + 1) fun k hk => ?_
    obtain ⟨q, rfl⟩ : ∃ q, k = q + 1 := ⟨k - 1, by omega⟩
    simp only [laws_FnLogs.l0]
    rw [if_neg (by omega), if_neg (by omega), if_neg (by omega), if_pos (by omega), if_pos (by omega), Int.toNat_natCast, ← e, bne_self_eq_false]
    exact g q (by omega)
  | succ m ih =>
    intro i acc hi hacc
    have hil : i < es.length := by omega
    have hv : okE es[i] := hR.ok _ (List.getElem_mem hil)
    have hr := rdI es i hil
    have hsz := size_flat hacc
    have htk : (flat (es.take i)).length ≤ (flat es).length := by
      have := congrArg flat (List.take_append_drop i es)
      rw [flat_app] at this
      have h2 := congrArg List.length this
      rw [List.length_append] at h2
      omega
    have hfs := fr_size hv
    have ha2 : (acc ++ frV es[i].f0 es[i].f1 es[i].f2).data.toList = flat (es.take (i + 1)) := by
      rw [app_list, hacc, List.take_succ_eq_append_getElem hil, flat_app]
      show _ = flat (es.take i) ++ (fr es[i] ++ [])
      rw [List.append_nil]
      rfl
    obtain ⟨K1, g1⟩ := Ev.pick (frV_impl hv)
    obtain ⟨K2, g2⟩ := Ev.pick (ih (i + 1) _ (by omega) ha2)
    refine Ev.intro (K1 + K2 + 1) fun k hk => ?_
    obtain ⟨q, rfl⟩ : ∃ q, k = q + 1 := ⟨k - 1, by omega⟩
    simp only [laws_FnLogs.l0]
    rw [if_pos (by omega), if_pos (by omega), hr, g1 q (by omega), Option.bind_some, if_pos (by omega), w64 (by omega) (by omega)]
    exact g2 q (by omega)
theorem j0_ev (c f tt : Int) (days es : List IT) (t fm : ByteArray) (n : Nat) (a b : ByteArray) (d : Int) (kd tx y0 y1 : ByteArray) (ht : t.size ≤ 300000) (hR : Rd t.data.toList es n) (hf : (entryV d kd tx = true ∧ fm = frV d kd tx) ∨ fm = ⟨#[]⟩)
    (hj : Ev (fun k => laws_FnLogs.j3 k c f tt days false a b d kd tx y0 y1) true) : Ev (fun k => laws_FnLogs.j0 k c fm t es (n : Int) f tt days false a b d kd tx y0 y1) true := by
  have hl := again_ev c f tt days es t n a b d kd tx y0 y1 ht hR hj es.length 0 ⟨#[]⟩ (by omega) rfl
  have h1 : Ev (fun k => laws_FnLogs.j1 k c t es (n : Int) f tt days a b d kd tx y0 y1) true := Ev.step (fun k => by simp only [laws_FnLogs.j1]; rfl) hl
  obtain ⟨K1, g1⟩ := Ev.pick h1
  rcases hf with ⟨hv, rfl⟩ | rfl
  · have hfs := fr_size hv
    obtain ⟨l, m, hRf, _, _, _, h2⟩ := rd_both (frV d kd tx) (by omega)
    have ox : ∀ z ∈ [(⟨d, kd, tx⟩ : IT)], okE z := fun z hz => by rw [List.mem_singleton.1 hz]; exact hv
    have e : (frV d kd tx).data.toList = flat [(⟨d, kd, tx⟩ : IT)] := by show _ = fr ⟨d, kd, tx⟩ ++ []; rw [List.append_nil]; rfl
    have hRg : Rd (frV d kd tx).data.toList [⟨d, kd, tx⟩] (flat [(⟨d, kd, tx⟩ : IT)]).length := by rw [e]; exact rd_flat ox
    obtain ⟨q1, q2⟩ := hRf.uniq hRg (by rw [← size_list]; omega)
    rw [← e, ← size_list] at q2
    rw [q1, q2] at h2
    obtain ⟨K2, g2⟩ := Ev.pick h2
    refine Ev.intro (K1 + K2 + 1) fun k hk => ?_
    obtain ⟨q, rfl⟩ : ∃ q, k = q + 1 := ⟨k - 1, by omega⟩
    simp only [laws_FnLogs.j0, Bool.false_eq_true, if_false]
    rw [if_neg fr_some, g2 q (by omega), Option.bind_some, if_pos rfl, if_pos (show (([(⟨d, kd, tx⟩ : IT)].length : Nat) : Int) = 1 from rfl), if_pos (show (0 : Int) < (([(⟨d, kd, tx⟩ : IT)].length : Nat) : Int) by simp), show rd_T26 [(⟨d, kd, tx⟩ : IT)] 0 = ⟨d, kd, tx⟩ from rfl]
    simp only [beq_self_eq_true, Bool.not_true, Bool.or_self, Bool.false_eq_true, if_false]
    exact g1 q (by omega)
  · refine Ev.intro (K1 + 1) fun k hk => ?_
    obtain ⟨q, rfl⟩ : ∃ q, k = q + 1 := ⟨k - 1, by omega⟩
    simp only [laws_FnLogs.j0, Bool.false_eq_true, if_false]
    rw [if_pos (by rw [ByteArray.toList_eq])]
    exact g1 q (by omega)
theorem same_self (l : List IT) (h : l.length ≤ 2000000) : Ev (fun k => spec_SameEntries.f k l l) true := by
  have e : likeB l l = true := by
    unfold likeB
    rw [if_pos rfl, List.all_eq_true]
    intro i _
    unfold unlike
    simp
  have := like_spec l l h
  rw [e] at this
  exact this
theorem law_ev (l0 : List Int) (hb : ∀ x ∈ l0, (Lit.int .u8 x).wf = true) : ∃ k, laws_FnLogs.f k l0 = some true := by
  by_cases c : (l0.length : Int) > 4096
  · refine ⟨0, ?_⟩
    unfold laws_FnLogs.f laws_f6big.f
    rw [decide_eq_true c]
    rfl
  · have B := bytes_wf hb
    have hl : l0.length ≤ 5000 := by omega
    obtain ⟨a, b, d, kd, tx, hd1, ha, hb, hkd, htx⟩ := draww_ev B hl
    obtain ⟨⟨y0, y1, cw⟩, s1, i1, hw⟩ := write2 a b d kd tx (by omega) (by omega) (by omega)
    obtain ⟨fm, s2, i2, hf⟩ := frame_text d kd tx (by omega)
    obtain ⟨t, hd3, ht⟩ := drawr_ev B hl
    obtain ⟨es, n, hR, hnt, hes, s3, i3⟩ := rd_both t (by omega)
    obtain ⟨a2, b2, hd4, ha2, hb2⟩ := drawe_ev B hl
    obtain ⟨l4, c4, hl4, s4, i4, _, _⟩ := entries2 a2 b2 (by omega) (by omega)
    obtain ⟨a3, b3, f, tt, hd5, ha3, hb3⟩ := drawb_ev B hl
    obtain ⟨l5, c5, hl5, s5, i5, hin⟩ := between2 a3 b3 f tt (by omega) (by omega)
    obtain ⟨a6, b6, kq, hd6, ha6, hb6⟩ := drawk_ev B hl
    obtain ⟨⟨n6, c6⟩, s6, i6⟩ := count_both a6 b6 kq (by omega) (by omega)
    obtain ⟨u, v, hd7, hu⟩ := drawse_ev B hl
    have s7 := like_spec u v (by omega)
    have i7 := like_impl u v (by omega)
    obtain ⟨w, hd8, hw8⟩ := draws_ev B hl
    have s8 := sum_spec w (by omega)
    have i8 := sum_impl w (by omega)
    have s9 := one_spec d kd tx (by omega)
    have i9 := entry_impl d kd tx (by omega)
    have m3 := same_self es (by omega)
    have m4 := same_self l4 hl4
    have m5 := same_self l5 hl5
    have hj := j0_ev cw f tt l5 es t fm n a b d kd tx y0 y1 ht hR hf (days_ev cw f tt l5 a b d kd tx y0 y1 ha hb hl5 hin hw)
    obtain ⟨A1, q1⟩ := Ev.pick hd1
    obtain ⟨A2, q2⟩ := Ev.pick s1
    obtain ⟨A3, q3⟩ := Ev.pick i1
    obtain ⟨A4, q4⟩ := Ev.pick s2
    obtain ⟨A5, q5⟩ := Ev.pick i2
    obtain ⟨A6, q6⟩ := Ev.pick hd3
    obtain ⟨A7, q7⟩ := Ev.pick s3
    obtain ⟨A8, q8⟩ := Ev.pick i3
    obtain ⟨A9, q9⟩ := Ev.pick hd4
    obtain ⟨B1, r1⟩ := Ev.pick s4
    obtain ⟨B2, r2⟩ := Ev.pick i4
    obtain ⟨B3, r3⟩ := Ev.pick hd5
    obtain ⟨B4, r4⟩ := Ev.pick s5
    obtain ⟨B5, r5⟩ := Ev.pick i5
    obtain ⟨B6, r6⟩ := Ev.pick hd6
    obtain ⟨B7, r7⟩ := Ev.pick s6
    obtain ⟨B8, r8⟩ := Ev.pick i6
    obtain ⟨B9, r9⟩ := Ev.pick hd7
    obtain ⟨C1, p1⟩ := Ev.pick s7
    obtain ⟨C2, p2⟩ := Ev.pick i7
    obtain ⟨C3, p3⟩ := Ev.pick hd8
    obtain ⟨C4, p4⟩ := Ev.pick s8
    obtain ⟨C5, p5⟩ := Ev.pick i8
    obtain ⟨C6, p6⟩ := Ev.pick s9
    obtain ⟨C7, p7⟩ := Ev.pick i9
    obtain ⟨C8, p8⟩ := Ev.pick m3
    obtain ⟨C9, p9⟩ := Ev.pick m4
    obtain ⟨D1, t1⟩ := Ev.pick m5
    obtain ⟨D2, t2⟩ := Ev.pick hj
    obtain ⟨K, hK⟩ : ∃ K, K = A1 + A2 + A3 + A4 + A5 + A6 + A7 + A8 + A9 + B1 + B2 + B3 + B4 + B5 + B6 + B7 + B8 + B9 + C1 + C2 + C3 + C4 + C5 + C6 + C7 + C8 + C9 + D1 + D2 := ⟨_, rfl⟩
    have q7' : spec_ReadFrames.f K t = some (es, (n : Int)) := by unfold spec_ReadFrames.f; rw [q7 K (by omega)]; rfl
    have p6' : spec_ValidEntry.f K d kd tx = some (entryV d kd tx) := by unfold spec_ValidEntry.f; rw [p6 K (by omega)]; rfl
    refine ⟨K, ?_⟩
    unfold laws_FnLogs.f laws_f6big.f
    rw [decide_eq_false c, Option.bind_some, if_neg (by decide), q1 K (by omega), Option.bind_some, q3 K (by omega), Option.bind_some, q2 K (by omega), Option.bind_some, q5 K (by omega), Option.bind_some, q6 K (by omega), Option.bind_some, q8 K (by omega), Option.bind_some, q7', Option.bind_some, q9 K (by omega), Option.bind_some, r2 K (by omega), Option.bind_some, r1 K (by omega), Option.bind_some, r3 K (by omega), Option.bind_some, r5 K (by omega), Option.bind_some, r4 K (by omega), Option.bind_some, r6 K (by omega), Option.bind_some, r8 K (by omega), Option.bind_some, r7 K (by omega), Option.bind_some, r9 K (by omega), Option.bind_some, p3 K (by omega), Option.bind_some]
    rw [if_pos rfl, if_neg (by simp), q4 K (by omega), Option.bind_some, if_pos rfl, if_pos rfl, p8 K (by omega), Option.bind_some, if_pos rfl, if_pos rfl, p9 K (by omega), Option.bind_some, if_pos rfl, if_pos rfl, t1 K (by omega), Option.bind_some, if_pos rfl, if_pos rfl, if_pos rfl, p2 K (by omega), Option.bind_some, p1 K (by omega), Option.bind_some, if_neg (by simp), p5 K (by omega), Option.bind_some, p4 K (by omega), Option.bind_some, if_pos rfl, p7 K (by omega), Option.bind_some, p6', Option.bind_some, bne_self_eq_false]
    exact t2 K (by omega)
end FnLogs_
open FnLogs_ in
theorem FnLogs : ∀ (l0 : List Int), (l0.length ≤ maxLen ∧ ∀ x ∈ l0, (Lit.int .u8 x).wf = true) → ∃ k, laws_FnLogs.f k l0 = some true := by
  intro l0 ⟨_, hb⟩
  exact law_ev l0 hb
end Go.Proofs.YtlcgonaapmmnkaaDoor.Pure
