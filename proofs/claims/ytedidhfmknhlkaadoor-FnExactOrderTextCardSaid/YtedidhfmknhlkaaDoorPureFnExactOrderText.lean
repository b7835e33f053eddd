/- For all orders the program's OrderText and the reference's OrderText tell the same text. -/
import Derived.Test.YtedidhfmknhlkaaDoorQFnExactOrderTextx3
import Derived.Test.YtedidhfmknhlkaaDoorQFnExactOrderTextx2
import Derived.Test.YtedidhfmknhlkaaDoorBase
import Derived.Lib.ItoaLen
namespace Go.Proofs.YtedidhfmknhlkaaDoor.Pure
open Go.RowKit Go.Proofs.YtedidhfmknhlkaaDoor.QFnExactOrderText Go.Proofs.YtedidhfmknhlkaaDoorW.PrintWords Go.Proofs.YtedidhfmknhlkaaDoorW.PrintLast Go.Proofs.YtedidhfmknhlkaaDoor.Base
set_option linter.unusedVariables false
set_option linter.unusedSimpArgs false

namespace FnExactOrderText_
theorem within_eq (a b c : Int) : impl_within.f a b c = some (decide (b ≤ a ∧ a ≤ c)) := by
  unfold impl_within.f
  by_cases h : a ≥ b
  · rw [if_pos h]; congr 1; apply Bool.eq_iff_iff.mpr; simp; omega
  · rw [if_neg h]; congr 1; apply Bool.eq_iff_iff.mpr; simp; omega

theorem name_loop_impl (s : ByteArray) (h : s.size ≤ 12) : Ev (fun k => impl_IsName.l0 k s 0) ((List.range s.size).all fun i => nameByte (bt s i)) := by
  have := all_lt s.size (fun i => nameByte (bt s i)) (fun k i => impl_IsName.l0 k s i) true false (fun i hi hp => ⟨0, fun k _ => ?_⟩) (fun i hi hp => Ev.const fun k => ?_) (fun _ => Ev.const fun k => ?_)
  · rw [ite_bool] at this
    exact this
  · have hp := of_decide_eq_true hp
    simp only [impl_IsName.l0]
    rw [if_pos (by omega), if_pos (by omega), w64 (by omega) (by omega)]
    repeat' split
    all_goals first | rfl | (exfalso; omega)
  · have hp := of_decide_eq_false hp
    simp only [impl_IsName.l0]
    rw [if_pos (by omega), if_pos (by omega)]
    repeat' split
    all_goals first | rfl | (exfalso; omega)
  · simp only [impl_IsName.l0]
    rw [if_neg (by omega)]
theorem name_impl (s : ByteArray) : Ev (fun k => impl_IsName.f k s) (isNameB s) := by
  unfold isNameB
  by_cases h0 : s.size < 1
  · rw [decide_eq_false (by omega), Bool.false_and]
    refine Ev.const fun k => ?_
    unfold impl_IsName.f
    rw [if_pos (by omega)]
    simp only [impl_IsName.j0, if_true]
  · by_cases h12 : s.size ≤ 12
    · by_cases hs : 97 ≤ bt s 0 ∧ bt s 0 ≤ 122
      · rw [decide_eq_true ⟨by omega, h12, hs⟩, Bool.true_and]
        refine Ev.step (f := fun k => impl_IsName.l0 k s 0) (fun k => ?_) (name_loop_impl s h12)
        simp only [impl_IsName.f]
        rw [if_neg (by omega), if_neg (by omega), if_pos (by omega), if_neg (by omega), decide_eq_false (by omega)]
        simp only [impl_IsName.j0, Bool.false_eq_true, if_false]
      · rw [decide_eq_false (fun h => hs h.2.2), Bool.false_and]
        refine Ev.const fun k => ?_
        simp only [impl_IsName.f]
        rw [if_neg (by omega), if_neg (by omega), if_pos (by omega)]
        by_cases h1 : bt s 0 < 97
        · rw [if_pos h1]
          simp only [impl_IsName.j0, if_true]
        · rw [if_neg h1, decide_eq_true (by omega)]
          simp only [impl_IsName.j0, if_true]
    · rw [decide_eq_false (by omega), Bool.false_and]
      refine Ev.const fun k => ?_
      unfold impl_IsName.f
      rw [if_neg (by omega), if_pos (by omega)]
      simp only [impl_IsName.j0, if_true]

theorem valid_impl (f0 : Int) (f1 : ByteArray) (f2 f3 f4 : Int) : Ev (fun k => impl_validOrder.f k f0 f1 f2 f3 f4) (spec_l24One.v f0 f1 f2 f3 f4) := by
  obtain ⟨K, hK⟩ := Ev.pick (name_impl f1)
  refine Ev.intro K fun k hk => ?_
  unfold impl_validOrder.f spec_l24One.v
  rw [within_eq, within_eq, within_eq, within_eq, hK k hk]
  simp only [Option.bind_some]
  cases decide (1 ≤ f0 ∧ f0 ≤ 9999) <;> cases isNameB f1 <;> cases decide (1 ≤ f2 ∧ f2 ≤ 500) <;> cases decide (0 ≤ f3 ∧ f3 ≤ f2) <;> rfl
/-- The digits of a number, as numbers of bytes; none for 0. -/
def decL (u : Nat) : List Int := if h : u = 0 then [] else decL (u / 10) ++ [(48 + (u % 10 : Nat) : Int)]
termination_by u
decreasing_by omega
theorem decL_zero : decL 0 = [] := by unfold decL; rfl
theorem decL_pos {u : Nat} (h : ¬ u = 0) : decL u = decL (u / 10) ++ [(48 + (u % 10 : Nat) : Int)] := by rw [decL, dif_neg h]
theorem decL_bytes (u : Nat) (h : 0 < u) : (decL u).map (fun n : Int => UInt8.ofNat n.toNat) = Lib.decDigits u := by
  induction u using Nat.strongRecOn with
  | _ u ih =>
    rw [decL_pos (by omega), Lib.decDigits]
    have e : (48 + ((u % 10 : Nat) : Int)).toNat = 48 + u % 10 := by omega
    by_cases h10 : u < 10
    · rw [dif_pos h10, Nat.div_eq_of_lt h10, decL_zero]
      simp only [List.nil_append, List.map_cons, List.map_nil, e]
      rw [Nat.mod_eq_of_lt h10]
    · rw [dif_neg h10, List.map_append, ih (u / 10) (by omega) (by omega)]
      simp only [List.map_cons, List.map_nil, e]
theorem strOfNums_size (xs : List Int) : (strOfNums xs).size = xs.length := by unfold strOfNums; show (Array.size _) = _; simp
def finD (n : Int) (xs : List Int) : ByteArray := if (xs.length : Int) = 0 then (⟨#[48]⟩ : ByteArray) else if n < 0 then (⟨#[45]⟩ : ByteArray) ++ strOfNums xs else strOfNums xs
theorem mod256 {x : Int} (h0 : 0 ≤ x) (h1 : x < 256) : x % 256 = x := Int.emod_eq_of_lt h0 h1
theorem dec_end (n : Int) (acc : List Int) (h : acc.length ≤ 200) : Ev (fun k => spec_l01Dec.l0 k n acc 0) (finD n acc) := by
  refine Ev.const fun k => ?_
  simp only [spec_l01Dec.l0, if_true]
  unfold finD
  split
  · rfl
  · split
    · rw [if_pos (by rw [strOfNums_size]; omega)]
    · rfl
theorem dec_loop (n : Int) : ∀ (m u : Nat) (acc : List Int) (x : Int), (x = u ∨ x = -(u : Int)) → u < 10 ^ m → acc.length + m ≤ 100 → u ≤ 9223372036854775808 → Ev (fun k => spec_l01Dec.l0 k n acc x) (finD n (decL u ++ acc))
  | 0, u, acc, x, hx, hu, ha, _ => by
    have h0 : u = 0 := by simpa using hu
    subst h0
    obtain rfl : x = 0 := by omega
    rw [decL_zero, List.nil_append]
    exact dec_end n acc (by omega)
  | m + 1, u, acc, x, hx, hu, ha, hb => by
    by_cases h0 : u = 0
    · subst h0
      obtain rfl : x = 0 := by omega
      rw [decL_zero, List.nil_append]
      exact dec_end n acc (by omega)
    · have hlt : u / 10 < 10 ^ m := by rw [Nat.pow_succ] at hu; omega
      have ih := dec_loop n m (u / 10) ((48 + (u % 10 : Nat) : Int) :: acc) (Int.tdiv x 10) ?_ hlt (by simp only [List.length_cons]; omega) (by omega)
      · rw [decL_pos h0, List.append_assoc, List.singleton_append]
        refine Ev.step (fun k => ?_) ih
        have hxn : ¬ x = 0 := by omega
        simp only [spec_l01Dec.l0]
        rw [if_neg hxn]
        have hw : wrap64 (Int.tdiv x 10) = Int.tdiv x 10 := by
          rcases hx with rfl | rfl
          · rw [tdiv_nn (by omega)]; exact w64 (by omega) (by omega)
          · rw [Int.neg_tdiv, tdiv_nn (by omega)]; exact w64 (by omega) (by omega)
        have hm : (Int.tmod x 10 = (u % 10 : Nat) ∨ Int.tmod x 10 = -((u % 10 : Nat) : Int)) := by
          rcases hx with rfl | rfl
          · left; rw [tmod_nn (by omega)]; omega
          · right; rw [Int.neg_tmod, tmod_nn (by omega)]; omega
        have hd : u % 10 < 10 := Nat.mod_lt _ (by omega)
        generalize u % 10 = d at hm hd ⊢
        rw [hw]
        by_cases hneg : Int.tmod x 10 < 0
        · have hm2 : Int.tmod x 10 = -(d : Int) := by omega
          rw [if_pos hneg, hm2]
          simp only [Option.bind_some, List.length_cons, List.length_nil]
          rw [if_pos (by omega), w64 (x := - -(d : Int)) (by omega) (by omega), w64 (x := 48 + - -(d : Int)) (by omega) (by omega), mod256 (by omega) (by omega), Int.neg_neg]
          rfl
        · have hm2 : Int.tmod x 10 = (d : Int) := by omega
          rw [if_neg hneg, hm2]
          simp only [Option.bind_some, List.length_cons, List.length_nil]
          rw [if_pos (by omega), w64 (x := 48 + (d : Int)) (by omega) (by omega), mod256 (by omega) (by omega)]
          rfl
      · rcases hx with rfl | rfl
        · left; rw [tdiv_nn (by omega)]; omega
        · right; rw [Int.neg_tdiv, tdiv_nn (by omega)]; omega
theorem finD_itoa (n : Int) : finD n (decL n.natAbs) = ⟨(Lib.itoa n).toArray⟩ := by
  unfold finD Lib.itoa
  by_cases h0 : n = 0
  · subst h0
    rw [show (0 : Int).natAbs = 0 from rfl, decL_zero]
    rw [if_pos (show (([] : List Int).length : Int) = 0 from rfl), if_neg (by omega)]
    rw [show (0 : Int).toNat = 0 from rfl, Lib.decDigits]
    rfl
  · have hpos : 0 < n.natAbs := by omega
    have hlen : ¬ ((decL n.natAbs).length : Int) = 0 := by
      rw [decL_pos (by omega), List.length_append]
      simp only [List.length_cons, List.length_nil]
      omega
    rw [if_neg hlen]
    have hs : strOfNums (decL n.natAbs) = ⟨(Lib.decDigits n.natAbs).toArray⟩ := by
      unfold strOfNums
      rw [decL_bytes _ hpos]
    rw [hs]
    by_cases hn : n < 0
    · rw [if_pos hn, if_pos hn]
      apply ByteArray.ext
      rw [ByteArray.data_append]
      simp
    · rw [if_neg hn, if_neg hn]
      have : n.toNat = n.natAbs := by omega
      rw [this]
/-- A number in decimal. -/
def dec (n : Int) : ByteArray := ⟨(Lib.itoa n).toArray⟩
theorem dec_spec (n : Int) (h0 : -9223372036854775808 ≤ n) (h1 : n ≤ 9223372036854775807) : Ev (fun k => spec_l01Dec.f k n) (dec n) := by
  have := dec_loop n 20 n.natAbs [] n (by omega) (by omega) (by simp) (by omega)
  rw [List.append_nil, finD_itoa] at this
  exact this
theorem dec_size (n : Int) (h0 : -9223372036854775808 ≤ n) (h1 : n ≤ 9223372036854775807) : (dec n).size ≤ 21 := by
  have := Lib.itoa_length_le n h0 h1
  show (Lib.itoa n).toArray.size ≤ 21
  rw [List.size_toArray]
  exact this

theorem dec_impl (n : Int) (h0 : -9223372036854775808 ≤ n) (h1 : n ≤ 9223372036854775807) : impl_Decimal.f n = some (dec n) := by
  unfold impl_Decimal.f strconv_FormatInt.f
  rw [if_pos ⟨rfl, h0, h1⟩]
  rfl

def ordV (f0 : Int) (f1 : ByteArray) (f2 f3 f4 : Int) : ByteArray := orderTxt (dec f0) f1 (dec f3) (dec f2) (dec f4)
theorem ord_bd {f0 : Int} {f1 : ByteArray} {f2 f3 f4 : Int} (hv : spec_l24One.v f0 f1 f2 f3 f4 = true) : (1 ≤ f0 ∧ f0 ≤ 9999) ∧ isNameB f1 = true ∧ (1 ≤ f2 ∧ f2 ≤ 500) ∧ (0 ≤ f3 ∧ f3 ≤ f2) ∧ (0 ≤ f4 ∧ f4 ≤ 2000) := by
  unfold spec_l24One.v at hv
  simp only [Bool.and_eq_true, decide_eq_true_eq] at hv
  exact ⟨hv.1.1.1.1, hv.1.1.1.2, hv.1.1.2, hv.1.2, hv.2⟩
theorem ord_spec {f0 : Int} {f1 : ByteArray} {f2 f3 f4 : Int} (hv : spec_l24One.v f0 f1 f2 f3 f4 = true) (h1 : f1.size ≤ 1000000000) : Ev (fun k => spec_l24Text.g k f0 f1 f2 f3 f4) (ordV f0 f1 f2 f3 f4) := by
  obtain ⟨b0, -, b2, b3, b4⟩ := ord_bd hv
  obtain ⟨K0, g0⟩ := Ev.pick (dec_spec f0 (by omega) (by omega))
  obtain ⟨K3, g3⟩ := Ev.pick (dec_spec f3 (by omega) (by omega))
  obtain ⟨K2, g2⟩ := Ev.pick (dec_spec f2 (by omega) (by omega))
  obtain ⟨K4, g4⟩ := Ev.pick (dec_spec f4 (by omega) (by omega))
  have z0 := dec_size f0 (by omega) (by omega)
  have z3 := dec_size f3 (by omega) (by omega)
  have z2 := dec_size f2 (by omega) (by omega)
  have z4 := dec_size f4 (by omega) (by omega)
  refine Ev.intro (K0 + K3 + K2 + K4) fun k hk => ?_
  unfold spec_l24Text.g
  rw [if_pos h1, g0 k (by omega), g3 k (by omega), g2 k (by omega), g4 k (by omega)]
  simp only [Option.bind_some]
  rw [if_pos ⟨by omega, by omega, by omega, by omega⟩]
  rfl
theorem ord_impl {f0 : Int} {f1 : ByteArray} {f2 f3 f4 : Int} (hv : spec_l24One.v f0 f1 f2 f3 f4 = true) (h1 : f1.size ≤ 1000000000) : Ev (fun k => impl_OrderText.f k f0 f1 f2 f3 f4) (ordV f0 f1 f2 f3 f4) := by
  obtain ⟨b0, -, b2, b3, b4⟩ := ord_bd hv
  obtain ⟨K, g⟩ := Ev.pick (valid_impl f0 f1 f2 f3 f4)
  rw [hv] at g
  have z0 := dec_size f0 (by omega) (by omega)
  have z3 := dec_size f3 (by omega) (by omega)
  have z2 := dec_size f2 (by omega) (by omega)
  have z4 := dec_size f4 (by omega) (by omega)
  have s1 : (⟨#[35]⟩ : ByteArray).size = 1 := rfl
  have s2 : (⟨#[32]⟩ : ByteArray).size = 1 := rfl
  have s3 : (⟨#[47]⟩ : ByteArray).size = 1 := rfl
  have s4 : (⟨#[32, 98, 121, 32]⟩ : ByteArray).size = 4 := rfl
  refine Ev.intro K fun k hk => ?_
  unfold impl_OrderText.f
  rw [g k hk, dec_impl f0 (by omega) (by omega), dec_impl f3 (by omega) (by omega), dec_impl f2 (by omega) (by omega), dec_impl f4 (by omega) (by omega)]
  simp only [Option.bind_some, if_true, ByteArray.size_append, s1, s2, s3, s4]
  rw [if_pos (by omega), if_pos (by omega), if_pos (by omega), if_pos (by omega), if_pos (by omega), if_pos (by omega), if_pos (by omega), if_pos (by omega), if_pos (by omega)]
  rfl
theorem ord_none {f0 : Int} {f1 : ByteArray} {f2 f3 f4 : Int} (hv : spec_l24One.v f0 f1 f2 f3 f4 = false) : Ev (fun k => impl_OrderText.f k f0 f1 f2 f3 f4) (⟨#[]⟩ : ByteArray) := by
  obtain ⟨K, g⟩ := Ev.pick (valid_impl f0 f1 f2 f3 f4)
  rw [hv] at g
  refine Ev.intro K fun k hk => ?_
  unfold impl_OrderText.f
  rw [g k hk]
  simp only [Option.bind_some, Bool.false_eq_true, if_false]
theorem ord_both (f0 : Int) (f1 : ByteArray) (f2 f3 f4 : Int) (h1 : f1.size ≤ 1000000000) : ∃ r, Ev (fun k => spec_OrderText.f k f0 f1 f2 f3 f4) r ∧ Ev (fun k => impl_OrderText.f k f0 f1 f2 f3 f4) r := by
  cases hv : spec_l24One.v f0 f1 f2 f3 f4 with
  | true =>
    refine ⟨_, ?_, ord_impl hv h1⟩
    obtain ⟨K, g⟩ := Ev.pick (ord_spec hv h1)
    refine Ev.intro K fun k hk => ?_
    unfold spec_OrderText.f spec_l24One.f
    simp only [Option.bind_some, hv, if_true]
    exact g k hk
  | false =>
    refine ⟨_, Ev.intro 0 fun k _ => ?_, ord_none hv⟩
    unfold spec_OrderText.f spec_l24One.f
    simp only [Option.bind_some, hv, Bool.false_eq_true, if_false]

theorem sz_eq (f0 : Int) (f1 : ByteArray) (f2 f3 f4 : Int) (h1 : f1.size ≤ maxLen) : ∃ t, laws_szOrder.f f0 f1 f2 f3 f4 1048576 = some t ∧ (¬ t < 0 → f1.size ≤ 1048576) := by
  unfold laws_szOrder.f
  have hm : maxLen ≤ 9223372036854775807 := by decide
  rw [w64 (by omega) (by omega)]
  split
  · exact ⟨_, rfl, fun h => by omega⟩
  · exact ⟨_, rfl, fun h => by omega⟩
end FnExactOrderText_
open FnExactOrderText_ in
theorem FnExactOrderText : ∀ (a0_0 : Int) (a0_1 : ByteArray) (a0_2 : Int) (a0_3 : Int) (a0_4 : Int), (Lit.int .i64 a0_0).wf = true → a0_1.size ≤ maxLen → (Lit.int .i64 a0_2).wf = true → (Lit.int .i64 a0_3).wf = true → (Lit.int .i64 a0_4).wf = true → ∃ k, laws_FnExactOrderText.f k a0_0 a0_1 a0_2 a0_3 a0_4 = some true := by
  intro f0 f1 f2 f3 f4 _ h1 _ _ _
  obtain ⟨t, ht, hz⟩ := sz_eq f0 f1 f2 f3 f4 h1
  by_cases c : t < 0
  · refine ⟨0, ?_⟩
    unfold laws_FnExactOrderText.f
    rw [ht]
    simp only [Option.bind_some]
    rw [if_pos c]
  · obtain ⟨r, hs, hi⟩ := ord_both f0 f1 f2 f3 f4 (by have := hz c; omega)
    obtain ⟨K1, g1⟩ := Ev.pick hs
    obtain ⟨K2, g2⟩ := Ev.pick hi
    refine ⟨K1 + K2, ?_⟩
    unfold laws_FnExactOrderText.f laws_toOrder.f
    simp (disch := omega) only [ht, g1, g2, c, Option.bind_some, if_true, if_false]

end Go.Proofs.YtedidhfmknhlkaaDoor.Pure
