/- For all minutes the program's ClockText and the reference's ClockText tell the same text. -/
import Derived.Test.YtnmfndfldhgaeaaDoorQFnExactClockTextx1
import Derived.Test.YtnmfndfldhgaeaaDoorBase
import Derived.Lib.ItoaLen
namespace Go.Proofs.YtnmfndfldhgaeaaDoor.Pure
open Go.RowKit Go.Proofs.YtnmfndfldhgaeaaDoor.QFnExactClockText Go.Proofs.YtnmfndfldhgaeaaDoorW.PrintWords Go.Proofs.YtnmfndfldhgaeaaDoorW.PrintLast Go.Proofs.YtnmfndfldhgaeaaDoor.Base
set_option linter.unusedVariables false
set_option linter.unusedSimpArgs false

namespace FnExactClockText_
/-- The digits of a number, as numbers of bytes; none for 0. -/
def decL (u : Nat) : List Int := if h : u = 0 then [] else decL (u / 10) ++ [(48 + (u % 10 : Nat) : Int)]
termination_by u
decreasing_by omega
theorem decL_zero : decL 0 = [] := by unfold decL; rfl
theorem decL_pos {u : Nat} (h : ¬ u = 0) : decL u = decL (u / 10) ++ [(48 + (u % 10 : Nat) : Int)] := by rw [decL, dif_neg h]
theorem decL_bytes (u : Nat) (h : 0 < u) : (decL u).map (fun n : Int => UInt8.ofNat n.toNat) = Lib.decDigits u := by
  induction u using Nat.strongRecOn with
  | _ u ih =>
    rw [decL_pos (by omega), Lib.decDigits]
    have e : (48 + ((u % 10 : Nat) : Int)).toNat = 48 + u % 10 := by omega
    by_cases h10 : u < 10
    · rw [dif_pos h10, Nat.div_eq_of_lt h10, decL_zero]
      simp only [List.nil_append, List.map_cons, List.map_nil, e]
      rw [Nat.mod_eq_of_lt h10]
    · rw [dif_neg h10, List.map_append, ih (u / 10) (by omega) (by omega)]
      simp only [List.map_cons, List.map_nil, e]
theorem strOfNums_size (xs : List Int) : (strOfNums xs).size = xs.length := by unfold strOfNums; show (Array.size _) = _; simp
def finD (n : Int) (xs : List Int) : ByteArray := if (xs.length : Int) = 0 then (⟨#[48]⟩ : ByteArray) else if n < 0 then (⟨#[45]⟩ : ByteArray) ++ strOfNums xs else strOfNums xs
theorem mod256 {x : Int} (h0 : 0 ≤ x) (h1 : x < 256) : x % 256 = x := Int.emod_eq_of_lt h0 h1
theorem dec_end (n : Int) (acc : List Int) (h : acc.length ≤ 200) : Ev (fun k => spec_l01Dec.l0 k n acc 0) (finD n acc) := by
  refine Ev.const fun k => ?_
  simp only [spec_l01Dec.l0, if_true]
  unfold finD
  split
  · rfl
  · split
    · rw [if_pos (by rw [strOfNums_size]; omega)]
    · rfl
theorem dec_loop (n : Int) : ∀ (m u : Nat) (acc : List Int) (x : Int), (x = u ∨ x = -(u : Int)) → u < 10 ^ m → acc.length + m ≤ 100 → u ≤ 9223372036854775808 → Ev (fun k => spec_l01Dec.l0 k n acc x) (finD n (decL u ++ acc))
  | 0, u, acc, x, hx, hu, ha, _ => by
    have h0 : u = 0 := by simpa using hu
    subst h0
    obtain rfl : x = 0 := by omega
    rw [decL_zero, List.nil_append]
    exact dec_end n acc (by omega)
  | m + 1, u, acc, x, hx, hu, ha, hb => by
    by_cases h0 : u = 0
    · subst h0
      obtain rfl : x = 0 := by omega
      rw [decL_zero, List.nil_append]
      exact dec_end n acc (by omega)
    · have hlt : u / 10 < 10 ^ m := by rw [Nat.pow_succ] at hu; omega
      have ih := dec_loop n m (u / 10) ((48 + (u % 10 : Nat) : Int) :: acc) (Int.tdiv x 10) ?_ hlt (by simp only [List.length_cons]; omega) (by omega)
      · rw [decL_pos h0, List.append_assoc, List.singleton_append]
        refine Ev.step (fun k => ?_) ih
        have hxn : ¬ x = 0 := by omega
        simp only [spec_l01Dec.l0]
        rw [if_neg hxn]
        have hw : wrap64 (Int.tdiv x 10) = Int.tdiv x 10 := by
          rcases hx with rfl | rfl
          · rw [tdiv_nn (by omega)]; exact w64 (by omega) (by omega)
          · rw [Int.neg_tdiv, tdiv_nn (by omega)]; exact w64 (by omega) (by omega)
        have hm : (Int.tmod x 10 = (u % 10 : Nat) ∨ Int.tmod x 10 = -((u % 10 : Nat) : Int)) := by
          rcases hx with rfl | rfl
          · left; rw [tmod_nn (by omega)]; omega
          · right; rw [Int.neg_tmod, tmod_nn (by omega)]; omega
        have hd : u % 10 < 10 := Nat.mod_lt _ (by omega)
        generalize u % 10 = d at hm hd ⊢
        rw [hw]
        by_cases hneg : Int.tmod x 10 < 0
        · have hm2 : Int.tmod x 10 = -(d : Int) := by omega
          rw [if_pos hneg, hm2]
          simp only [Option.bind_some, List.length_cons, List.length_nil]
          rw [if_pos (by omega), w64 (x := - -(d : Int)) (by omega) (by omega), w64 (x := 48 + - -(d : Int)) (by omega) (by omega), mod256 (by omega) (by omega), Int.neg_neg]
          rfl
        · have hm2 : Int.tmod x 10 = (d : Int) := by omega
          rw [if_neg hneg, hm2]
          simp only [Option.bind_some, List.length_cons, List.length_nil]
          rw [if_pos (by omega), w64 (x := 48 + (d : Int)) (by omega) (by omega), mod256 (by omega) (by omega)]
          rfl
      · rcases hx with rfl | rfl
        · left; rw [tdiv_nn (by omega)]; omega
        · right; rw [Int.neg_tdiv, tdiv_nn (by omega)]; omega
theorem finD_itoa (n : Int) : finD n (decL n.natAbs) = ⟨(Lib.itoa n).toArray⟩ := by
  unfold finD Lib.itoa
  by_cases h0 : n = 0
  · subst h0
    rw [show (0 : Int).natAbs = 0 from rfl, decL_zero]
    rw [if_pos (show (([] : List Int).length : Int) = 0 from rfl), if_neg (by omega)]
    rw [show (0 : Int).toNat = 0 from rfl, Lib.decDigits]
    rfl
  · have hpos : 0 < n.natAbs := by omega
    have hlen : ¬ ((decL n.natAbs).length : Int) = 0 := by
      rw [decL_pos (by omega), List.length_append]
      simp only [List.length_cons, List.length_nil]
      omega
    rw [if_neg hlen]
    have hs : strOfNums (decL n.natAbs) = ⟨(Lib.decDigits n.natAbs).toArray⟩ := by
      unfold strOfNums
      rw [decL_bytes _ hpos]
    rw [hs]
    by_cases hn : n < 0
    · rw [if_pos hn, if_pos hn]
      apply ByteArray.ext
      rw [ByteArray.data_append]
      simp
    · rw [if_neg hn, if_neg hn]
      have : n.toNat = n.natAbs := by omega
      rw [this]
/-- A number in decimal. -/
def dec (n : Int) : ByteArray := ⟨(Lib.itoa n).toArray⟩
theorem dec_spec (n : Int) (h0 : -9223372036854775808 ≤ n) (h1 : n ≤ 9223372036854775807) : Ev (fun k => spec_l01Dec.f k n) (dec n) := by
  have := dec_loop n 20 n.natAbs [] n (by omega) (by omega) (by simp) (by omega)
  rw [List.append_nil, finD_itoa] at this
  exact this
theorem dec_size (n : Int) (h0 : -9223372036854775808 ≤ n) (h1 : n ≤ 9223372036854775807) : (dec n).size ≤ 21 := by
  have := Lib.itoa_length_le n h0 h1
  show (Lib.itoa n).toArray.size ≤ 21
  rw [List.size_toArray]
  exact this

theorem dec_impl (n : Int) (h0 : -9223372036854775808 ≤ n) (h1 : n ≤ 9223372036854775807) : impl_Decimal.f n = some (dec n) := by
  unfold impl_Decimal.f strconv_FormatInt.f
  rw [if_pos ⟨rfl, h0, h1⟩]
  rfl

/-- A number, a sign and two digits. -/
def twoT (c : ByteArray) (q a b : Nat) : ByteArray := ((dec (q : Int) ++ c) ++ dec (a : Int)) ++ dec (b : Int)
theorem dec_sz (n : Nat) (h : n ≤ 100000000) : (dec (n : Int)).size ≤ 21 := dec_size _ (by omega) (by omega)

def clockT (n : Nat) : ByteArray := twoT ⟨#[58]⟩ (n / 60) (n % 60 / 10) (n % 10)
def clockOr (n : Nat) : ByteArray := if n ≤ 20000 then clockT n else ⟨#[]⟩
theorem clock_spec (n : Nat) (h : n ≤ 20000) : Ev (fun k => spec_ClockText.f k (n : Int)) (clockT n) := by
  obtain ⟨K1, g1⟩ := Ev.pick (dec_spec ((n / 60 : Nat) : Int) (by omega) (by omega))
  obtain ⟨K2, g2⟩ := Ev.pick (dec_spec ((n % 60 / 10 : Nat) : Int) (by omega) (by omega))
  obtain ⟨K3, g3⟩ := Ev.pick (dec_spec ((n % 10 : Nat) : Int) (by omega) (by omega))
  have z1 := dec_sz (n / 60) (by omega)
  have z2 := dec_sz (n % 60 / 10) (by omega)
  have z3 := dec_sz (n % 10) (by omega)
  have e1 : wrap64 (Int.tdiv (n : Int) 60) = ((n / 60 : Nat) : Int) := by rw [tdiv_nn (by omega)]; rw [w64 (by omega) (by omega)]; omega
  have e2 : wrap64 (Int.tdiv (Int.tmod (n : Int) 60) 10) = ((n % 60 / 10 : Nat) : Int) := by rw [tmod_nn (by omega), tdiv_nn (by omega), w64 (by omega) (by omega)]; omega
  have e3 : Int.tmod (n : Int) 10 = ((n % 10 : Nat) : Int) := by rw [tmod_nn (by omega)]; omega
  have s1 : (⟨#[58]⟩ : ByteArray).size = 1 := rfl
  refine Ev.intro (K1 + K2 + K3) fun k hk => ?_
  unfold spec_ClockText.f spec_l00In.f spec_l26Text.f
  rw [if_pos (show (n : Int) ≥ 0 by omega), e1, e2, e3, g1 k (by omega), g2 k (by omega), g3 k (by omega)]
  simp only [Option.bind_some, decide_eq_true_eq, ByteArray.size_append, s1]
  rw [if_pos (by omega), if_pos (by omega), if_pos (by omega), if_pos (by omega)]
  rfl
theorem clock_impl (n : Nat) (hn : n ≤ 200000000) : impl_ClockText.f (n : Int) = some (clockOr n) := by
  unfold clockOr
  by_cases h : n ≤ 20000
  · rw [if_pos h]
    have z1 := dec_sz (n / 60) (by omega)
    have z2 := dec_sz (n % 60 / 10) (by omega)
    have z3 := dec_sz (n % 10) (by omega)
    have e1 : wrap64 (Int.tdiv (n : Int) 60) = ((n / 60 : Nat) : Int) := by rw [tdiv_nn (by omega)]; rw [w64 (by omega) (by omega)]; omega
    have e2 : wrap64 (Int.tdiv (Int.tmod (n : Int) 60) 10) = ((n % 60 / 10 : Nat) : Int) := by rw [tmod_nn (by omega), tdiv_nn (by omega), w64 (by omega) (by omega)]; omega
    have e3 : Int.tmod (Int.tmod (n : Int) 60) 10 = ((n % 10 : Nat) : Int) := by rw [show Int.tmod (n : Int) 60 = ((n % 60 : Nat) : Int) by rw [tmod_nn (by omega)]; omega, tmod_nn (by omega)]; omega
    have s1 : (⟨#[58]⟩ : ByteArray).size = 1 := rfl
    unfold impl_ClockText.f impl_within.f impl_twoDigits.f
    rw [if_pos (show (n : Int) ≥ 0 by omega), e1, e2, e3, dec_impl _ (by omega) (by omega), dec_impl _ (by omega) (by omega), dec_impl _ (by omega) (by omega)]
    simp only [Option.bind_some, decide_eq_true_eq, ByteArray.size_append, s1]
    rw [if_pos (by omega), if_pos (by omega), if_pos (by omega)]
    simp only [Option.bind_some, ByteArray.size_append, s1]
    rw [if_pos (by omega)]
    unfold clockT twoT
    rw [ByteArray.append_assoc, ByteArray.append_assoc, ByteArray.append_assoc]
  · rw [if_neg h]
    unfold impl_ClockText.f impl_within.f
    rw [if_pos (show (n : Int) ≥ 0 by omega)]
    simp only [Option.bind_some, decide_eq_true_eq]
    rw [if_neg (by omega)]

end FnExactClockText_
open FnExactClockText_ in
theorem FnExactClockText : ∀ (a0 : Int), (Lit.int .i64 a0).wf = true → ∃ k, laws_FnExactClockText.f k a0 = some true := by
  intro a0 _
  by_cases c : 0 ≤ a0 ∧ a0 ≤ 20000
  · obtain ⟨n, rfl⟩ : ∃ n : Nat, a0 = (n : Int) := ⟨a0.toNat, by omega⟩
    obtain ⟨K, g⟩ := Ev.pick (clock_spec n (by omega))
    refine ⟨K, ?_⟩
    unfold laws_FnExactClockText.f
    rw [g K (by omega), clock_impl n (by omega)]
    unfold clockOr
    rw [if_pos (by omega)]
    simp only [Option.bind_some, if_true]
  · refine ⟨0, ?_⟩
    unfold laws_FnExactClockText.f spec_ClockText.f spec_l00In.f impl_ClockText.f impl_within.f
    by_cases c0 : a0 ≥ 0
    · rw [if_pos c0]
      simp only [Option.bind_some, decide_eq_true_eq]
      rw [if_neg (by omega)]
      simp only [Option.bind_some]
      rw [if_neg (by omega)]
      simp only [Option.bind_some, if_true]
    · rw [if_neg c0]
      simp only [Option.bind_some, Bool.false_eq_true, if_false, if_true]

end Go.Proofs.YtnmfndfldhgaeaaDoor.Pure
