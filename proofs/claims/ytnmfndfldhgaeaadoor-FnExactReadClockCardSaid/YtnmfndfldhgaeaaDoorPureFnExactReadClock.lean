/- For all texts the program's ReadClock and the reference's ReadClock tell the same. -/
import Derived.Test.YtnmfndfldhgaeaaDoorQFnExactReadClockx3
import Derived.Test.YtnmfndfldhgaeaaDoorQFnExactReadClockx2
import Derived.Test.YtnmfndfldhgaeaaDoorBase
import Derived.Lib.ItoaLen
namespace Go.Proofs.YtnmfndfldhgaeaaDoor.Pure
open Go.RowKit Go.Proofs.YtnmfndfldhgaeaaDoor.QFnExactReadClock Go.Proofs.YtnmfndfldhgaeaaDoorW.PrintWords Go.Proofs.YtnmfndfldhgaeaaDoorW.PrintLast Go.Proofs.YtnmfndfldhgaeaaDoor.Base
set_option linter.unusedVariables false
set_option linter.unusedSimpArgs false

namespace FnExactReadClock_
/-- The digits of a number, as numbers of bytes; none for 0. -/
def decL (u : Nat) : List Int := if h : u = 0 then [] else decL (u / 10) ++ [(48 + (u % 10 : Nat) : Int)]
termination_by u
decreasing_by omega
theorem decL_zero : decL 0 = [] := by unfold decL; rfl
theorem decL_pos {u : Nat} (h : ¬ u = 0) : decL u = decL (u / 10) ++ [(48 + (u % 10 : Nat) : Int)] := by rw [decL, dif_neg h]
theorem decL_bytes (u : Nat) (h : 0 < u) : (decL u).map (fun n : Int => UInt8.ofNat n.toNat) = Lib.decDigits u := by
  induction u using Nat.strongRecOn with
  | _ u ih =>
    rw [decL_pos (by omega), Lib.decDigits]
    have e : (48 + ((u % 10 : Nat) : Int)).toNat = 48 + u % 10 := by omega
    by_cases h10 : u < 10
    · rw [dif_pos h10, Nat.div_eq_of_lt h10, decL_zero]
      simp only [List.nil_append, List.map_cons, List.map_nil, e]
      rw [Nat.mod_eq_of_lt h10]
    · rw [dif_neg h10, List.map_append, ih (u / 10) (by omega) (by omega)]
      simp only [List.map_cons, List.map_nil, e]
theorem strOfNums_size (xs : List Int) : (strOfNums xs).size = xs.length := by unfold strOfNums; show (Array.size _) = _; simp
def finD (n : Int) (xs : List Int) : ByteArray := if (xs.length : Int) = 0 then (⟨#[48]⟩ : ByteArray) else if n < 0 then (⟨#[45]⟩ : ByteArray) ++ strOfNums xs else strOfNums xs
theorem mod256 {x : Int} (h0 : 0 ≤ x) (h1 : x < 256) : x % 256 = x := Int.emod_eq_of_lt h0 h1
theorem dec_end (n : Int) (acc : List Int) (h : acc.length ≤ 200) : Ev (fun k => spec_l01Dec.l0 k n acc 0) (finD n acc) := by
  refine Ev.const fun k => ?_
  simp only [spec_l01Dec.l0, if_true]
  unfold finD
  split
  · rfl
  · split
    · rw [if_pos (by rw [strOfNums_size]; omega)]
    · rfl
theorem dec_loop (n : Int) : ∀ (m u : Nat) (acc : List Int) (x : Int), (x = u ∨ x = -(u : Int)) → u < 10 ^ m → acc.length + m ≤ 100 → u ≤ 9223372036854775808 → Ev (fun k => spec_l01Dec.l0 k n acc x) (finD n (decL u ++ acc))
  | 0, u, acc, x, hx, hu, ha, _ => by
    have h0 : u = 0 := by simpa using hu
    subst h0
    obtain rfl : x = 0 := by omega
    rw [decL_zero, List.nil_append]
    exact dec_end n acc (by omega)
  | m + 1, u, acc, x, hx, hu, ha, hb => by
    by_cases h0 : u = 0
    · subst h0
      obtain rfl : x = 0 := by omega
      rw [decL_zero, List.nil_append]
      exact dec_end n acc (by omega)
    · have hlt : u / 10 < 10 ^ m := by rw [Nat.pow_succ] at hu; omega
      have ih := dec_loop n m (u / 10) ((48 + (u % 10 : Nat) : Int) :: acc) (Int.tdiv x 10) ?_ hlt (by simp only [List.length_cons]; omega) (by omega)
      · rw [decL_pos h0, List.append_assoc, List.singleton_append]
        refine Ev.step (fun k => ?_) ih
        have hxn : ¬ x = 0 := by omega
        simp only [spec_l01Dec.l0]
        rw [if_neg hxn]
        have hw : wrap64 (Int.tdiv x 10) = Int.tdiv x 10 := by
          rcases hx with rfl | rfl
          · rw [tdiv_nn (by omega)]; exact w64 (by omega) (by omega)
          · rw [Int.neg_tdiv, tdiv_nn (by omega)]; exact w64 (by omega) (by omega)
        have hm : (Int.tmod x 10 = (u % 10 : Nat) ∨ Int.tmod x 10 = -((u % 10 : Nat) : Int)) := by
          rcases hx with rfl | rfl
          · left; rw [tmod_nn (by omega)]; omega
          · right; rw [Int.neg_tmod, tmod_nn (by omega)]; omega
        have hd : u % 10 < 10 := Nat.mod_lt _ (by omega)
        generalize u % 10 = d at hm hd ⊢
        rw [hw]
        by_cases hneg : Int.tmod x 10 < 0
        · have hm2 : Int.tmod x 10 = -(d : Int) := by omega
          rw [if_pos hneg, hm2]
          simp only [Option.bind_some, List.length_cons, List.length_nil]
          rw [if_pos (by omega), w64 (x := - -(d : Int)) (by omega) (by omega), w64 (x := 48 + - -(d : Int)) (by omega) (by omega), mod256 (by omega) (by omega), Int.neg_neg]
          rfl
        · have hm2 : Int.tmod x 10 = (d : Int) := by omega
          rw [if_neg hneg, hm2]
          simp only [Option.bind_some, List.length_cons, List.length_nil]
          rw [if_pos (by omega), w64 (x := 48 + (d : Int)) (by omega) (by omega), mod256 (by omega) (by omega)]
          rfl
      · rcases hx with rfl | rfl
        · left; rw [tdiv_nn (by omega)]; omega
        · right; rw [Int.neg_tdiv, tdiv_nn (by omega)]; omega
theorem finD_itoa (n : Int) : finD n (decL n.natAbs) = ⟨(Lib.itoa n).toArray⟩ := by
  unfold finD Lib.itoa
  by_cases h0 : n = 0
  · subst h0
    rw [show (0 : Int).natAbs = 0 from rfl, decL_zero]
    rw [if_pos (show (([] : List Int).length : Int) = 0 from rfl), if_neg (by omega)]
    rw [show (0 : Int).toNat = 0 from rfl, Lib.decDigits]
    rfl
  · have hpos : 0 < n.natAbs := by omega
    have hlen : ¬ ((decL n.natAbs).length : Int) = 0 := by
      rw [decL_pos (by omega), List.length_append]
      simp only [List.length_cons, List.length_nil]
      omega
    rw [if_neg hlen]
    have hs : strOfNums (decL n.natAbs) = ⟨(Lib.decDigits n.natAbs).toArray⟩ := by
      unfold strOfNums
      rw [decL_bytes _ hpos]
    rw [hs]
    by_cases hn : n < 0
    · rw [if_pos hn, if_pos hn]
      apply ByteArray.ext
      rw [ByteArray.data_append]
      simp
    · rw [if_neg hn, if_neg hn]
      have : n.toNat = n.natAbs := by omega
      rw [this]
/-- A number in decimal. -/
def dec (n : Int) : ByteArray := ⟨(Lib.itoa n).toArray⟩
theorem dec_spec (n : Int) (h0 : -9223372036854775808 ≤ n) (h1 : n ≤ 9223372036854775807) : Ev (fun k => spec_l01Dec.f k n) (dec n) := by
  have := dec_loop n 20 n.natAbs [] n (by omega) (by omega) (by simp) (by omega)
  rw [List.append_nil, finD_itoa] at this
  exact this
theorem dec_size (n : Int) (h0 : -9223372036854775808 ≤ n) (h1 : n ≤ 9223372036854775807) : (dec n).size ≤ 21 := by
  have := Lib.itoa_length_le n h0 h1
  show (Lib.itoa n).toArray.size ≤ 21
  rw [List.size_toArray]
  exact this

theorem dec_impl (n : Int) (h0 : -9223372036854775808 ≤ n) (h1 : n ≤ 9223372036854775807) : impl_Decimal.f n = some (dec n) := by
  unfold impl_Decimal.f strconv_FormatInt.f
  rw [if_pos ⟨rfl, h0, h1⟩]
  rfl

/-- A number, a sign and two digits. -/
def twoT (c : ByteArray) (q a b : Nat) : ByteArray := ((dec (q : Int) ++ c) ++ dec (a : Int)) ++ dec (b : Int)
theorem dec_sz (n : Nat) (h : n ≤ 100000000) : (dec (n : Int)).size ≤ 21 := dec_size _ (by omega) (by omega)

def clockT (n : Nat) : ByteArray := twoT ⟨#[58]⟩ (n / 60) (n % 60 / 10) (n % 10)
def clockOr (n : Nat) : ByteArray := if n ≤ 20000 then clockT n else ⟨#[]⟩
theorem clock_impl (n : Nat) (hn : n ≤ 200000000) : impl_ClockText.f (n : Int) = some (clockOr n) := by
  unfold clockOr
  by_cases h : n ≤ 20000
  · rw [if_pos h]
    have z1 := dec_sz (n / 60) (by omega)
    have z2 := dec_sz (n % 60 / 10) (by omega)
    have z3 := dec_sz (n % 10) (by omega)
    have e1 : wrap64 (Int.tdiv (n : Int) 60) = ((n / 60 : Nat) : Int) := by rw [tdiv_nn (by omega)]; rw [w64 (by omega) (by omega)]; omega
    have e2 : wrap64 (Int.tdiv (Int.tmod (n : Int) 60) 10) = ((n % 60 / 10 : Nat) : Int) := by rw [tmod_nn (by omega), tdiv_nn (by omega), w64 (by omega) (by omega)]; omega
    have e3 : Int.tmod (Int.tmod (n : Int) 60) 10 = ((n % 10 : Nat) : Int) := by rw [show Int.tmod (n : Int) 60 = ((n % 60 : Nat) : Int) by rw [tmod_nn (by omega)]; omega, tmod_nn (by omega)]; omega
    have s1 : (⟨#[58]⟩ : ByteArray).size = 1 := rfl
    unfold impl_ClockText.f impl_within.f impl_twoDigits.f
    rw [if_pos (show (n : Int) ≥ 0 by omega), e1, e2, e3, dec_impl _ (by omega) (by omega), dec_impl _ (by omega) (by omega), dec_impl _ (by omega) (by omega)]
    simp only [Option.bind_some, decide_eq_true_eq, ByteArray.size_append, s1]
    rw [if_pos (by omega), if_pos (by omega), if_pos (by omega)]
    simp only [Option.bind_some, ByteArray.size_append, s1]
    rw [if_pos (by omega)]
    unfold clockT twoT
    rw [ByteArray.append_assoc, ByteArray.append_assoc, ByteArray.append_assoc]
  · rw [if_neg h]
    unfold impl_ClockText.f impl_within.f
    rw [if_pos (show (n : Int) ≥ 0 by omega)]
    simp only [Option.bind_some, decide_eq_true_eq]
    rw [if_neg (by omega)]

theorem bt_list (s : ByteArray) (i : Nat) (h : i < s.data.toList.length) : bt s (i : Int) = ((s.data.toList[i]).toNat : Int) := by
  unfold bt
  have h2 : i < s.size := by simpa using h
  rw [dif_pos (by simpa using h2)]
  rfl
theorem size_list (s : ByteArray) : s.size = s.data.toList.length := by rw [Array.length_toList]; rfl
/-- Two texts are one where their bytes are. -/
theorem bytes_ext {a b : ByteArray} (h : a.data.toList = b.data.toList) : a = b := by
  have h3 : a.data = b.data := Array.toList_inj.mp h
  cases a; cases b; exact congrArg ByteArray.mk h3
theorem toList_iff {a b : ByteArray} : a.toList = b.toList ↔ a = b := by
  constructor
  · intro h
    rw [ByteArray.toList_eq, ByteArray.toList_eq] at h
    exact bytes_ext h
  · intro h; rw [h]
def valL (l : List UInt8) : Int := l.foldl (fun a b => 10 * a + ((b.toNat : Int) - 48)) 0
theorem valL_snoc (l : List UInt8) (b : UInt8) : valL (l ++ [b]) = 10 * valL l + ((b.toNat : Int) - 48) := by unfold valL; rw [List.foldl_append]; rfl
def valD (t : ByteArray) (i : Nat) : Int := valL (t.data.toList.take i)
theorem valD_succ (t : ByteArray) (i : Nat) (h : i < t.size) : valD t (i + 1) = 10 * valD t i + (bt t (i : Int) - 48) := by
  have h2 : i < t.data.toList.length := by rw [← size_list]; exact h
  unfold valD
  rw [List.take_succ_eq_append_getElem h2, valL_snoc, bt_list t i h2]
def digitB (b : Int) : Bool := decide (48 ≤ b ∧ b ≤ 57)
def allD (t : ByteArray) : Bool := (List.range t.size).all fun i => digitB (bt t (i : Int))
theorem valD_bd (t : ByteArray) : ∀ (i : Nat), i ≤ t.size → (∀ j, j < i → digitB (bt t (j : Int)) = true) → 0 ≤ valD t i ∧ valD t i < (10 ^ i : Nat)
  | 0, _, _ => by simp [valD, valL]
  | i + 1, hi, hd => by
    have ih := valD_bd t i (by omega) (fun j hj => hd j (by omega))
    have h := of_decide_eq_true (hd i (by omega))
    rw [valD_succ t i (by omega), Nat.pow_succ]
    omega
theorem pow_le18 {i : Nat} (h : i ≤ 18) : 10 ^ i ≤ 1000000000000000000 := by
  have := Nat.pow_le_pow_right (n := 10) (by omega) h
  simpa using this
/-- What stands behind a sign. -/
def bare (s : ByteArray) : ByteArray := if 0 < s.size ∧ bt s 0 = 45 then s.extract 1 s.size else s
theorem bare_size (s : ByteArray) : (bare s).size ≤ s.size := by
  unfold bare
  split
  · rw [ByteArray.size_extract]; omega
  · exact Nat.le_refl _
def numAt (s : ByteArray) (n : Int) : Int × Bool := if dec n = s then (n, true) else (0, false)
def numEnd (s t : ByteArray) : Int × Bool := numAt s (if t.size < s.size then -valD t t.size else valD t t.size)
/-- The number with a decimal form. -/
def numV (s : ByteArray) : Int × Bool := if (bare s).size < 1 ∨ 18 < (bare s).size then (0, false) else if allD (bare s) = true then numEnd s (bare s) else (0, false)
theorem numAt_sound {s : ByteArray} {n : Int} (h : (numAt s n).2 = true) : dec (numAt s n).1 = s := by
  unfold numAt at h ⊢
  by_cases c : dec n = s
  · rw [if_pos c]; exact c
  · rw [if_neg c] at h; cases h
theorem numV_sound {s : ByteArray} (h : (numV s).2 = true) : dec (numV s).1 = s := by
  unfold numV at h ⊢
  by_cases c : (bare s).size < 1 ∨ 18 < (bare s).size
  · rw [if_pos c] at h; cases h
  · rw [if_neg c] at h ⊢
    by_cases c2 : allD (bare s) = true
    · rw [if_pos c2] at h ⊢
      exact numAt_sound h
    · rw [if_neg c2] at h; cases h
theorem numAt_bd {s : ByteArray} {n : Int} (h0 : -1000000000000000000 ≤ n) (h1 : n ≤ 1000000000000000000) : -1000000000000000000 ≤ (numAt s n).1 ∧ (numAt s n).1 ≤ 1000000000000000000 := by
  unfold numAt
  by_cases c : dec n = s
  · rw [if_pos c]; exact ⟨h0, h1⟩
  · rw [if_neg c]; simp
theorem numV_bd (s : ByteArray) : -1000000000000000000 ≤ (numV s).1 ∧ (numV s).1 ≤ 1000000000000000000 := by
  unfold numV
  by_cases c : (bare s).size < 1 ∨ 18 < (bare s).size
  · rw [if_pos c]; simp
  · rw [if_neg c]
    by_cases c2 : allD (bare s) = true
    · rw [if_pos c2]
      have h := valD_bd (bare s) (bare s).size (Nat.le_refl _) (fun j hj => List.all_eq_true.1 c2 j (List.mem_range.2 hj))
      have hp := pow_le18 (i := (bare s).size) (by omega)
      unfold numEnd
      split
      · exact numAt_bd (by omega) (by omega)
      · exact numAt_bd (by omega) (by omega)
    · rw [if_neg c2]; simp
theorem dec_digits {u : Nat} : ∀ b ∈ Lib.decDigits u, 48 ≤ b.toNat ∧ b.toNat ≤ 57 := by
  induction u using Nat.strongRecOn with
  | _ u ih =>
    intro b hb
    rw [Lib.decDigits] at hb
    split at hb
    · rename_i h10
      rw [List.mem_singleton] at hb
      subst hb
      rw [UInt8.toNat_ofNat']
      omega
    · rename_i h10
      rw [List.mem_append] at hb
      rcases hb with hb | hb
      · exact ih (u / 10) (by omega) b hb
      · rw [List.mem_singleton] at hb
        subst hb
        rw [UInt8.toNat_ofNat']
        omega
theorem dec_val (u : Nat) : valL (Lib.decDigits u) = u := by
  induction u using Nat.strongRecOn with
  | _ u ih =>
    rw [Lib.decDigits]
    split
    · rename_i h10
      show 10 * 0 + (((UInt8.ofNat (48 + u)).toNat : Int) - 48) = u
      rw [UInt8.toNat_ofNat']
      omega
    · rename_i h10
      rw [valL_snoc, ih (u / 10) (by omega), UInt8.toNat_ofNat']
      omega
theorem nDigits_le : ∀ (m u : Nat), u < 10 ^ (m + 1) → Lib.nDigits u ≤ m + 1
  | 0, u, h => by rw [Lib.nDigits_small (by simpa using h)]; omega
  | m + 1, u, h => by
    by_cases h10 : u < 10
    · rw [Lib.nDigits_small h10]; omega
    · rw [Lib.nDigits_big h10]
      rw [Nat.pow_succ] at h
      have := nDigits_le m (u / 10) (by omega)
      omega
/-- A number that is not negative, written and read back. -/
theorem numV_dec (n : Nat) (h : n < 1000000000000000000) : numV (dec (n : Int)) = ((n : Int), true) := by
  have hl : (dec (n : Int)).data.toList = Lib.decDigits n := by
    show (Lib.itoa (n : Int)).toArray.toList = _
    rw [Lib.itoa_nonneg]
  have hsz : (dec (n : Int)).size = Lib.nDigits n := by rw [size_list, hl, Lib.decDigits_length]
  have hn18 := nDigits_le 17 n (by omega)
  have hn1 := Lib.nDigits_pos n
  have hd : ∀ j, j < (dec (n : Int)).size → digitB (bt (dec (n : Int)) (j : Int)) = true := by
    intro j hj
    have hj2 : j < (dec (n : Int)).data.toList.length := by rw [← size_list]; exact hj
    rw [bt_list _ j hj2]
    have := dec_digits (u := n) ((dec (n : Int)).data.toList[j]) (by rw [← hl]; exact List.getElem_mem hj2)
    exact decide_eq_true (by omega)
  have hb : bare (dec (n : Int)) = dec (n : Int) := by
    unfold bare
    rw [if_neg]
    rintro ⟨g0, g1⟩
    have := of_decide_eq_true (hd 0 g0)
    rw [show ((0 : Nat) : Int) = 0 from rfl] at this
    omega
  have hv : valD (dec (n : Int)) (dec (n : Int)).size = n := by
    unfold valD
    rw [size_list, List.take_length, hl, dec_val]
  unfold numV
  rw [hb, if_neg (by omega), if_pos (show allD (dec (n : Int)) = true from List.all_eq_true.2 fun j hj => hd j (List.mem_range.1 hj))]
  unfold numEnd numAt
  rw [if_neg (Nat.lt_irrefl _), hv, if_pos rfl]

theorem digit_spec (b : Int) : spec_l01Digit.f b = some (digitB b) := by
  unfold spec_l01Digit.f digitB
  by_cases h : b ≥ 48
  · rw [if_pos h]; congr 1; apply Bool.eq_iff_iff.mpr; simp; omega
  · rw [if_neg h]; congr 1; symm; simp; omega
theorem num_loop_spec (s t : ByteArray) (h18 : t.size ≤ 18) (hts : t.size ≤ s.size) : Ev (fun k => spec_l01Number.l0 k s t 0 0) (if allD t = true then numEnd s t else (0, false)) := by
  have key : ∀ (d i : Nat), i + d = t.size → (∀ j, j < i → digitB (bt t (j : Int)) = true) → Ev (fun k => spec_l01Number.l0 k s t (valD t i) i) (if allD t = true then numEnd s t else (0, false)) := by
    intro d
    induction d with
    | zero =>
      intro i hi hd
      obtain rfl : i = t.size := by omega
      have ha : allD t = true := List.all_eq_true.2 fun j hj => hd j (List.mem_range.1 hj)
      have hb := valD_bd t t.size (Nat.le_refl _) hd
      have hp := pow_le18 h18
      rw [if_pos ha]
      unfold numEnd numAt
      by_cases c : t.size < s.size
      · rw [if_pos c]
        obtain ⟨K, hK⟩ := Ev.pick (dec_spec (-valD t t.size) (by omega) (by omega))
        refine Ev.step (f := fun k => (spec_l01Dec.f k (-valD t t.size)).bind fun t117 => if t117.toList = s.toList then some (-valD t t.size, true) else some (0, false)) (fun k => ?_) (Ev.intro K fun k hk => ?_)
        · simp only [spec_l01Number.l0]
          rw [if_neg (by omega), if_pos (by omega), w64 (x := -valD t t.size) (by omega) (by omega)]
        · rw [hK k hk]
          simp only [Option.bind_some, toList_iff]
          split <;> rfl
      · rw [if_neg c]
        obtain ⟨K, hK⟩ := Ev.pick (dec_spec (valD t t.size) (by omega) (by omega))
        refine Ev.step (f := fun k => (spec_l01Dec.f k (valD t t.size)).bind fun t117 => if t117.toList = s.toList then some (valD t t.size, true) else some (0, false)) (fun k => ?_) (Ev.intro K fun k hk => ?_)
        · simp only [spec_l01Number.l0]
          rw [if_neg (by omega), if_neg (by omega)]
        · rw [hK k hk]
          simp only [Option.bind_some, toList_iff]
          split <;> rfl
    | succ d ih =>
      intro i hi hd
      have hb := valD_bd t i (by omega) hd
      have hp := pow_le18 (i := i) (by omega)
      have hr := bt_range t (i : Int)
      cases hdi : digitB (bt t (i : Int)) with
      | true =>
        have hdig := of_decide_eq_true hdi
        have ih2 := ih (i + 1) (by omega) (fun j hj => by
          by_cases e : j = i
          · subst e; exact hdi
          · exact hd j (by omega))
        refine Ev.step (fun k => ?_) ih2
        simp only [spec_l01Number.l0]
        rw [if_pos (by omega), if_pos (by omega), digit_spec, hdi]
        simp only [Option.bind_some, if_true]
        have hps : (10 ^ i : Nat) ≤ 100000000000000000 := by
          have := Nat.pow_le_pow_right (n := 10) (by omega) (show i ≤ 17 by omega)
          simpa using this
        rw [valD_succ t i (by omega), mod256 (by omega) (by omega), w64 (x := 10 * valD t i) (by omega) (by omega), w64 (x := 10 * valD t i + _) (by omega) (by omega), w64 (x := (i : Int) + 1) (by omega) (by omega)]
        rfl
      | false =>
        have ha : ¬ allD t = true := fun g => by
          have := List.all_eq_true.1 g i (List.mem_range.2 (by omega))
          rw [hdi] at this
          cases this
        rw [if_neg ha]
        refine Ev.const fun k => ?_
        simp only [spec_l01Number.l0]
        rw [if_pos (by omega), if_pos (by omega), digit_spec, hdi]
        rfl
  exact key t.size 0 (by omega) (fun j hj => absurd hj (Nat.not_lt_zero _))
theorem num_spec (s : ByteArray) (hs : s.size ≤ 140737488351232) : Ev (fun k => spec_l01Number.f k s) (numV s) := by
  have tail : ∀ t : ByteArray, t.size ≤ s.size → Ev (fun k => spec_l01Number.j1 k s t) (if t.size < 1 ∨ 18 < t.size then (0, false) else if allD t = true then numEnd s t else (0, false)) := by
    intro t ht
    by_cases c1 : t.size < 1
    · rw [if_pos (.inl c1)]
      refine Ev.intro 2 fun k hk => ?_
      obtain ⟨m, rfl⟩ : ∃ m, k = m + 2 := ⟨k - 2, by omega⟩
      simp only [spec_l01Number.j1]
      rw [if_pos (by omega)]
      simp only [spec_l01Number.j2, if_true]
    · by_cases c2 : 18 < t.size
      · rw [if_pos (.inr c2)]
        refine Ev.intro 2 fun k hk => ?_
        obtain ⟨m, rfl⟩ : ∃ m, k = m + 2 := ⟨k - 2, by omega⟩
        simp only [spec_l01Number.j1]
        rw [if_neg (by omega), decide_eq_true (by omega)]
        simp only [spec_l01Number.j2, if_true]
      · rw [if_neg (by omega)]
        refine Ev.step (f := fun k => spec_l01Number.j2 k s t false) (fun k => ?_) (Ev.step (fun k => ?_) (num_loop_spec s t (by omega) ht))
        · simp only [spec_l01Number.j1]
          rw [if_neg (by omega), decide_eq_false (by omega)]
        · simp only [spec_l01Number.j2, Bool.false_eq_true, if_false]
  unfold numV
  by_cases h0 : s.size = 0
  · have hb : bare s = s := by unfold bare; rw [if_neg (by omega)]
    have hn : s.toList = ([] : List UInt8) := List.eq_nil_of_length_eq_zero (by rw [size_toList, h0])
    rw [hb]
    refine Ev.congr (f := fun k => spec_l01Number.j0 k s s false) (fun k => ?_) (Ev.step (fun k => ?_) (tail s (Nat.le_refl _)))
    · unfold spec_l01Number.f
      rw [if_pos hn]
    · simp only [spec_l01Number.j0, Bool.false_eq_true, if_false]
  · have hn : ¬ s.toList = ([] : List UInt8) := fun g => h0 (by rw [← size_toList, g]; rfl)
    refine Ev.congr (f := fun k => spec_l01Number.j0 k s s (bt s 0 == 45)) (fun k => ?_) ?_
    · unfold spec_l01Number.f
      rw [if_neg hn, if_pos (by omega)]
    · by_cases h45 : bt s 0 = 45
      · have hb : bare s = s.extract 1 s.size := by unfold bare; rw [if_pos ⟨by omega, h45⟩]
        have he : (bt s 0 == 45) = true := by simpa using h45
        rw [he]
        refine Ev.step (fun k => ?_) (tail (bare s) (bare_size s))
        rw [hb]
        simp only [spec_l01Number.j0, if_true]
        rw [if_pos (by omega)]
      · have hb : bare s = s := by unfold bare; rw [if_neg (fun g => h45 g.2)]
        have he : (bt s 0 == 45) = false := by simpa using h45
        rw [hb, he]
        refine Ev.step (fun k => ?_) (tail s (Nat.le_refl _))
        simp only [spec_l01Number.j0, Bool.false_eq_true, if_false]

theorem num_loop_impl (s t : ByteArray) (h18 : t.size ≤ 18) (hts : t.size ≤ s.size) : Ev (fun k => impl_ReadDecimal.l0 k s t 0 0) (if allD t = true then numEnd s t else (0, false)) := by
  have key : ∀ (d i : Nat), i + d = t.size → (∀ j, j < i → digitB (bt t (j : Int)) = true) → Ev (fun k => impl_ReadDecimal.l0 k s t (valD t i) i) (if allD t = true then numEnd s t else (0, false)) := by
    intro d
    induction d with
    | zero =>
      intro i hi hd
      obtain rfl : i = t.size := by omega
      have ha : allD t = true := List.all_eq_true.2 fun j hj => hd j (List.mem_range.1 hj)
      have hb := valD_bd t t.size (Nat.le_refl _) hd
      have hp := pow_le18 h18
      rw [if_pos ha]
      unfold numEnd numAt
      by_cases c : t.size < s.size
      · rw [if_pos c]
        refine Ev.const fun k => ?_
        simp only [impl_ReadDecimal.l0]
        rw [if_neg (by omega), if_pos (by omega), w64 (x := -valD t t.size) (by omega) (by omega), dec_impl (-valD t t.size) (by omega) (by omega)]
        simp only [Option.bind_some, toList_iff]
        split <;> rfl
      · rw [if_neg c]
        refine Ev.const fun k => ?_
        simp only [impl_ReadDecimal.l0]
        rw [if_neg (by omega), if_neg (by omega), dec_impl (valD t t.size) (by omega) (by omega)]
        simp only [Option.bind_some, toList_iff]
        split <;> rfl
    | succ d ih =>
      intro i hi hd
      have hb := valD_bd t i (by omega) hd
      have hp := pow_le18 (i := i) (by omega)
      have hr := bt_range t (i : Int)
      cases hdi : digitB (bt t (i : Int)) with
      | true =>
        have hdig := of_decide_eq_true hdi
        have ih2 := ih (i + 1) (by omega) (fun j hj => by
          by_cases e : j = i
          · subst e; exact hdi
          · exact hd j (by omega))
        refine Ev.step (fun k => ?_) ih2
        simp only [impl_ReadDecimal.l0]
        rw [if_pos (by omega), if_pos (by omega), if_neg (by omega), if_neg (by omega)]
        have hps : (10 ^ i : Nat) ≤ 100000000000000000 := by
          have := Nat.pow_le_pow_right (n := 10) (by omega) (show i ≤ 17 by omega)
          simpa using this
        rw [valD_succ t i (by omega), mod256 (by omega) (by omega), w64 (x := 10 * valD t i) (by omega) (by omega), w64 (x := 10 * valD t i + _) (by omega) (by omega), w64 (x := (i : Int) + 1) (by omega) (by omega)]
        rfl
      | false =>
        have ha : ¬ allD t = true := fun g => by
          have := List.all_eq_true.1 g i (List.mem_range.2 (by omega))
          rw [hdi] at this
          cases this
        rw [if_neg ha]
        have hdig := of_decide_eq_false hdi
        refine Ev.const fun k => ?_
        simp only [impl_ReadDecimal.l0]
        rw [if_pos (by omega), if_pos (by omega)]
        by_cases c : bt t (i : Int) < 48
        · rw [if_pos c]
        · rw [if_neg c, if_pos (by omega)]
  exact key t.size 0 (by omega) (fun j hj => absurd hj (Nat.not_lt_zero _))
theorem prefix_one (s : ByteArray) : strings_TrimPrefix.f s (⟨#[45]⟩ : ByteArray) = some (bare s) := by
  unfold strings_TrimPrefix.f stringslite_TrimPrefix.f stringslite_HasPrefix.f
  have z : (⟨#[45]⟩ : ByteArray).size = 1 := rfl
  rw [z]
  by_cases h0 : s.size = 0
  · rw [if_neg (by omega)]
    simp only [Option.bind_some, Bool.false_eq_true, if_false]
    unfold bare
    rw [if_neg (by omega)]
  · rw [if_pos (by omega), if_pos (by omega), if_pos (by omega)]
    simp only [Option.bind_some]
    have e1 : ((1 : Nat) : Int).toNat = 1 := rfl
    rw [e1]
    have hl : 0 < s.data.toList.length := by rw [← size_list]; omega
    have hb0 := bt_list s 0 hl
    have key : (((s.extract 0 1).toList == (⟨#[45]⟩ : ByteArray).toList) = true) ↔ bt s 0 = 45 := by
      rw [beq_iff_eq, toList_iff]
      have hx : (s.extract 0 1).data.toList = [s.data.toList[0]] := by
        rw [Lib.extract_data]
        rw [List.drop_zero, Nat.sub_zero, List.take_succ_eq_append_getElem hl, List.take_zero]
        rfl
      rw [show (0 : Int) = ((0 : Nat) : Int) from rfl, hb0]
      constructor
      · intro g
        rw [g] at hx
        have h2 : [(45 : UInt8)] = [s.data.toList[0]] := hx
        have h3 : (45 : UInt8) = s.data.toList[0] := by simpa using h2
        rw [← h3]; rfl
      · intro g
        apply bytes_ext
        rw [hx]
        show [s.data.toList[0]] = [(45 : UInt8)]
        have h3 : s.data.toList[0] = 45 := UInt8.toNat_inj.mp (by
          have : (s.data.toList[0]).toNat = 45 := by omega
          rw [this]; rfl)
        rw [h3]
    unfold bare
    by_cases h45 : bt s 0 = 45
    · have hb := key.mpr h45
      rw [hb]
      simp only [if_true]
      rw [if_pos (by omega), if_pos (by omega), if_pos ⟨by omega, h45⟩]
      rfl
    · have hb : ((s.extract 0 1).toList == (⟨#[45]⟩ : ByteArray).toList) = false := Bool.eq_false_iff.mpr fun g => h45 (key.mp g)
      rw [hb]
      simp only [Bool.false_eq_true, if_false]
      rw [if_neg (fun g => h45 g.2)]
      rfl
theorem num_impl (s : ByteArray) (hs : s.size ≤ 140737488351232) : Ev (fun k => impl_ReadDecimal.f k s) (numV s) := by
  have ht := bare_size s
  unfold numV
  have h1 : ∀ k, impl_ReadDecimal.f k s = if ((bare s).size : Int) < 1 then impl_ReadDecimal.j0 k s (bare s) true else impl_ReadDecimal.j0 k s (bare s) (decide (((bare s).size : Int) > 18)) := by
    intro k
    unfold impl_ReadDecimal.f
    rw [prefix_one]
    rfl
  generalize bare s = t at *
  by_cases c1 : t.size < 1
  · rw [if_pos (.inl c1)]
    refine Ev.const fun k => ?_
    rw [h1, if_pos (by omega)]
    simp only [impl_ReadDecimal.j0, if_true]
  · by_cases c2 : 18 < t.size
    · rw [if_pos (.inr c2)]
      refine Ev.const fun k => ?_
      rw [h1, if_neg (by omega), decide_eq_true (by omega)]
      simp only [impl_ReadDecimal.j0, if_true]
    · rw [if_neg (by omega)]
      refine Ev.step (fun k => ?_) (num_loop_impl s t (by omega) ht)
      rw [h1, if_neg (by omega), decide_eq_false (by omega)]
      simp only [impl_ReadDecimal.j0, Bool.false_eq_true, if_false]

theorem app_list (a b : ByteArray) : (a ++ b).data.toList = a.data.toList ++ b.data.toList := by rw [ByteArray.data_append, Array.toList_append]
theorem ext_list (s : ByteArray) (i j : Nat) : (s.extract i j).data.toList = (s.data.toList.drop i).take (j - i) := Lib.extract_data s i j
theorem dec_list (n : Nat) : (dec (n : Int)).data.toList = Lib.decDigits n := by
  show (Lib.itoa (n : Int)).toArray.toList = _
  rw [Lib.itoa_nonneg]
theorem digit_ne {u : Nat} {b c : UInt8} (hb : b ∈ Lib.decDigits u) (hc : c.toNat < 48 ∨ 57 < c.toNat) : ¬ b = c := by
  intro e
  have := dec_digits b hb
  subst e
  omega
theorem bt_byte {s : ByteArray} {l : List UInt8} (h : s.data.toList = l) (j : Nat) (hj : j < l.length) : bt s (j : Int) = ((l[j]).toNat : Int) := by
  subst h
  exact bt_list s j hj
theorem index_at (D R : List UInt8) (c : UInt8) (h : ∀ b ∈ D, ¬ b = c) : Lib.index (D ++ c :: R) [c] = (D.length : Int) := by
  induction D with
  | nil => simp [Lib.index]
  | cons b D ih =>
    have hb : ¬ b = c := h b List.mem_cons_self
    have ih := ih (fun x hx => h x (List.mem_cons_of_mem _ hx))
    rw [List.cons_append, Lib.index]
    have hp : [c].isPrefixOf (b :: (D ++ c :: R)) = false := by
      simp only [List.isPrefixOf, Bool.and_true]
      exact beq_eq_false_iff_ne.mpr fun e => hb e.symm
    rw [hp, ih]
    have h1 : (((D.length : Int)) == -1) = false := by
      apply beq_eq_false_iff_ne.mpr
      omega
    rw [h1]
    simp
theorem cut_hit (D R : List UInt8) (c : UInt8) (h : ∀ b ∈ D, ¬ b = c) : Lib.cut (D ++ c :: R) [c] = (D, R, true) := by
  unfold Lib.cut
  rw [index_at D R c h, if_pos (by omega)]
  rw [Int.toNat_natCast, List.take_left]
  rw [show D ++ c :: R = (D ++ [c]) ++ R by simp, show D.length + [c].length = (D ++ [c]).length by simp, List.drop_left]
theorem cut_len (l : List UInt8) (c : List UInt8) : (Lib.cut l c).1.length ≤ l.length ∧ (Lib.cut l c).2.1.length ≤ l.length := by
  unfold Lib.cut
  split
  · exact ⟨by simp only [List.length_take]; omega, by simp only [List.length_drop]; omega⟩
  · simp
theorem mk_size (l : List UInt8) : (⟨l.toArray⟩ : ByteArray).size = l.length := by show l.toArray.size = _; rw [List.size_toArray]
theorem mk_list (l : List UInt8) : (⟨l.toArray⟩ : ByteArray).data.toList = l := rfl
/-- A text's parts between signs, the part that is under way ahead. -/
def splitA : List UInt8 → List UInt8 → UInt8 → List (List UInt8)
  | P, [], _ => [P]
  | P, b :: r, c => if b = c then P :: splitA [] r c else splitA (P ++ [b]) r c
theorem splitA_ne (c : UInt8) : ∀ (l P : List UInt8), splitA P l c ≠ []
  | [], P => by unfold splitA; exact List.cons_ne_nil _ _
  | b :: r, P => by
    unfold splitA
    split
    · exact List.cons_ne_nil _ _
    · exact splitA_ne c r _
theorem splitA_len (c : UInt8) : ∀ (l P : List UInt8), (splitA P l c).length ≤ l.length + 1
  | [], P => by simp [splitA]
  | b :: r, P => by
    unfold splitA
    split
    · have := splitA_len c r []
      simp only [List.length_cons]; omega
    · have := splitA_len c r (P ++ [b])
      simp only [List.length_cons]; omega
theorem splitA_no (c : UInt8) : ∀ (l P : List UInt8), (∀ b ∈ l, ¬ b = c) → splitA P l c = [P ++ l]
  | [], P, _ => by simp [splitA]
  | b :: r, P, h => by
    rw [splitA, if_neg (h b List.mem_cons_self), splitA_no c r _ (fun x hx => h x (List.mem_cons_of_mem _ hx))]
    simp
theorem splitA_hit (c : UInt8) (R : List UInt8) : ∀ (D P : List UInt8), (∀ b ∈ D, ¬ b = c) → splitA P (D ++ c :: R) c = (P ++ D) :: splitA [] R c
  | [], P, _ => by rw [List.nil_append, splitA, if_pos rfl, List.append_nil]
  | b :: D, P, h => by
    rw [List.cons_append, splitA, if_neg (h b List.mem_cons_self), splitA_hit c R D _ (fun x hx => h x (List.mem_cons_of_mem _ hx))]
    simp
theorem splitA_one (c : UInt8) : ∀ (l P x : List UInt8), splitA P l c = [x] → x = P ++ l
  | [], P, x, h => by
    rw [splitA] at h
    rw [List.append_nil]
    exact (List.cons.inj h).1.symm
  | b :: r, P, x, h => by
    rw [splitA] at h
    by_cases e : b = c
    · rw [if_pos e] at h
      exact absurd (List.cons.inj h).2 (splitA_ne c r [])
    · rw [if_neg e] at h
      rw [splitA_one c r _ x h]
      simp
theorem splitA_two (c : UInt8) : ∀ (l P x y : List UInt8), splitA P l c = [x, y] → P ++ l = x ++ c :: y
  | [], P, x, y, h => by rw [splitA] at h; exact absurd (congrArg List.length h) (by simp)
  | b :: r, P, x, y, h => by
    rw [splitA] at h
    by_cases e : b = c
    · rw [if_pos e] at h
      have h2 := List.cons.inj h
      have := splitA_one c r [] y h2.2
      rw [this, h2.1, e, List.nil_append]
    · rw [if_neg e] at h
      have := splitA_two c r _ x y h
      rw [← this]
      simp
def asText (l : List UInt8) : ByteArray := ⟨l.toArray⟩
theorem split_loop (s : ByteArray) (hs : s.size ≤ 1048576) (c : UInt8) : ∀ (d i i0 : Nat) (acc : List ByteArray), i + d = s.size → i0 ≤ i → acc.length ≤ i →
    Ev (fun k => spec_l01Split.l0 k s (c.toNat : Int) acc (i0 : Int) (i : Int)) (acc ++ (splitA ((s.data.toList.drop i0).take (i - i0)) (s.data.toList.drop i) c).map asText)
  | 0, i, i0, acc, hi, h0, ha => by
    obtain rfl : i = s.size := by omega
    rw [List.drop_of_length_le (i := s.size) (by rw [size_list]; exact Nat.le_refl _), splitA, List.map_cons, List.map_nil]
    have e : asText ((s.data.toList.drop i0).take (s.size - i0)) = s.extract i0 s.size := bytes_ext (by rw [ext_list]; rfl)
    rw [e]
    refine Ev.const fun k => ?_
    simp only [spec_l01Split.l0]
    rw [if_neg (by omega), if_pos (by omega), if_pos (by omega), if_pos (by omega), Int.toNat_natCast]
  | d + 1, i, i0, acc, hi, h0, ha => by
    have hil : i < s.data.toList.length := by rw [← size_list]; omega
    rw [List.drop_eq_getElem_cons hil, splitA]
    by_cases e : s.data.toList[i] = c
    · rw [if_pos e, List.map_cons]
      have e2 : asText ((s.data.toList.drop i0).take (i - i0)) = s.extract i0 i := bytes_ext (by rw [ext_list]; rfl)
      rw [e2]
      have ih := split_loop s hs c d (i + 1) (i + 1) (acc ++ [s.extract i0 i]) (by omega) (Nat.le_refl _) (by rw [List.length_append, List.length_cons, List.length_nil]; omega)
      rw [Nat.sub_self, List.take_zero, List.append_assoc, List.singleton_append] at ih
      refine Ev.step (fun k => ?_) ih
      simp only [spec_l01Split.l0]
      rw [if_pos (by omega), if_pos (by omega), bt_list s i hil, e, if_pos rfl, if_pos (by omega), if_pos (by omega), if_pos (by omega), if_pos (by omega), Int.toNat_natCast, Int.toNat_natCast, w64 (by omega) (by omega)]
      rfl
    · rw [if_neg e]
      have ih := split_loop s hs c d (i + 1) i0 acc (by omega) (by omega) (by omega)
      have e2 : (s.data.toList.drop i0).take (i + 1 - i0) = (s.data.toList.drop i0).take (i - i0) ++ [s.data.toList[i]] := by
        have hl : i - i0 < (s.data.toList.drop i0).length := by rw [List.length_drop]; omega
        rw [show i + 1 - i0 = (i - i0) + 1 by omega, List.take_succ_eq_append_getElem hl, List.getElem_drop]
        congr 3
        omega
      rw [e2] at ih
      refine Ev.step (fun k => ?_) ih
      have hne : ¬ (((s.data.toList[i]).toNat : Int) = (c.toNat : Int)) := fun g => e (UInt8.toNat_inj.mp (by omega))
      simp only [spec_l01Split.l0]
      rw [if_pos (by omega), if_pos (by omega), bt_list s i hil, if_neg hne, w64 (by omega) (by omega)]
      rfl
theorem split_ev (s : ByteArray) (hs : s.size ≤ 1048576) (c : UInt8) : Ev (fun k => spec_l01Split.f k s (c.toNat : Int)) ((splitA [] s.data.toList c).map asText) := by
  have h := split_loop s hs c s.size 0 0 [] (by omega) (Nat.le_refl _) (by simp)
  rw [Nat.sub_zero, List.take_zero, List.drop_zero, List.nil_append] at h
  exact h
theorem dec_one (a : Nat) (h : a < 10) : (dec (a : Int)).data.toList = [UInt8.ofNat (48 + a)] := by
  rw [dec_list, Lib.decDigits, dif_pos h]
theorem two_list (c q a b : Nat) (cs : ByteArray) (cb : UInt8) (hc : cs.data.toList = [cb]) (ha : a < 10) (hb : b < 10) : (twoT cs q a b).data.toList = Lib.decDigits q ++ cb :: [UInt8.ofNat (48 + a), UInt8.ofNat (48 + b)] := by
  unfold twoT
  rw [app_list, app_list, app_list, dec_list, hc, dec_one a ha, dec_one b hb]
  simp
theorem clock_list (n : Nat) : (clockT n).data.toList = Lib.decDigits (n / 60) ++ 58 :: [UInt8.ofNat (48 + n % 60 / 10), UInt8.ofNat (48 + n % 10)] :=
  two_list 0 _ _ _ _ 58 rfl (by omega) (by omega)
theorem of_inj {a b : Nat} (ha : a < 10) (hb : b < 10) (h : UInt8.ofNat (48 + a) = UInt8.ofNat (48 + b)) : a = b := by
  have := congrArg UInt8.toNat h
  rw [UInt8.toNat_ofNat', UInt8.toNat_ofNat'] at this
  omega
theorem clock_inj {n m : Nat} (hq : n / 60 = m / 60) (h : clockT n = clockT m) : n = m := by
  have := congrArg (fun x : ByteArray => x.data.toList) h
  simp only [clock_list] at this
  rw [hq] at this
  have h2 := List.append_cancel_left this
  have h3 := (List.cons.inj h2).2
  have h4 := List.cons.inj h3
  have h5 := (List.cons.inj h4.2).1
  have e1 := of_inj (by omega) (by omega) h4.1
  have e2 := of_inj (by omega) (by omega) h5
  omega
theorem loop_miss (s : ByteArray) (h : Nat) (hh : h ≤ 333) : ∀ (d c : Nat), c + d = 60 * h + 60 → (∀ j, c ≤ j → j < 60 * h + 60 → ¬ clockOr j = s) → Ev (fun k => impl_ReadClock.l0 k s (h : Int) (c : Int)) (0, false)
  | 0, c, hc, _ => by
    refine Ev.const fun k => ?_
    simp only [impl_ReadClock.l0]
    rw [w64 (x := (h : Int) * 60) (by omega) (by omega), w64 (by omega) (by omega), if_neg (by omega)]
  | d + 1, c, hc, hn => by
    refine Ev.step (fun k => ?_) (loop_miss s h hh d (c + 1) (by omega) (fun j h1 h2 => hn j (by omega) h2))
    simp only [impl_ReadClock.l0]
    rw [w64 (x := (h : Int) * 60) (by omega) (by omega), w64 (x := (h : Int) * 60 + 60) (by omega) (by omega), if_pos (by omega), clock_impl c (by omega), Option.bind_some, if_neg (fun g => hn c (Nat.le_refl _) (by omega) (toList_iff.1 g)), w64 (by omega) (by omega)]
    rfl
theorem loop_hit (s : ByteArray) (h n : Nat) (hh : h ≤ 333) (hn : n < 60 * h + 60) (hs : clockOr n = s) : ∀ (d c : Nat), c + d = n → (∀ j, c ≤ j → j < n → ¬ clockOr j = s) → Ev (fun k => impl_ReadClock.l0 k s (h : Int) (c : Int)) ((n : Int), true)
  | 0, c, hc, _ => by
    obtain rfl : c = n := by omega
    refine Ev.const fun k => ?_
    simp only [impl_ReadClock.l0]
    rw [w64 (x := (h : Int) * 60) (by omega) (by omega), w64 (x := (h : Int) * 60 + 60) (by omega) (by omega), if_pos (by omega), clock_impl c (by omega), Option.bind_some, if_pos (toList_iff.2 hs)]
  | d + 1, c, hc, hno => by
    refine Ev.step (fun k => ?_) (loop_hit s h n hh hn hs d (c + 1) (by omega) (fun j h1 h2 => hno j (by omega) h2))
    simp only [impl_ReadClock.l0]
    rw [w64 (x := (h : Int) * 60) (by omega) (by omega), w64 (x := (h : Int) * 60 + 60) (by omega) (by omega), if_pos (by omega), clock_impl c (by omega), Option.bind_some, if_neg (fun g => hno c (Nat.le_refl _) (by omega) (toList_iff.1 g)), w64 (by omega) (by omega)]
    rfl
theorem impl_hit (n : Nat) (hn : n ≤ 20000) : Ev (fun k => impl_ReadClock.f k (clockT n)) ((n : Int), true) := by
  have hl := clock_list n
  have hcut := cut_hit (Lib.decDigits (n / 60)) [UInt8.ofNat (48 + n % 60 / 10), UInt8.ofNat (48 + n % 10)] 58 (fun b hb => digit_ne hb (Or.inr (by decide)))
  have hx : (⟨(Lib.decDigits (n / 60)).toArray⟩ : ByteArray) = dec ((n / 60 : Nat) : Int) := bytes_ext (by rw [dec_list])
  have hz1 := dec_sz (n / 60) (by omega)
  have hs : (clockT n).size < 4294967281 := by
    have := dec_sz (n % 60 / 10) (by omega)
    have := dec_sz (n % 10) (by omega)
    unfold clockT twoT
    rw [ByteArray.size_append, ByteArray.size_append, ByteArray.size_append, show (⟨#[58]⟩ : ByteArray).size = 1 from rfl]
    omega
  obtain ⟨K1, g1⟩ := Ev.pick (num_impl (dec ((n / 60 : Nat) : Int)) (by omega))
  rw [numV_dec _ (by omega)] at g1
  have e : ∀ m, m ≤ 20000 → clockOr m = clockT m := fun m hm => if_pos hm
  obtain ⟨K2, g2⟩ := Ev.pick (loop_hit (clockT n) (n / 60) n (by omega) (by omega) (e n hn) (n - 60 * (n / 60)) (60 * (n / 60)) (by omega) (fun j h1 h2 g => by
    rw [e j (by omega)] at g
    have := clock_inj (by omega) g
    omega))
  refine Ev.intro (K1 + K2 + 1) fun k hk => ?_
  obtain ⟨q, rfl⟩ : ∃ q, k = q + 1 := ⟨k - 1, by omega⟩
  unfold impl_ReadClock.f strings_Cut.f impl_within.f
  rw [if_pos hs, hl, show (⟨#[58]⟩ : ByteArray).data.toList = [58] from rfl, hcut]
  simp only [Option.bind_some]
  rw [hx, g1 _ (by omega)]
  simp only [Option.bind_some, if_true]
  rw [if_pos (by omega)]
  simp only [Option.bind_some, decide_eq_true_eq]
  rw [if_pos (by omega)]
  simp only [mk_size, List.length_cons, List.length_nil, impl_ReadClock.j0]
  rw [if_neg (by decide), w64 (by omega) (by omega)]
  have := g2 q (by omega)
  rw [show ((60 * (n / 60) : Nat) : Int) = ((n / 60 : Nat) : Int) * 60 by omega] at this
  exact this
theorem impl_miss (s : ByteArray) (hs : s.size ≤ 1048576) (hn : ∀ n, n ≤ 20000 → ¬ clockT n = s) : Ev (fun k => impl_ReadClock.f k s) (0, false) := by
  have hcl := cut_len s.data.toList (⟨#[58]⟩ : ByteArray).data.toList
  have hcut : strings_Cut.f s (⟨#[58]⟩ : ByteArray) = some (⟨(Lib.cut s.data.toList (⟨#[58]⟩ : ByteArray).data.toList).1.toArray⟩, ⟨(Lib.cut s.data.toList (⟨#[58]⟩ : ByteArray).data.toList).2.1.toArray⟩, (Lib.cut s.data.toList (⟨#[58]⟩ : ByteArray).data.toList).2.2) := by
    unfold strings_Cut.f
    rw [if_pos (by omega)]
  generalize Lib.cut s.data.toList (⟨#[58]⟩ : ByteArray).data.toList = t at hcl hcut
  obtain ⟨x, y, ok⟩ := t
  simp only at hcl hcut
  rw [← size_list] at hcl
  obtain ⟨K1, g1⟩ := Ev.pick (num_impl ⟨x.toArray⟩ (by rw [mk_size]; omega))
  generalize hv : numV ⟨x.toArray⟩ = v at g1
  obtain ⟨h, one⟩ := v
  have nope : ∀ k, impl_ReadClock.j0 (k + 1) s h true = some (0, false) := fun k => by simp only [impl_ReadClock.j0, if_true]
  by_cases c : ok = true ∧ one = true ∧ (0 ≤ h ∧ h ≤ 333) ∧ y.length = 2
  · obtain ⟨rfl, rfl, ⟨h0, h1⟩, hy⟩ := c
    obtain ⟨m, rfl⟩ : ∃ m : Nat, h = (m : Int) := ⟨h.toNat, by omega⟩
    obtain ⟨K2, g2⟩ := Ev.pick (loop_miss s m (by omega) 60 (60 * m) (by omega) (fun j _ _ g => by
      unfold clockOr at g
      by_cases c : j ≤ 20000
      · rw [if_pos c] at g; exact hn j c g
      · rw [if_neg c] at g
        have := congrArg ByteArray.size g
        rw [show (⟨#[]⟩ : ByteArray).size = 0 from rfl] at this
        omega))
    refine Ev.intro (K1 + K2 + 1) fun k hk => ?_
    obtain ⟨q, rfl⟩ : ∃ q, k = q + 1 := ⟨k - 1, by omega⟩
    unfold impl_ReadClock.f impl_within.f
    rw [hcut]
    simp only [Option.bind_some]
    rw [g1 _ (by omega)]
    simp only [Option.bind_some, if_true]
    rw [if_pos (by omega)]
    simp only [Option.bind_some, decide_eq_true_eq]
    rw [if_pos (by omega)]
    simp only [mk_size, hy, impl_ReadClock.j0]
    rw [if_neg (by decide), w64 (by omega) (by omega)]
    have := g2 q (by omega)
    rw [show ((60 * m : Nat) : Int) = (m : Int) * 60 by omega] at this
    exact this
  · refine Ev.intro (K1 + 1) fun k hk => ?_
    obtain ⟨q, rfl⟩ : ∃ q, k = q + 1 := ⟨k - 1, by omega⟩
    unfold impl_ReadClock.f impl_within.f
    rw [hcut]
    simp only [Option.bind_some]
    rw [g1 _ (by omega)]
    simp only [Option.bind_some]
    by_cases c1 : ok = true
    · rw [if_pos c1]
      by_cases c2 : one = true
      · rw [if_pos c2]
        by_cases c3 : h ≥ 0
        · rw [if_pos c3]
          simp only [Option.bind_some, decide_eq_true_eq]
          by_cases c4 : h ≤ 333
          · rw [if_pos c4, mk_size, show ((y.length : Int) != 2) = true from bne_iff_ne.2 (fun g => c ⟨c1, c2, ⟨c3, c4⟩, by omega⟩)]
            exact nope q
          · rw [if_neg c4]; exact nope q
        · rw [if_neg c3]
          simp only [Option.bind_some, Bool.false_eq_true, if_false]
          exact nope q
      · rw [if_neg c2]; exact nope q
    · rw [if_neg c1]; exact nope q
/-- Two digits, told by a text's bytes. -/
theorem two_bytes (y : ByteArray) (h : y.size = 2) : ∃ b0 b1, y.data.toList = [b0, b1] ∧ bt y 0 = (b0.toNat : Int) ∧ bt y 1 = (b1.toNat : Int) := by
  have hl : y.data.toList.length = 2 := by rw [← size_list]; exact h
  match hy : y.data.toList, hl with
  | [b0, b1], _ =>
    refine ⟨b0, b1, rfl, ?_, ?_⟩
    · have := bt_byte hy 0 (by simp)
      exact this
    · have := bt_byte hy 1 (by simp)
      exact this
def backN (x y : ByteArray) : Int := 60 * (numV x).1 + 10 * (bt y 0 - 48) + (bt y 1 - 48)
def backV (x y : ByteArray) : Int × Bool := if y.size = 2 ∧ (48 ≤ bt y 0 ∧ bt y 0 ≤ 53) ∧ digitB (bt y 1) = true ∧ (numV x).2 = true ∧ (0 ≤ (numV x).1 ∧ (numV x).1 ≤ 20000) ∧ backN x y ≤ 20000 then (backN x y, true) else (0, false)
theorem spec_one (s x y : ByteArray) (hx : x.size ≤ 140737488351232) (hsp : Ev (fun k => spec_l01Split.f k s 58) [x, y]) : Ev (fun k => spec_ReadClock.f k s) (backV x y) := by
  obtain ⟨K1, g1⟩ := Ev.pick hsp
  obtain ⟨K2, g2⟩ := Ev.pick (num_spec x hx)
  have r1 : rdOf ByteArray.empty [x, y] 1 = y := rfl
  have r0 : rdOf ByteArray.empty [x, y] 0 = x := rfl
  have hl : (([x, y] : List ByteArray).length : Int) = 2 := rfl
  have no0 : ∀ k, spec_ReadClock.j0 (k + 1) [x, y] true = some (0, false) := fun k => by simp only [spec_ReadClock.j0, if_true]
  have no1 : ∀ k v, spec_ReadClock.j1 (k + 1) [x, y] v true = some (0, false) := fun k v => by simp only [spec_ReadClock.j1, if_true]
  unfold backV
  refine Ev.intro (K1 + K2 + 2) fun k hk => ?_
  obtain ⟨q, rfl⟩ : ∃ q, k = q + 2 := ⟨k - 2, by omega⟩
  unfold spec_ReadClock.f
  rw [g1 _ (by omega), Option.bind_some, hl, if_pos rfl, if_pos (by omega), r1]
  by_cases c0 : y.size = 2
  · rw [if_pos (show (y.size : Int) = 2 by omega), if_pos (by omega)]
    by_cases c1 : 48 ≤ bt y 0 ∧ bt y 0 ≤ 53
    · rw [if_neg (by omega), if_neg (by omega), if_pos (by omega), digit_spec, Option.bind_some]
      by_cases c2 : digitB (bt y 1) = true
      · rw [c2]
        simp only [spec_ReadClock.j0, Bool.not_true, Bool.false_eq_true, if_false]
        rw [hl, if_pos (by omega), r0, g2 _ (by omega)]
        simp only [Option.bind_some]
        have hbd := numV_bd x
        have a1 := c1
        have a2 := of_decide_eq_true c2
        unfold backN
        generalize numV x = v at hbd ⊢
        obtain ⟨n, ok⟩ := v
        generalize hp : bt y 0 = p at a1 c1 ⊢
        generalize hq : bt y 1 = r at a2 c2 ⊢
        simp only at hbd ⊢
        by_cases c3 : ok = true
        · rw [if_pos c3]
          unfold spec_l00In.f
          by_cases c4 : n ≥ 0
          · rw [if_pos c4, Option.bind_some]
            by_cases c5 : n ≤ 20000
            · rw [decide_eq_true c5]
              simp only [spec_ReadClock.j1, Bool.not_true, Bool.false_eq_true, if_false]
              rw [hl, if_pos (by omega), r1, if_pos (by omega), if_pos (by omega), hp, hq, Int.emod_eq_of_lt (a := p - 48) (by omega) (by omega), Int.emod_eq_of_lt (a := r - 48) (by omega) (by omega), w64 (x := 60 * n) (by omega) (by omega), w64 (x := 60 * n + 10 * (p - 48)) (by omega) (by omega), w64 (x := 60 * n + 10 * (p - 48) + (r - 48)) (by omega) (by omega)]
              by_cases c6 : 60 * n + 10 * (p - 48) + (r - 48) ≤ 20000
              · rw [if_neg (by omega), if_pos ⟨c0, c1, trivial, c3, ⟨c4, c5⟩, c6⟩]
              · rw [if_pos (by omega), if_neg (fun g => c6 g.2.2.2.2.2)]
            · rw [decide_eq_false c5, if_neg (fun g => c5 g.2.2.2.2.1.2)]
              exact no1 q n
          · rw [if_neg c4, Option.bind_some, if_neg (fun g => c4 g.2.2.2.2.1.1)]
            exact no1 q n
        · rw [if_neg c3, if_neg (fun g => c3 g.2.2.2.1)]
          exact no1 q n
      · rw [if_neg (fun g => c2 g.2.2.1), show digitB (bt y 1) = false by simpa using c2]
        exact no0 _
    · have e : ∀ (p : Prop) [Decidable p] (a b : Int × Bool), (p → False) → (if p then a else b) = b := fun p _ a b h => if_neg h
      rw [e _ _ _ (fun g => c1 g.2.1)]
      by_cases c7 : bt y 0 < 48
      · rw [if_pos c7]; exact no0 _
      · rw [if_neg c7, if_pos (by omega)]; exact no0 _
  · rw [if_neg (show ¬ (y.size : Int) = 2 by omega), if_neg (fun g => c0 g.1)]
    exact no0 _
theorem as_back (b : ByteArray) : asText b.data.toList = b := bytes_ext rfl
theorem spec_hit (n : Nat) (hn : n ≤ 20000) : Ev (fun k => spec_ReadClock.f k (clockT n)) ((n : Int), true) := by
  have hz1 := dec_sz (n / 60) (by omega)
  have hs : (clockT n).size ≤ 1048576 := by
    have := dec_sz (n % 60 / 10) (by omega)
    have := dec_sz (n % 10) (by omega)
    unfold clockT twoT
    rw [ByteArray.size_append, ByteArray.size_append, ByteArray.size_append, show (⟨#[58]⟩ : ByteArray).size = 1 from rfl]
    omega
  have b0 : ∀ a : Nat, a < 10 → (UInt8.ofNat (48 + a)).toNat = 48 + a := fun a ha => by rw [UInt8.toNat_ofNat']; omega
  have hsp := split_ev (clockT n) hs 58
  have n46 : (58 : UInt8).toNat = 58 := rfl
  rw [clock_list, splitA_hit 58 _ _ [] (fun b hb => digit_ne hb (Or.inr (by decide))), splitA_no 58 _ [] (by
    intro b hb e
    have h0 := b0 (n % 60 / 10) (by omega)
    have h1 := b0 (n % 10) (by omega)
    rcases List.mem_cons.1 hb with rfl | hb
    · rw [e, n46] at h0; omega
    · rw [List.mem_singleton.1 hb] at e
      rw [e, n46] at h1; omega)] at hsp
  simp only [List.nil_append, List.map_cons, List.map_nil] at hsp
  have hx : asText (Lib.decDigits (n / 60)) = dec ((n / 60 : Nat) : Int) := bytes_ext (by rw [dec_list]; rfl)
  rw [hx] at hsp
  have h := spec_one (clockT n) _ _ (by omega) hsp
  have hy : (asText [UInt8.ofNat (48 + n % 60 / 10), UInt8.ofNat (48 + n % 10)]).size = 2 := mk_size _
  obtain ⟨c0, c1, e, e0, e1⟩ := two_bytes _ hy
  have e := e.symm.trans (show _ = [UInt8.ofNat (48 + n % 60 / 10), UInt8.ofNat (48 + n % 10)] from rfl)
  have f0 := (List.cons.inj e).1
  have f1 := (List.cons.inj (List.cons.inj e).2).1
  rw [f0, b0 _ (by omega)] at e0
  rw [f1, b0 _ (by omega)] at e1
  unfold backV backN at h
  rw [numV_dec _ (by omega), e0, e1] at h
  have hN : 60 * ((n / 60 : Nat) : Int) + 10 * (((48 + n % 60 / 10 : Nat) : Int) - 48) + (((48 + n % 10 : Nat) : Int) - 48) = (n : Int) := by omega
  simp only at h
  rw [hN, if_pos ⟨hy, ⟨by omega, by omega⟩, decide_eq_true (by omega), trivial, ⟨by omega, by omega⟩, by omega⟩] at h
  exact h
theorem spec_miss (s : ByteArray) (hs : s.size ≤ 1048576) (hn : ∀ n, n ≤ 20000 → ¬ clockT n = s) : Ev (fun k => spec_ReadClock.f k s) (0, false) := by
  have hsp := split_ev s hs 58
  have n46 : (((58 : UInt8).toNat : Nat) : Int) = 58 := rfl
  rw [n46] at hsp
  have two := splitA_two 58 s.data.toList []
  generalize splitA [] s.data.toList 58 = L at hsp two
  by_cases c : L.length = 2
  · match L, c with
    | [lx, ly], _ =>
      have hs2 := two lx ly rfl
      rw [List.nil_append] at hs2
      have hz : s.size = lx.length + (ly.length + 1) := by rw [size_list, hs2, List.length_append, List.length_cons]
      have h := spec_one s (asText lx) (asText ly) (by show (⟨lx.toArray⟩ : ByteArray).size ≤ _; rw [mk_size]; omega) hsp
      have hv : backV (asText lx) (asText ly) = (0, false) := by
        unfold backV
        rw [if_neg]
        rintro ⟨c0, c1, c2, c3, ⟨c4, c5⟩, c6⟩
        have hd := numV_sound c3
        obtain ⟨b0, b1, e, e0, e1⟩ := two_bytes _ c0
        have d0 := c1
        have d1 := of_decide_eq_true c2
        unfold backN at c6
        rw [e0] at d0 c6
        rw [e1] at d1 c6
        generalize (numV (asText lx)).1 = v at hd c4 c5 c6
        obtain ⟨m, rfl⟩ : ∃ m : Nat, v = (m : Int) := ⟨v.toNat, by omega⟩
        have el : ly = [b0, b1] := e
        have ex : lx = Lib.decDigits m := by rw [← dec_list, hd]; rfl
        refine hn (60 * m + 10 * (b0.toNat - 48) + (b1.toNat - 48)) (by omega) (bytes_ext ?_)
        rw [clock_list, hs2, el, ex]
        have q1 : (60 * m + 10 * (b0.toNat - 48) + (b1.toNat - 48)) / 60 = m := by omega
        have q2 : 48 + (60 * m + 10 * (b0.toNat - 48) + (b1.toNat - 48)) % 60 / 10 = b0.toNat := by omega
        have q3 : 48 + (60 * m + 10 * (b0.toNat - 48) + (b1.toNat - 48)) % 10 = b1.toNat := by omega
        rw [q1, q2, q3, UInt8.ofNat_toNat, UInt8.ofNat_toNat]
      rw [hv] at h
      exact h
  · obtain ⟨K1, g1⟩ := Ev.pick hsp
    refine Ev.intro (K1 + 1) fun k hk => ?_
    obtain ⟨q, rfl⟩ : ∃ q, k = q + 1 := ⟨k - 1, by omega⟩
    unfold spec_ReadClock.f
    rw [g1 _ (by omega), Option.bind_some, List.length_map, if_neg (show ¬ (L.length : Int) = 2 by omega)]
    simp only [spec_ReadClock.j0, if_true]
theorem read_both (s : ByteArray) (hs : s.size ≤ 1048576) : ∃ r : Int × Bool, Ev (fun k => spec_ReadClock.f k s) r ∧ Ev (fun k => impl_ReadClock.f k s) r := by
  by_cases c : ∃ n, n ≤ 20000 ∧ clockT n = s
  · obtain ⟨n, hn, rfl⟩ := c
    exact ⟨_, spec_hit n hn, impl_hit n hn⟩
  · have hn : ∀ n, n ≤ 20000 → ¬ clockT n = s := fun n h e => c ⟨n, h, e⟩
    exact ⟨_, spec_miss s hs hn, impl_miss s hs hn⟩

end FnExactReadClock_
open FnExactReadClock_ in
theorem FnExactReadClock : ∀ (a0 : ByteArray), a0.size ≤ 140737488351232 → ∃ k, laws_FnExactReadClock.f k a0 = some true := by
  intro s _
  by_cases c : s.size ≤ 1048576
  · obtain ⟨r, h1, h2⟩ := read_both s c
    obtain ⟨K1, g1⟩ := Ev.pick h1
    obtain ⟨K2, g2⟩ := Ev.pick h2
    refine ⟨K1 + K2, ?_⟩
    unfold laws_FnExactReadClock.f
    rw [if_neg (by omega), g1 _ (by omega), g2 _ (by omega)]
    simp only [Option.bind_some, if_true, bne_self_eq_false, Bool.false_eq_true, if_false]
  · refine ⟨0, ?_⟩
    unfold laws_FnExactReadClock.f
    rw [if_pos (by omega)]

end Go.Proofs.YtnmfndfldhgaeaaDoor.Pure
