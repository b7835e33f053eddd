/- For all texts the program's ReadOrder and the reference's ReadOrder tell the same. -/
import Derived.Test.YtnfcgofpfhajoaaDoorQFnExactReadOrderx5
import Derived.Test.YtnfcgofpfhajoaaDoorBase
import Derived.Lib.ItoaLen
namespace Go.Proofs.YtnfcgofpfhajoaaDoor.Pure
open Go.RowKit Go.Proofs.YtnfcgofpfhajoaaDoor.QFnExactReadOrder Go.Proofs.YtnfcgofpfhajoaaDoorW.PrintWords Go.Proofs.YtnfcgofpfhajoaaDoorW.PrintLast Go.Proofs.YtnfcgofpfhajoaaDoor.Base
set_option linter.unusedVariables false
set_option linter.unusedSimpArgs false

namespace FnExactReadOrder_
/-- The digits of a number, as numbers of bytes; none for 0. -/
def decL (u : Nat) : List Int := if h : u = 0 then [] else decL (u / 10) ++ [(48 + (u % 10 : Nat) : Int)]
termination_by u
decreasing_by omega
theorem decL_zero : decL 0 = [] := by unfold decL; rfl
theorem decL_pos {u : Nat} (h : ¬ u = 0) : decL u = decL (u / 10) ++ [(48 + (u % 10 : Nat) : Int)] := by rw [decL, dif_neg h]
theorem decL_bytes (u : Nat) (h : 0 < u) : (decL u).map (fun n : Int => UInt8.ofNat n.toNat) = Lib.decDigits u := by
  induction u using Nat.strongRecOn with
  | _ u ih =>
    rw [decL_pos (by omega), Lib.decDigits]
    have e : (48 + ((u % 10 : Nat) : Int)).toNat = 48 + u % 10 := by omega
    by_cases h10 : u < 10
    · rw [dif_pos h10, Nat.div_eq_of_lt h10, decL_zero]
      simp only [List.nil_append, List.map_cons, List.map_nil, e]
      rw [Nat.mod_eq_of_lt h10]
    · rw [dif_neg h10, List.map_append, ih (u / 10) (by omega) (by omega)]
      simp only [List.map_cons, List.map_nil, e]
theorem strOfNums_size (xs : List Int) : (strOfNums xs).size = xs.length := by unfold strOfNums; show (Array.size _) = _; simp
def finD (n : Int) (xs : List Int) : ByteArray := if (xs.length : Int) = 0 then (⟨#[48]⟩ : ByteArray) else if n < 0 then (⟨#[45]⟩ : ByteArray) ++ strOfNums xs else strOfNums xs
theorem mod256 {x : Int} (h0 : 0 ≤ x) (h1 : x < 256) : x % 256 = x := Int.emod_eq_of_lt h0 h1
theorem dec_end (n : Int) (acc : List Int) (h : acc.length ≤ 200) : Ev (fun k => spec_l01Dec.l0 k n acc 0) (finD n acc) := by
  refine Ev.const fun k => ?_
  simp only [spec_l01Dec.l0, if_true]
  unfold finD
  split
  · rfl
  · split
    · rw [if_pos (by rw [strOfNums_size]; omega)]
    · rfl
theorem dec_loop (n : Int) : ∀ (m u : Nat) (acc : List Int) (x : Int), (x = u ∨ x = -(u : Int)) → u < 10 ^ m → acc.length + m ≤ 100 → u ≤ 9223372036854775808 → Ev (fun k => spec_l01Dec.l0 k n acc x) (finD n (decL u ++ acc))
  | 0, u, acc, x, hx, hu, ha, _ => by
    have h0 : u = 0 := by simpa using hu
    subst h0
    obtain rfl : x = 0 := by omega
    rw [decL_zero, List.nil_append]
    exact dec_end n acc (by omega)
  | m + 1, u, acc, x, hx, hu, ha, hb => by
    by_cases h0 : u = 0
    · subst h0
      obtain rfl : x = 0 := by omega
      rw [decL_zero, List.nil_append]
      exact dec_end n acc (by omega)
    · have hlt : u / 10 < 10 ^ m := by rw [Nat.pow_succ] at hu; omega
      have ih := dec_loop n m (u / 10) ((48 + (u % 10 : Nat) : Int) :: acc) (Int.tdiv x 10) ?_ hlt (by simp only [List.length_cons]; omega) (by omega)
      · rw [decL_pos h0, List.append_assoc, List.singleton_append]
        refine Ev.step (fun k => ?_) ih
        have hxn : ¬ x = 0 := by omega
        simp only [spec_l01Dec.l0]
        rw [if_neg hxn]
        have hw : wrap64 (Int.tdiv x 10) = Int.tdiv x 10 := by
          rcases hx with rfl | rfl
          · rw [tdiv_nn (by omega)]; exact w64 (by omega) (by omega)
          · rw [Int.neg_tdiv, tdiv_nn (by omega)]; exact w64 (by omega) (by omega)
        have hm : (Int.tmod x 10 = (u % 10 : Nat) ∨ Int.tmod x 10 = -((u % 10 : Nat) : Int)) := by
          rcases hx with rfl | rfl
          · left; rw [tmod_nn (by omega)]; omega
          · right; rw [Int.neg_tmod, tmod_nn (by omega)]; omega
        have hd : u % 10 < 10 := Nat.mod_lt _ (by omega)
        generalize u % 10 = d at hm hd ⊢
        rw [hw]
        by_cases hneg : Int.tmod x 10 < 0
        · have hm2 : Int.tmod x 10 = -(d : Int) := by omega
          rw [if_pos hneg, hm2]
          simp only [Option.bind_some, List.length_cons, List.length_nil]
          rw [if_pos (by omega), w64 (x := - -(d : Int)) (by omega) (by omega), w64 (x := 48 + - -(d : Int)) (by omega) (by omega), mod256 (by omega) (by omega), Int.neg_neg]
          rfl
        · have hm2 : Int.tmod x 10 = (d : Int) := by omega
          rw [if_neg hneg, hm2]
          simp only [Option.bind_some, List.length_cons, List.length_nil]
          rw [if_pos (by omega), w64 (x := 48 + (d : Int)) (by omega) (by omega), mod256 (by omega) (by omega)]
          rfl
      · rcases hx with rfl | rfl
        · left; rw [tdiv_nn (by omega)]; omega
        · right; rw [Int.neg_tdiv, tdiv_nn (by omega)]; omega
theorem finD_itoa (n : Int) : finD n (decL n.natAbs) = ⟨(Lib.itoa n).toArray⟩ := by
  unfold finD Lib.itoa
  by_cases h0 : n = 0
  · subst h0
    rw [show (0 : Int).natAbs = 0 from rfl, decL_zero]
    rw [if_pos (show (([] : List Int).length : Int) = 0 from rfl), if_neg (by omega)]
    rw [show (0 : Int).toNat = 0 from rfl, Lib.decDigits]
    rfl
  · have hpos : 0 < n.natAbs := by omega
    have hlen : ¬ ((decL n.natAbs).length : Int) = 0 := by
      rw [decL_pos (by omega), List.length_append]
      simp only [List.length_cons, List.length_nil]
      omega
    rw [if_neg hlen]
    have hs : strOfNums (decL n.natAbs) = ⟨(Lib.decDigits n.natAbs).toArray⟩ := by
      unfold strOfNums
      rw [decL_bytes _ hpos]
    rw [hs]
    by_cases hn : n < 0
    · rw [if_pos hn, if_pos hn]
      apply ByteArray.ext
      rw [ByteArray.data_append]
      simp
    · rw [if_neg hn, if_neg hn]
      have : n.toNat = n.natAbs := by omega
      rw [this]
/-- A number in decimal. -/
def dec (n : Int) : ByteArray := ⟨(Lib.itoa n).toArray⟩
theorem dec_spec (n : Int) (h0 : -9223372036854775808 ≤ n) (h1 : n ≤ 9223372036854775807) : Ev (fun k => spec_l01Dec.f k n) (dec n) := by
  have := dec_loop n 20 n.natAbs [] n (by omega) (by omega) (by simp) (by omega)
  rw [List.append_nil, finD_itoa] at this
  exact this
theorem dec_size (n : Int) (h0 : -9223372036854775808 ≤ n) (h1 : n ≤ 9223372036854775807) : (dec n).size ≤ 21 := by
  have := Lib.itoa_length_le n h0 h1
  show (Lib.itoa n).toArray.size ≤ 21
  rw [List.size_toArray]
  exact this

theorem dec_impl (n : Int) (h0 : -9223372036854775808 ≤ n) (h1 : n ≤ 9223372036854775807) : impl_Decimal.f n = some (dec n) := by
  unfold impl_Decimal.f strconv_FormatInt.f
  rw [if_pos ⟨rfl, h0, h1⟩]
  rfl

theorem bt_list (s : ByteArray) (i : Nat) (h : i < s.data.toList.length) : bt s (i : Int) = ((s.data.toList[i]).toNat : Int) := by
  unfold bt
  have h2 : i < s.size := by simpa using h
  rw [dif_pos (by simpa using h2)]
  rfl
theorem size_list (s : ByteArray) : s.size = s.data.toList.length := by rw [Array.length_toList]; rfl
/-- Two texts are one where their bytes are. -/
theorem bytes_ext {a b : ByteArray} (h : a.data.toList = b.data.toList) : a = b := by
  have h3 : a.data = b.data := Array.toList_inj.mp h
  cases a; cases b; exact congrArg ByteArray.mk h3
theorem toList_iff {a b : ByteArray} : a.toList = b.toList ↔ a = b := by
  constructor
  · intro h
    rw [ByteArray.toList_eq, ByteArray.toList_eq] at h
    exact bytes_ext h
  · intro h; rw [h]
def valL (l : List UInt8) : Int := l.foldl (fun a b => 10 * a + ((b.toNat : Int) - 48)) 0
theorem valL_snoc (l : List UInt8) (b : UInt8) : valL (l ++ [b]) = 10 * valL l + ((b.toNat : Int) - 48) := by unfold valL; rw [List.foldl_append]; rfl
def valD (t : ByteArray) (i : Nat) : Int := valL (t.data.toList.take i)
theorem valD_succ (t : ByteArray) (i : Nat) (h : i < t.size) : valD t (i + 1) = 10 * valD t i + (bt t (i : Int) - 48) := by
  have h2 : i < t.data.toList.length := by rw [← size_list]; exact h
  unfold valD
  rw [List.take_succ_eq_append_getElem h2, valL_snoc, bt_list t i h2]
def digitB (b : Int) : Bool := decide (48 ≤ b ∧ b ≤ 57)
def allD (t : ByteArray) : Bool := (List.range t.size).all fun i => digitB (bt t (i : Int))
theorem valD_bd (t : ByteArray) : ∀ (i : Nat), i ≤ t.size → (∀ j, j < i → digitB (bt t (j : Int)) = true) → 0 ≤ valD t i ∧ valD t i < (10 ^ i : Nat)
  | 0, _, _ => by simp [valD, valL]
  | i + 1, hi, hd => by
    have ih := valD_bd t i (by omega) (fun j hj => hd j (by omega))
    have h := of_decide_eq_true (hd i (by omega))
    rw [valD_succ t i (by omega), Nat.pow_succ]
    omega
theorem pow_le18 {i : Nat} (h : i ≤ 18) : 10 ^ i ≤ 1000000000000000000 := by
  have := Nat.pow_le_pow_right (n := 10) (by omega) h
  simpa using this
/-- What stands behind a sign. -/
def bare (s : ByteArray) : ByteArray := if 0 < s.size ∧ bt s 0 = 45 then s.extract 1 s.size else s
theorem bare_size (s : ByteArray) : (bare s).size ≤ s.size := by
  unfold bare
  split
  · rw [ByteArray.size_extract]; omega
  · exact Nat.le_refl _
def numAt (s : ByteArray) (n : Int) : Int × Bool := if dec n = s then (n, true) else (0, false)
def numEnd (s t : ByteArray) : Int × Bool := numAt s (if t.size < s.size then -valD t t.size else valD t t.size)
/-- The number with a decimal form. -/
def numV (s : ByteArray) : Int × Bool := if (bare s).size < 1 ∨ 18 < (bare s).size then (0, false) else if allD (bare s) = true then numEnd s (bare s) else (0, false)
theorem numAt_sound {s : ByteArray} {n : Int} (h : (numAt s n).2 = true) : dec (numAt s n).1 = s := by
  unfold numAt at h ⊢
  by_cases c : dec n = s
  · rw [if_pos c]; exact c
  · rw [if_neg c] at h; cases h
theorem numV_sound {s : ByteArray} (h : (numV s).2 = true) : dec (numV s).1 = s := by
  unfold numV at h ⊢
  by_cases c : (bare s).size < 1 ∨ 18 < (bare s).size
  · rw [if_pos c] at h; cases h
  · rw [if_neg c] at h ⊢
    by_cases c2 : allD (bare s) = true
    · rw [if_pos c2] at h ⊢
      exact numAt_sound h
    · rw [if_neg c2] at h; cases h
theorem numAt_bd {s : ByteArray} {n : Int} (h0 : -1000000000000000000 ≤ n) (h1 : n ≤ 1000000000000000000) : -1000000000000000000 ≤ (numAt s n).1 ∧ (numAt s n).1 ≤ 1000000000000000000 := by
  unfold numAt
  by_cases c : dec n = s
  · rw [if_pos c]; exact ⟨h0, h1⟩
  · rw [if_neg c]; simp
theorem numV_bd (s : ByteArray) : -1000000000000000000 ≤ (numV s).1 ∧ (numV s).1 ≤ 1000000000000000000 := by
  unfold numV
  by_cases c : (bare s).size < 1 ∨ 18 < (bare s).size
  · rw [if_pos c]; simp
  · rw [if_neg c]
    by_cases c2 : allD (bare s) = true
    · rw [if_pos c2]
      have h := valD_bd (bare s) (bare s).size (Nat.le_refl _) (fun j hj => List.all_eq_true.1 c2 j (List.mem_range.2 hj))
      have hp := pow_le18 (i := (bare s).size) (by omega)
      unfold numEnd
      split
      · exact numAt_bd (by omega) (by omega)
      · exact numAt_bd (by omega) (by omega)
    · rw [if_neg c2]; simp
theorem dec_digits {u : Nat} : ∀ b ∈ Lib.decDigits u, 48 ≤ b.toNat ∧ b.toNat ≤ 57 := by
  induction u using Nat.strongRecOn with
  | _ u ih =>
    intro b hb
    rw [Lib.decDigits] at hb
    split at hb
    · rename_i h10
      rw [List.mem_singleton] at hb
      subst hb
      rw [UInt8.toNat_ofNat']
      omega
    · rename_i h10
      rw [List.mem_append] at hb
      rcases hb with hb | hb
      · exact ih (u / 10) (by omega) b hb
      · rw [List.mem_singleton] at hb
        subst hb
        rw [UInt8.toNat_ofNat']
        omega
theorem dec_val (u : Nat) : valL (Lib.decDigits u) = u := by
  induction u using Nat.strongRecOn with
  | _ u ih =>
    rw [Lib.decDigits]
    split
    · rename_i h10
      show 10 * 0 + (((UInt8.ofNat (48 + u)).toNat : Int) - 48) = u
      rw [UInt8.toNat_ofNat']
      omega
    · rename_i h10
      rw [valL_snoc, ih (u / 10) (by omega), UInt8.toNat_ofNat']
      omega
theorem nDigits_le : ∀ (m u : Nat), u < 10 ^ (m + 1) → Lib.nDigits u ≤ m + 1
  | 0, u, h => by rw [Lib.nDigits_small (by simpa using h)]; omega
  | m + 1, u, h => by
    by_cases h10 : u < 10
    · rw [Lib.nDigits_small h10]; omega
    · rw [Lib.nDigits_big h10]
      rw [Nat.pow_succ] at h
      have := nDigits_le m (u / 10) (by omega)
      omega
/-- A number that is not negative, written and read back. -/
theorem numV_dec (n : Nat) (h : n < 1000000000000000000) : numV (dec (n : Int)) = ((n : Int), true) := by
  have hl : (dec (n : Int)).data.toList = Lib.decDigits n := by
    show (Lib.itoa (n : Int)).toArray.toList = _
    rw [Lib.itoa_nonneg]
  have hsz : (dec (n : Int)).size = Lib.nDigits n := by rw [size_list, hl, Lib.decDigits_length]
  have hn18 := nDigits_le 17 n (by omega)
  have hn1 := Lib.nDigits_pos n
  have hd : ∀ j, j < (dec (n : Int)).size → digitB (bt (dec (n : Int)) (j : Int)) = true := by
    intro j hj
    have hj2 : j < (dec (n : Int)).data.toList.length := by rw [← size_list]; exact hj
    rw [bt_list _ j hj2]
    have := dec_digits (u := n) ((dec (n : Int)).data.toList[j]) (by rw [← hl]; exact List.getElem_mem hj2)
    exact decide_eq_true (by omega)
  have hb : bare (dec (n : Int)) = dec (n : Int) := by
    unfold bare
    rw [if_neg]
    rintro ⟨g0, g1⟩
    have := of_decide_eq_true (hd 0 g0)
    rw [show ((0 : Nat) : Int) = 0 from rfl] at this
    omega
  have hv : valD (dec (n : Int)) (dec (n : Int)).size = n := by
    unfold valD
    rw [size_list, List.take_length, hl, dec_val]
  unfold numV
  rw [hb, if_neg (by omega), if_pos (show allD (dec (n : Int)) = true from List.all_eq_true.2 fun j hj => hd j (List.mem_range.1 hj))]
  unfold numEnd numAt
  rw [if_neg (Nat.lt_irrefl _), hv, if_pos rfl]

theorem digit_spec (b : Int) : spec_l01Digit.f b = some (digitB b) := by
  unfold spec_l01Digit.f digitB
  by_cases h : b ≥ 48
  · rw [if_pos h]; congr 1; apply Bool.eq_iff_iff.mpr; simp; omega
  · rw [if_neg h]; congr 1; symm; simp; omega
theorem num_loop_spec (s t : ByteArray) (h18 : t.size ≤ 18) (hts : t.size ≤ s.size) : Ev (fun k => spec_l01Number.l0 k s t 0 0) (if allD t = true then numEnd s t else (0, false)) := by
  have key : ∀ (d i : Nat), i + d = t.size → (∀ j, j < i → digitB (bt t (j : Int)) = true) → Ev (fun k => spec_l01Number.l0 k s t (valD t i) i) (if allD t = true then numEnd s t else (0, false)) := by
    intro d
    induction d with
    | zero =>
      intro i hi hd
      obtain rfl : i = t.size := by omega
      have ha : allD t = true := List.all_eq_true.2 fun j hj => hd j (List.mem_range.1 hj)
      have hb := valD_bd t t.size (Nat.le_refl _) hd
      have hp := pow_le18 h18
      rw [if_pos ha]
      unfold numEnd numAt
      by_cases c : t.size < s.size
      · rw [if_pos c]
        obtain ⟨K, hK⟩ := Ev.pick (dec_spec (-valD t t.size) (by omega) (by omega))
        refine Ev.step (f := fun k => (spec_l01Dec.f k (-valD t t.size)).bind fun t117 => if t117.toList = s.toList then some (-valD t t.size, true) else some (0, false)) (fun k => ?_) (Ev.intro K fun k hk => ?_)
        · simp only [spec_l01Number.l0]
          rw [if_neg (by omega), if_pos (by omega), w64 (x := -valD t t.size) (by omega) (by omega)]
        · rw [hK k hk]
          simp only [Option.bind_some, toList_iff]
          split <;> rfl
      · rw [if_neg c]
        obtain ⟨K, hK⟩ := Ev.pick (dec_spec (valD t t.size) (by omega) (by omega))
        refine Ev.step (f := fun k => (spec_l01Dec.f k (valD t t.size)).bind fun t117 => if t117.toList = s.toList then some (valD t t.size, true) else some (0, false)) (fun k => ?_) (Ev.intro K fun k hk => ?_)
        · simp only [spec_l01Number.l0]
          rw [if_neg (by omega), if_neg (by omega)]
        · rw [hK k hk]
          simp only [Option.bind_some, toList_iff]
          split <;> rfl
    | succ d ih =>
      intro i hi hd
      have hb := valD_bd t i (by omega) hd
      have hp := pow_le18 (i := i) (by omega)
      have hr := bt_range t (i : Int)
      cases hdi : digitB (bt t (i : Int)) with
      | true =>
        have hdig := of_decide_eq_true hdi
        have ih2 := ih (i + 1) (by omega) (fun j hj => by
          by_cases e : j = i
          · subst e; exact hdi
          · exact hd j (by omega))
        refine Ev.step (fun k => ?_) ih2
        simp only [spec_l01Number.l0]
        rw [if_pos (by omega), if_pos (by omega), digit_spec, hdi]
        simp only [Option.bind_some, if_true]
        have hps : (10 ^ i : Nat) ≤ 100000000000000000 := by
          have := Nat.pow_le_pow_right (n := 10) (by omega) (show i ≤ 17 by omega)
          simpa using this
        rw [valD_succ t i (by omega), mod256 (by omega) (by omega), w64 (x := 10 * valD t i) (by omega) (by omega), w64 (x := 10 * valD t i + _) (by omega) (by omega), w64 (x := (i : Int) + 1) (by omega) (by omega)]
        rfl
      | false =>
        have ha : ¬ allD t = true := fun g => by
          have := List.all_eq_true.1 g i (List.mem_range.2 (by omega))
          rw [hdi] at this
          cases this
        rw [if_neg ha]
        refine Ev.const fun k => ?_
        simp only [spec_l01Number.l0]
        rw [if_pos (by omega), if_pos (by omega), digit_spec, hdi]
        rfl
  exact key t.size 0 (by omega) (fun j hj => absurd hj (Nat.not_lt_zero _))
theorem num_spec (s : ByteArray) (hs : s.size ≤ 140737488351232) : Ev (fun k => spec_l01Number.f k s) (numV s) := by
  have tail : ∀ t : ByteArray, t.size ≤ s.size → Ev (fun k => spec_l01Number.j1 k s t) (if t.size < 1 ∨ 18 < t.size then (0, false) else if allD t = true then numEnd s t else (0, false)) := by
    intro t ht
    by_cases c1 : t.size < 1
    · rw [if_pos (.inl c1)]
      refine Ev.intro 2 fun k hk => ?_
      obtain ⟨m, rfl⟩ : ∃ m, k = m + 2 := ⟨k - 2, by omega⟩
      simp only [spec_l01Number.j1]
      rw [if_pos (by omega)]
      simp only [spec_l01Number.j2, if_true]
    · by_cases c2 : 18 < t.size
      · rw [if_pos (.inr c2)]
        refine Ev.intro 2 fun k hk => ?_
        obtain ⟨m, rfl⟩ : ∃ m, k = m + 2 := ⟨k - 2, by omega⟩
        simp only [spec_l01Number.j1]
        rw [if_neg (by omega), decide_eq_true (by omega)]
        simp only [spec_l01Number.j2, if_true]
      · rw [if_neg (by omega)]
        refine Ev.step (f := fun k => spec_l01Number.j2 k s t false) (fun k => ?_) (Ev.step (fun k => ?_) (num_loop_spec s t (by omega) ht))
        · simp only [spec_l01Number.j1]
          rw [if_neg (by omega), decide_eq_false (by omega)]
        · simp only [spec_l01Number.j2, Bool.false_eq_true, if_false]
  unfold numV
  by_cases h0 : s.size = 0
  · have hb : bare s = s := by unfold bare; rw [if_neg (by omega)]
    have hn : s.toList = ([] : List UInt8) := List.eq_nil_of_length_eq_zero (by rw [size_toList, h0])
    rw [hb]
    refine Ev.congr (f := fun k => spec_l01Number.j0 k s s false) (fun k => ?_) (Ev.step (fun k => ?_) (tail s (Nat.le_refl _)))
    · unfold spec_l01Number.f
      rw [if_pos hn]
    · simp only [spec_l01Number.j0, Bool.false_eq_true, if_false]
  · have hn : ¬ s.toList = ([] : List UInt8) := fun g => h0 (by rw [← size_toList, g]; rfl)
    refine Ev.congr (f := fun k => spec_l01Number.j0 k s s (bt s 0 == 45)) (fun k => ?_) ?_
    · unfold spec_l01Number.f
      rw [if_neg hn, if_pos (by omega)]
    · by_cases h45 : bt s 0 = 45
      · have hb : bare s = s.extract 1 s.size := by unfold bare; rw [if_pos ⟨by omega, h45⟩]
        have he : (bt s 0 == 45) = true := by simpa using h45
        rw [he]
        refine Ev.step (fun k => ?_) (tail (bare s) (bare_size s))
        rw [hb]
        simp only [spec_l01Number.j0, if_true]
        rw [if_pos (by omega)]
      · have hb : bare s = s := by unfold bare; rw [if_neg (fun g => h45 g.2)]
        have he : (bt s 0 == 45) = false := by simpa using h45
        rw [hb, he]
        refine Ev.step (fun k => ?_) (tail s (Nat.le_refl _))
        simp only [spec_l01Number.j0, Bool.false_eq_true, if_false]

theorem num_loop_impl (s t : ByteArray) (h18 : t.size ≤ 18) (hts : t.size ≤ s.size) : Ev (fun k => impl_ReadDecimal.l0 k s t 0 0) (if allD t = true then numEnd s t else (0, false)) := by
  have key : ∀ (d i : Nat), i + d = t.size → (∀ j, j < i → digitB (bt t (j : Int)) = true) → Ev (fun k => impl_ReadDecimal.l0 k s t (valD t i) i) (if allD t = true then numEnd s t else (0, false)) := by
    intro d
    induction d with
    | zero =>
      intro i hi hd
      obtain rfl : i = t.size := by omega
      have ha : allD t = true := List.all_eq_true.2 fun j hj => hd j (List.mem_range.1 hj)
      have hb := valD_bd t t.size (Nat.le_refl _) hd
      have hp := pow_le18 h18
      rw [if_pos ha]
      unfold numEnd numAt
      by_cases c : t.size < s.size
      · rw [if_pos c]
        refine Ev.const fun k => ?_
        simp only [impl_ReadDecimal.l0]
        rw [if_neg (by omega), if_pos (by omega), w64 (x := -valD t t.size) (by omega) (by omega), dec_impl (-valD t t.size) (by omega) (by omega)]
        simp only [Option.bind_some, toList_iff]
        split <;> rfl
      · rw [if_neg c]
        refine Ev.const fun k => ?_
        simp only [impl_ReadDecimal.l0]
        rw [if_neg (by omega), if_neg (by omega), dec_impl (valD t t.size) (by omega) (by omega)]
        simp only [Option.bind_some, toList_iff]
        split <;> rfl
    | succ d ih =>
      intro i hi hd
      have hb := valD_bd t i (by omega) hd
      have hp := pow_le18 (i := i) (by omega)
      have hr := bt_range t (i : Int)
      cases hdi : digitB (bt t (i : Int)) with
      | true =>
        have hdig := of_decide_eq_true hdi
        have ih2 := ih (i + 1) (by omega) (fun j hj => by
          by_cases e : j = i
          · subst e; exact hdi
          · exact hd j (by omega))
        refine Ev.step (fun k => ?_) ih2
        simp only [impl_ReadDecimal.l0]
        rw [if_pos (by omega), if_pos (by omega), if_neg (by omega), if_neg (by omega)]
        have hps : (10 ^ i : Nat) ≤ 100000000000000000 := by
          have := Nat.pow_le_pow_right (n := 10) (by omega) (show i ≤ 17 by omega)
          simpa using this
        rw [valD_succ t i (by omega), mod256 (by omega) (by omega), w64 (x := 10 * valD t i) (by omega) (by omega), w64 (x := 10 * valD t i + _) (by omega) (by omega), w64 (x := (i : Int) + 1) (by omega) (by omega)]
        rfl
      | false =>
        have ha : ¬ allD t = true := fun g => by
          have := List.all_eq_true.1 g i (List.mem_range.2 (by omega))
          rw [hdi] at this
          cases this
        rw [if_neg ha]
        have hdig := of_decide_eq_false hdi
        refine Ev.const fun k => ?_
        simp only [impl_ReadDecimal.l0]
        rw [if_pos (by omega), if_pos (by omega)]
        by_cases c : bt t (i : Int) < 48
        · rw [if_pos c]
        · rw [if_neg c, if_pos (by omega)]
  exact key t.size 0 (by omega) (fun j hj => absurd hj (Nat.not_lt_zero _))
theorem prefix_one (s : ByteArray) : strings_TrimPrefix.f s (⟨#[45]⟩ : ByteArray) = some (bare s) := by
  unfold strings_TrimPrefix.f stringslite_TrimPrefix.f stringslite_HasPrefix.f
  have z : (⟨#[45]⟩ : ByteArray).size = 1 := rfl
  rw [z]
  by_cases h0 : s.size = 0
  · rw [if_neg (by omega)]
    simp only [Option.bind_some, Bool.false_eq_true, if_false]
    unfold bare
    rw [if_neg (by omega)]
  · rw [if_pos (by omega), if_pos (by omega), if_pos (by omega)]
    simp only [Option.bind_some]
    have e1 : ((1 : Nat) : Int).toNat = 1 := rfl
    rw [e1]
    have hl : 0 < s.data.toList.length := by rw [← size_list]; omega
    have hb0 := bt_list s 0 hl
    have key : (((s.extract 0 1).toList == (⟨#[45]⟩ : ByteArray).toList) = true) ↔ bt s 0 = 45 := by
      rw [beq_iff_eq, toList_iff]
      have hx : (s.extract 0 1).data.toList = [s.data.toList[0]] := by
        rw [Lib.extract_data]
        rw [List.drop_zero, Nat.sub_zero, List.take_succ_eq_append_getElem hl, List.take_zero]
        rfl
      rw [show (0 : Int) = ((0 : Nat) : Int) from rfl, hb0]
      constructor
      · intro g
        rw [g] at hx
        have h2 : [(45 : UInt8)] = [s.data.toList[0]] := hx
        have h3 : (45 : UInt8) = s.data.toList[0] := by simpa using h2
        rw [← h3]; rfl
      · intro g
        apply bytes_ext
        rw [hx]
        show [s.data.toList[0]] = [(45 : UInt8)]
        have h3 : s.data.toList[0] = 45 := UInt8.toNat_inj.mp (by
          have : (s.data.toList[0]).toNat = 45 := by omega
          rw [this]; rfl)
        rw [h3]
    unfold bare
    by_cases h45 : bt s 0 = 45
    · have hb := key.mpr h45
      rw [hb]
      simp only [if_true]
      rw [if_pos (by omega), if_pos (by omega), if_pos ⟨by omega, h45⟩]
      rfl
    · have hb : ((s.extract 0 1).toList == (⟨#[45]⟩ : ByteArray).toList) = false := Bool.eq_false_iff.mpr fun g => h45 (key.mp g)
      rw [hb]
      simp only [Bool.false_eq_true, if_false]
      rw [if_neg (fun g => h45 g.2)]
      rfl
theorem num_impl (s : ByteArray) (hs : s.size ≤ 140737488351232) : Ev (fun k => impl_ReadDecimal.f k s) (numV s) := by
  have ht := bare_size s
  unfold numV
  have h1 : ∀ k, impl_ReadDecimal.f k s = if ((bare s).size : Int) < 1 then impl_ReadDecimal.j0 k s (bare s) true else impl_ReadDecimal.j0 k s (bare s) (decide (((bare s).size : Int) > 18)) := by
    intro k
    unfold impl_ReadDecimal.f
    rw [prefix_one]
    rfl
  generalize bare s = t at *
  by_cases c1 : t.size < 1
  · rw [if_pos (.inl c1)]
    refine Ev.const fun k => ?_
    rw [h1, if_pos (by omega)]
    simp only [impl_ReadDecimal.j0, if_true]
  · by_cases c2 : 18 < t.size
    · rw [if_pos (.inr c2)]
      refine Ev.const fun k => ?_
      rw [h1, if_neg (by omega), decide_eq_true (by omega)]
      simp only [impl_ReadDecimal.j0, if_true]
    · rw [if_neg (by omega)]
      refine Ev.step (fun k => ?_) (num_loop_impl s t (by omega) ht)
      rw [h1, if_neg (by omega), decide_eq_false (by omega)]
      simp only [impl_ReadDecimal.j0, Bool.false_eq_true, if_false]

/-- A text cut at all places of one byte, as the library tells it. -/
def S1 (c : UInt8) (s : ByteArray) : List ByteArray := Lib.splitB (⟨#[c]⟩ : ByteArray) 0 (Lib.countB s (⟨#[c]⟩ : ByteArray)) s
theorem bt_get {s : ByteArray} {c : UInt8} {i : Nat} (hi : i < s.size) : s.data.toList[i]? = some c ↔ bt s (i : Int) = (c.toNat : Int) := by
  have h2 : i < s.data.toList.length := by rw [← size_list]; exact hi
  rw [List.getElem?_eq_getElem h2, bt_list s i h2]
  constructor
  · intro h
    injection h with h
    rw [h]
  · intro h
    congr 1
    apply UInt8.toNat_inj.mp
    omega
theorem S1_none {c : UInt8} {s : ByteArray} (h : ∀ i : Nat, i < s.size → ¬ bt s (i : Int) = (c.toNat : Int)) : S1 c s = [s] := by
  rcases Lib.indexB_cases s (⟨#[c]⟩ : ByteArray) with e | ⟨i, e, hr⟩
  · exact Lib.splitB_miss _ _ _ _ e
  · exfalso
    have hi : i < s.size := by have : (⟨#[c]⟩ : ByteArray).size = 1 := rfl; omega
    have e2 : Lib.indexByte s.data.toList c = (i : Int) := by rw [← Lib.index_one]; exact e
    exact h i hi ((bt_get hi).mp (Lib.indexByte_some e2).1)
theorem S1_hit {c : UInt8} {s : ByteArray} {i : Nat} (hi : i < s.size) (hc : bt s (i : Int) = (c.toNat : Int)) (h : ∀ j : Nat, j < i → ¬ bt s (j : Int) = (c.toNat : Int)) : S1 c s = s.extract 0 i :: S1 c (s.extract (i + 1) s.size) := by
  rcases Lib.indexB_cases s (⟨#[c]⟩ : ByteArray) with e | ⟨o, e, hr⟩
  · exfalso
    have e2 : Lib.indexByte s.data.toList c = -1 := by rw [← Lib.index_one]; exact e
    exact Lib.indexByte_none e2 i ((bt_get hi).mpr hc)
  · have e2 : Lib.indexByte s.data.toList c = (o : Int) := by rw [← Lib.index_one]; exact e
    obtain ⟨p1, p2⟩ := Lib.indexByte_some e2
    have ho : o < s.size := by have : (⟨#[c]⟩ : ByteArray).size = 1 := rfl; omega
    have hoi : o = i := by
      rcases Nat.lt_trichotomy o i with l | l | l
      · exact absurd ((bt_get ho).mp p1) (h o l)
      · exact l
      · exact absurd ((bt_get hi).mpr hc) (p2 i l)
    subst hoi
    unfold S1
    rw [Lib.countB_hit s (⟨#[c]⟩ : ByteArray) o (Nat.le_refl 1) e, Nat.add_comm 1, Lib.splitB_hit _ _ _ _ o e]
    rfl

theorem bt_ext (s : ByteArray) (a b j : Nat) (h : a + j < b) (hb : b ≤ s.size) : bt (s.extract a b) (j : Int) = bt s ((a + j : Nat) : Int) := by
  have h0 : (s.extract a b).data.toList = (s.data.toList.drop a).take (b - a) := Lib.extract_data s a b
  have h2 : a + j < s.data.toList.length := by rw [← size_list]; omega
  have h1 : j < (s.extract a b).data.toList.length := by rw [h0, List.length_take, List.length_drop]; omega
  rw [bt_list _ j h1, bt_list s (a + j) h2]
  have e := congrArg (fun l => l[j]?) h0
  rw [List.getElem?_eq_getElem h1, List.getElem?_take, if_pos (by omega), List.getElem?_drop, List.getElem?_eq_getElem h2, Option.some.injEq] at e
  rw [e]
theorem split_loop (s : ByteArray) (c : UInt8) (hs : s.size ≤ 1048576) : ∀ (d i fr : Nat) (out : List ByteArray), i + d = s.size → fr ≤ i → (∀ j : Nat, fr ≤ j → j < i → ¬ bt s (j : Int) = (c.toNat : Int)) → out.length ≤ fr →
    Ev (fun k => spec_l01Split.l0 k s (c.toNat : Int) out (fr : Int) (i : Int)) (out ++ S1 c (s.extract fr s.size))
  | 0, i, fr, out, hi, hf, hn, ho => by
    have hz : (s.extract fr s.size).size = s.size - fr := by rw [ByteArray.size_extract]; omega
    rw [S1_none (fun j hj => by rw [bt_ext s fr s.size j (by omega) (Nat.le_refl _)]; exact hn (fr + j) (by omega) (by omega))]
    refine Ev.const fun k => ?_
    simp only [spec_l01Split.l0]
    rw [if_neg (by omega), if_pos (by omega), if_pos (by omega), if_pos (by omega), Int.toNat_natCast]
  | d + 1, i, fr, out, hi, hf, hn, ho => by
    have hz : (s.extract fr s.size).size = s.size - fr := by rw [ByteArray.size_extract]; omega
    by_cases e : bt s (i : Int) = (c.toNat : Int)
    · have ih := split_loop s c hs d (i + 1) (i + 1) (out ++ [s.extract fr i]) (by omega) (by omega) (fun j _ _ => by omega) (by rw [List.length_append, List.length_singleton]; omega)
      have hh : S1 c (s.extract fr s.size) = s.extract fr i :: S1 c (s.extract (i + 1) s.size) := by
        have h1 := bt_ext s fr s.size (i - fr) (by omega) (Nat.le_refl _)
        rw [show fr + (i - fr) = i by omega] at h1
        rw [S1_hit (i := i - fr) (by omega) (by rw [h1]; exact e) (fun j hj => by rw [bt_ext s fr s.size j (by omega) (Nat.le_refl _)]; exact hn (fr + j) (by omega) (by omega))]
        rw [ByteArray.extract_extract, ByteArray.extract_extract, hz]
        congr 2
        · omega
        · congr 1
          · omega
          · omega
      rw [hh, show out ++ s.extract fr i :: S1 c (s.extract (i + 1) s.size) = out ++ [s.extract fr i] ++ S1 c (s.extract (i + 1) s.size) by simp]
      refine Ev.step (fun k => ?_) ih
      simp only [spec_l01Split.l0]
      rw [if_pos (by omega), if_pos (by omega), if_pos e, if_pos (by omega), if_pos (by omega), if_pos (by omega), if_pos (by omega), w64 (x := (i : Int) + 1) (by omega) (by omega), Int.toNat_natCast, Int.toNat_natCast]
      rfl
    · have ih := split_loop s c hs d (i + 1) fr out (by omega) (by omega) (fun j h1 h2 => by
        by_cases g : j < i
        · exact hn j h1 g
        · obtain rfl : j = i := by omega
          exact e) ho
      refine Ev.step (fun k => ?_) ih
      simp only [spec_l01Split.l0]
      rw [if_pos (by omega), if_pos (by omega), if_neg e, w64 (x := (i : Int) + 1) (by omega) (by omega)]
      rfl
theorem split_spec (s : ByteArray) (c : UInt8) (hs : s.size ≤ 1048576) : Ev (fun k => spec_l01Split.f k s (c.toNat : Int)) (S1 c s) := by
  have := split_loop s c hs s.size 0 0 [] (by omega) (by omega) (fun j _ _ => by omega) (by simp)
  rw [ByteArray.extract_zero_size, List.nil_append] at this
  exact this
theorem S1_len (c : UInt8) (s : ByteArray) : (S1 c s).length ≤ s.size + 1 := by
  unfold S1
  rw [Lib.splitB_all (⟨#[c]⟩ : ByteArray) (Nat.le_refl 1) 0 _ s rfl]
  have := Lib.countB_le (⟨#[c]⟩ : ByteArray) (Nat.le_refl 1) s.size s (Nat.le_refl _)
  omega
theorem split_impl (s : ByteArray) (c : UInt8) (hs : s.size ≤ 1048576) : strings_Split.f s (⟨#[c]⟩ : ByteArray) = some (S1 c s) := by
  unfold strings_Split.f
  rw [if_pos ⟨by omega, Nat.le_refl 1⟩]
  rfl
theorem rdO (l : List ByteArray) (i : Nat) (h : i < l.length) : rdOf ByteArray.empty l (i : Int) = l[i] := by
  unfold rdOf
  rw [Int.toNat_natCast, List.getD_eq_getElem?_getD, List.getElem?_eq_getElem h]
  rfl

theorem within_eq (a b c : Int) : impl_within.f a b c = some (decide (b ≤ a ∧ a ≤ c)) := by
  unfold impl_within.f
  by_cases h : a ≥ b
  · rw [if_pos h]; congr 1; apply Bool.eq_iff_iff.mpr; simp; omega
  · rw [if_neg h]; congr 1; apply Bool.eq_iff_iff.mpr; simp; omega

theorem name_loop_impl (s : ByteArray) (h : s.size ≤ 12) : Ev (fun k => impl_IsName.l0 k s 0) ((List.range s.size).all fun i => nameByte (bt s i)) := by
  have := all_lt s.size (fun i => nameByte (bt s i)) (fun k i => impl_IsName.l0 k s i) true false (fun i hi hp => ⟨0, fun k _ => ?_⟩) (fun i hi hp => Ev.const fun k => ?_) (fun _ => Ev.const fun k => ?_)
  · rw [ite_bool] at this
    exact this
  · have hp := of_decide_eq_true hp
    simp only [impl_IsName.l0]
    rw [if_pos (by omega), if_pos (by omega), w64 (by omega) (by omega)]
    repeat' split
    all_goals first | rfl | (exfalso; omega)
  · have hp := of_decide_eq_false hp
    simp only [impl_IsName.l0]
    rw [if_pos (by omega), if_pos (by omega)]
    repeat' split
    all_goals first | rfl | (exfalso; omega)
  · simp only [impl_IsName.l0]
    rw [if_neg (by omega)]
theorem name_impl (s : ByteArray) : Ev (fun k => impl_IsName.f k s) (isNameB s) := by
  unfold isNameB
  by_cases h0 : s.size < 1
  · rw [decide_eq_false (by omega), Bool.false_and]
    refine Ev.const fun k => ?_
    unfold impl_IsName.f
    rw [if_pos (by omega)]
    simp only [impl_IsName.j0, if_true]
  · by_cases h12 : s.size ≤ 12
    · by_cases hs : 97 ≤ bt s 0 ∧ bt s 0 ≤ 122
      · rw [decide_eq_true ⟨by omega, h12, hs⟩, Bool.true_and]
        refine Ev.step (f := fun k => impl_IsName.l0 k s 0) (fun k => ?_) (name_loop_impl s h12)
        simp only [impl_IsName.f]
        rw [if_neg (by omega), if_neg (by omega), if_pos (by omega), if_neg (by omega), decide_eq_false (by omega)]
        simp only [impl_IsName.j0, Bool.false_eq_true, if_false]
      · rw [decide_eq_false (fun h => hs h.2.2), Bool.false_and]
        refine Ev.const fun k => ?_
        simp only [impl_IsName.f]
        rw [if_neg (by omega), if_neg (by omega), if_pos (by omega)]
        by_cases h1 : bt s 0 < 97
        · rw [if_pos h1]
          simp only [impl_IsName.j0, if_true]
        · rw [if_neg h1, decide_eq_true (by omega)]
          simp only [impl_IsName.j0, if_true]
    · rw [decide_eq_false (by omega), Bool.false_and]
      refine Ev.const fun k => ?_
      unfold impl_IsName.f
      rw [if_neg (by omega), if_pos (by omega)]
      simp only [impl_IsName.j0, if_true]

theorem valid_impl (f0 : Int) (f1 : ByteArray) (f2 f3 f4 : Int) : Ev (fun k => impl_validOrder.f k f0 f1 f2 f3 f4) (spec_l24One.v f0 f1 f2 f3 f4) := by
  obtain ⟨K, hK⟩ := Ev.pick (name_impl f1)
  refine Ev.intro K fun k hk => ?_
  unfold impl_validOrder.f spec_l24One.v
  rw [within_eq, within_eq, within_eq, within_eq, hK k hk]
  simp only [Option.bind_some]
  cases decide (1 ≤ f0 ∧ f0 ≤ 9999) <;> cases isNameB f1 <;> cases decide (1 ≤ f2 ∧ f2 ≤ 500) <;> cases decide (0 ≤ f3 ∧ f3 ≤ f2) <;> rfl
def outR (ok : Bool) (f0 : Int) (f1 : ByteArray) (f2 f3 f4 : Int) : Int × ByteArray × Int × Int × Int × Bool := if ok = true then (f0, f1, f2, f3, f4, true) else (0, (⟨#[]⟩ : ByteArray), 0, 0, 0, false)
theorem order_impl (W : List ByteArray) (w0 w1 w2 w4 p l r : ByteArray) (hp fd : Bool) (hl : (W.length : Int) = 5) (e0 : rdOf ByteArray.empty W 0 = w0) (e1 : rdOf ByteArray.empty W 1 = w1) (e2 : rdOf ByteArray.empty W 2 = w2) (e4 : rdOf ByteArray.empty W 4 = w4)
    (hP : strings_CutPrefix.f w0 (⟨#[35]⟩ : ByteArray) = some (p, hp)) (hC : strings_Cut.f w2 (⟨#[47]⟩ : ByteArray) = some (l, r, fd)) (sp : p.size ≤ 1048576) (sl : l.size ≤ 1048576) (sr : r.size ≤ 1048576) (s4 : w4.size ≤ 1048576) :
    Ev (fun k => impl_ReadOrder.j0 k W false) (outR (hp && fd && (numV p).2 && (numV l).2 && (numV r).2 && (numV w4).2 && spec_l24One.v (numV p).1 w1 (numV r).1 (numV l).1 (numV w4).1) (numV p).1 w1 (numV r).1 (numV l).1 (numV w4).1) := by
  obtain ⟨K1, g1⟩ := Ev.pick (num_impl p (by omega))
  obtain ⟨K2, g2⟩ := Ev.pick (num_impl l (by omega))
  obtain ⟨K3, g3⟩ := Ev.pick (num_impl r (by omega))
  obtain ⟨K4, g4⟩ := Ev.pick (num_impl w4 (by omega))
  obtain ⟨K5, g5⟩ := Ev.pick (valid_impl (numV p).1 w1 (numV r).1 (numV l).1 (numV w4).1)
  refine Ev.intro (K1 + K2 + K3 + K4 + K5 + 1) fun k hk => ?_
  obtain ⟨m, rfl⟩ : ∃ m, k = m + 1 := ⟨k - 1, by omega⟩
  have h1 := g1 m (by omega)
  have h2 := g2 m (by omega)
  have h3 := g3 m (by omega)
  have h4 := g4 m (by omega)
  have h5 := g5 m (by omega)
  clear g1 g2 g3 g4 g5
  have c0 : 0 < (W.length : Int) := by omega
  have c1 : 1 < (W.length : Int) := by omega
  have c2 : 2 < (W.length : Int) := by omega
  have c4 : 4 < (W.length : Int) := by omega
  generalize spec_l24One.v (numV p).1 w1 (numV r).1 (numV l).1 (numV w4).1 = v at h5 ⊢
  generalize numV p = n1 at h1 h5 ⊢
  generalize numV l = n2 at h2 h5 ⊢
  generalize numV r = n3 at h3 h5 ⊢
  generalize numV w4 = n4 at h4 h5 ⊢
  obtain ⟨x1, b1⟩ := n1
  obtain ⟨x2, b2⟩ := n2
  obtain ⟨x3, b3⟩ := n3
  obtain ⟨x4, b4⟩ := n4
  simp only [] at h5
  simp only [impl_ReadOrder.j0, Bool.false_eq_true, if_false, c0, c1, c2, c4, if_true, e0, e1, e2, e4, hP, hC, h1, h2, h3, h4, h5, Option.bind_some]
  cases hp
  · simp [outR]
  cases fd
  · simp [outR]
  cases b1
  · simp [outR]
  cases b2
  · simp [outR]
  cases b3
  · simp [outR]
  cases b4
  · simp [outR]
  cases v <;> simp [outR]
theorem order_spec (W : List ByteArray) (w0 w1 w2 w4 l r : ByteArray) (hl : (W.length : Int) = 5) (e0 : rdOf ByteArray.empty W 0 = w0) (e1 : rdOf ByteArray.empty W 1 = w1) (e2 : rdOf ByteArray.empty W 2 = w2) (e4 : rdOf ByteArray.empty W 4 = w4)
    (hC : S1 47 w2 = [l, r]) (h01 : 1 ≤ w0.size) (s0 : w0.size ≤ 1048576) (s2 : w2.size ≤ 1048576) (sl : l.size ≤ 1048576) (sr : r.size ≤ 1048576) (s4 : w4.size ≤ 1048576) :
    Ev (fun k => spec_ReadOrder.j0 k W false) (outR ((numV (w0.extract 1 w0.size)).2 && (numV l).2 && (numV r).2 && (numV w4).2 && spec_l24One.v (numV (w0.extract 1 w0.size)).1 w1 (numV r).1 (numV l).1 (numV w4).1) (numV (w0.extract 1 w0.size)).1 w1 (numV r).1 (numV l).1 (numV w4).1) := by
  have hz : (w0.extract 1 w0.size).size ≤ 1048576 := by rw [ByteArray.size_extract]; omega
  obtain ⟨K0, g0⟩ := Ev.pick (split_spec w2 47 s2)
  obtain ⟨K1, g1⟩ := Ev.pick (num_spec (w0.extract 1 w0.size) (by omega))
  obtain ⟨K2, g2⟩ := Ev.pick (num_spec l (by omega))
  obtain ⟨K3, g3⟩ := Ev.pick (num_spec r (by omega))
  obtain ⟨K4, g4⟩ := Ev.pick (num_spec w4 (by omega))
  refine Ev.intro (K0 + K1 + K2 + K3 + K4 + 1) fun k hk => ?_
  obtain ⟨m, rfl⟩ : ∃ m, k = m + 1 := ⟨k - 1, by omega⟩
  have h0 := g0 m (by omega)
  have h1 := g1 m (by omega)
  have h2 := g2 m (by omega)
  have h3 := g3 m (by omega)
  have h4 := g4 m (by omega)
  rw [hC, show ((47 : UInt8).toNat : Int) = 47 from rfl] at h0
  clear g0 g1 g2 g3 g4 hC
  have c0 : 0 < (W.length : Int) := by omega
  have c1 : 1 < (W.length : Int) := by omega
  have c2 : 2 < (W.length : Int) := by omega
  have c4 : 4 < (W.length : Int) := by omega
  have cs : 1 ≤ (w0.size : Int) := by omega
  have d2 : (([l, r] : List ByteArray).length : Int) = 2 := rfl
  have d0 : 0 < (([l, r] : List ByteArray).length : Int) := by rw [d2]; decide
  have d1 : 1 < (([l, r] : List ByteArray).length : Int) := by rw [d2]; decide
  have r0 : rdOf ByteArray.empty [l, r] 0 = l := rfl
  have r1 : rdOf ByteArray.empty [l, r] 1 = r := rfl
  obtain ⟨p, hp⟩ : ∃ p, w0.extract 1 w0.size = p := ⟨_, rfl⟩
  rw [hp] at h1 ⊢
  have h5 : spec_l24One.f (numV p).1 w1 (numV r).1 (numV l).1 (numV w4).1 = some (spec_l24One.v (numV p).1 w1 (numV r).1 (numV l).1 (numV w4).1, (numV p).1, w1, (numV r).1, (numV l).1, (numV w4).1) := rfl
  generalize spec_l24One.v (numV p).1 w1 (numV r).1 (numV l).1 (numV w4).1 = v at h5 ⊢
  generalize numV p = n1 at h1 h5 ⊢
  generalize numV l = n2 at h2 h5 ⊢
  generalize numV r = n3 at h3 h5 ⊢
  generalize numV w4 = n4 at h4 h5 ⊢
  obtain ⟨x1, b1⟩ := n1
  obtain ⟨x2, b2⟩ := n2
  obtain ⟨x3, b3⟩ := n3
  obtain ⟨x4, b4⟩ := n4
  simp only [] at h5
  simp only [spec_ReadOrder.j0, Bool.false_eq_true, if_false, c0, c1, c2, c4, cs, d0, d1, d2, r0, r1, if_true, e0, e1, e2, e4, hp, h0, h1, h2, h3, h4, Option.bind_some]
  cases b1
  · simp [outR]
  cases b2
  · simp [outR]
  cases b3
  · simp [outR]
  cases b4
  · simp [outR]
  simp only [h5, Option.bind_some, if_true]
  cases v <;> simp [outR]
theorem order_spec_no (W : List ByteArray) (w2 : ByteArray) (hl : (W.length : Int) = 5) (e2 : rdOf ByteArray.empty W 2 = w2) (s2 : w2.size ≤ 1048576) (hC : ¬ ((S1 47 w2).length : Int) = 2) :
    Ev (fun k => spec_ReadOrder.j0 k W false) (outR false 0 (⟨#[]⟩ : ByteArray) 0 0 0) := by
  obtain ⟨K0, g0⟩ := Ev.pick (split_spec w2 47 s2)
  refine Ev.intro (K0 + 1) fun k hk => ?_
  obtain ⟨m, rfl⟩ : ∃ m, k = m + 1 := ⟨k - 1, by omega⟩
  have h0 := g0 m (by omega)
  rw [show ((47 : UInt8).toNat : Int) = 47 from rfl] at h0
  simp only [spec_ReadOrder.j0, Bool.false_eq_true, if_false]
  rw [if_pos (by omega), e2, h0, Option.bind_some, if_neg hC]
  rfl
theorem order_spec_fail (W : List ByteArray) : Ev (fun k => spec_ReadOrder.j0 k W true) (outR false 0 (⟨#[]⟩ : ByteArray) 0 0 0) := Ev.intro 1 fun k hk => by
  obtain ⟨m, rfl⟩ : ∃ m, k = m + 1 := ⟨k - 1, by omega⟩
  simp only [spec_ReadOrder.j0, if_true]
  rfl
theorem order_impl_fail (W : List ByteArray) : Ev (fun k => impl_ReadOrder.j0 k W true) (outR false 0 (⟨#[]⟩ : ByteArray) 0 0 0) := Ev.intro 1 fun k hk => by
  obtain ⟨m, rfl⟩ : ∃ m, k = m + 1 := ⟨k - 1, by omega⟩
  simp only [impl_ReadOrder.j0, if_true]
  rfl
theorem outR_no (f0 : Int) (f1 : ByteArray) (f2 f3 f4 : Int) : outR false f0 f1 f2 f3 f4 = outR false 0 (⟨#[]⟩ : ByteArray) 0 0 0 := rfl
/-- The first place of a byte. -/
theorem first_at (s : ByteArray) (c : Int) : ∀ n : Nat, (∀ j : Nat, j < n → ¬ bt s (j : Int) = c) ∨ ∃ i : Nat, i < n ∧ bt s (i : Int) = c ∧ ∀ j : Nat, j < i → ¬ bt s (j : Int) = c
  | 0 => .inl fun j hj => absurd hj (Nat.not_lt_zero _)
  | n + 1 => by
    rcases first_at s c n with h | ⟨i, h1, h2, h3⟩
    · by_cases e : bt s (n : Int) = c
      · exact .inr ⟨n, Nat.lt_succ_self _, e, h⟩
      · refine .inl fun j hj => ?_
        by_cases g : j < n
        · exact h j g
        · obtain rfl : j = n := by omega
          exact e
    · exact .inr ⟨i, by omega, h2, h3⟩
theorem index_at (D R : List UInt8) (c : UInt8) (h : ∀ b ∈ D, ¬ b = c) : Lib.index (D ++ c :: R) [c] = (D.length : Int) := by
  induction D with
  | nil => simp [Lib.index]
  | cons b D ih =>
    have hb : ¬ b = c := h b List.mem_cons_self
    have ih := ih (fun x hx => h x (List.mem_cons_of_mem _ hx))
    rw [List.cons_append, Lib.index]
    have hp : [c].isPrefixOf (b :: (D ++ c :: R)) = false := by
      simp only [List.isPrefixOf, Bool.and_true]
      exact beq_eq_false_iff_ne.mpr fun e => hb e.symm
    rw [hp, ih]
    have h1 : (((D.length : Int)) == -1) = false := by
      apply beq_eq_false_iff_ne.mpr
      omega
    rw [h1]
    simp
theorem cut_hit (D R : List UInt8) (c : UInt8) (h : ∀ b ∈ D, ¬ b = c) : Lib.cut (D ++ c :: R) [c] = (D, R, true) := by
  unfold Lib.cut
  rw [index_at D R c h, if_pos (by omega)]
  rw [Int.toNat_natCast, List.take_left]
  rw [show D ++ c :: R = (D ++ [c]) ++ R by simp, show D.length + [c].length = (D ++ [c]).length by simp, List.drop_left]
theorem cut_miss (s : List UInt8) (c : UInt8) (h : Lib.index s [c] = -1) : Lib.cut s [c] = (s, [], false) := by
  unfold Lib.cut
  rw [h, if_neg (by omega)]
theorem index_no {s : ByteArray} {c : UInt8} (h : ∀ j : Nat, j < s.size → ¬ bt s (j : Int) = (c.toNat : Int)) : Lib.index s.data.toList [c] = -1 := by
  rcases Lib.indexB_cases s (⟨#[c]⟩ : ByteArray) with e | ⟨i, e, hr⟩
  · exact e
  · exfalso
    have hi : i < s.size := by have : (⟨#[c]⟩ : ByteArray).size = 1 := rfl; omega
    have e2 : Lib.indexByte s.data.toList c = (i : Int) := by rw [← Lib.index_one]; exact e
    exact h i hi ((bt_get hi).mp (Lib.indexByte_some e2).1)
theorem mk_size (l : List UInt8) : (⟨l.toArray⟩ : ByteArray).size = l.length := by show l.toArray.size = _; rw [List.size_toArray]
theorem cut_bytes (s : ByteArray) (c : UInt8) (i : Nat) (hi : i < s.size) (hc : bt s (i : Int) = (c.toNat : Int)) (h : ∀ j : Nat, j < i → ¬ bt s (j : Int) = (c.toNat : Int)) : Lib.cut s.data.toList [c] = ((s.extract 0 i).data.toList, (s.extract (i + 1) s.size).data.toList, true) := by
  have hl : i < s.data.toList.length := by rw [← size_list]; exact hi
  have e1 : (s.extract 0 i).data.toList = s.data.toList.take i := by rw [Lib.extract_data s 0 i, List.drop_zero, Nat.sub_zero]
  have e2 : (s.extract (i + 1) s.size).data.toList = s.data.toList.drop (i + 1) := by
    rw [Lib.extract_data s (i + 1) s.size, List.take_of_length_le]
    rw [List.length_drop, ← size_list]; omega
  rw [e1, e2]
  have e3 : s.data.toList[i] = c := by
    have := (bt_get hi).mpr hc
    rw [List.getElem?_eq_getElem hl] at this
    exact Option.some.inj this
  have e4 : s.data.toList = s.data.toList.take i ++ c :: s.data.toList.drop (i + 1) := by
    rw [← e3, ← List.drop_eq_getElem_cons hl, List.take_append_drop]
  conv => lhs; rw [e4]
  refine cut_hit _ _ c fun b hb => ?_
  obtain ⟨j, hj, rfl⟩ := List.getElem_of_mem hb
  rw [List.length_take] at hj
  rw [List.getElem_take]
  intro g
  refine h j (by omega) ?_
  rw [bt_list s j (by omega), g]
theorem cut_f (s : ByteArray) (l r : List UInt8) (b : Bool) (hs : s.size ≤ 1048576) (h : Lib.cut s.data.toList [47] = (l, r, b)) : strings_Cut.f s (⟨#[47]⟩ : ByteArray) = some ((⟨l.toArray⟩ : ByteArray), (⟨r.toArray⟩ : ByteArray), b) := by
  unfold strings_Cut.f
  rw [if_pos (by omega), show (⟨#[47]⟩ : ByteArray).data.toList = [47] from rfl, h]
theorem back (s : ByteArray) : (⟨s.data.toList.toArray⟩ : ByteArray) = s := bytes_ext rfl
/-- A text with a '/' is no number. -/
theorem num_slash (s : ByteArray) (i : Nat) (hi : i < s.size) (hb : bt s (i : Int) = 47) : (numV s).2 = false := by
  cases hn : (numV s).2 with
  | false => rfl
  | true =>
    exfalso
    have e := numV_sound hn
    have hl : i < s.data.toList.length := by rw [← size_list]; exact hi
    have hm : s.data.toList[i] ∈ (dec (numV s).1).data.toList := by rw [e]; exact List.getElem_mem hl
    have h47 : (s.data.toList[i]).toNat = 47 := by have := bt_list s i hl; omega
    have hd : (dec (numV s).1).data.toList = Lib.itoa (numV s).1 := rfl
    rw [hd] at hm
    generalize s.data.toList[i] = x at hm h47
    generalize (numV s).1 = n at hm
    unfold Lib.itoa at hm
    split at hm
    · rcases List.mem_cons.1 hm with rfl | hm
      · exact absurd h47 (by decide)
      · have := dec_digits _ hm
        omega
    · have := dec_digits _ hm
      omega
theorem split_elem (s : ByteArray) : ∀ x ∈ S1 32 s, x.size ≤ s.size := by
  have go : ∀ (k : Nat) (s : ByteArray), ∀ x ∈ Lib.splitB (⟨#[32]⟩ : ByteArray) 0 k s, x.size ≤ s.size := by
    intro k
    induction k with
    | zero =>
      intro s x hx
      rw [Lib.splitB_zero, List.mem_singleton] at hx
      rw [hx]; exact Nat.le_refl _
    | succ k ih =>
      intro s x hx
      unfold Lib.splitB at hx
      split at hx
      · rw [List.mem_singleton] at hx
        rw [hx]; exact Nat.le_refl _
      · rcases List.mem_cons.1 hx with rfl | hx
        · rw [ByteArray.size_extract]; omega
        · have := ih _ x hx
          rw [ByteArray.size_extract] at this
          omega
  exact go _ s
theorem prefix_f (w0 : ByteArray) : (w0.size ≥ 1 ∧ bt w0 0 = 35 ∧ strings_CutPrefix.f w0 (⟨#[35]⟩ : ByteArray) = some (w0.extract 1 w0.size, true)) ∨ ((w0.size = 0 ∨ ¬ bt w0 0 = 35) ∧ ∃ p : ByteArray, p.size ≤ w0.size ∧ strings_CutPrefix.f w0 (⟨#[35]⟩ : ByteArray) = some (p, false)) := by
  have hs := size_list w0
  unfold strings_CutPrefix.f
  rw [show (⟨#[35]⟩ : ByteArray).data.toList = [35] from rfl]
  cases hl : w0.data.toList with
  | nil =>
    rw [hl] at hs
    exact .inr ⟨.inl hs, ⟨[].toArray⟩, by rw [mk_size]; simp, rfl⟩
  | cons b t =>
    rw [hl, List.length_cons] at hs
    have hb : bt w0 0 = (b.toNat : Int) := by
      have := bt_list w0 0 (by rw [hl]; simp)
      simp only [hl, List.getElem_cons_zero] at this
      exact this
    by_cases e : b = 35
    · subst e
      refine .inl ⟨by omega, hb, ?_⟩
      have e2 : (w0.extract 1 w0.size).data.toList = t := by
        rw [Lib.extract_data w0 1 w0.size, hl, List.take_of_length_le (by simp; omega)]
        rfl
      have e3 : (⟨t.toArray⟩ : ByteArray) = w0.extract 1 w0.size := bytes_ext e2.symm
      rw [← e3]
      rfl
    · refine .inr ⟨.inr fun g => e (UInt8.toNat_inj.mp (by rw [hb] at g; have : (35 : UInt8).toNat = 35 := rfl; omega)), ?_⟩
      have hh : Lib.hasPrefix (b :: t) [35] = false := by
        simp only [Lib.hasPrefix, List.isPrefixOf, Bool.and_true]
        exact beq_eq_false_iff_ne.mpr fun g => e g.symm
      have ht : Lib.trimPrefix (b :: t) [35] = b :: t := by
        unfold Lib.trimPrefix
        first | (rw [hh]; rfl) | simp [hh]
      refine ⟨⟨(b :: t).toArray⟩, by rw [mk_size, List.length_cons]; omega, ?_⟩
      rw [hh, ht]

/-- What the program's cut of the third word tells. -/
theorem third_word (w2 : ByteArray) (z2 : w2.size ≤ 1048576) : ∃ (l r : ByteArray) (fd : Bool), strings_Cut.f w2 (⟨#[47]⟩ : ByteArray) = some (l, r, fd) ∧ l.size ≤ w2.size ∧ r.size ≤ w2.size ∧ ((fd = true ∧ S1 47 w2 = [l, r]) ∨ (¬ ((S1 47 w2).length : Int) = 2 ∧ (fd = false ∨ (numV r).2 = false))) := by
  rcases first_at w2 47 w2.size with h | ⟨i, hi, hb, hf⟩
  · refine ⟨_, _, _, cut_f w2 _ _ _ z2 (cut_miss _ 47 (index_no h)), by rw [back]; exact Nat.le_refl _, by rw [mk_size]; simp, .inr ⟨?_, .inl rfl⟩⟩
    rw [S1_none (c := 47) h]
    simp
  · have hs1 := S1_hit (c := 47) hi hb hf
    refine ⟨_, _, _, cut_f w2 _ _ _ z2 (cut_bytes w2 47 i hi hb hf), ?_, ?_, ?_⟩
    · rw [back, ByteArray.size_extract]; omega
    · rw [back, ByteArray.size_extract]; omega
    · rw [back, back]
      have hr : (w2.extract (i + 1) w2.size).size = w2.size - (i + 1) := by rw [ByteArray.size_extract]; omega
      rcases first_at (w2.extract (i + 1) w2.size) 47 (w2.extract (i + 1) w2.size).size with h | ⟨j, hj, hjb, hjf⟩
      · exact .inl ⟨rfl, by rw [hs1, S1_none (c := 47) h]⟩
      · refine .inr ⟨?_, .inr (num_slash _ j hj hjb)⟩
        rw [hs1, S1_hit (c := 47) hj hjb hjf]
        have : 0 < (S1 47 ((w2.extract (i + 1) w2.size).extract (j + 1) (w2.extract (i + 1) w2.size).size)).length := by
          unfold S1
          rw [Lib.splitB_all (⟨#[47]⟩ : ByteArray) (Nat.le_refl 1) 0 _ _ rfl]
          omega
        simp only [List.length_cons]
        omega
set_option maxHeartbeats 1000000 in
theorem order_both (a : ByteArray) (ha : a.size ≤ 1048576) : ∃ r, Ev (fun k => spec_ReadOrder.f k a) r ∧ Ev (fun k => impl_ReadOrder.f k a) r := by
  obtain ⟨K1, g1⟩ := Ev.pick (split_spec a 32 ha)
  rw [show ((32 : UInt8).toNat : Int) = 32 from rfl] at g1
  have g2 := split_impl a 32 ha
  have hel := split_elem a
  obtain ⟨K2, f1⟩ := Ev.pick (order_spec_fail (S1 32 a))
  obtain ⟨K3, f2⟩ := Ev.pick (order_impl_fail (S1 32 a))
  by_cases hl : ¬ ((S1 32 a).length : Int) = 5
  · refine ⟨outR false 0 (⟨#[]⟩ : ByteArray) 0 0 0, Ev.intro (K1 + K2) fun k hk => ?_, Ev.intro K3 fun k hk => ?_⟩
    · unfold spec_ReadOrder.f
      rw [g1 k (by omega), Option.bind_some, if_neg hl]
      exact f1 k (by omega)
    · unfold impl_ReadOrder.f
      rw [g2, Option.bind_some, if_neg hl]
      exact f2 k (by omega)
  have hl := Decidable.not_not.mp hl
  have hsz : ∀ i : Nat, i < 5 → (rdOf ByteArray.empty (S1 32 a) (i : Int)).size ≤ 1048576 := fun i hi => by
    rw [rdO _ i (by omega)]
    exact Nat.le_trans (hel _ (List.getElem_mem _)) ha
  have z0 : (rdOf ByteArray.empty (S1 32 a) 0).size ≤ 1048576 := hsz 0 (by omega)
  have z2 : (rdOf ByteArray.empty (S1 32 a) 2).size ≤ 1048576 := hsz 2 (by omega)
  have z4 : (rdOf ByteArray.empty (S1 32 a) 4).size ≤ 1048576 := hsz 4 (by omega)
  clear hsz hel
  obtain ⟨w0, e0⟩ : ∃ x, rdOf ByteArray.empty (S1 32 a) 0 = x := ⟨_, rfl⟩
  obtain ⟨w1, e1⟩ : ∃ x, rdOf ByteArray.empty (S1 32 a) 1 = x := ⟨_, rfl⟩
  obtain ⟨w2, e2⟩ : ∃ x, rdOf ByteArray.empty (S1 32 a) 2 = x := ⟨_, rfl⟩
  obtain ⟨w3, e3⟩ : ∃ x, rdOf ByteArray.empty (S1 32 a) 3 = x := ⟨_, rfl⟩
  obtain ⟨w4, e4⟩ : ∃ x, rdOf ByteArray.empty (S1 32 a) 4 = x := ⟨_, rfl⟩
  rw [e0] at z0
  rw [e2] at z2
  rw [e4] at z4
  generalize S1 32 a = W at g1 g2 f1 f2 hl e0 e1 e2 e3 e4
  -- both fail
  have fail : ∀ (_ : Ev (fun k => spec_ReadOrder.f k a) (outR false 0 (⟨#[]⟩ : ByteArray) 0 0 0)) (_ : Ev (fun k => impl_ReadOrder.f k a) (outR false 0 (⟨#[]⟩ : ByteArray) 0 0 0)), ∃ r, Ev (fun k => spec_ReadOrder.f k a) r ∧ Ev (fun k => impl_ReadOrder.f k a) r := fun h1 h2 => ⟨_, h1, h2⟩
  by_cases c3 : (w3.toList != ([98, 121] : List UInt8)) = true
  · refine fail (Ev.intro (K1 + K2) fun k hk => ?_) (Ev.intro K3 fun k hk => ?_)
    · unfold spec_ReadOrder.f
      rw [g1 k (by omega), Option.bind_some, if_pos hl, if_pos (by omega), e0]
      by_cases d1 : (w0.size : Int) < 2
      · rw [if_pos d1]; exact f1 k (by omega)
      · rw [if_neg d1, if_pos (by omega)]
        by_cases d2 : bt w0 0 = 35
        · rw [if_pos d2, if_pos (by omega), e3, c3]; exact f1 k (by omega)
        · rw [if_neg d2]; exact f1 k (by omega)
    · unfold impl_ReadOrder.f
      rw [g2, Option.bind_some, if_pos hl, if_pos (by omega), e3, c3]
      exact f2 k (by omega)
  have c3 : (w3.toList != ([98, 121] : List UInt8)) = false := by simpa using c3
  have toI : ∀ r, Ev (fun k => impl_ReadOrder.j0 k W false) r → Ev (fun k => impl_ReadOrder.f k a) r := fun r h => Ev.congr (fun k => by
    unfold impl_ReadOrder.f
    rw [g2, Option.bind_some, if_pos hl, if_pos (by omega), e3, c3]) h
  obtain ⟨l, r, fd, hC, sl, sr, hfd⟩ := third_word w2 z2
  rcases prefix_f w0 with ⟨p1, p2, hP⟩ | ⟨pn, p, sp, hP⟩
  · have hz : (w0.extract 1 w0.size).size ≤ 1048576 := by rw [ByteArray.size_extract]; omega
    have hI := toI _ (order_impl W w0 w1 w2 w4 _ l r true fd hl e0 e1 e2 e4 hP hC hz (by omega) (by omega) z4)
    by_cases d1 : (w0.size : Int) < 2
    · -- "#" alone
      have hn : (numV (w0.extract 1 w0.size)).2 = false := by
        have hzz : (w0.extract 1 w0.size).size = 0 := by rw [ByteArray.size_extract]; omega
        have hb : (bare (w0.extract 1 w0.size)).size < 1 := by have := bare_size (w0.extract 1 w0.size); omega
        unfold numV
        rw [if_pos (.inl hb)]
      rw [hn] at hI
      simp only [Bool.and_false, Bool.false_and] at hI
      refine fail (Ev.intro (K1 + K2) fun k hk => ?_) hI
      unfold spec_ReadOrder.f
      rw [g1 k (by omega), Option.bind_some, if_pos hl, if_pos (by omega), e0, if_pos d1]
      exact f1 k (by omega)
    · have toS : ∀ r, Ev (fun k => spec_ReadOrder.j0 k W false) r → Ev (fun k => spec_ReadOrder.f k a) r := fun r h => by
        obtain ⟨K, g⟩ := Ev.pick h
        refine Ev.intro (K1 + K) fun k hk => ?_
        unfold spec_ReadOrder.f
        rw [g1 k (by omega), Option.bind_some, if_pos hl, if_pos (by omega), e0, if_neg d1, if_pos (by omega), if_pos p2, if_pos (by omega), e3, c3]
        exact g k (by omega)
      rcases hfd with ⟨rfl, hS⟩ | ⟨hS, hno⟩
      · refine ⟨_, toS _ (order_spec W w0 w1 w2 w4 l r hl e0 e1 e2 e4 hS (by omega) z0 z2 (by omega) (by omega) z4), ?_⟩
        simp only [Bool.true_and] at hI
        exact hI
      · refine fail (toS _ (order_spec_no W w2 hl e2 z2 hS)) ?_
        have hb : (true && fd && (numV (w0.extract 1 w0.size)).2 && (numV l).2 && (numV r).2) = false := by
          rcases hno with rfl | h
          · simp
          · rw [h]; simp
        rw [hb] at hI
        simp only [Bool.false_and] at hI
        exact hI
  · have hI := toI _ (order_impl W w0 w1 w2 w4 p l r false fd hl e0 e1 e2 e4 hP hC (by omega) (by omega) (by omega) z4)
    simp only [Bool.false_and] at hI
    refine fail (Ev.intro (K1 + K2) fun k hk => ?_) hI
    unfold spec_ReadOrder.f
    rw [g1 k (by omega), Option.bind_some, if_pos hl, if_pos (by omega), e0]
    by_cases d1 : (w0.size : Int) < 2
    · rw [if_pos d1]; exact f1 k (by omega)
    · rw [if_neg d1, if_pos (by omega)]
      have d2 : ¬ bt w0 0 = 35 := by
        rcases pn with h | h
        · omega
        · exact h
      rw [if_neg d2]
      exact f1 k (by omega)
theorem eq_order (f0 : Int) (f1 : ByteArray) (f2 f3 f4 : Int) : laws_eqOrder.f f0 f1 f2 f3 f4 f0 f1 f2 f3 f4 = some true := by
  unfold laws_eqOrder.f
  simp only [if_true]
end FnExactReadOrder_
open FnExactReadOrder_ in
theorem FnExactReadOrder : ∀ (a0 : ByteArray), a0.size ≤ 140737488351232 → ∃ k, laws_FnExactReadOrder.f k a0 = some true := by
  intro a _
  by_cases c : (a.size : Int) > 1048576
  · refine ⟨0, ?_⟩
    unfold laws_FnExactReadOrder.f
    rw [if_pos c]
  · obtain ⟨r, h1, h2⟩ := order_both a (by omega)
    obtain ⟨K1, g1⟩ := Ev.pick h1
    obtain ⟨K2, g2⟩ := Ev.pick h2
    refine ⟨K1 + K2, ?_⟩
    unfold laws_FnExactReadOrder.f
    rw [if_neg c, g1 _ (by omega), g2 _ (by omega)]
    simp only [Option.bind_some, eq_order, if_true, bne_self_eq_false, Bool.false_eq_true, if_false]

end Go.Proofs.YtnfcgofpfhajoaaDoor.Pure
