import Derived.Test.YtihiodhlmnhfdaaDoorSq
import Derived.Test.YtihiodhlmnhfdaaDoorQFnExactNewDeskx0
import Derived.Test.YtihiodhlmnhfdaaDoorQFnExactNewDeskx1
import Derived.Test.YtihiodhlmnhfdaaDoorQFnExactNewDeskx2
import Derived.Test.YtihiodhlmnhfdaaDoorQFnExactNewDeskx3
namespace Go.Proofs.YtihiodhlmnhfdaaDoor.QFnExactNewDesk
open Sq (fl pu_ gl_ b20_ b21_ b30_ b31_ b32_ od_ rr_ be_)
open Go.RowKit Go.Proofs.YtihiodhlmnhfdaaDoorW.PrintWords Go.Proofs.YtihiodhlmnhfdaaDoorW.PrintLast Go.Proofs.YtihiodhlmnhfdaaDoorW.PrintMore
attribute [local go_sem] max2_int min2_int max_two min_two max_three min_three max_four min_four
set_option linter.unusedVariables false
set_option linter.unusedSimpArgs false
section
open Go.Proofs.YtihiodhlmnhfdaaDoor.Base
def decL (u : Nat) : List Int := if h : u = 0 then [] else decL (u / 10) ++ [(48 + (u % 10 : Nat) : Int)]
termination_by u
decreasing_by omega
theorem decL_zero : decL 0 = [] := by unfold decL; rfl
theorem decL_pos {u : Nat} (h : ¬ u = 0) : decL u = decL (u / 10) ++ [(48 + (u % 10 : Nat) : Int)] := by rw [decL, dif_neg h]
theorem decL_bytes (u : Nat) (h : 0 < u) : (decL u).map (fun n : Int => UInt8.ofNat n.toNat) = Lib.decDigits u := by
 induction u using Nat.strongRecOn with
 | _ u ih =>
  rw [decL_pos (by omega), Lib.decDigits]
  have e : (48 + ((u % 10 : Nat) : Int)).toNat = 48 + u % 10 := by omega
  by_cases h10 : u < 10
  ·rw [dif_pos h10, Nat.div_eq_of_lt h10, decL_zero]
   simp only [List.nil_append, List.map_cons, List.map_nil, e]
   rw [Nat.mod_eq_of_lt h10]
  ·rw [dif_neg h10, List.map_append, ih (u / 10) (by omega) (by omega)]
   simp only [List.map_cons, List.map_nil, e]
theorem strOfNums_size (xs : List Int) : (strOfNums xs).size = xs.length := by unfold strOfNums; show (Array.size _) = _; simp
def finD (n : Int) (xs : List Int) : ByteArray := if (xs.length : Int) = 0 then (⟨#[48]⟩ : ByteArray) else if n < 0 then (⟨#[45]⟩ : ByteArray) ++ strOfNums xs else strOfNums xs
theorem mod256 {x : Int} (h0 : 0 ≤ x) (h1 : x < 256) : x % 256 = x := Int.emod_eq_of_lt h0 h1
theorem dec_end (n : Int) (acc : List Int) (h : acc.length ≤ 200) : Ev (fun k => spec_l01Dec.l0 k n acc 0) (finD n acc) := by
 refine Ev.const fun k => ?_
 simp only [spec_l01Dec.l0, if_true]
 unfold finD
 split
 ·rfl
 ·split
  ·rw [if_pos (by rw [strOfNums_size]; omega)]
  ·rfl
theorem dec_loop (n : Int) : ∀ (m u : Nat) (acc : List Int) (x : Int), (x = u ∨ x = -(u : Int)) → u < 10 ^ m → acc.length + m ≤ 100 → u ≤ 9223372036854775808 → Ev (fun k => spec_l01Dec.l0 k n acc x) (finD n (decL u ++ acc))
 | 0, u, acc, x, hx, hu, ha, _ => by
  have h0 : u = 0 := by simpa using hu
  subst h0
  obtain rfl : x = 0 := by omega
  rw [decL_zero, List.nil_append]
  exact dec_end n acc (by omega)
 | m + 1, u, acc, x, hx, hu, ha, hb => by
  by_cases h0 : u = 0
  ·subst h0
   obtain rfl : x = 0 := by omega
   rw [decL_zero, List.nil_append]
   exact dec_end n acc (by omega)
  ·have hlt : u / 10 < 10 ^ m := by rw [Nat.pow_succ] at hu; omega
   have ih := dec_loop n m (u / 10) ((48 + (u % 10 : Nat) : Int) :: acc) (Int.tdiv x 10) ?_ hlt (by simp only [List.length_cons]; omega) (by omega)
   ·rw [decL_pos h0, List.append_assoc, List.singleton_append]
    refine Ev.step (fun k => ?_) ih
    have hxn : ¬ x = 0 := by omega
    simp only [spec_l01Dec.l0]
    rw [if_neg hxn]
    have hw : wrap64 (Int.tdiv x 10) = Int.tdiv x 10 := by
     rcases hx with rfl | rfl
     ·rw [tdiv_nn (by omega)]; exact w64 (by omega) (by omega)
     ·rw [Int.neg_tdiv, tdiv_nn (by omega)]; exact w64 (by omega) (by omega)
    have hm : (Int.tmod x 10 = (u % 10 : Nat) ∨ Int.tmod x 10 = -((u % 10 : Nat) : Int)) := by
     rcases hx with rfl | rfl
     ·left; rw [tmod_nn (by omega)]; omega
     ·right; rw [Int.neg_tmod, tmod_nn (by omega)]; omega
    have hd : u % 10 < 10 := Nat.mod_lt _ (by omega)
    generalize u % 10 = d at hm hd ⊢
    rw [hw]
    by_cases hneg : Int.tmod x 10 < 0
    ·have hm2 : Int.tmod x 10 = -(d : Int) := by omega
     rw [if_pos hneg, hm2]
     simp only [Option.bind_some, List.length_cons, List.length_nil]
     rw [if_pos (by omega), w64 (x := - -(d : Int)) (by omega) (by omega), w64 (x := 48 + - -(d : Int)) (by omega) (by omega), mod256 (by omega) (by omega), Int.neg_neg]
     rfl
    ·have hm2 : Int.tmod x 10 = (d : Int) := by omega
     rw [if_neg hneg, hm2]
     simp only [Option.bind_some, List.length_cons, List.length_nil]
     rw [if_pos (by omega), w64 (x := 48 + (d : Int)) (by omega) (by omega), mod256 (by omega) (by omega)]
     rfl
   ·rcases hx with rfl | rfl
    ·left; rw [tdiv_nn (by omega)]; omega
    ·right; rw [Int.neg_tdiv, tdiv_nn (by omega)]; omega
theorem finD_itoa (n : Int) : finD n (decL n.natAbs) = ⟨(Lib.itoa n).toArray⟩ := by
 unfold finD Lib.itoa
 by_cases h0 : n = 0
 ·subst h0
  rw [show (0 : Int).natAbs = 0 from rfl, decL_zero]
  rw [if_pos (show (([] : List Int).length : Int) = 0 from rfl), if_neg (by omega)]
  rw [show (0 : Int).toNat = 0 from rfl, Lib.decDigits]
  rfl
 ·have hpos : 0 < n.natAbs := by omega
  have hlen : ¬ ((decL n.natAbs).length : Int) = 0 := by
   rw [decL_pos (by omega), List.length_append]
   simp only [List.length_cons, List.length_nil]
   omega
  rw [if_neg hlen]
  have hs : strOfNums (decL n.natAbs) = ⟨(Lib.decDigits n.natAbs).toArray⟩ := by
   unfold strOfNums
   rw [decL_bytes _ hpos]
  rw [hs]
  by_cases hn : n < 0
  ·rw [if_pos hn, if_pos hn]
   apply ByteArray.ext
   rw [ByteArray.data_append]
   simp
  ·rw [if_neg hn, if_neg hn]
   have : n.toNat = n.natAbs := by omega
   rw [this]
def dec (n : Int) : ByteArray := ⟨(Lib.itoa n).toArray⟩
theorem dec_spec (n : Int) (h0 : -9223372036854775808 ≤ n) (h1 : n ≤ 9223372036854775807) : Ev (fun k => spec_l01Dec.f k n) (dec n) := by
 have := dec_loop n 20 n.natAbs [] n (by omega) (by omega) (by simp) (by omega)
 rw [List.append_nil, finD_itoa] at this
 exact this
theorem dec_impl (n : Int) (h0 : -9223372036854775808 ≤ n) (h1 : n ≤ 9223372036854775807) : impl_Decimal.f n = some (dec n) := by
 unfold impl_Decimal.f strconv_FormatInt.f
 rw [if_pos ⟨rfl, h0, h1⟩]
 rfl
theorem bt_list (s : ByteArray) (i : Nat) (h : i < s.data.toList.length) : bt s (i : Int) = ((s.data.toList[i]).toNat : Int) := by
 unfold bt
 have h2 : i < s.size := by simpa using h
 rw [dif_pos (by simpa using h2)]
 rfl
theorem size_list (s : ByteArray) : s.size = s.data.toList.length := by rw [Array.length_toList]; rfl
theorem bytes_ext {a b : ByteArray} (h : a.data.toList = b.data.toList) : a = b := by
 have h3 : a.data = b.data := Array.toList_inj.mp h
 cases a; cases b; exact congrArg ByteArray.mk h3
theorem toList_iff {a b : ByteArray} : a.toList = b.toList ↔ a = b := by
 constructor
 ·intro h
  rw [ByteArray.toList_eq, ByteArray.toList_eq] at h
  exact bytes_ext h
 ·intro h; rw [h]
def valL (l : List UInt8) : Int := l.foldl (fun a b => 10 * a + ((b.toNat : Int) - 48)) 0
theorem valL_snoc (l : List UInt8) (b : UInt8) : valL (l ++ [b]) = 10 * valL l + ((b.toNat : Int) - 48) := by unfold valL; rw [List.foldl_append]; rfl
def valD (t : ByteArray) (i : Nat) : Int := valL (t.data.toList.take i)
theorem valD_succ (t : ByteArray) (i : Nat) (h : i < t.size) : valD t (i + 1) = 10 * valD t i + (bt t (i : Int) - 48) := by
 have h2 : i < t.data.toList.length := by rw [← size_list]; exact h
 unfold valD
 rw [List.take_succ_eq_append_getElem h2, valL_snoc, bt_list t i h2]
def digitB (b : Int) : Bool := decide (48 ≤ b ∧ b ≤ 57)
def allD (t : ByteArray) : Bool := (List.range t.size).all fun i => digitB (bt t (i : Int))
theorem valD_bd (t : ByteArray) : ∀ (i : Nat), i ≤ t.size → (∀ j, j < i → digitB (bt t (j : Int)) = true) → 0 ≤ valD t i ∧ valD t i < (10 ^ i : Nat)
 | 0, _, _ => by simp [valD, valL]
 | i + 1, hi, hd => by
  have ih := valD_bd t i (by omega) (fun j hj => hd j (by omega))
  have h := of_decide_eq_true (hd i (by omega))
  rw [valD_succ t i (by omega), Nat.pow_succ]
  omega
theorem pow_le18 {i : Nat} (h : i ≤ 18) : 10 ^ i ≤ 1000000000000000000 := by
 have := Nat.pow_le_pow_right (n := 10) (by omega) h
 simpa using this
def bare (s : ByteArray) : ByteArray := if 0 < s.size ∧ bt s 0 = 45 then s.extract 1 s.size else s
theorem bare_size (s : ByteArray) : (bare s).size ≤ s.size := by
 unfold bare
 split
 ·rw [ByteArray.size_extract]; omega
 ·exact Nat.le_refl _
def numAt (s : ByteArray) (n : Int) : Int × Bool := if dec n = s then (n, true) else (0, false)
def numEnd (s t : ByteArray) : Int × Bool := numAt s (if t.size < s.size then -valD t t.size else valD t t.size)
def numV (s : ByteArray) : Int × Bool := if (bare s).size < 1 ∨ 18 < (bare s).size then (0, false) else if allD (bare s) = true then numEnd s (bare s) else (0, false)
theorem digit_spec (b : Int) : spec_l01Digit.f b = some (digitB b) := by
 unfold spec_l01Digit.f digitB
 by_cases h : b ≥ 48
 ·rw [if_pos h]; congr 1; apply Bool.eq_iff_iff.mpr; simp; omega
 ·rw [if_neg h]; congr 1; symm; simp; omega
theorem num_loop_spec (s t : ByteArray) (h18 : t.size ≤ 18) (hts : t.size ≤ s.size) : Ev (fun k => spec_l01Number.l0 k s t 0 0) (if allD t = true then numEnd s t else (0, false)) := by
 have key : ∀ (d i : Nat), i + d = t.size → (∀ j, j < i → digitB (bt t (j : Int)) = true) → Ev (fun k => spec_l01Number.l0 k s t (valD t i) i) (if allD t = true then numEnd s t else (0, false)) := by
  intro d
  induction d with
  | zero =>
   intro i hi hd
   obtain rfl : i = t.size := by omega
   have ha : allD t = true := List.all_eq_true.2 fun j hj => hd j (List.mem_range.1 hj)
   have hb := valD_bd t t.size (Nat.le_refl _) hd
   have hp := pow_le18 h18
   rw [if_pos ha]
   unfold numEnd numAt
   by_cases c : t.size < s.size
   ·rw [if_pos c]
    obtain ⟨K, hK⟩ := Ev.pick (dec_spec (-valD t t.size) (by omega) (by omega))
    refine Ev.step (f := fun k => (spec_l01Dec.f k (-valD t t.size)).bind fun t117 => if t117.toList = s.toList then some (-valD t t.size, true) else some (0, false)) (fun k => ?_) (Ev.intro K fun k hk => ?_)
    ·simp only [spec_l01Number.l0]
     rw [if_neg (by omega), if_pos (by omega), w64 (x := -valD t t.size) (by omega) (by omega)]
    ·rw [hK k hk]
     simp only [Option.bind_some, toList_iff]
     split <;> rfl
   ·rw [if_neg c]
    obtain ⟨K, hK⟩ := Ev.pick (dec_spec (valD t t.size) (by omega) (by omega))
    refine Ev.step (f := fun k => (spec_l01Dec.f k (valD t t.size)).bind fun t117 => if t117.toList = s.toList then some (valD t t.size, true) else some (0, false)) (fun k => ?_) (Ev.intro K fun k hk => ?_)
    ·simp only [spec_l01Number.l0]
     rw [if_neg (by omega), if_neg (by omega)]
    ·rw [hK k hk]
     simp only [Option.bind_some, toList_iff]
     split <;> rfl
  | succ d ih =>
   intro i hi hd
   have hb := valD_bd t i (by omega) hd
   have hp := pow_le18 (i := i) (by omega)
   have hr := bt_range t (i : Int)
   cases hdi : digitB (bt t (i : Int)) with
   | true =>
    have hdig := of_decide_eq_true hdi
    have ih2 := ih (i + 1) (by omega) (fun j hj => by
     by_cases e : j = i
     ·subst e; exact hdi
     ·exact hd j (by omega))
    refine Ev.step (fun k => ?_) ih2
    simp only [spec_l01Number.l0]
    rw [if_pos (by omega), if_pos (by omega), digit_spec, hdi]
    simp only [Option.bind_some, if_true]
    have hps : (10 ^ i : Nat) ≤ 100000000000000000 := by
     have := Nat.pow_le_pow_right (n := 10) (by omega) (show i ≤ 17 by omega)
     simpa using this
    rw [valD_succ t i (by omega), mod256 (by omega) (by omega), w64 (x := 10 * valD t i) (by omega) (by omega), w64 (x := 10 * valD t i + _) (by omega) (by omega), w64 (x := (i : Int) + 1) (by omega) (by omega)]
    rfl
   | false =>
    have ha : ¬ allD t = true := fun g => by
     have := List.all_eq_true.1 g i (List.mem_range.2 (by omega))
     rw [hdi] at this
     cases this
    rw [if_neg ha]
    refine Ev.const fun k => ?_
    simp only [spec_l01Number.l0]
    rw [if_pos (by omega), if_pos (by omega), digit_spec, hdi]
    rfl
 exact key t.size 0 (by omega) (fun j hj => absurd hj (Nat.not_lt_zero _))
theorem num_spec (s : ByteArray) (hs : s.size ≤ 140737488351232) : Ev (fun k => spec_l01Number.f k s) (numV s) := by
 have tail : ∀ t : ByteArray, t.size ≤ s.size → Ev (fun k => spec_l01Number.j1 k s t) (if t.size < 1 ∨ 18 < t.size then (0, false) else if allD t = true then numEnd s t else (0, false)) := by
  intro t ht
  by_cases c1 : t.size < 1
  ·rw [if_pos (.inl c1)]
   refine Ev.intro 2 fun k hk => ?_
   obtain ⟨m, rfl⟩ : ∃ m, k = m + 2 := ⟨k - 2, by omega⟩
   simp only [spec_l01Number.j1]
   rw [if_pos (by omega)]
   simp only [spec_l01Number.j2, if_true]
  ·by_cases c2 : 18 < t.size
   ·rw [if_pos (.inr c2)]
    refine Ev.intro 2 fun k hk => ?_
    obtain ⟨m, rfl⟩ : ∃ m, k = m + 2 := ⟨k - 2, by omega⟩
    simp only [spec_l01Number.j1]
    rw [if_neg (by omega), decide_eq_true (by omega)]
    simp only [spec_l01Number.j2, if_true]
   ·rw [if_neg (by omega)]
    refine Ev.step (f := fun k => spec_l01Number.j2 k s t false) (fun k => ?_) (Ev.step (fun k => ?_) (num_loop_spec s t (by omega) ht))
    ·simp only [spec_l01Number.j1]
     rw [if_neg (by omega), decide_eq_false (by omega)]
    ·simp only [spec_l01Number.j2, Bool.false_eq_true, if_false]
 unfold numV
 by_cases h0 : s.size = 0
 ·have hb : bare s = s := by unfold bare; rw [if_neg (by omega)]
  have hn : s.toList = ([] : List UInt8) := List.eq_nil_of_length_eq_zero (by rw [size_toList, h0])
  rw [hb]
  refine Ev.congr (f := fun k => spec_l01Number.j0 k s s false) (fun k => ?_) (Ev.step (fun k => ?_) (tail s (Nat.le_refl _)))
  ·unfold spec_l01Number.f
   rw [if_pos hn]
  ·simp only [spec_l01Number.j0, Bool.false_eq_true, if_false]
 ·have hn : ¬ s.toList = ([] : List UInt8) := fun g => h0 (by rw [← size_toList, g]; rfl)
  refine Ev.congr (f := fun k => spec_l01Number.j0 k s s (bt s 0 == 45)) (fun k => ?_) ?_
  ·unfold spec_l01Number.f
   rw [if_neg hn, if_pos (by omega)]
  ·by_cases h45 : bt s 0 = 45
   ·have hb : bare s = s.extract 1 s.size := by unfold bare; rw [if_pos ⟨by omega, h45⟩]
    have he : (bt s 0 == 45) = true := by simpa using h45
    rw [he]
    refine Ev.step (fun k => ?_) (tail (bare s) (bare_size s))
    rw [hb]
    simp only [spec_l01Number.j0, if_true]
    rw [if_pos (by omega)]
   ·have hb : bare s = s := by unfold bare; rw [if_neg (fun g => h45 g.2)]
    have he : (bt s 0 == 45) = false := by simpa using h45
    rw [hb, he]
    refine Ev.step (fun k => ?_) (tail s (Nat.le_refl _))
    simp only [spec_l01Number.j0, Bool.false_eq_true, if_false]
theorem num_loop_impl (s t : ByteArray) (h18 : t.size ≤ 18) (hts : t.size ≤ s.size) : Ev (fun k => impl_ReadDecimal.l0 k s t 0 0) (if allD t = true then numEnd s t else (0, false)) := by
 have key : ∀ (d i : Nat), i + d = t.size → (∀ j, j < i → digitB (bt t (j : Int)) = true) → Ev (fun k => impl_ReadDecimal.l0 k s t (valD t i) i) (if allD t = true then numEnd s t else (0, false)) := by
  intro d
  induction d with
  | zero =>
   intro i hi hd
   obtain rfl : i = t.size := by omega
   have ha : allD t = true := List.all_eq_true.2 fun j hj => hd j (List.mem_range.1 hj)
   have hb := valD_bd t t.size (Nat.le_refl _) hd
   have hp := pow_le18 h18
   rw [if_pos ha]
   unfold numEnd numAt
   by_cases c : t.size < s.size
   ·rw [if_pos c]
    refine Ev.const fun k => ?_
    simp only [impl_ReadDecimal.l0]
    rw [if_neg (by omega), if_pos (by omega), w64 (x := -valD t t.size) (by omega) (by omega), dec_impl (-valD t t.size) (by omega) (by omega)]
    simp only [Option.bind_some, toList_iff]
    split <;> rfl
   ·rw [if_neg c]
    refine Ev.const fun k => ?_
    simp only [impl_ReadDecimal.l0]
    rw [if_neg (by omega), if_neg (by omega), dec_impl (valD t t.size) (by omega) (by omega)]
    simp only [Option.bind_some, toList_iff]
    split <;> rfl
  | succ d ih =>
   intro i hi hd
   have hb := valD_bd t i (by omega) hd
   have hp := pow_le18 (i := i) (by omega)
   have hr := bt_range t (i : Int)
   cases hdi : digitB (bt t (i : Int)) with
   | true =>
    have hdig := of_decide_eq_true hdi
    have ih2 := ih (i + 1) (by omega) (fun j hj => by
     by_cases e : j = i
     ·subst e; exact hdi
     ·exact hd j (by omega))
    refine Ev.step (fun k => ?_) ih2
    simp only [impl_ReadDecimal.l0]
    rw [if_pos (by omega), if_pos (by omega), if_neg (by omega), if_neg (by omega)]
    have hps : (10 ^ i : Nat) ≤ 100000000000000000 := by
     have := Nat.pow_le_pow_right (n := 10) (by omega) (show i ≤ 17 by omega)
     simpa using this
    rw [valD_succ t i (by omega), mod256 (by omega) (by omega), w64 (x := 10 * valD t i) (by omega) (by omega), w64 (x := 10 * valD t i + _) (by omega) (by omega), w64 (x := (i : Int) + 1) (by omega) (by omega)]
    rfl
   | false =>
    have ha : ¬ allD t = true := fun g => by
     have := List.all_eq_true.1 g i (List.mem_range.2 (by omega))
     rw [hdi] at this
     cases this
    rw [if_neg ha]
    have hdig := of_decide_eq_false hdi
    refine Ev.const fun k => ?_
    simp only [impl_ReadDecimal.l0]
    rw [if_pos (by omega), if_pos (by omega)]
    by_cases c : bt t (i : Int) < 48
    ·rw [if_pos c]
    ·rw [if_neg c, if_pos (by omega)]
 exact key t.size 0 (by omega) (fun j hj => absurd hj (Nat.not_lt_zero _))
theorem prefix_one (s : ByteArray) : strings_TrimPrefix.f s (⟨#[45]⟩ : ByteArray) = some (bare s) := by
 unfold strings_TrimPrefix.f stringslite_TrimPrefix.f stringslite_HasPrefix.f
 have z : (⟨#[45]⟩ : ByteArray).size = 1 := rfl
 rw [z]
 by_cases h0 : s.size = 0
 ·rw [if_neg (by omega)]
  simp only [Option.bind_some, Bool.false_eq_true, if_false]
  unfold bare
  rw [if_neg (by omega)]
 ·rw [if_pos (by omega), if_pos (by omega), if_pos (by omega)]
  simp only [Option.bind_some]
  have e1 : ((1 : Nat) : Int).toNat = 1 := rfl
  rw [e1]
  have hl : 0 < s.data.toList.length := by rw [← size_list]; omega
  have hb0 := bt_list s 0 hl
  have key : (((s.extract 0 1).toList == (⟨#[45]⟩ : ByteArray).toList) = true) ↔ bt s 0 = 45 := by
   rw [beq_iff_eq, toList_iff]
   have hx : (s.extract 0 1).data.toList = [s.data.toList[0]] := by
    rw [Lib.extract_data]
    rw [List.drop_zero, Nat.sub_zero, List.take_succ_eq_append_getElem hl, List.take_zero]
    rfl
   rw [show (0 : Int) = ((0 : Nat) : Int) from rfl, hb0]
   constructor
   ·intro g
    rw [g] at hx
    have h2 : [(45 : UInt8)] = [s.data.toList[0]] := hx
    have h3 : (45 : UInt8) = s.data.toList[0] := by simpa using h2
    rw [← h3]; rfl
   ·intro g
    apply bytes_ext
    rw [hx]
    show [s.data.toList[0]] = [(45 : UInt8)]
    have h3 : s.data.toList[0] = 45 := UInt8.toNat_inj.mp (by
     have : (s.data.toList[0]).toNat = 45 := by omega
     rw [this]; rfl)
    rw [h3]
  unfold bare
  by_cases h45 : bt s 0 = 45
  ·have hb := key.mpr h45
   rw [hb]
   simp only [if_true]
   rw [if_pos (by omega), if_pos (by omega), if_pos ⟨by omega, h45⟩]
   rfl
  ·have hb : ((s.extract 0 1).toList == (⟨#[45]⟩ : ByteArray).toList) = false := Bool.eq_false_iff.mpr fun g => h45 (key.mp g)
   rw [hb]
   simp only [Bool.false_eq_true, if_false]
   rw [if_neg (fun g => h45 g.2)]
   rfl
theorem num_impl (s : ByteArray) (hs : s.size ≤ 140737488351232) : Ev (fun k => impl_ReadDecimal.f k s) (numV s) := by
 have ht := bare_size s
 unfold numV
 have h1 : ∀ k, impl_ReadDecimal.f k s = if ((bare s).size : Int) < 1 then impl_ReadDecimal.j0 k s (bare s) true else impl_ReadDecimal.j0 k s (bare s) (decide (((bare s).size : Int) > 18)) := by
  intro k
  unfold impl_ReadDecimal.f
  rw [prefix_one]
  rfl
 generalize bare s = t at *
 by_cases c1 : t.size < 1
 ·rw [if_pos (.inl c1)]
  refine Ev.const fun k => ?_
  rw [h1, if_pos (by omega)]
  simp only [impl_ReadDecimal.j0, if_true]
 ·by_cases c2 : 18 < t.size
  ·rw [if_pos (.inr c2)]
   refine Ev.const fun k => ?_
   rw [h1, if_neg (by omega), decide_eq_true (by omega)]
   simp only [impl_ReadDecimal.j0, if_true]
  ·rw [if_neg (by omega)]
   refine Ev.step (fun k => ?_) (num_loop_impl s t (by omega) ht)
   rw [h1, if_neg (by omega), decide_eq_false (by omega)]
   simp only [impl_ReadDecimal.j0, Bool.false_eq_true, if_false]
def S1 (c : UInt8) (s : ByteArray) : List ByteArray := Lib.splitB (⟨#[c]⟩ : ByteArray) 0 (Lib.countB s (⟨#[c]⟩ : ByteArray)) s
theorem bt_get {s : ByteArray} {c : UInt8} {i : Nat} (hi : i < s.size) : s.data.toList[i]? = some c ↔ bt s (i : Int) = (c.toNat : Int) := by
 have h2 : i < s.data.toList.length := by rw [← size_list]; exact hi
 rw [List.getElem?_eq_getElem h2, bt_list s i h2]
 constructor
 ·intro h
  injection h with h
  rw [h]
 ·intro h
  congr 1
  apply UInt8.toNat_inj.mp
  omega
theorem S1_none {c : UInt8} {s : ByteArray} (h : ∀ i : Nat, i < s.size → ¬ bt s (i : Int) = (c.toNat : Int)) : S1 c s = [s] := by
 rcases Lib.indexB_cases s (⟨#[c]⟩ : ByteArray) with e | ⟨i, e, hr⟩
 ·exact Lib.splitB_miss _ _ _ _ e
 ·exfalso
  have hi : i < s.size := by have : (⟨#[c]⟩ : ByteArray).size = 1 := rfl; omega
  have e2 : Lib.indexByte s.data.toList c = (i : Int) := by rw [← Lib.index_one]; exact e
  exact h i hi ((bt_get hi).mp (Lib.indexByte_some e2).1)
theorem S1_hit {c : UInt8} {s : ByteArray} {i : Nat} (hi : i < s.size) (hc : bt s (i : Int) = (c.toNat : Int)) (h : ∀ j : Nat, j < i → ¬ bt s (j : Int) = (c.toNat : Int)) : S1 c s = s.extract 0 i :: S1 c (s.extract (i + 1) s.size) := by
 rcases Lib.indexB_cases s (⟨#[c]⟩ : ByteArray) with e | ⟨o, e, hr⟩
 ·exfalso
  have e2 : Lib.indexByte s.data.toList c = -1 := by rw [← Lib.index_one]; exact e
  exact Lib.indexByte_none e2 i ((bt_get hi).mpr hc)
 ·have e2 : Lib.indexByte s.data.toList c = (o : Int) := by rw [← Lib.index_one]; exact e
  obtain ⟨p1, p2⟩ := Lib.indexByte_some e2
  have ho : o < s.size := by have : (⟨#[c]⟩ : ByteArray).size = 1 := rfl; omega
  have hoi : o = i := by
   rcases Nat.lt_trichotomy o i with l | l | l
   ·exact absurd ((bt_get ho).mp p1) (h o l)
   ·exact l
   ·exact absurd ((bt_get hi).mpr hc) (p2 i l)
  subst hoi
  unfold S1
  rw [Lib.countB_hit s (⟨#[c]⟩ : ByteArray) o (Nat.le_refl 1) e, Nat.add_comm 1, Lib.splitB_hit _ _ _ _ o e]
  rfl
theorem bt_ext (s : ByteArray) (a b j : Nat) (h : a + j < b) (hb : b ≤ s.size) : bt (s.extract a b) (j : Int) = bt s ((a + j : Nat) : Int) := by
 have h0 : (s.extract a b).data.toList = (s.data.toList.drop a).take (b - a) := Lib.extract_data s a b
 have h2 : a + j < s.data.toList.length := by rw [← size_list]; omega
 have h1 : j < (s.extract a b).data.toList.length := by rw [h0, List.length_take, List.length_drop]; omega
 rw [bt_list _ j h1, bt_list s (a + j) h2]
 have e := congrArg (fun l => l[j]?) h0
 rw [List.getElem?_eq_getElem h1, List.getElem?_take, if_pos (by omega), List.getElem?_drop, List.getElem?_eq_getElem h2, Option.some.injEq] at e
 rw [e]
theorem split_loop (s : ByteArray) (c : UInt8) (hs : s.size ≤ 1048576) : ∀ (d i fr : Nat) (out : List ByteArray), i + d = s.size → fr ≤ i → (∀ j : Nat, fr ≤ j → j < i → ¬ bt s (j : Int) = (c.toNat : Int)) → out.length ≤ fr →
  Ev (fun k => spec_l01Split.l0 k s (c.toNat : Int) out (fr : Int) (i : Int)) (out ++ S1 c (s.extract fr s.size))
 | 0, i, fr, out, hi, hf, hn, ho => by
  have hz : (s.extract fr s.size).size = s.size - fr := by rw [ByteArray.size_extract]; omega
  rw [S1_none (fun j hj => by rw [bt_ext s fr s.size j (by omega) (Nat.le_refl _)]; exact hn (fr + j) (by omega) (by omega))]
  refine Ev.const fun k => ?_
  simp only [spec_l01Split.l0]
  rw [if_neg (by omega), if_pos (by omega), if_pos (by omega), if_pos (by omega), Int.toNat_natCast]
 | d + 1, i, fr, out, hi, hf, hn, ho => by
  have hz : (s.extract fr s.size).size = s.size - fr := by rw [ByteArray.size_extract]; omega
  by_cases e : bt s (i : Int) = (c.toNat : Int)
  ·have ih := split_loop s c hs d (i + 1) (i + 1) (out ++ [s.extract fr i]) (by omega) (by omega) (fun j _ _ => by omega) (by rw [List.length_append, List.length_singleton]; omega)
   have hh : S1 c (s.extract fr s.size) = s.extract fr i :: S1 c (s.extract (i + 1) s.size) := by
    have h1 := bt_ext s fr s.size (i - fr) (by omega) (Nat.le_refl _)
    rw [show fr + (i - fr) = i by omega] at h1
    rw [S1_hit (i := i - fr) (by omega) (by rw [h1]; exact e) (fun j hj => by rw [bt_ext s fr s.size j (by omega) (Nat.le_refl _)]; exact hn (fr + j) (by omega) (by omega))]
    rw [ByteArray.extract_extract, ByteArray.extract_extract, hz]
    congr 2
    ·omega
    ·congr 1
     ·omega
     ·omega
   rw [hh, show out ++ s.extract fr i :: S1 c (s.extract (i + 1) s.size) = out ++ [s.extract fr i] ++ S1 c (s.extract (i + 1) s.size) by simp]
   refine Ev.step (fun k => ?_) ih
   simp only [spec_l01Split.l0]
   rw [if_pos (by omega), if_pos (by omega), if_pos e, if_pos (by omega), if_pos (by omega), if_pos (by omega), if_pos (by omega), w64 (x := (i : Int) + 1) (by omega) (by omega), Int.toNat_natCast, Int.toNat_natCast]
   rfl
  ·have ih := split_loop s c hs d (i + 1) fr out (by omega) (by omega) (fun j h1 h2 => by
    by_cases g : j < i
    ·exact hn j h1 g
    ·obtain rfl : j = i := by omega
     exact e) ho
   refine Ev.step (fun k => ?_) ih
   simp only [spec_l01Split.l0]
   rw [if_pos (by omega), if_pos (by omega), if_neg e, w64 (x := (i : Int) + 1) (by omega) (by omega)]
   rfl
theorem split_spec (s : ByteArray) (c : UInt8) (hs : s.size ≤ 1048576) : Ev (fun k => spec_l01Split.f k s (c.toNat : Int)) (S1 c s) := by
 have := split_loop s c hs s.size 0 0 [] (by omega) (by omega) (fun j _ _ => by omega) (by simp)
 rw [ByteArray.extract_zero_size, List.nil_append] at this
 exact this
theorem S1_len (c : UInt8) (s : ByteArray) : (S1 c s).length ≤ s.size + 1 := by
 unfold S1
 rw [Lib.splitB_all (⟨#[c]⟩ : ByteArray) (Nat.le_refl 1) 0 _ s rfl]
 have := Lib.countB_le (⟨#[c]⟩ : ByteArray) (Nat.le_refl 1) s.size s (Nat.le_refl _)
 omega
theorem split_impl (s : ByteArray) (c : UInt8) (hs : s.size ≤ 1048576) : strings_Split.f s (⟨#[c]⟩ : ByteArray) = some (S1 c s) := by
 unfold strings_Split.f
 rw [if_pos ⟨by omega, Nat.le_refl 1⟩]
 rfl
theorem rdO (l : List ByteArray) (i : Nat) (h : i < l.length) : rdOf ByteArray.empty l (i : Int) = l[i] := by
 unfold rdOf
 rw [Int.toNat_natCast, List.getD_eq_getElem?_getD, List.getElem?_eq_getElem h]
 rfl
def some0 (x : ByteArray) : Bool := !decide (x.toList = [])
theorem sw_spec (l : List ByteArray) (hl : l.length ≤ 2000000) : ∀ (d i : Nat) (out : List ByteArray), i + d = l.length → out.length ≤ i → Ev (fun k => spec_SplitWords.l0 k l out (i : Int)) (out ++ (l.drop i).filter some0)
 | 0, i, out, hi, ho => by
  rw [List.drop_of_length_le (by omega), List.filter_nil, List.append_nil]
  refine Ev.const fun k => ?_
  simp only [spec_SplitWords.l0]
  rw [if_neg (by omega)]
 | d + 1, i, out, hi, ho => by
  have hil : i < l.length := by omega
  rw [List.drop_eq_getElem_cons hil]
  have hr := rdO l i hil
  by_cases e : l[i].toList = []
  ·have ih := sw_spec l hl d (i + 1) out (by omega) (by omega)
   rw [List.filter_cons_of_neg (by unfold some0; rw [decide_eq_true e]; simp)]
   refine Ev.step (fun k => ?_) ih
   simp only [spec_SplitWords.l0]
   rw [if_pos (by omega), if_pos (by omega), hr, if_pos e, w64 (x := (i : Int) + 1) (by omega) (by omega)]
   rfl
  ·have ih := sw_spec l hl d (i + 1) (out ++ [l[i]]) (by omega) (by rw [List.length_append, List.length_singleton]; omega)
   rw [List.filter_cons_of_pos (by unfold some0; rw [decide_eq_false e]; simp), show out ++ l[i] :: (l.drop (i + 1)).filter some0 = out ++ [l[i]] ++ (l.drop (i + 1)).filter some0 by simp]
   refine Ev.step (fun k => ?_) ih
   simp only [spec_SplitWords.l0]
   rw [if_pos (by omega), if_pos (by omega), hr, if_neg e, if_pos (by omega), w64 (x := (i : Int) + 1) (by omega) (by omega)]
   rfl
theorem sw_impl (l : List ByteArray) (hl : l.length ≤ 2000000) : ∀ (d i : Nat) (out : List ByteArray), i + d = l.length → out.length ≤ i → Ev (fun k => impl_SplitWords.l0 k out l (l.length : Int) (i : Int)) (out ++ (l.drop i).filter some0)
 | 0, i, out, hi, ho => by
  rw [List.drop_of_length_le (by omega), List.filter_nil, List.append_nil]
  refine Ev.const fun k => ?_
  simp only [impl_SplitWords.l0]
  rw [if_neg (by omega)]
 | d + 1, i, out, hi, ho => by
  have hil : i < l.length := by omega
  rw [List.drop_eq_getElem_cons hil]
  have hr := rdO l i hil
  by_cases e : l[i].toList = []
  ·have ih := sw_impl l hl d (i + 1) out (by omega) (by omega)
   rw [List.filter_cons_of_neg (by unfold some0; rw [decide_eq_true e]; simp)]
   refine Ev.step (fun k => ?_) ih
   simp only [impl_SplitWords.l0]
   rw [if_pos (by omega), if_pos (by omega), if_pos (by omega), hr, if_pos e, w64 (x := (i : Int) + 1) (by omega) (by omega)]
   rfl
  ·have ih := sw_impl l hl d (i + 1) (out ++ [l[i]]) (by omega) (by rw [List.length_append, List.length_singleton]; omega)
   rw [List.filter_cons_of_pos (by unfold some0; rw [decide_eq_false e]; simp), show out ++ l[i] :: (l.drop (i + 1)).filter some0 = out ++ [l[i]] ++ (l.drop (i + 1)).filter some0 by simp]
   refine Ev.step (fun k => ?_) ih
   simp only [impl_SplitWords.l0]
   rw [if_pos (by omega), if_pos (by omega), if_pos (by omega), hr, if_neg e, if_pos (by omega), w64 (x := (i : Int) + 1) (by omega) (by omega)]
   rfl
def wordsOf (s : ByteArray) : List ByteArray := (S1 32 s).filter some0
theorem words_len (s : ByteArray) : (wordsOf s).length ≤ s.size + 1 := Nat.le_trans (List.length_filter_le _ _) (S1_len 32 s)
theorem words_spec (s : ByteArray) (hs : s.size ≤ 1048576) : Ev (fun k => spec_SplitWords.f k s) (wordsOf s) := by
 have hl := S1_len 32 s
 obtain ⟨K1, g1⟩ := Ev.pick (split_spec s 32 hs)
 obtain ⟨K2, g2⟩ := Ev.pick (sw_spec (S1 32 s) (by omega) (S1 32 s).length 0 [] (by omega) (by simp))
 refine Ev.intro (K1 + K2) fun k hk => ?_
 unfold spec_SplitWords.f
 have e := g1 k (by omega)
 rw [show ((32 : UInt8).toNat : Int) = 32 from rfl] at e
 rw [e, Option.bind_some]
 exact g2 k (by omega)
theorem words_impl (s : ByteArray) (hs : s.size ≤ 1048576) : Ev (fun k => impl_SplitWords.f k s) (wordsOf s) := by
 have hl := S1_len 32 s
 obtain ⟨K2, g2⟩ := Ev.pick (sw_impl (S1 32 s) (by omega) (S1 32 s).length 0 [] (by omega) (by simp))
 refine Ev.intro K2 fun k hk => ?_
 unfold impl_SplitWords.f
 rw [split_impl s 32 hs, Option.bind_some]
 exact g2 k (by omega)
theorem name_loop_spec (s : ByteArray) (h : s.size ≤ 12) : Ev (fun k => spec_IsName.l0 k s 0) ((List.range s.size).all fun i => nameByte (bt s i)) := by
 have := all_lt s.size (fun i => nameByte (bt s i)) (fun k i => spec_IsName.l0 k s i) true false (fun i hi hp => ⟨0, fun k _ => ?_⟩) (fun i hi hp => Ev.const fun k => ?_) (fun _ => Ev.const fun k => ?_)
 ·rw [ite_bool] at this
  exact this
 ·have hp := of_decide_eq_true hp
  simp only [spec_IsName.l0, spec_l01Small.f, spec_l01Digit.f]
  rw [if_pos (by omega), if_pos (by omega), w64 (by omega) (by omega)]
  by_cases h1 : bt s i ≥ 97
  ·rw [if_pos h1]
   simp only [Option.bind_some, decide_eq_true_eq]
   by_cases h2 : bt s i ≤ 122
   ·rw [if_pos h2]
   ·exfalso; omega
  ·rw [if_neg h1]
   simp only [Option.bind_some, Bool.false_eq_true, if_false]
   by_cases h3 : bt s i ≥ 48
   ·rw [if_pos h3]
    simp only [Option.bind_some, decide_eq_true_eq]
    rw [if_pos (by omega)]
   ·rw [if_neg h3]
    simp only [Option.bind_some, Bool.false_eq_true, if_false]
    rw [if_pos (by omega)]
 ·have hp := of_decide_eq_false hp
  simp only [spec_IsName.l0, spec_l01Small.f, spec_l01Digit.f]
  rw [if_pos (by omega), if_pos (by omega)]
  by_cases h1 : bt s i ≥ 97
  ·rw [if_pos h1, if_pos (by omega)]
   simp only [Option.bind_some, decide_eq_true_eq]
   rw [if_neg (by omega), if_neg (by omega), if_neg (by omega)]
  ·rw [if_neg h1]
   simp only [Option.bind_some, Bool.false_eq_true, if_false]
   by_cases h3 : bt s i ≥ 48
   ·rw [if_pos h3]
    simp only [Option.bind_some, decide_eq_true_eq]
    rw [if_neg (by omega), if_neg (by omega)]
   ·rw [if_neg h3]
    simp only [Option.bind_some, Bool.false_eq_true, if_false]
    rw [if_neg (by omega)]
 ·simp only [spec_IsName.l0]
  rw [if_neg (by omega)]
theorem name_j0 (s : ByteArray) (k : Nat) : spec_IsName.j0 (k + 1) s true = some false := by simp only [spec_IsName.j0, if_true]
theorem name_spec (s : ByteArray) : Ev (fun k => spec_IsName.f k s) (isNameB s) := by
 unfold isNameB
 by_cases h0 : s.size = 0
 ·rw [decide_eq_false (by omega), Bool.false_and]
  refine Ev.const fun k => ?_
  unfold spec_IsName.f
  rw [if_pos (List.eq_nil_of_length_eq_zero (by rw [size_toList, h0]))]
  exact name_j0 s k
 ·have hne : ¬ s.toList = ([] : List UInt8) := fun h => h0 (by rw [← size_toList, h]; rfl)
  by_cases h12 : s.size ≤ 12
  ·by_cases hs : 97 ≤ bt s 0 ∧ bt s 0 ≤ 122
   ·rw [decide_eq_true ⟨by omega, h12, hs⟩, Bool.true_and]
    refine Ev.step (f := fun k => spec_IsName.l0 k s 0) (fun k => ?_) (name_loop_spec s h12)
    simp only [spec_IsName.f, spec_l01Small.f]
    rw [if_neg hne, if_neg (by omega), if_pos (by omega), if_pos (by omega)]
    simp only [Option.bind_some]
    rw [decide_eq_true hs.2]
    simp only [Bool.not_true, spec_IsName.j0, Bool.false_eq_true, if_false]
   ·rw [decide_eq_false (fun h => hs h.2.2), Bool.false_and]
    refine Ev.const fun k => ?_
    simp only [spec_IsName.f, spec_l01Small.f]
    rw [if_neg hne, if_neg (by omega), if_pos (by omega)]
    by_cases h1 : bt s 0 ≥ 97
    ·rw [if_pos h1]
     simp only [Option.bind_some]
     rw [decide_eq_false (by omega)]
     exact name_j0 s k
    ·rw [if_neg h1]
     exact name_j0 s k
  ·rw [decide_eq_false (by omega), Bool.false_and]
   refine Ev.const fun k => ?_
   unfold spec_IsName.f
   rw [if_neg hne, if_pos (by omega)]
   exact name_j0 s k
theorem name_loop_impl (s : ByteArray) (h : s.size ≤ 12) : Ev (fun k => impl_IsName.l0 k s 0) ((List.range s.size).all fun i => nameByte (bt s i)) := by
 have := all_lt s.size (fun i => nameByte (bt s i)) (fun k i => impl_IsName.l0 k s i) true false (fun i hi hp => ⟨0, fun k _ => ?_⟩) (fun i hi hp => Ev.const fun k => ?_) (fun _ => Ev.const fun k => ?_)
 ·rw [ite_bool] at this
  exact this
 ·have hp := of_decide_eq_true hp
  simp only [impl_IsName.l0]
  rw [if_pos (by omega), if_pos (by omega), w64 (by omega) (by omega)]
  repeat' split
  all_goals first | rfl | (exfalso; omega)
 ·have hp := of_decide_eq_false hp
  simp only [impl_IsName.l0]
  rw [if_pos (by omega), if_pos (by omega)]
  repeat' split
  all_goals first | rfl | (exfalso; omega)
 ·simp only [impl_IsName.l0]
  rw [if_neg (by omega)]
theorem name_impl (s : ByteArray) : Ev (fun k => impl_IsName.f k s) (isNameB s) := by
 unfold isNameB
 by_cases h0 : s.size < 1
 ·rw [decide_eq_false (by omega), Bool.false_and]
  refine Ev.const fun k => ?_
  unfold impl_IsName.f
  rw [if_pos (by omega)]
  simp only [impl_IsName.j0, if_true]
 ·by_cases h12 : s.size ≤ 12
  ·by_cases hs : 97 ≤ bt s 0 ∧ bt s 0 ≤ 122
   ·rw [decide_eq_true ⟨by omega, h12, hs⟩, Bool.true_and]
    refine Ev.step (f := fun k => impl_IsName.l0 k s 0) (fun k => ?_) (name_loop_impl s h12)
    simp only [impl_IsName.f]
    rw [if_neg (by omega), if_neg (by omega), if_pos (by omega), if_neg (by omega), decide_eq_false (by omega)]
    simp only [impl_IsName.j0, Bool.false_eq_true, if_false]
   ·rw [decide_eq_false (fun h => hs h.2.2), Bool.false_and]
    refine Ev.const fun k => ?_
    simp only [impl_IsName.f]
    rw [if_neg (by omega), if_neg (by omega), if_pos (by omega)]
    by_cases h1 : bt s 0 < 97
    ·rw [if_pos h1]
     simp only [impl_IsName.j0, if_true]
    ·rw [if_neg h1, decide_eq_true (by omega)]
     simp only [impl_IsName.j0, if_true]
  ·rw [decide_eq_false (by omega), Bool.false_and]
   refine Ev.const fun k => ?_
   unfold impl_IsName.f
   rw [if_neg (by omega), if_pos (by omega)]
   simp only [impl_IsName.j0, if_true]
def idxOf {α : Type} (p : α → Bool) (l : List α) : Int := match l.findIdx? p with | some i => (i : Int) | none => -1
theorem idx_hit {α : Type} {p : α → Bool} {l : List α} {i : Nat} (h : i < l.length) (hi : p l[i] = true) (hn : ∀ j (hj : j < i), p (l[j]'(by omega)) = false) : idxOf p l = i := by
 unfold idxOf
 rw [List.findIdx?_eq_some_iff_getElem.mpr ⟨h, hi, fun j hj => by rw [hn j hj]; simp⟩]
theorem idx_miss {α : Type} {p : α → Bool} {l : List α} (hn : ∀ j (hj : j < l.length), p l[j] = false) : idxOf p l = -1 := by
 unfold idxOf
 rw [List.findIdx?_eq_none_iff.mpr (fun x hx => by obtain ⟨j, hj, rfl⟩ := List.getElem_of_mem hx; exact hn j hj)]
theorem idx_range {α : Type} (p : α → Bool) (l : List α) : -1 ≤ idxOf p l ∧ idxOf p l < l.length ∨ idxOf p l = -1 := by
 unfold idxOf
 split
 ·rename_i i hi
  obtain ⟨h, -⟩ := List.findIdx?_eq_some_iff_getElem.mp hi
  exact .inl ⟨by omega, by omega⟩
 ·exact .inr rfl
theorem any_hit {α : Type} {p : α → Bool} {l : List α} {i : Nat} (h : i < l.length) (hi : p l[i] = true) : l.any p = true := List.any_eq_true.2 ⟨l[i], List.getElem_mem h, hi⟩
theorem any_miss {α : Type} {p : α → Bool} {l : List α} (hn : ∀ j (hj : j < l.length), p l[j] = false) : l.any p = false := by
 rw [List.any_eq_false]
 intro x hx
 obtain ⟨j, hj, rfl⟩ := List.getElem_of_mem hx
 rw [hn j hj]; simp
def railIdx (ra : List S68) (nm : ByteArray) : Int := idxOf (fun x => x.f0.toList == nm.toList) ra
def hasLn (li : List ByteArray) (nm : ByteArray) : Bool := li.any fun x => x.toList == nm.toList
def beLn (be : List S71) (nm : ByteArray) : Int := idxOf (fun x => x.f0.toList == nm.toList) be
def beAt (be : List S71) (rl : ByteArray) (pn : Int) : Int := idxOf (fun x => x.f1.toList == rl.toList && x.f2 == pn) be
theorem rdRail (xs : List S68) (i : Nat) (h : i < xs.length) : rd_T68 xs (i : Int) = xs[i] := by
 unfold rd_T68; rw [Int.toNat_natCast, List.getD_eq_getElem?_getD, List.getElem?_eq_getElem h]; rfl
theorem rdBelay (xs : List S71) (i : Nat) (h : i < xs.length) : rd_T71 xs (i : Int) = xs[i] := by
 unfold rd_T71; rw [Int.toNat_natCast, List.getD_eq_getElem?_getD, List.getElem?_eq_getElem h]; rfl
theorem rdLine (xs : List ByteArray) (i : Nat) (h : i < xs.length) : rdOf ByteArray.empty xs (i : Int) = xs[i] := by
 unfold rdOf; rw [Int.toNat_natCast, List.getD_eq_getElem?_getD, List.getElem?_eq_getElem h]; rfl
abbrev RT := List S68 × List ByteArray × List S71
def sideB (s : ByteArray) : Bool := s.toList == [112] || s.toList == [115] || s.toList == [109]
def addRailP (R : RT) (r : S68) : Int × RT :=
 if isNameB r.f0 = true then (if sideB r.f1 = true then (if decide (1 ≤ r.f2 ∧ r.f2 ≤ 30) = true then (if 0 ≤ railIdx R.1 r.f0 then (5, R) else if 10 ≤ (R.1.length : Int) then (8, R) else (0, (R.1 ++ [r], R.2.1, R.2.2))) else (4, R)) else (1, R)) else (3, R)
def addLineP (R : RT) (nm : ByteArray) : Int × RT :=
 if isNameB nm = true then (if hasLn R.2.1 nm = true then (5, R) else if 60 ≤ (R.2.1.length : Int) then (8, R) else (0, (R.1, R.2.1 ++ [nm], R.2.2))) else (3, R)
def addBelayP (R : RT) (b : S71) : Int × RT :=
 if 0 ≤ railIdx R.1 b.f1 then (if hasLn R.2.1 b.f0 = true then (if decide (1 ≤ b.f2 ∧ b.f2 ≤ (rd_T68 R.1 (railIdx R.1 b.f1)).f2) = true then (if 0 ≤ beLn R.2.2 b.f0 then (5, R) else if 0 ≤ beAt R.2.2 b.f1 b.f2 then (7, R) else (0, (R.1, R.2.1, R.2.2 ++ [b]))) else (4, R)) else (6, R)) else (6, R)
structure Rg (w0 w : World) (g : Nat) (v0 v1 v2 : Value) (R : RT) : Prop where
 blk : w.heap[g]? = some (.cells #[v0, v1, v2] 26 (0, 0))
 bg : w0.heap.size ≤ g
 r0 : Kd.R k68 68 w w0.heap.size (fun _ => True) v0 R.1
 r1 : Kd.R Kd.string 9 w w0.heap.size (fun _ => True) v1 R.2.1
 r2 : Kd.R k71 71 w w0.heap.size (fun _ => True) v2 R.2.2
 low : Below w0.heap.size w0 w
section
variable {w0 w w5 : World} {g : Nat} {v0 v1 v2 : Value} {R : RT}
theorem Rg.step (h : Rg w0 w g v0 v1 v2 R) (hb : Below w.heap.size w w5) : Rg w0 w5 g v0 v1 v2 R :=
 ⟨blk_below h.blk hb, h.bg, Kd.R_below h.r0 hb, Kd.R_below h.r1 hb, Kd.R_below h.r2 hb, h.low.trans (hb.mono h.low.size)⟩
theorem Rg.form (h : Rg w0 w g v0 v1 v2 R) : (∃ A c, v0 = .slice A R.1.length c) ∧ (∃ A c, v1 = .slice A R.2.1.length c) ∧ (∃ A c, v2 = .slice A R.2.2.length c) := ⟨Kd.R_slice h.r0, Kd.R_slice h.r1, Kd.R_slice h.r2⟩
theorem Rg.c0 (h : Rg w0 w g v0 v1 v2 R) : w.cell? ⟨g, 0, none⟩ = some v0 := (blk_cell h.blk 0).trans rfl
theorem Rg.c1 (h : Rg w0 w g v0 v1 v2 R) : w.cell? ⟨g, 1, none⟩ = some v1 := (blk_cell h.blk 1).trans rfl
theorem Rg.c2 (h : Rg w0 w g v0 v1 v2 R) : w.cell? ⟨g, 2, none⟩ = some v2 := (blk_cell h.blk 2).trans rfl
end
def RS (g : Nat) (v0 v1 v2 : Value) (k : Nat) : Prop := k = g ∨ v0.ownBlock = some k ∨ v1.ownBlock = some k ∨ v2.ownBlock = some k
def Pr (w : World) (v v' : Value) : Prop := ∀ k, v'.ownBlock = some k → v.ownBlock = some k ∨ w.heap.size ≤ k
theorem Pr.refl (w : World) (v : Value) : Pr w v v := fun _ h => .inl h
def RgTo (w0 w w' : World) (g : Nat) (v0 v1 v2 : Value) (R : RT) : Prop := ∃ v0' v1' v2', Rg w0 w' g v0' v1' v2' R ∧ Kept w w' (RS g v0 v1 v2) ∧ Pr w v0 v0' ∧ Pr w v1 v1' ∧ Pr w v2 v2'
section
variable {w0 w W w7 : World} {g : Nat} {v0 v1 v2 v' : Value} {R : RT}
theorem Rg.same (h : Rg w0 w g v0 v1 v2 R) (hb : Below w.heap.size w W) : RgTo w0 w W g v0 v1 v2 R := ⟨v0, v1, v2, h.step hb, Kept.of_below hb _, Pr.refl _ _, Pr.refl _ _, Pr.refl _ _⟩
theorem pr_of (hb : Below w.heap.size w W) {v v' : Value} (hat : v'.ownBlock = v.ownBlock ∨ ∃ b, v'.ownBlock = some b ∧ W.heap.size ≤ b) : Pr w v v' := fun k hk => by
 rcases hat with h | ⟨b, h, hb2⟩
 ·exact .inl (by rw [← h]; exact hk)
 ·rw [h] at hk
  injection hk with hk
  subst hk
  exact .inr (Nat.le_trans hb.size hb2)
theorem eTy {q t : Nat} {α : Type} {d : Kd α} (hE : d.E = []) {e : Nat} (h : e ≠ t) (hq : q ∈ e :: d.E) : q ≠ t := by
 rw [hE] at hq
 rw [List.mem_singleton.1 hq]
 exact h
theorem kept_app (hb : Below w.heap.size w W) {row : Option Nat} (hg : W.grownBy w7 row) (hr : ∀ k, row = some k → RS g v0 v1 v2 k) (j : Nat) : Kept w (w7.setCell ⟨g, j, none⟩ v') (RS g v0 v1 v2) :=
 (Kept.of_grown hg (Kept.of_below hb _) (fun k hk => .inl (hr k hk))).setCell (p := ⟨g, j, none⟩) (.inl (.inl rfl)) _
theorem Rg.app0 (h : Rg w0 w g v0 v1 v2 R) (hb : Below w.heap.size w W) {r : S68} (hR : Kd.R k68 68 w7 w0.heap.size (fun _ => True) v' (R.1 ++ [r])) (hg : W.grownBy w7 v0.ownBlock) (hb7 : Below w0.heap.size w0 w7) (hat : v'.ownBlock = v0.ownBlock ∨ ∃ b, v'.ownBlock = some b ∧ W.heap.size ≤ b) :
  RgTo w0 w (w7.setCell ⟨g, 0, none⟩ v') g v0 v1 v2 (R.1 ++ [r], R.2.1, R.2.2) := by
 have h5 := h.step hb
 have hne : some g ≠ v0.ownBlock := Kd.R_ne h5.r0 h5.blk (by decide)
 have hb' : w7.heap[g]? = some (.cells #[v0, v1, v2] 26 (0, 0)) := blk_grown h5.blk hg hne
 refine ⟨v', v1, v2, ⟨blk_set hb' 0 v', h.bg, Kd.R_set hR hb' (fun q hq => eTy rfl (by decide) hq) 0 _, Kd.R_set (Kd.R_over h5.r1 h5.r0 (fun q hq => eTy rfl (by decide) hq) hg) hb' (fun q hq => eTy rfl (by decide) hq) 0 _, Kd.R_set (Kd.R_over h5.r2 h5.r0 (fun q hq => eTy rfl (by decide) hq) hg) hb' (fun q hq => eTy rfl (by decide) hq) 0 _, hb7.setCell (p := ⟨g, 0, none⟩) h.bg _⟩, kept_app hb hg (fun k hk => .inr (.inl hk)) 0, pr_of hb hat, Pr.refl _ _, Pr.refl _ _⟩
theorem Rg.app1 (h : Rg w0 w g v0 v1 v2 R) (hb : Below w.heap.size w W) {r : ByteArray} (hR : Kd.R Kd.string 9 w7 w0.heap.size (fun _ => True) v' (R.2.1 ++ [r])) (hg : W.grownBy w7 v1.ownBlock) (hb7 : Below w0.heap.size w0 w7) (hat : v'.ownBlock = v1.ownBlock ∨ ∃ b, v'.ownBlock = some b ∧ W.heap.size ≤ b) :
  RgTo w0 w (w7.setCell ⟨g, 1, none⟩ v') g v0 v1 v2 (R.1, R.2.1 ++ [r], R.2.2) := by
 have h5 := h.step hb
 have hne : some g ≠ v1.ownBlock := Kd.R_ne h5.r1 h5.blk (by decide)
 have hb' : w7.heap[g]? = some (.cells #[v0, v1, v2] 26 (0, 0)) := blk_grown h5.blk hg hne
 refine ⟨v0, v', v2, ⟨blk_set hb' 1 v', h.bg, Kd.R_set (Kd.R_over h5.r0 h5.r1 (fun q hq => eTy rfl (by decide) hq) hg) hb' (fun q hq => eTy rfl (by decide) hq) 1 _, Kd.R_set hR hb' (fun q hq => eTy rfl (by decide) hq) 1 _, Kd.R_set (Kd.R_over h5.r2 h5.r1 (fun q hq => eTy rfl (by decide) hq) hg) hb' (fun q hq => eTy rfl (by decide) hq) 1 _, hb7.setCell (p := ⟨g, 1, none⟩) h.bg _⟩, kept_app hb hg (fun k hk => .inr (.inr (.inl hk))) 1, Pr.refl _ _, pr_of hb hat, Pr.refl _ _⟩
theorem Rg.app2 (h : Rg w0 w g v0 v1 v2 R) (hb : Below w.heap.size w W) {r : S71} (hR : Kd.R k71 71 w7 w0.heap.size (fun _ => True) v' (R.2.2 ++ [r])) (hg : W.grownBy w7 v2.ownBlock) (hb7 : Below w0.heap.size w0 w7) (hat : v'.ownBlock = v2.ownBlock ∨ ∃ b, v'.ownBlock = some b ∧ W.heap.size ≤ b) :
  RgTo w0 w (w7.setCell ⟨g, 2, none⟩ v') g v0 v1 v2 (R.1, R.2.1, R.2.2 ++ [r]) := by
 have h5 := h.step hb
 have hne : some g ≠ v2.ownBlock := Kd.R_ne h5.r2 h5.blk (by decide)
 have hb' : w7.heap[g]? = some (.cells #[v0, v1, v2] 26 (0, 0)) := blk_grown h5.blk hg hne
 refine ⟨v0, v1, v', ⟨blk_set hb' 2 v', h.bg, Kd.R_set (Kd.R_over h5.r0 h5.r2 (fun q hq => eTy rfl (by decide) hq) hg) hb' (fun q hq => eTy rfl (by decide) hq) 2 _, Kd.R_set (Kd.R_over h5.r1 h5.r2 (fun q hq => eTy rfl (by decide) hq) hg) hb' (fun q hq => eTy rfl (by decide) hq) 2 _, Kd.R_set hR hb' (fun q hq => eTy rfl (by decide) hq) 2 _, hb7.setCell (p := ⟨g, 2, none⟩) h.bg _⟩, kept_app hb hg (fun k hk => .inr (.inr (.inr hk))) 2, Pr.refl _ _, Pr.refl _ _, pr_of hb hat⟩
end
theorem Pr.from {w W : World} {v v' : Value} (hb : Below w.heap.size w W) (h : Pr W v v') : Pr w v v' := fun k hk => (h k hk).imp id (fun h => Nat.le_trans hb.size h)
theorem RgTo.from {w0 w W w' : World} {g : Nat} {v0 v1 v2 : Value} {R : RT} (hb : Below w.heap.size w W) (h : RgTo w0 W w' g v0 v1 v2 R) : RgTo w0 w w' g v0 v1 v2 R := by
 obtain ⟨a, b, c, h1, h2, h3, h4, h5⟩ := h
 exact ⟨a, b, c, h1, (Kept.of_below hb _).then_ h2 (fun _ hk => .inl hk), h3.from hb, h4.from hb, h5.from hb⟩
def isRailW (s : ByteArray) : Bool := s.toList == [114, 97, 105, 108]
def isBelayW (s : ByteArray) : Bool := s.toList == [98, 101, 108, 97, 121]
def isLineW (s : ByteArray) : Bool := s.toList == [108, 105, 110, 101]
abbrev wd (ws : List ByteArray) (i : Int) : ByteArray := rdOf ByteArray.empty ws i
def addRowP (R : RT) (ws : List ByteArray) : Int × RT :=
 if isLineW (wd ws 0) = true then (if (ws.length : Int) = 2 then addLineP R (wd ws 1) else (2, R))
 else if (isRailW (wd ws 0) || isBelayW (wd ws 0)) = true then (if (ws.length : Int) = 4 then (if (numV (wd ws 3)).2 = true then (if isRailW (wd ws 0) = true then addRailP R ⟨wd ws 1, wd ws 2, (numV (wd ws 3)).1⟩ else addBelayP R ⟨wd ws 1, wd ws 2, (numV (wd ws 3)).1⟩) else (4, R)) else (2, R))
 else (1, R)
def rowP (R : RT) (ws : List ByteArray) : Int × RT := if (ws.length : Int) = 0 then (0, R) else if bt (wd ws 0) 0 = 35 then (0, R) else addRowP R ws
set_option maxHeartbeats 8000000 in
set_option maxRecDepth 100000 in
theorem l19Rail_calls (g : Nat) (A : Option Addr) (c : Nat) (xs : List S68) (nm : ByteArray) (w : World) (hc : w.cell? ⟨g, 0, none⟩ = some (.slice A xs.length c)) (hr : Kd.C k68 w A xs.length xs) :
  Calls Tryd.prog 52 #[.pointer (some ⟨g, 0, none⟩), .string nm] w fun e w' => e = .returned (.int .i64 (railIdx xs nm)) ∧ w' = w := by
 have hm := Kd.C_max hr
 have HR := Aside0.mk hr
 clear hr
 go_enter Tryd.func52, Tryd.ntmps52
 go_wp2
 go_loopw [5] (fun v5 w' => ∃ i : Nat, v5 = .int .i64 i ∧ i ≤ xs.length ∧ Aside0 (∀ j (hj : j < xs.length), j < i → ((xs[j]).f0.toList == nm.toList) = false) ∧ w' = w) (fun v5 _ => xs.length - (intOf v5).toNat)
 case atStart => exact ⟨0, rfl, Nat.zero_le _, ⟨fun j _ hj => absurd hj (Nat.not_lt_zero _)⟩, rfl⟩
 case round =>
  obtain ⟨i, rfl, hi, hf, hw⟩ := hrel
  subst hw
  by_cases hlt : i < xs.length
  ·have p1 : (0 : Int) ≤ (i : Int) := Int.natCast_nonneg i
   have p2 : (i : Int) < (xs.length : Int) := Int.ofNat_lt.2 hlt
   obtain ⟨ad, rfl, x0, x1, x2⟩ := at_T68 HR.out (i : Int) p1 p2
   rw [Int.toNat_natCast] at x0 x1 x2
   rw [rdRail xs i hlt] at x0 x1 x2
   obtain ⟨q, hq⟩ : ∃ q, (xs[i].f0.toList == nm.toList) = q := ⟨_, rfl⟩
   have HV := Aside0.mk hq
   cases q
   ·skip
    go_wp2
    go_roundw
    case rel => exact ⟨i + 1, by go_num, by omega, ⟨fun j hj hji => by
     by_cases e : j = i
     ·subst e; exact HV.out
     ·exact hf.out j hj (by omega)⟩, (by first | rfl | trivial)⟩
    case measure => simp [intOf]; omega
   ·skip
    go_wp2
    go_ret
    exact ⟨by rw [show railIdx xs nm = (i : Int) from idx_hit hlt HV.out (fun j hj => hf.out j (by omega) hj)]; rfl, rfl⟩
  ·go_wp2
   go_ret
   exact ⟨by rw [show railIdx xs nm = -1 from idx_miss (fun j hj => hf.out j hj (by omega))]; rfl, rfl⟩
set_option maxHeartbeats 8000000 in
set_option maxRecDepth 100000 in
theorem l19Of_calls (g : Nat) (A : Option Addr) (c : Nat) (xs : List S71) (nm : ByteArray) (w : World) (hc : w.cell? ⟨g, 2, none⟩ = some (.slice A xs.length c)) (hr : Kd.C k71 w A xs.length xs) :
  Calls Tryd.prog 53 #[.pointer (some ⟨g, 0, none⟩), .string nm] w fun e w' => e = .returned (.int .i64 (beLn xs nm)) ∧ w' = w := by
 have hm := Kd.C_max hr
 have HR := Aside0.mk hr
 clear hr
 go_enter Tryd.func53, Tryd.ntmps53
 go_wp2
 go_loopw [5] (fun v5 w' => ∃ i : Nat, v5 = .int .i64 i ∧ i ≤ xs.length ∧ Aside0 (∀ j (hj : j < xs.length), j < i → ((xs[j]).f0.toList == nm.toList) = false) ∧ w' = w) (fun v5 _ => xs.length - (intOf v5).toNat)
 case atStart => exact ⟨0, rfl, Nat.zero_le _, ⟨fun j _ hj => absurd hj (Nat.not_lt_zero _)⟩, rfl⟩
 case round =>
  obtain ⟨i, rfl, hi, hf, hw⟩ := hrel
  subst hw
  by_cases hlt : i < xs.length
  ·have p1 : (0 : Int) ≤ (i : Int) := Int.natCast_nonneg i
   have p2 : (i : Int) < (xs.length : Int) := Int.ofNat_lt.2 hlt
   obtain ⟨ad, rfl, x0, x1, x2⟩ := at_T71 HR.out (i : Int) p1 p2
   rw [Int.toNat_natCast] at x0 x1 x2
   rw [rdBelay xs i hlt] at x0 x1 x2
   obtain ⟨q, hq⟩ : ∃ q, (xs[i].f0.toList == nm.toList) = q := ⟨_, rfl⟩
   have HV := Aside0.mk hq
   cases q
   ·skip
    go_wp2
    go_roundw
    case rel => exact ⟨i + 1, by go_num, by omega, ⟨fun j hj hji => by
     by_cases e : j = i
     ·subst e; exact HV.out
     ·exact hf.out j hj (by omega)⟩, (by first | rfl | trivial)⟩
    case measure => simp [intOf]; omega
   ·skip
    go_wp2
    go_ret
    exact ⟨by rw [show beLn xs nm = (i : Int) from idx_hit hlt HV.out (fun j hj => hf.out j (by omega) hj)]; rfl, rfl⟩
  ·go_wp2
   go_ret
   exact ⟨by rw [show beLn xs nm = -1 from idx_miss (fun j hj => hf.out j hj (by omega))]; rfl, rfl⟩
set_option maxHeartbeats 8000000 in
set_option maxRecDepth 100000 in
theorem l19Line_calls (g : Nat) (A : Option Addr) (c : Nat) (xs : List ByteArray) (nm : ByteArray) (w : World) (hc : w.cell? ⟨g, 1, none⟩ = some (.slice A xs.length c)) (hr : Kd.C Kd.string w A xs.length xs) :
  Calls Tryd.prog 48 #[.pointer (some ⟨g, 0, none⟩), .string nm] w fun e w' => e = .returned (.bool (hasLn xs nm)) ∧ w' = w := by
 have hm := Kd.C_max hr
 have HR := Aside0.mk hr
 clear hr
 go_enter Tryd.func48, Tryd.ntmps48
 go_wp2
 go_loopw [5] (fun v5 w' => ∃ i : Nat, v5 = .int .i64 i ∧ i ≤ xs.length ∧ Aside0 (∀ j (hj : j < xs.length), j < i → ((xs[j]).toList == nm.toList) = false) ∧ w' = w) (fun v5 _ => xs.length - (intOf v5).toNat)
 case atStart => exact ⟨0, rfl, Nat.zero_le _, ⟨fun j _ hj => absurd hj (Nat.not_lt_zero _)⟩, rfl⟩
 case round =>
  obtain ⟨i, rfl, hi, hf, hw⟩ := hrel
  subst hw
  by_cases hlt : i < xs.length
  ·have p1 : (0 : Int) ≤ (i : Int) := Int.natCast_nonneg i
   have p2 : (i : Int) < (xs.length : Int) := Int.ofNat_lt.2 hlt
   obtain ⟨ad, rfl, x0⟩ := Kd.at_string HR.out (i : Int) p1 p2
   rw [Int.toNat_natCast] at x0
   rw [rdLine xs i hlt] at x0
   obtain ⟨q, hq⟩ : ∃ q, (xs[i].toList == nm.toList) = q := ⟨_, rfl⟩
   have HV := Aside0.mk hq
   cases q
   ·skip
    go_wp2
    go_roundw
    case rel => exact ⟨i + 1, by go_num, by omega, ⟨fun j hj hji => by
     by_cases e : j = i
     ·subst e; exact HV.out
     ·exact hf.out j hj (by omega)⟩, (by first | rfl | trivial)⟩
    case measure => simp [intOf]; omega
   ·skip
    go_wp2
    go_ret
    exact ⟨by rw [show hasLn xs nm = true from any_hit hlt HV.out]; rfl, rfl⟩
  ·go_wp2
   go_ret
   exact ⟨by rw [show hasLn xs nm = false from any_miss (fun j hj => hf.out j hj (by omega))]; rfl, rfl⟩
set_option maxHeartbeats 8000000 in
set_option maxRecDepth 100000 in
theorem l19At_calls (g : Nat) (A : Option Addr) (c : Nat) (xs : List S71) (rl : ByteArray) (pn : Int) (w : World) (hc : w.cell? ⟨g, 2, none⟩ = some (.slice A xs.length c)) (hr : Kd.C k71 w A xs.length xs) :
  Calls Tryd.prog 54 #[.pointer (some ⟨g, 0, none⟩), .string rl, .int .i64 pn] w fun e w' => e = .returned (.int .i64 (beAt xs rl pn)) ∧ w' = w := by
 have hm := Kd.C_max hr
 have HR := Aside0.mk hr
 clear hr
 go_enter Tryd.func54, Tryd.ntmps54
 go_wp2
 go_loopw [7] (fun v5 w' => ∃ i : Nat, v5 = .int .i64 i ∧ i ≤ xs.length ∧ Aside0 (∀ j (hj : j < xs.length), j < i → ((xs[j]).f1.toList == rl.toList && (xs[j]).f2 == pn) = false) ∧ w' = w) (fun v5 _ => xs.length - (intOf v5).toNat)
 case atStart => exact ⟨0, rfl, Nat.zero_le _, ⟨fun j _ hj => absurd hj (Nat.not_lt_zero _)⟩, rfl⟩
 case round =>
  obtain ⟨i, rfl, hi, hf, hw⟩ := hrel
  subst hw
  by_cases hlt : i < xs.length
  ·have p1 : (0 : Int) ≤ (i : Int) := Int.natCast_nonneg i
   have p2 : (i : Int) < (xs.length : Int) := Int.ofNat_lt.2 hlt
   obtain ⟨ad, rfl, x0, x1, x2⟩ := at_T71 HR.out (i : Int) p1 p2
   rw [Int.toNat_natCast] at x0 x1 x2
   rw [rdBelay xs i hlt] at x0 x1 x2
   obtain ⟨q, hq⟩ : ∃ q, (xs[i].f1.toList == rl.toList) = q := ⟨_, rfl⟩
   obtain ⟨u, hu⟩ : ∃ u, (xs[i].f2 == pn) = u := ⟨_, rfl⟩
   cases q
   ·have HV : Aside0 ((xs[i].f1.toList == rl.toList && xs[i].f2 == pn) = false) := ⟨by rw [hq]; rfl⟩
    go_wp2
    go_roundw
    case rel => exact ⟨i + 1, by go_num, by omega, ⟨fun j hj hji => by
     by_cases e : j = i
     ·subst e; exact HV.out
     ·exact hf.out j hj (by omega)⟩, (by first | rfl | trivial)⟩
    case measure => simp [intOf]; omega
   ·have HV : Aside0 ((xs[i].f1.toList == rl.toList && xs[i].f2 == pn) = u) := ⟨by rw [hq, hu]; rfl⟩
    cases u
    ·go_wp2
     go_roundw
     case rel => exact ⟨i + 1, by go_num, by omega, ⟨fun j hj hji => by
      by_cases e : j = i
      ·subst e; exact HV.out
      ·exact hf.out j hj (by omega)⟩, (by first | rfl | trivial)⟩
     case measure => simp [intOf]; omega
    go_wp2
    go_ret
    exact ⟨by rw [show beAt xs rl pn = (i : Int) from idx_hit hlt HV.out (fun j hj => hf.out j (by omega) hj)]; rfl, rfl⟩
  ·go_wp2
   go_ret
   exact ⟨by rw [show beAt xs rl pn = -1 from idx_miss (fun j hj => hf.out j hj (by omega))]; rfl, rfl⟩
theorem name_c (nm : ByteArray) : ∀ w, Calls Tryd.prog 47 #[.string nm] w fun e w' => e = .returned (.bool (isNameB nm)) ∧ Below w.heap.size w w' := fun w => by
 obtain ⟨k, hk⟩ := (name_spec nm).rounds
 exact (spec_IsName.calls k nm _ w hk).mono fun e w' ⟨he, hd⟩ => ⟨he, Drawn0.below hd⟩
theorem in_c (a b c : Int) : ∀ w, Calls Tryd.prog 51 #[.int .i64 a, .int .i64 b, .int .i64 c] w fun e w' => e = .returned (.bool (decide (b ≤ a ∧ a ≤ c))) ∧ Below w.heap.size w w' := fun w => by
 refine (spec_l00In.calls a b c _ w ?_).mono fun e w' ⟨he, hd⟩ => ⟨he, Drawn0.below hd⟩
 unfold spec_l00In.f
 by_cases hh : a ≥ b
 ·rw [if_pos hh]; congr 1; apply Bool.eq_iff_iff.mpr; simp; omega
 ·rw [if_neg hh]; congr 1; symm; simp; omega
set_option maxHeartbeats 8000000 in
set_option maxRecDepth 100000 in
theorem l19AddLine_calls (g : Nat) (v0 v1 v2 : Value) (R : RT) (nm : ByteArray) (w0 w : World) (hX : Rg w0 w g v0 v1 v2 R) :
  Calls Tryd.prog 36 #[.pointer (some ⟨g, 0, none⟩), .string nm] w fun e w' => e = .returned (.int .i64 (addLineP R nm).1) ∧ RgTo w0 w w' g v0 v1 v2 (addLineP R nm).2 := by
 have I1 := Aside0.mk (name_c nm)
 obtain ⟨-, ⟨A, c, e⟩, -⟩ := hX.form
 subst e
 have I2 : Aside0 (∀ W, Below w.heap.size w W → Calls Tryd.prog 48 #[.pointer (some ⟨g, 0, none⟩), .string nm] W fun e w' => e = .returned (.bool (hasLn R.2.1 nm)) ∧ w' = W) := ⟨fun W hb => l19Line_calls g A c R.2.1 nm W (hX.step hb).c1 (Kd.R_reads' (hX.step hb).r1).2.2⟩
 have HX := Aside0.mk hX
 clear hX
 have HP : Aside0 (addLineP R nm = addLineP R nm) := ⟨rfl⟩
 unfold addLineP
 generalize hq : isNameB nm = q at *
 generalize hu : hasLn R.2.1 nm = u at *
 have HQ := Aside0.mk hq
 clear hq hu HP
 cases q with
 | false =>
  go_enter Tryd.func36, Tryd.ntmps36
  go_wp2_with (first | (go_at_call 47; (with_reducible refine (I1.out _).mono ?_); rintro e w3 ⟨rfl, hb⟩; have HB3 := Aside0.mk hb; clear hb) | fail)
  go_ret
  exact ⟨rfl, HX.out.same HB3.out⟩
 | true =>
  cases u with
  | true =>
   go_enter Tryd.func36, Tryd.ntmps36
   go_wp2_with (first | (go_at_call 47; (with_reducible refine (I1.out _).mono ?_); rintro e w3 ⟨rfl, hb⟩; have HB3 := Aside0.mk hb; clear hb) | (go_at_call 48; (with_reducible refine (I2.out _ HB3.out).mono ?_); rintro e w4 ⟨rfl, hb⟩; subst hb) | fail)
   go_ret
   exact ⟨rfl, HX.out.same HB3.out⟩
  | false =>
   by_cases h6 : 60 ≤ (R.2.1.length : Int)
   ·go_enter Tryd.func36, Tryd.ntmps36
    go_wp2_with (first | (go_at_call 47; (with_reducible refine (I1.out _).mono ?_); rintro e w3 ⟨rfl, hb⟩; have HB3 := Aside0.mk hb; have c13 := (HX.out.step hb).c1; clear hb) | (go_at_call 48; (with_reducible refine (I2.out _ HB3.out).mono ?_); rintro e w4 ⟨rfl, hb⟩; subst hb) | fail)
    go_ret
    try rw [if_pos h6]
    exact ⟨rfl, HX.out.same HB3.out⟩
   ·have LM : Aside0 (R.2.1.length ≤ 60) := ⟨by omega⟩
    go_enter Tryd.func36, Tryd.ntmps36
    go_wp2_with (first
     | (go_at_call 47; (with_reducible refine (I1.out _).mono ?_); rintro e w3 ⟨rfl, hb⟩; have HB3 := Aside0.mk hb; have c13 := (HX.out.step hb).c1; have X3 := Aside0.mk (HX.out.step hb); clear hb)
     | (go_at_call 48; (with_reducible refine (I2.out _ HB3.out).mono ?_); rintro e w4 ⟨rfl, hb⟩; subst hb)
     | ((with_reducible refine gate_builtin (b := .append) (xs := #[.tmp 24, .tmp 26]) rfl ?_); at_builtin; refine Kd.R_append Kd.string (w0 := w0) w0.heap.size rfl (.tmp 24) (.tmp 26) 23 9 (.string ⟨#[]⟩) 16 rfl Tryd.underlying23 info9 rfl (by decide) (by omega) (.slice A R.2.1.length c) R.2.1 nm [.string nm] (fun _ => True) (fun _ => False) rfl rfl ?bP (fun _ hk => hk.elim) ?bF ?bO ?bB ?bS ?bL ?_; (case bP => exact rfl); (case bB => exact X3.out.low); (case bF => exact (fun _ _ => trivial)); (case bO => exact X3.out.r1); (case bS => exact X3.out.low.size); (case bL => have := LM.out; omega); intro v7 w7 ho hb hg hat; obtain ⟨A7, c7, e7⟩ := Kd.R_slice ho; subst e7; have e1 : (R.2.1 ++ [nm]).length = R.2.1.length + 1 := (by simp); rw [e1] at ho hat; clear e1; have hR7 := Aside0.mk (HX.out.app1 HB3.out ho hg hb hat); have cc : w7.cell? ⟨g, 1, none⟩ = some (.slice A R.2.1.length c) := (blk_cell (blk_grown X3.out.blk hg (Kd.R_ne X3.out.r1 X3.out.blk (by decide))) 1).trans rfl; have ff : w7.frozen? ⟨g, 1, none⟩ = false := blk_frozen (blk_grown X3.out.blk hg (Kd.R_ne X3.out.r1 X3.out.blk (by decide))) 1; clear ho hb hg hat)
     | fail)
    go_ret
    try rw [if_neg h6]
    exact ⟨rfl, hR7.out⟩
set_option maxHeartbeats 8000000 in
set_option maxRecDepth 100000 in
theorem l19AddRail_calls (g : Nat) (v0 v1 v2 : Value) (R : RT) (r : S68) (w0 w : World) (hX : Rg w0 w g v0 v1 v2 R) :
  Calls Tryd.prog 38 #[.pointer (some ⟨g, 0, none⟩), .agg #[.string r.f0, .string r.f1, .int .i64 r.f2]] w fun e w' => e = .returned (.int .i64 (addRailP R r).1) ∧ RgTo w0 w w' g v0 v1 v2 (addRailP R r).2 := by
 have I1 := Aside0.mk (name_c r.f0)
 have I2 := Aside0.mk (in_c r.f2 1 30)
 obtain ⟨⟨A, c, e⟩, -, -⟩ := hX.form
 subst e
 have I3 : Aside0 (∀ W, Below w.heap.size w W → Calls Tryd.prog 52 #[.pointer (some ⟨g, 0, none⟩), .string r.f0] W fun e w' => e = .returned (.int .i64 (railIdx R.1 r.f0)) ∧ w' = W) := ⟨fun W hb => l19Rail_calls g A c R.1 r.f0 W (hX.step hb).c0 (Kd.R_reads' (hX.step hb).r0).2.2⟩
 have HX := Aside0.mk hX
 clear hX
 obtain ⟨f0, f1, f2⟩ := r
 simp only at I1 I2 I3 ⊢
 unfold addRailP
 simp only
 generalize isNameB f0 = q at *
 obtain ⟨ix, hix⟩ : ∃ ix, railIdx R.1 f0 = ix := ⟨_, rfl⟩
 rw [hix] at I3 ⊢
 clear hix
 generalize hd : decide (1 ≤ f2 ∧ f2 ≤ 30) = d at *
 clear hd
 have hu := Tryd.underlying68
 cases q with
 | false =>
  go_enter Tryd.func38, Tryd.ntmps38
  go_wp2_with (first | ((with_reducible refine gate_dst (N := 3) rfl ?_); refine be_ 3 #[.string f0, .string f1, .int .i64 f2] 68 ?_; intro gb hgb w2 hbox hb; have BK2 := Aside0.mk hbox; have HB2 := Aside0.mk hb; have GB := Aside0.mk (Nat.le_of_eq hgb.symm); clear hbox hb hgb; have b20 := (blk_cell BK2.out 0).trans rfl) | (go_at_call 47; (with_reducible refine (I1.out _).mono ?_); rintro e w3 ⟨rfl, hb⟩; have BK3 := Aside0.mk (blk_below BK2.out hb); have HB3 := Aside0.mk (below_step HB2.out hb); clear hb; have b30 := (blk_cell BK3.out 0).trans rfl; have b31 := (blk_cell BK3.out 1).trans rfl; have b32 := (blk_cell BK3.out 2).trans rfl) | fail)
  go_ret
  try simp only [if_true, if_false, Bool.false_eq_true]
  exact ⟨rfl, HX.out.same HB3.out⟩
 | true =>
  generalize hsd : sideB f1 = sd
  have HSD := Aside0.mk hsd
  cases sd with
  | false =>
   unfold sideB at hsd
   simp only [Bool.or_eq_false_iff] at hsd
   obtain ⟨⟨e1, e2⟩, e3⟩ := hsd
   go_enter Tryd.func38, Tryd.ntmps38
   go_wp2_with (first | ((with_reducible refine gate_dst (N := 3) rfl ?_); refine be_ 3 #[.string f0, .string f1, .int .i64 f2] 68 ?_; intro gb hgb w2 hbox hb; have BK2 := Aside0.mk hbox; have HB2 := Aside0.mk hb; have GB := Aside0.mk (Nat.le_of_eq hgb.symm); clear hbox hb hgb; have b20 := (blk_cell BK2.out 0).trans rfl) | (go_at_call 47; (with_reducible refine (I1.out _).mono ?_); rintro e w3 ⟨rfl, hb⟩; have BK3 := Aside0.mk (blk_below BK2.out hb); have HB3 := Aside0.mk (below_step HB2.out hb); clear hb; have b30 := (blk_cell BK3.out 0).trans rfl; have b31 := (blk_cell BK3.out 1).trans rfl; have b32 := (blk_cell BK3.out 2).trans rfl) | fail)
   go_ret
   try simp only [if_true, if_false, Bool.false_eq_true]
   exact ⟨rfl, HX.out.same HB3.out⟩
  | true =>
   clear hsd
   cases d with
   | false =>
    go_enter Tryd.func38, Tryd.ntmps38
    go_upto_region 3 with (first | ((with_reducible refine gate_dst (N := 3) rfl ?_); refine be_ 3 #[.string f0, .string f1, .int .i64 f2] 68 ?_; intro gb hgb w2 hbox hb; have BK2 := Aside0.mk hbox; have HB2 := Aside0.mk hb; have GB := Aside0.mk (Nat.le_of_eq hgb.symm); clear hbox hb hgb; have b20 := (blk_cell BK2.out 0).trans rfl) | (go_at_call 47; (with_reducible refine (I1.out _).mono ?_); rintro e w3 ⟨rfl, hb⟩; have BK3 := Aside0.mk (blk_below BK2.out hb); have HB3 := Aside0.mk (below_step HB2.out hb); clear hb; have b30 := (blk_cell BK3.out 0).trans rfl; have b31 := (blk_cell BK3.out 1).trans rfl; have b32 := (blk_cell BK3.out 2).trans rfl) | fail)
    go_cut [10] (fun v10 wc => v10 = .bool false ∧ wc = w3)
    case first =>
     generalize e1 : (f1.toList == [112]) = s1
     generalize e2 : (f1.toList == [115]) = s2
     generalize e3 : (f1.toList == [109]) = s3
     have HE := Aside0.mk (And.intro e1 (And.intro e2 e3))
     cases s1 <;> cases s2 <;> cases s3
     case false.false.false => exact absurd HSD.out (by unfold sideB; rw [HE.out.1, HE.out.2.1, HE.out.2.2]; simp)
     all_goals
      go_wp2
      go_meet
      exact ⟨rfl, rfl⟩
    case rest =>
     obtain ⟨rfl, hw⟩ := hcut
     replace hw := hw.symm
     subst hw
     go_wp2_with (first | ((with_reducible refine gate_dst (N := 3) rfl ?_); refine be_ 3 #[.string f0, .string f1, .int .i64 f2] 68 ?_; intro gb hgb w2 hbox hb; have BK2 := Aside0.mk hbox; have HB2 := Aside0.mk hb; have GB := Aside0.mk (Nat.le_of_eq hgb.symm); clear hbox hb hgb; have b20 := (blk_cell BK2.out 0).trans rfl) | (go_at_call 47; (with_reducible refine (I1.out _).mono ?_); rintro e w3 ⟨rfl, hb⟩; have BK3 := Aside0.mk (blk_below BK2.out hb); have HB3 := Aside0.mk (below_step HB2.out hb); clear hb; have b30 := (blk_cell BK3.out 0).trans rfl; have b31 := (blk_cell BK3.out 1).trans rfl; have b32 := (blk_cell BK3.out 2).trans rfl) | (go_at_call 51; (with_reducible refine (I2.out _).mono ?_); rintro e w4 ⟨rfl, hb⟩; have BK4 := Aside0.mk (blk_below BK3.out hb); have HB4 := Aside0.mk (below_step HB3.out hb); clear hb; have b40 := (blk_cell BK4.out 0).trans rfl; have b41 := (blk_cell BK4.out 1).trans rfl; have b42 := (blk_cell BK4.out 2).trans rfl; have X4 := Aside0.mk (HX.out.step HB4.out); have c40 := X4.out.c0) | (go_at_call 52; (with_reducible refine (I3.out _ HB4.out).mono ?_); rintro e w5 ⟨rfl, hb⟩; subst hb) | fail)
     go_ret
     try simp only [if_true, if_false, Bool.false_eq_true]
     exact ⟨rfl, HX.out.same HB4.out⟩
   | true =>
    by_cases h5 : 0 ≤ ix
    ·have h5' := eq_true h5
     go_enter Tryd.func38, Tryd.ntmps38
     go_upto_region 3 with (first | ((with_reducible refine gate_dst (N := 3) rfl ?_); refine be_ 3 #[.string f0, .string f1, .int .i64 f2] 68 ?_; intro gb hgb w2 hbox hb; have BK2 := Aside0.mk hbox; have HB2 := Aside0.mk hb; have GB := Aside0.mk (Nat.le_of_eq hgb.symm); clear hbox hb hgb; have b20 := (blk_cell BK2.out 0).trans rfl) | (go_at_call 47; (with_reducible refine (I1.out _).mono ?_); rintro e w3 ⟨rfl, hb⟩; have BK3 := Aside0.mk (blk_below BK2.out hb); have HB3 := Aside0.mk (below_step HB2.out hb); clear hb; have b30 := (blk_cell BK3.out 0).trans rfl; have b31 := (blk_cell BK3.out 1).trans rfl; have b32 := (blk_cell BK3.out 2).trans rfl) | fail)
     go_cut [10] (fun v10 wc => v10 = .bool false ∧ wc = w3)
     case first =>
      generalize e1 : (f1.toList == [112]) = s1
      generalize e2 : (f1.toList == [115]) = s2
      generalize e3 : (f1.toList == [109]) = s3
      have HE := Aside0.mk (And.intro e1 (And.intro e2 e3))
      cases s1 <;> cases s2 <;> cases s3
      case false.false.false => exact absurd HSD.out (by unfold sideB; rw [HE.out.1, HE.out.2.1, HE.out.2.2]; simp)
      all_goals
       go_wp2
       go_meet
       exact ⟨rfl, rfl⟩
     case rest =>
      obtain ⟨rfl, hw⟩ := hcut
      replace hw := hw.symm
      subst hw
      go_wp2_with (first | ((with_reducible refine gate_dst (N := 3) rfl ?_); refine be_ 3 #[.string f0, .string f1, .int .i64 f2] 68 ?_; intro gb hgb w2 hbox hb; have BK2 := Aside0.mk hbox; have HB2 := Aside0.mk hb; have GB := Aside0.mk (Nat.le_of_eq hgb.symm); clear hbox hb hgb; have b20 := (blk_cell BK2.out 0).trans rfl) | (go_at_call 47; (with_reducible refine (I1.out _).mono ?_); rintro e w3 ⟨rfl, hb⟩; have BK3 := Aside0.mk (blk_below BK2.out hb); have HB3 := Aside0.mk (below_step HB2.out hb); clear hb; have b30 := (blk_cell BK3.out 0).trans rfl; have b31 := (blk_cell BK3.out 1).trans rfl; have b32 := (blk_cell BK3.out 2).trans rfl) | (go_at_call 51; (with_reducible refine (I2.out _).mono ?_); rintro e w4 ⟨rfl, hb⟩; have BK4 := Aside0.mk (blk_below BK3.out hb); have HB4 := Aside0.mk (below_step HB3.out hb); clear hb; have b40 := (blk_cell BK4.out 0).trans rfl; have b41 := (blk_cell BK4.out 1).trans rfl; have b42 := (blk_cell BK4.out 2).trans rfl; have X4 := Aside0.mk (HX.out.step HB4.out); have c40 := X4.out.c0) | (go_at_call 52; (with_reducible refine (I3.out _ HB4.out).mono ?_); rintro e w5 ⟨rfl, hb⟩; subst hb) | fail)
      go_ret
      try simp only [if_true, if_false, Bool.false_eq_true]
      exact ⟨rfl, HX.out.same HB4.out⟩
    ·have h5' := eq_false h5
     by_cases h8 : 10 ≤ (R.1.length : Int)
     ·have h8' := eq_true h8
      go_enter Tryd.func38, Tryd.ntmps38
      go_upto_region 3 with (first | ((with_reducible refine gate_dst (N := 3) rfl ?_); refine be_ 3 #[.string f0, .string f1, .int .i64 f2] 68 ?_; intro gb hgb w2 hbox hb; have BK2 := Aside0.mk hbox; have HB2 := Aside0.mk hb; have GB := Aside0.mk (Nat.le_of_eq hgb.symm); clear hbox hb hgb; have b20 := (blk_cell BK2.out 0).trans rfl) | (go_at_call 47; (with_reducible refine (I1.out _).mono ?_); rintro e w3 ⟨rfl, hb⟩; have BK3 := Aside0.mk (blk_below BK2.out hb); have HB3 := Aside0.mk (below_step HB2.out hb); clear hb; have b30 := (blk_cell BK3.out 0).trans rfl; have b31 := (blk_cell BK3.out 1).trans rfl; have b32 := (blk_cell BK3.out 2).trans rfl) | fail)
      go_cut [10] (fun v10 wc => v10 = .bool false ∧ wc = w3)
      case first =>
       generalize e1 : (f1.toList == [112]) = s1
       generalize e2 : (f1.toList == [115]) = s2
       generalize e3 : (f1.toList == [109]) = s3
       have HE := Aside0.mk (And.intro e1 (And.intro e2 e3))
       cases s1 <;> cases s2 <;> cases s3
       case false.false.false => exact absurd HSD.out (by unfold sideB; rw [HE.out.1, HE.out.2.1, HE.out.2.2]; simp)
       all_goals
        go_wp2
        go_meet
        exact ⟨rfl, rfl⟩
      case rest =>
       obtain ⟨rfl, hw⟩ := hcut
       replace hw := hw.symm
       subst hw
       go_wp2_with (first | ((with_reducible refine gate_dst (N := 3) rfl ?_); refine be_ 3 #[.string f0, .string f1, .int .i64 f2] 68 ?_; intro gb hgb w2 hbox hb; have BK2 := Aside0.mk hbox; have HB2 := Aside0.mk hb; have GB := Aside0.mk (Nat.le_of_eq hgb.symm); clear hbox hb hgb; have b20 := (blk_cell BK2.out 0).trans rfl) | (go_at_call 47; (with_reducible refine (I1.out _).mono ?_); rintro e w3 ⟨rfl, hb⟩; have BK3 := Aside0.mk (blk_below BK2.out hb); have HB3 := Aside0.mk (below_step HB2.out hb); clear hb; have b30 := (blk_cell BK3.out 0).trans rfl; have b31 := (blk_cell BK3.out 1).trans rfl; have b32 := (blk_cell BK3.out 2).trans rfl) | (go_at_call 51; (with_reducible refine (I2.out _).mono ?_); rintro e w4 ⟨rfl, hb⟩; have BK4 := Aside0.mk (blk_below BK3.out hb); have HB4 := Aside0.mk (below_step HB3.out hb); clear hb; have b40 := (blk_cell BK4.out 0).trans rfl; have b41 := (blk_cell BK4.out 1).trans rfl; have b42 := (blk_cell BK4.out 2).trans rfl; have X4 := Aside0.mk (HX.out.step HB4.out); have c40 := X4.out.c0) | (go_at_call 52; (with_reducible refine (I3.out _ HB4.out).mono ?_); rintro e w5 ⟨rfl, hb⟩; subst hb) | fail)
       go_ret
       try simp only [if_true, if_false, Bool.false_eq_true]
       exact ⟨rfl, HX.out.same HB4.out⟩
     ·have LM : Aside0 (R.1.length ≤ 10) := ⟨by omega⟩
      have h8' := eq_false h8
      go_enter Tryd.func38, Tryd.ntmps38
      go_upto_region 3 with (first | ((with_reducible refine gate_dst (N := 3) rfl ?_); refine be_ 3 #[.string f0, .string f1, .int .i64 f2] 68 ?_; intro gb hgb w2 hbox hb; have BK2 := Aside0.mk hbox; have HB2 := Aside0.mk hb; have GB := Aside0.mk (Nat.le_of_eq hgb.symm); clear hbox hb hgb; have b20 := (blk_cell BK2.out 0).trans rfl) | (go_at_call 47; (with_reducible refine (I1.out _).mono ?_); rintro e w3 ⟨rfl, hb⟩; have BK3 := Aside0.mk (blk_below BK2.out hb); have HB3 := Aside0.mk (below_step HB2.out hb); clear hb; have b30 := (blk_cell BK3.out 0).trans rfl; have b31 := (blk_cell BK3.out 1).trans rfl; have b32 := (blk_cell BK3.out 2).trans rfl) | fail)
      go_cut [10] (fun v10 wc => v10 = .bool false ∧ wc = w3)
      case first =>
       generalize e1 : (f1.toList == [112]) = s1
       generalize e2 : (f1.toList == [115]) = s2
       generalize e3 : (f1.toList == [109]) = s3
       have HE := Aside0.mk (And.intro e1 (And.intro e2 e3))
       cases s1 <;> cases s2 <;> cases s3
       case false.false.false => exact absurd HSD.out (by unfold sideB; rw [HE.out.1, HE.out.2.1, HE.out.2.2]; simp)
       all_goals
        go_wp2
        go_meet
        exact ⟨rfl, rfl⟩
      case rest =>
       obtain ⟨rfl, hw⟩ := hcut
       replace hw := hw.symm
       subst hw
       go_upto_region 11 with (first | ((with_reducible refine gate_dst (N := 3) rfl ?_); refine be_ 3 #[.string f0, .string f1, .int .i64 f2] 68 ?_; intro gb hgb w2 hbox hb; have BK2 := Aside0.mk hbox; have HB2 := Aside0.mk hb; have GB := Aside0.mk (Nat.le_of_eq hgb.symm); clear hbox hb hgb; have b20 := (blk_cell BK2.out 0).trans rfl) | (go_at_call 47; (with_reducible refine (I1.out _).mono ?_); rintro e w3 ⟨rfl, hb⟩; have BK3 := Aside0.mk (blk_below BK2.out hb); have HB3 := Aside0.mk (below_step HB2.out hb); clear hb; have b30 := (blk_cell BK3.out 0).trans rfl; have b31 := (blk_cell BK3.out 1).trans rfl; have b32 := (blk_cell BK3.out 2).trans rfl) | (go_at_call 51; (with_reducible refine (I2.out _).mono ?_); rintro e w4 ⟨rfl, hb⟩; have BK4 := Aside0.mk (blk_below BK3.out hb); have HB4 := Aside0.mk (below_step HB3.out hb); clear hb; have b40 := (blk_cell BK4.out 0).trans rfl; have b41 := (blk_cell BK4.out 1).trans rfl; have b42 := (blk_cell BK4.out 2).trans rfl; have X4 := Aside0.mk (HX.out.step HB4.out); have c40 := X4.out.c0) | (go_at_call 52; (with_reducible refine (I3.out _ HB4.out).mono ?_); rintro e w5 ⟨rfl, hb⟩; subst hb) | fail)
       have hne : some gb ≠ (Value.slice A R.1.length c).ownBlock := fun e => by have := Kd.R_lt HX.out.r0 gb e.symm; have := GB.out; omega
       refine start_ (n := 11) (S := fun w' => w'.cell? ⟨g, 0, none⟩ = some (.slice A R.1.length c) ∧ w'.cell? ⟨gb, 0, none⟩ = some (.string f0) ∧ w'.cell? ⟨gb, 1, none⟩ = some (.string f1) ∧ w'.cell? ⟨gb, 2, none⟩ = some (.int .i64 f2)) (ds := [10]) (fl 11 0) (by kernel_rfl) rfl rfl ⟨c40, b40, b41, b42⟩ (fun hHeld => ?_)
       refine pu_ (i := 0) (N := some 42) (fl 11 1) (by kernel_rfl) ?_
       refine pu_ (i := 1) (N := some 43) (fl 11 3) (by kernel_rfl) ?_
       refine pu_ (i := 2) (N := some 44) (fl 11 7) (by kernel_rfl) ?_
       refine pu_ (i := 3) (N := some 45) (fl 11 15) (by kernel_rfl) ?_
       refine take_ (i := 4) (N := some 46) (v := ?_) (a' := ?_) (fl 11 31) rfl rfl (by kernel_rfl) (fun _ _ _ h => h) (Or.inl ⟨by rfl, ?_⟩) hHeld ?_ ?_
       rotate_left
       ·rintro w' ⟨s0, s1, s2, s3⟩
        go_simp
        with_reducible rfl
       rotate_left
       ·simp only [Act.put, List.setIfInBounds_toArray, List.set_cons_zero, List.set_cons_succ, i64_w, i32_w]
        rfl
       refine take_ (i := 5) (N := some 47) (v := ?_) (a' := ?_) (fl 11 63) rfl rfl (by kernel_rfl) (fun _ _ _ h => h) (Or.inl ⟨by rfl, ?_⟩) hHeld ?_ ?_
       rotate_left
       ·rintro w' ⟨s0, s1, s2, s3⟩
        go_simp
        with_reducible rfl
       rotate_left
       ·simp only [Act.put, List.setIfInBounds_toArray, List.set_cons_zero, List.set_cons_succ, i64_w, i32_w]
        rfl
       refine one_ (i := 6) (N := some 48) (fl 11 127) rfl rfl (by kernel_rfl) (by decide) (fun K hK => ?_)
       refine value_ (w1 := ?_) (v := ?_) (by rfl) rfl ?_ ?_
       rotate_left 2
       ·go_simp
        constructor
        ·rfl
        ·rfl
       refine hK.out _ _ ⟨pw_cell_below (below_alloc (Below.refl _ _) _) hHeld.1, pw_cell_below (below_alloc (Below.refl _ _) _) hHeld.2.1, pw_cell_below (below_alloc (Below.refl _ _) _) hHeld.2.2.1, pw_cell_below (below_alloc (Below.refl _ _) _) hHeld.2.2.2⟩ (fun hHeld => ?_)
       clear hK K
       refine norm_ (a' := ?_) ?_ ?_
       rotate_left
       ·show Act.put _ (some 48) _ = _
        simp only [Act.put, List.setIfInBounds_toArray, List.set_cons_zero, List.set_cons_succ, i64_w, i32_w]
        rfl
       refine one_ (i := 7) (N := some 49) (fl 11 255) rfl rfl (by kernel_rfl) (by decide) (fun K hK => ?_)
       rw [show ((w5.alloc (.cells #[.string f0, .string f1, .int .i64 f2] 68)).drew : World) = w5.drew.alloc (.cells #[.string f0, .string f1, .int .i64 f2] 68) from rfl]
       refine Kd.R_append_step k68 (w0 := w0) w0.heap.size (by rfl) (.tmp 46) (.tmp 48) 22 68 (.agg #[.string ⟨#[]⟩, .string ⟨#[]⟩, .int .i64 0]) 40 (by rfl) Tryd.underlying22 info68 rfl (by decide) (by omega) (.slice A R.1.length c) R.1 ⟨f0, f1, f2⟩ [.string f0, .string f1, .int .i64 f2] (fun _ => True) (fun _ => False) (by rfl) (by rfl) ?bP (fun _ hk => hk.elim) (fun _ _ => trivial) (Kd.R_drew X4.out.r0) (below_drew1 X4.out.low) X4.out.low.size (by have := LM.out; omega) ?_
       case bP => exact k68_mkM _ _ _ (⟨f0, f1, f2⟩ : S68)
       intro v7 w7 ho hb hg hat
       obtain ⟨A7, c7, e7⟩ := Kd.R_slice ho
       subst e7
       have eL : (R.1 ++ [(⟨f0, f1, f2⟩ : S68)]).length = R.1.length + 1 := (by simp)
       rw [eL] at ho hat
       have hrg := blk_grown (blk_drew X4.out.blk) hg (Kd.R_ne X4.out.r0 X4.out.blk (by decide))
       have cc := (blk_cell hrg 0).trans rfl
       have ff := blk_frozen hrg 0
       have hbx := blk_grown (blk_drew BK4.out) hg hne
       have hR7 := Aside0.mk (HX.out.app0 (below_drew1 HB4.out) ho hg hb hat)
       refine hK.out _ _ ⟨cc, (blk_cell hbx 0).trans rfl, (blk_cell hbx 1).trans rfl, (blk_cell hbx 2).trans rfl⟩ (fun hHeld => ?_)
       clear hK K
       refine norm_ (a' := ?_) ?_ ?_
       rotate_left
       ·show Act.put _ (some 49) _ = _
        simp only [Act.put, List.setIfInBounds_toArray, List.set_cons_zero, List.set_cons_succ, i64_w, i32_w]
        rfl
       refine pu_ (i := 8) (N := some 50) (fl 11 511) (by kernel_rfl) ?_
       refine pu_ (i := 9) (N := some 51) (fl 11 1023) (by kernel_rfl) ?_
       refine last_ (i := 10) (N := none) (fl 11 2047) rfl rfl (by kernel_rfl) (by decide) (fun K hK => ?_)
       refine skip_ (w1 := ?_) (by rfl) rfl ?_ ?_
       rotate_left
       ·go_simp
        rfl
       refine hK.out _ _ ?_
       clear hK K
       refine done_ (by kernel_rfl) ?_
       go_wp2
       go_ret
       try simp only [if_true, if_false, Bool.false_eq_true]
       exact ⟨rfl, hR7.out⟩
set_option maxHeartbeats 8000000 in
set_option maxRecDepth 100000 in
theorem l19AddBelay_calls (g : Nat) (v0 v1 v2 : Value) (R : RT) (b : S71) (w0 w : World) (hX : Rg w0 w g v0 v1 v2 R) (hlen : R.2.2.length ≤ 1000000) :
  Calls Tryd.prog 39 #[.pointer (some ⟨g, 0, none⟩), .agg #[.string b.f0, .string b.f1, .int .i64 b.f2]] w fun e w' => e = .returned (.int .i64 (addBelayP R b).1) ∧ RgTo w0 w w' g v0 v1 v2 (addBelayP R b).2 := by
 have LM := Aside0.mk hlen
 clear hlen
 obtain ⟨⟨A, c, e⟩, ⟨A1, c1, e1⟩, ⟨A2, c2, e2⟩⟩ := hX.form
 subst e
 subst e1
 subst e2
 obtain ⟨f0, f1, f2⟩ := b
 simp only
 have I1 : Aside0 (∀ W, Below w.heap.size w W → Calls Tryd.prog 52 #[.pointer (some ⟨g, 0, none⟩), .string f1] W fun e w' => e = .returned (.int .i64 (railIdx R.1 f1)) ∧ w' = W) := ⟨fun W hb => l19Rail_calls g A c R.1 f1 W (hX.step hb).c0 (Kd.R_reads' (hX.step hb).r0).2.2⟩
 have I2 : Aside0 (∀ W, Below w.heap.size w W → Calls Tryd.prog 48 #[.pointer (some ⟨g, 0, none⟩), .string f0] W fun e w' => e = .returned (.bool (hasLn R.2.1 f0)) ∧ w' = W) := ⟨fun W hb => l19Line_calls g A1 c1 R.2.1 f0 W (hX.step hb).c1 (Kd.R_reads' (hX.step hb).r1).2.2⟩
 have I4 : Aside0 (∀ W, Below w.heap.size w W → Calls Tryd.prog 53 #[.pointer (some ⟨g, 0, none⟩), .string f0] W fun e w' => e = .returned (.int .i64 (beLn R.2.2 f0)) ∧ w' = W) := ⟨fun W hb => l19Of_calls g A2 c2 R.2.2 f0 W (hX.step hb).c2 (Kd.R_reads' (hX.step hb).r2).2.2⟩
 have I5 : Aside0 (∀ W, Below w.heap.size w W → Calls Tryd.prog 54 #[.pointer (some ⟨g, 0, none⟩), .string f1, .int .i64 f2] W fun e w' => e = .returned (.int .i64 (beAt R.2.2 f1 f2)) ∧ w' = W) := ⟨fun W hb => l19At_calls g A2 c2 R.2.2 f1 f2 W (hX.step hb).c2 (Kd.R_reads' (hX.step hb).r2).2.2⟩
 have HX := Aside0.mk hX
 clear hX
 unfold addBelayP
 simp only
 have hir := idx_range (fun x : S68 => x.f0.toList == f1.toList) R.1
 obtain ⟨ix, hix⟩ : ∃ ix, railIdx R.1 f1 = ix := ⟨_, rfl⟩
 rw [hix] at I1 ⊢
 unfold railIdx at hix
 rw [hix] at hir
 clear hix
 have hu := Tryd.underlying71
 by_cases h1 : 0 ≤ ix
 ·have h1' := eq_true h1
  have h1n : ¬ ix < 0 := by omega
  have hlt : ix < (R.1.length : Int) := by rcases hir with h | h <;> omega
  generalize hasLn R.2.1 f0 = ln at *
  cases ln with
  | false =>
   go_enter Tryd.func39, Tryd.ntmps39
   go_wp2_with (first | ((with_reducible refine gate_dst (N := 3) rfl ?_); refine be_ 3 #[.string f0, .string f1, .int .i64 f2] 71 ?_; intro gb hgb w2 hbox hb; have BK2 := Aside0.mk hbox; have HB2 := Aside0.mk hb; have GB := Aside0.mk (Nat.le_of_eq hgb.symm); clear hbox hb hgb; have b20 := (blk_cell BK2.out 0).trans rfl; have b21 := (blk_cell BK2.out 1).trans rfl; have b22 := (blk_cell BK2.out 2).trans rfl; have X2 := Aside0.mk (HX.out.step HB2.out); have c20 := X2.out.c0; have c22 := X2.out.c2) | (go_at_call 52; (with_reducible refine (I1.out _ HB2.out).mono ?_); rintro e w3 ⟨rfl, hb⟩; subst hb) | (go_at_call 48; (with_reducible refine (I2.out _ HB2.out).mono ?_); rintro e w4 ⟨rfl, hb⟩; subst hb) | fail)
   go_ret
   try simp only [if_true, if_false, Bool.false_eq_true]
   exact ⟨rfl, HX.out.same HB2.out⟩
  | true =>
   obtain ⟨m2, hm2⟩ : ∃ m2, (rd_T68 R.1 ix).f2 = m2 := ⟨_, rfl⟩
   rw [hm2]
   have HM2 := Aside0.mk hm2
   clear hm2
   have I3 := Aside0.mk (in_c f2 1 m2)
   generalize decide (1 ≤ f2 ∧ f2 ≤ m2) = d at *
   cases d with
   | false =>
    go_enter Tryd.func39, Tryd.ntmps39
    go_upto_region 4 with (first | ((with_reducible refine gate_dst (N := 3) rfl ?_); refine be_ 3 #[.string f0, .string f1, .int .i64 f2] 71 ?_; intro gb hgb w2 hbox hb; have BK2 := Aside0.mk hbox; have HB2 := Aside0.mk hb; have GB := Aside0.mk (Nat.le_of_eq hgb.symm); clear hbox hb hgb; have b20 := (blk_cell BK2.out 0).trans rfl; have b21 := (blk_cell BK2.out 1).trans rfl; have b22 := (blk_cell BK2.out 2).trans rfl; have X2 := Aside0.mk (HX.out.step HB2.out); have c20 := X2.out.c0; have c22 := X2.out.c2) | (go_at_call 52; (with_reducible refine (I1.out _ HB2.out).mono ?_); rintro e w3 ⟨rfl, hb⟩; subst hb) | (go_at_call 48; (with_reducible refine (I2.out _ HB2.out).mono ?_); rintro e w4 ⟨rfl, hb⟩; subst hb) | fail)
    obtain ⟨ad, ea, -, -, x2⟩ := at_T68 (Kd.R_reads' X2.out.r0).2.2 ix h1 hlt
    subst ea
    rw [HM2.out] at x2
    go_region_held3 (fun w' => w'.cell? ⟨gb, 2, none⟩ = some (.int .i64 f2) ∧ w'.cell? ⟨g, 0, none⟩ = some (.slice (some ad) R.1.length c) ∧ w'.cell? ⟨(ad.add (ix.toNat * 3)).block, (ad.add (ix.toNat * 3)).off + 2, none⟩ = some (.int .i64 m2))
     (first | assumption | exact ⟨by simpa using b22, by simpa using c20, by simpa using x2⟩ | exact ⟨pw_cell_below hx5.out b22, pw_cell_below hx5.out c20, pw_cell_below hx5.out x2⟩ | fail)
     (first | (go_at_call 51; (with_reducible refine (I3.out _).mono ?_); rintro e w5 ⟨rfl, hb⟩; have hx5 := Aside0.mk (below_step (below_drew1 (Below.refl w4.heap.size w4)) hb); have HB5 := Aside0.mk (below_step HB2.out hx5.out); have BK5 := Aside0.mk (blk_below BK2.out hx5.out)) | fail)
    have b50 := (blk_cell BK5.out 0).trans rfl
    have b51 := (blk_cell BK5.out 1).trans rfl
    have b52 := (blk_cell BK5.out 2).trans rfl
    have X5 := Aside0.mk (HX.out.step HB5.out)
    have c52 := X5.out.c2
    go_wp2_with (first | (go_at_call 53; (with_reducible refine (I4.out _ HB5.out).mono ?_); rintro e w6 ⟨rfl, hb⟩; subst hb) | fail)
    go_ret
    try simp only [if_true, if_false, Bool.false_eq_true]
    exact ⟨rfl, HX.out.same HB5.out⟩
   | true =>
    generalize beLn R.2.2 f0 = iz at *
    by_cases h5 : 0 ≤ iz
    ·have h5' := eq_true h5
     go_enter Tryd.func39, Tryd.ntmps39
     go_upto_region 4 with (first | ((with_reducible refine gate_dst (N := 3) rfl ?_); refine be_ 3 #[.string f0, .string f1, .int .i64 f2] 71 ?_; intro gb hgb w2 hbox hb; have BK2 := Aside0.mk hbox; have HB2 := Aside0.mk hb; have GB := Aside0.mk (Nat.le_of_eq hgb.symm); clear hbox hb hgb; have b20 := (blk_cell BK2.out 0).trans rfl; have b21 := (blk_cell BK2.out 1).trans rfl; have b22 := (blk_cell BK2.out 2).trans rfl; have X2 := Aside0.mk (HX.out.step HB2.out); have c20 := X2.out.c0; have c22 := X2.out.c2) | (go_at_call 52; (with_reducible refine (I1.out _ HB2.out).mono ?_); rintro e w3 ⟨rfl, hb⟩; subst hb) | (go_at_call 48; (with_reducible refine (I2.out _ HB2.out).mono ?_); rintro e w4 ⟨rfl, hb⟩; subst hb) | fail)
     obtain ⟨ad, ea, -, -, x2⟩ := at_T68 (Kd.R_reads' X2.out.r0).2.2 ix h1 hlt
     subst ea
     rw [HM2.out] at x2
     go_region_held3 (fun w' => w'.cell? ⟨gb, 2, none⟩ = some (.int .i64 f2) ∧ w'.cell? ⟨g, 0, none⟩ = some (.slice (some ad) R.1.length c) ∧ w'.cell? ⟨(ad.add (ix.toNat * 3)).block, (ad.add (ix.toNat * 3)).off + 2, none⟩ = some (.int .i64 m2))
      (first | assumption | exact ⟨by simpa using b22, by simpa using c20, by simpa using x2⟩ | exact ⟨pw_cell_below hx5.out b22, pw_cell_below hx5.out c20, pw_cell_below hx5.out x2⟩ | fail)
      (first | (go_at_call 51; (with_reducible refine (I3.out _).mono ?_); rintro e w5 ⟨rfl, hb⟩; have hx5 := Aside0.mk (below_step (below_drew1 (Below.refl w4.heap.size w4)) hb); have HB5 := Aside0.mk (below_step HB2.out hx5.out); have BK5 := Aside0.mk (blk_below BK2.out hx5.out)) | fail)
     have b50 := (blk_cell BK5.out 0).trans rfl
     have b51 := (blk_cell BK5.out 1).trans rfl
     have b52 := (blk_cell BK5.out 2).trans rfl
     have X5 := Aside0.mk (HX.out.step HB5.out)
     have c52 := X5.out.c2
     go_wp2_with (first | (go_at_call 53; (with_reducible refine (I4.out _ HB5.out).mono ?_); rintro e w6 ⟨rfl, hb⟩; subst hb) | fail)
     go_ret
     try simp only [if_true, if_false, Bool.false_eq_true]
     exact ⟨rfl, HX.out.same HB5.out⟩
    ·have h5' := eq_false h5
     generalize beAt R.2.2 f1 f2 = ia at *
     by_cases h7 : 0 ≤ ia
     ·have h7' := eq_true h7
      go_enter Tryd.func39, Tryd.ntmps39
      go_upto_region 4 with (first | ((with_reducible refine gate_dst (N := 3) rfl ?_); refine be_ 3 #[.string f0, .string f1, .int .i64 f2] 71 ?_; intro gb hgb w2 hbox hb; have BK2 := Aside0.mk hbox; have HB2 := Aside0.mk hb; have GB := Aside0.mk (Nat.le_of_eq hgb.symm); clear hbox hb hgb; have b20 := (blk_cell BK2.out 0).trans rfl; have b21 := (blk_cell BK2.out 1).trans rfl; have b22 := (blk_cell BK2.out 2).trans rfl; have X2 := Aside0.mk (HX.out.step HB2.out); have c20 := X2.out.c0; have c22 := X2.out.c2) | (go_at_call 52; (with_reducible refine (I1.out _ HB2.out).mono ?_); rintro e w3 ⟨rfl, hb⟩; subst hb) | (go_at_call 48; (with_reducible refine (I2.out _ HB2.out).mono ?_); rintro e w4 ⟨rfl, hb⟩; subst hb) | fail)
      obtain ⟨ad, ea, -, -, x2⟩ := at_T68 (Kd.R_reads' X2.out.r0).2.2 ix h1 hlt
      subst ea
      rw [HM2.out] at x2
      go_region_held3 (fun w' => w'.cell? ⟨gb, 2, none⟩ = some (.int .i64 f2) ∧ w'.cell? ⟨g, 0, none⟩ = some (.slice (some ad) R.1.length c) ∧ w'.cell? ⟨(ad.add (ix.toNat * 3)).block, (ad.add (ix.toNat * 3)).off + 2, none⟩ = some (.int .i64 m2))
       (first | assumption | exact ⟨by simpa using b22, by simpa using c20, by simpa using x2⟩ | exact ⟨pw_cell_below hx5.out b22, pw_cell_below hx5.out c20, pw_cell_below hx5.out x2⟩ | fail)
       (first | (go_at_call 51; (with_reducible refine (I3.out _).mono ?_); rintro e w5 ⟨rfl, hb⟩; have hx5 := Aside0.mk (below_step (below_drew1 (Below.refl w4.heap.size w4)) hb); have HB5 := Aside0.mk (below_step HB2.out hx5.out); have BK5 := Aside0.mk (blk_below BK2.out hx5.out)) | fail)
      have b50 := (blk_cell BK5.out 0).trans rfl
      have b51 := (blk_cell BK5.out 1).trans rfl
      have b52 := (blk_cell BK5.out 2).trans rfl
      have X5 := Aside0.mk (HX.out.step HB5.out)
      have c52 := X5.out.c2
      go_wp2_with (first | (go_at_call 53; (with_reducible refine (I4.out _ HB5.out).mono ?_); rintro e w6 ⟨rfl, hb⟩; subst hb) | (go_at_call 54; (with_reducible refine (I5.out _ HB5.out).mono ?_); rintro e w7 ⟨rfl, hb⟩; subst hb) | fail)
      go_ret
      try simp only [if_true, if_false, Bool.false_eq_true]
      exact ⟨rfl, HX.out.same HB5.out⟩
     ·have h7' := eq_false h7
      go_enter Tryd.func39, Tryd.ntmps39
      go_upto_region 4 with (first | ((with_reducible refine gate_dst (N := 3) rfl ?_); refine be_ 3 #[.string f0, .string f1, .int .i64 f2] 71 ?_; intro gb hgb w2 hbox hb; have BK2 := Aside0.mk hbox; have HB2 := Aside0.mk hb; have GB := Aside0.mk (Nat.le_of_eq hgb.symm); clear hbox hb hgb; have b20 := (blk_cell BK2.out 0).trans rfl; have b21 := (blk_cell BK2.out 1).trans rfl; have b22 := (blk_cell BK2.out 2).trans rfl; have X2 := Aside0.mk (HX.out.step HB2.out); have c20 := X2.out.c0; have c22 := X2.out.c2) | (go_at_call 52; (with_reducible refine (I1.out _ HB2.out).mono ?_); rintro e w3 ⟨rfl, hb⟩; subst hb) | (go_at_call 48; (with_reducible refine (I2.out _ HB2.out).mono ?_); rintro e w4 ⟨rfl, hb⟩; subst hb) | fail)
      obtain ⟨ad, ea, -, -, x2⟩ := at_T68 (Kd.R_reads' X2.out.r0).2.2 ix h1 hlt
      subst ea
      rw [HM2.out] at x2
      go_region_held3 (fun w' => w'.cell? ⟨gb, 2, none⟩ = some (.int .i64 f2) ∧ w'.cell? ⟨g, 0, none⟩ = some (.slice (some ad) R.1.length c) ∧ w'.cell? ⟨(ad.add (ix.toNat * 3)).block, (ad.add (ix.toNat * 3)).off + 2, none⟩ = some (.int .i64 m2))
       (first | assumption | exact ⟨by simpa using b22, by simpa using c20, by simpa using x2⟩ | exact ⟨pw_cell_below hx5.out b22, pw_cell_below hx5.out c20, pw_cell_below hx5.out x2⟩ | fail)
       (first | (go_at_call 51; (with_reducible refine (I3.out _).mono ?_); rintro e w5 ⟨rfl, hb⟩; have hx5 := Aside0.mk (below_step (below_drew1 (Below.refl w4.heap.size w4)) hb); have HB5 := Aside0.mk (below_step HB2.out hx5.out); have BK5 := Aside0.mk (blk_below BK2.out hx5.out)) | fail)
      have b50 := (blk_cell BK5.out 0).trans rfl
      have b51 := (blk_cell BK5.out 1).trans rfl
      have b52 := (blk_cell BK5.out 2).trans rfl
      have X5 := Aside0.mk (HX.out.step HB5.out)
      have c52 := X5.out.c2
      go_upto_region 10 with (first | (go_at_call 53; (with_reducible refine (I4.out _ HB5.out).mono ?_); rintro e w6 ⟨rfl, hb⟩; subst hb) | (go_at_call 54; (with_reducible refine (I5.out _ HB5.out).mono ?_); rintro e w7 ⟨rfl, hb⟩; subst hb) | fail)
      have hne : some gb ≠ (Value.slice A2 R.2.2.length c2).ownBlock := fun e => by have := Kd.R_lt HX.out.r2 gb e.symm; have := GB.out; omega
      refine start_ (n := 11) (S := fun w' => w'.cell? ⟨g, 2, none⟩ = some (.slice A2 R.2.2.length c2) ∧ w'.cell? ⟨gb, 0, none⟩ = some (.string f0) ∧ w'.cell? ⟨gb, 1, none⟩ = some (.string f1) ∧ w'.cell? ⟨gb, 2, none⟩ = some (.int .i64 f2)) (ds := [10]) (fl 11 0) (by kernel_rfl) rfl rfl ⟨c52, b50, b51, b52⟩ (fun hHeld => ?_)
      refine pu_ (i := 0) (N := some 47) (fl 11 1) (by kernel_rfl) ?_
      refine pu_ (i := 1) (N := some 48) (fl 11 3) (by kernel_rfl) ?_
      refine pu_ (i := 2) (N := some 49) (fl 11 7) (by kernel_rfl) ?_
      refine pu_ (i := 3) (N := some 50) (fl 11 15) (by kernel_rfl) ?_
      refine take_ (i := 4) (N := some 51) (v := ?_) (a' := ?_) (fl 11 31) rfl rfl (by kernel_rfl) (fun _ _ _ h => h) (Or.inl ⟨by rfl, ?_⟩) hHeld ?_ ?_
      rotate_left
      ·rintro w' ⟨s0, s1, s2, s3⟩
       go_simp
       with_reducible rfl
      rotate_left
      ·simp only [Act.put, List.setIfInBounds_toArray, List.set_cons_zero, List.set_cons_succ, i64_w, i32_w]
       rfl
      refine take_ (i := 5) (N := some 52) (v := ?_) (a' := ?_) (fl 11 63) rfl rfl (by kernel_rfl) (fun _ _ _ h => h) (Or.inl ⟨by rfl, ?_⟩) hHeld ?_ ?_
      rotate_left
      ·rintro w' ⟨s0, s1, s2, s3⟩
       go_simp
       with_reducible rfl
      rotate_left
      ·simp only [Act.put, List.setIfInBounds_toArray, List.set_cons_zero, List.set_cons_succ, i64_w, i32_w]
       rfl
      refine one_ (i := 6) (N := some 53) (fl 11 127) rfl rfl (by kernel_rfl) (by decide) (fun K hK => ?_)
      refine value_ (w1 := ?_) (v := ?_) (by rfl) rfl ?_ ?_
      rotate_left 2
      ·go_simp
       constructor
       ·rfl
       ·rfl
      refine hK.out _ _ ⟨pw_cell_below (below_alloc (Below.refl _ _) _) hHeld.1, pw_cell_below (below_alloc (Below.refl _ _) _) hHeld.2.1, pw_cell_below (below_alloc (Below.refl _ _) _) hHeld.2.2.1, pw_cell_below (below_alloc (Below.refl _ _) _) hHeld.2.2.2⟩ (fun hHeld => ?_)
      clear hK K
      refine norm_ (a' := ?_) ?_ ?_
      rotate_left
      ·show Act.put _ (some 53) _ = _
       simp only [Act.put, List.setIfInBounds_toArray, List.set_cons_zero, List.set_cons_succ, i64_w, i32_w]
       rfl
      refine one_ (i := 7) (N := some 54) (fl 11 255) rfl rfl (by kernel_rfl) (by decide) (fun K hK => ?_)
      rw [show ((w7.alloc (.cells #[.string f0, .string f1, .int .i64 f2] 71)).drew : World) = w7.drew.alloc (.cells #[.string f0, .string f1, .int .i64 f2] 71) from rfl]
      refine Kd.R_append_step k71 (w0 := w0) w0.heap.size (by rfl) (.tmp 51) (.tmp 53) 24 71 (.agg #[.string ⟨#[]⟩, .string ⟨#[]⟩, .int .i64 0]) 40 (by rfl) Tryd.underlying24 info71 rfl (by decide) (by omega) (.slice A2 R.2.2.length c2) R.2.2 ⟨f0, f1, f2⟩ [.string f0, .string f1, .int .i64 f2] (fun _ => True) (fun _ => False) (by rfl) (by rfl) ?bP (fun _ hk => hk.elim) (fun _ _ => trivial) (Kd.R_drew X5.out.r2) (below_drew1 X5.out.low) X5.out.low.size (by have := LM.out; omega) ?_
      case bP => exact k71_mkM _ _ _ (⟨f0, f1, f2⟩ : S71)
      intro v9 w9 ho hb hg hat
      obtain ⟨A7, c7, e7⟩ := Kd.R_slice ho
      subst e7
      have eL : (R.2.2 ++ [(⟨f0, f1, f2⟩ : S71)]).length = R.2.2.length + 1 := (by simp)
      rw [eL] at ho hat
      have hrg := blk_grown (blk_drew X5.out.blk) hg (Kd.R_ne X5.out.r2 X5.out.blk (by decide))
      have cc := (blk_cell hrg 2).trans rfl
      have ff := blk_frozen hrg 2
      have hbx := blk_grown (blk_drew BK5.out) hg hne
      have hR7 := Aside0.mk (HX.out.app2 (below_drew1 HB5.out) ho hg hb hat)
      refine hK.out _ _ ⟨cc, (blk_cell hbx 0).trans rfl, (blk_cell hbx 1).trans rfl, (blk_cell hbx 2).trans rfl⟩ (fun hHeld => ?_)
      clear hK K
      refine norm_ (a' := ?_) ?_ ?_
      rotate_left
      ·show Act.put _ (some 54) _ = _
       simp only [Act.put, List.setIfInBounds_toArray, List.set_cons_zero, List.set_cons_succ, i64_w, i32_w]
       rfl
      refine pu_ (i := 8) (N := some 55) (fl 11 511) (by kernel_rfl) ?_
      refine pu_ (i := 9) (N := some 56) (fl 11 1023) (by kernel_rfl) ?_
      refine last_ (i := 10) (N := none) (fl 11 2047) rfl rfl (by kernel_rfl) (by decide) (fun K hK => ?_)
      refine skip_ (w1 := ?_) (by rfl) rfl ?_ ?_
      rotate_left
      ·go_simp
       rfl
      refine hK.out _ _ ?_
      clear hK K
      refine done_ (by kernel_rfl) ?_
      go_wp2
      go_ret
      try simp only [if_true, if_false, Bool.false_eq_true]
      exact ⟨rfl, hR7.out⟩
 ·have h1' := eq_false h1
  have h1n : ix < 0 := by omega
  go_enter Tryd.func39, Tryd.ntmps39
  go_wp2_with (first | ((with_reducible refine gate_dst (N := 3) rfl ?_); refine be_ 3 #[.string f0, .string f1, .int .i64 f2] 71 ?_; intro gb hgb w2 hbox hb; have BK2 := Aside0.mk hbox; have HB2 := Aside0.mk hb; have GB := Aside0.mk (Nat.le_of_eq hgb.symm); clear hbox hb hgb; have b20 := (blk_cell BK2.out 0).trans rfl; have b21 := (blk_cell BK2.out 1).trans rfl; have b22 := (blk_cell BK2.out 2).trans rfl; have X2 := Aside0.mk (HX.out.step HB2.out); have c20 := X2.out.c0; have c22 := X2.out.c2) | (go_at_call 52; (with_reducible refine (I1.out _ HB2.out).mono ?_); rintro e w3 ⟨rfl, hb⟩; subst hb) | (go_at_call 48; (with_reducible refine (I2.out _ HB2.out).mono ?_); rintro e w4 ⟨rfl, hb⟩; subst hb) | fail)
  go_ret
  try simp only [if_true, if_false, Bool.false_eq_true]
  exact ⟨rfl, HX.out.same HB2.out⟩
theorem first_hit {p : Nat → Prop} [DecidablePred p] : ∀ (n : Nat), (∃ i, i < n ∧ p i) → ∃ i, i < n ∧ p i ∧ ∀ j, j < i → ¬ p j
 | 0, ⟨i, h, _⟩ => absurd h (Nat.not_lt_zero _)
 | n + 1, ⟨i, h, hp⟩ => by
  by_cases c : ∃ j, j < n ∧ p j
  ·obtain ⟨k, h1, h2, h3⟩ := first_hit n c
   exact ⟨k, by omega, h2, h3⟩
  ·have e : i = n := by
    rcases Nat.lt_or_ge i n with h4 | h4
    ·exact absurd ⟨i, h4, hp⟩ c
    ·omega
   subst e
   exact ⟨i, h, hp, fun j hj hpj => c ⟨j, hj, hpj⟩⟩
theorem S1_size (c : UInt8) : ∀ (n : Nat) (s : ByteArray), s.size ≤ n → ∀ x ∈ S1 c s, x.size ≤ s.size := by
 intro n
 induction n with
 | zero =>
  intro s hs x hx
  rw [S1_none (fun i hi => by omega)] at hx
  rw [List.mem_singleton.1 hx]
  exact Nat.le_refl _
 | succ n ih =>
  intro s hs x hx
  by_cases h : ∃ i, i < s.size ∧ bt s (i : Int) = (c.toNat : Int)
  ·obtain ⟨i, h1, h2, h3⟩ := first_hit s.size h
   rw [S1_hit h1 h2 h3] at hx
   rcases List.mem_cons.1 hx with e | hx
   ·rw [e, ByteArray.size_extract]; omega
   ·have := ih _ (by rw [ByteArray.size_extract]; omega) x hx
    rw [ByteArray.size_extract] at this
    omega
  ·rw [S1_none (fun i hi e => h ⟨i, hi, e⟩)] at hx
   rw [List.mem_singleton.1 hx]
   exact Nat.le_refl _
theorem words_size {s w : ByteArray} (h : w ∈ wordsOf s) : w.size ≤ s.size := S1_size 32 s.size s (Nat.le_refl _) w (List.mem_filter.1 h).1
theorem words_pos {s w : ByteArray} (h : w ∈ wordsOf s) : 0 < w.size := by
 unfold wordsOf at h
 have h2 := (List.mem_filter.1 h).2
 unfold some0 at h2
 rcases Nat.eq_zero_or_pos w.size with h0 | h0
 ·exfalso
  have h3 : w.toList = [] := by
   rw [ByteArray.toList_eq]
   exact List.eq_nil_of_length_eq_zero (by rw [Array.length_toList]; exact h0)
  rw [decide_eq_true h3] at h2
  exact absurd h2 (by simp)
 ·exact h0
theorem wd_mem {ws : List ByteArray} {i : Nat} (h : i < ws.length) : wd ws (i : Int) ∈ ws := by
 have e := rdLine ws i h
 exact (show wd ws (i : Int) = ws[i] from e) ▸ List.getElem_mem h
set_option maxHeartbeats 8000000 in
set_option maxRecDepth 100000 in
theorem l19Row_calls (g : Nat) (v0 v1 v2 : Value) (R : RT) (s : ByteArray) (w0 w : World) (hX : Rg w0 w g v0 v1 v2 R) (hlen : R.2.2.length ≤ 1000000) (hs : s.size ≤ 1048576) :
  Calls Tryd.prog 20 #[.pointer (some ⟨g, 0, none⟩), .string s] w fun e w' => e = .returned (.int .i64 (rowP R (wordsOf s)).1) ∧ RgTo w0 w w' g v0 v1 v2 (rowP R (wordsOf s)).2 := by
 obtain ⟨K, hK⟩ := Ev.pick (words_spec s hs)
 have I1 := Aside0.mk (fun W => spec_SplitWords.calls K s (wordsOf s) W (hK K (Nat.le_refl _)))
 have hpos : ∀ x ∈ wordsOf s, 0 < x.size := fun x hx => words_pos hx
 have hcnt := words_len s
 have hsz : ∀ x ∈ wordsOf s, x.size ≤ 140737488351232 := fun x hx => by have := words_size hx; omega
 generalize wordsOf s = ws at *
 have HX := Aside0.mk hX
 have HP := Aside0.mk hpos
 have HL := Aside0.mk hlen
 have HZ := Aside0.mk hsz
 have HC := Aside0.mk hcnt
 clear hX hpos hK hlen hsz hcnt
 unfold rowP
 by_cases h0 : (ws.length : Int) = 0
 ·rw [if_pos h0]
  go_enter Tryd.func20, Tryd.ntmps20
  go_wp2_with (first | (go_at_call 35; (with_reducible refine (I1.out _).mono ?_); rintro e w3 ⟨vw, rfl, ho, hb⟩; obtain ⟨Aw, cw, ew, lw, rw_⟩ := Kd.R_reads ho; subst ew; have HW := Aside0.mk rw_; have HB := Aside0.mk hb; have HO := Aside0.mk ho; clear ho hb rw_) | fail)
  go_ret
  exact ⟨rfl, HX.out.same HB.out⟩
 ·rw [if_neg h0]
  have hn0 : 0 < ws.length := by omega
  have q0 : (0 : Int) < (ws.length : Int) := by omega
  have q0b : ((ws.length : Int) == 0) = false := by simpa using h0
  have hw0 : 0 < (wd ws 0).size := by
   have e := rdLine ws 0 hn0
   exact (show wd ws 0 = ws[0] from e) ▸ HP.out _ (List.getElem_mem hn0)
  have hz0 := HZ.out (wd ws 0) (wd_mem (i := 0) hn0)
  obtain ⟨t0, ht0⟩ : ∃ t0, wd ws 0 = t0 := ⟨_, rfl⟩
  rw [ht0] at hw0 hz0 ⊢
  have T0 := Aside0.mk ht0
  have hx0 : ∀ h : 0 < t0.size, ((t0[0]'h).toNat : Int) = bt t0 0 := by simpa using bt_at t0 0
  have qi : (0 : Int) < (t0.size : Int) := by omega
  by_cases h35 : bt t0 0 = 35
  ·rw [if_pos h35]
   have p35 : (bt t0 0 == 35) = true := by simpa using h35
   clear ht0 h35
   go_enter Tryd.func20, Tryd.ntmps20
   go_upto_region 2 with (first | (go_at_call 35; (with_reducible refine (I1.out _).mono ?_); rintro e w3 ⟨vw, rfl, ho, hb⟩; obtain ⟨Aw, cw, ew, lw, rw_⟩ := Kd.R_reads ho; subst ew; have HW := Aside0.mk rw_; have HB := Aside0.mk hb; have HO := Aside0.mk ho; clear ho hb rw_) | fail)
   obtain ⟨gw, cw9, ew9, -⟩ := Kd.R_form HO.out hn0
   (first | cases ew9 | (injection ew9 with ea_ en_ ec_; (first | subst ea_ | (injection ea_ with ea_; subst ea_)); subst ec_; clear en_))
   obtain ⟨aw, eaw, cw0⟩ := Kd.at_string HW.out 0 (by omega) (by omega)
   cases eaw
   rw [show rdOf ByteArray.empty ws 0 = t0 from T0.out] at cw0
   simp only [Int.reduceToNat, Int.toNat_zero] at cw0
   rw [add_plain] at cw0
   go_wp2
   go_ret
   exact ⟨rfl, HX.out.same HB.out⟩
  ·rw [if_neg h35]
   have p35 : (bt t0 0 == 35) = false := by simpa using h35
   clear ht0 h35
   unfold addRowP
   rw [T0.out]
   unfold isLineW isRailW isBelayW
   generalize el : (t0.toList == [108, 105, 110, 101]) = bl
   cases bl with
   | true =>
    have e9 : t0.toList = [108, 105, 110, 101] := by simpa using el
    have er : (t0.toList == [114, 97, 105, 108]) = false := by rw [e9]; rfl
    have eb : (t0.toList == [98, 101, 108, 97, 121]) = false := by rw [e9]; rfl
    clear e9
    rw [if_pos rfl]
    by_cases h2 : (ws.length : Int) = 2
    ·rw [if_pos h2]
     obtain ⟨t1, ht1⟩ : ∃ t1, wd ws 1 = t1 := ⟨_, rfl⟩
     have hz1 := HZ.out (wd ws 1) (wd_mem (i := 1) (by omega))
     rw [ht1] at hz1 ⊢
     have T1 := Aside0.mk ht1
     have Z1 := Aside0.mk hz1
     clear ht1 hz1
     have A1 : Aside0 (∀ W, Below w.heap.size w W → Calls Tryd.prog 36 #[.pointer (some ⟨g, 0, none⟩), .string t1] W fun e w' => e = .returned (.int .i64 (addLineP R t1).1) ∧ RgTo w0 W w' g v0 v1 v2 (addLineP R t1).2) := ⟨fun W hb => l19AddLine_calls g v0 v1 v2 R t1 w0 W (HX.out.step hb)⟩
     have q2 : ((ws.length : Int) != 2) = false := by simpa using h2
     have q1 : (1 : Int) < (ws.length : Int) := by omega
     go_enter Tryd.func20, Tryd.ntmps20
     go_upto_region 2 with (first | (go_at_call 35; (with_reducible refine (I1.out _).mono ?_); rintro e w3 ⟨vw, rfl, ho, hb⟩; obtain ⟨Aw, cw, ew, lw, rw_⟩ := Kd.R_reads ho; subst ew; have HW := Aside0.mk rw_; have HB := Aside0.mk hb; have HO := Aside0.mk ho; clear ho hb rw_) | fail)
     obtain ⟨gw, cw9, ew9, -⟩ := Kd.R_form HO.out hn0
     (first | cases ew9 | (injection ew9 with ea_ en_ ec_; (first | subst ea_ | (injection ea_ with ea_; subst ea_)); subst ec_; clear en_))
     obtain ⟨aw, eaw, cw0⟩ := Kd.at_string HW.out 0 (by omega) (by omega)
     cases eaw
     rw [show rdOf ByteArray.empty ws 0 = t0 from T0.out] at cw0
     simp only [Int.reduceToNat, Int.toNat_zero] at cw0
     rw [add_plain] at cw0
     obtain ⟨aw, eaw, cw1⟩ := Kd.at_string HW.out 1 (by omega) (by omega)
     cases eaw
     rw [show rdOf ByteArray.empty ws 1 = t1 from T1.out] at cw1
     simp only [Int.reduceToNat, Int.toNat_zero] at cw1
     rw [add_plain] at cw1
     clear h2
     go_wp2_with (first | (go_at_call 36; (with_reducible refine (A1.out _ HB.out).mono ?_); rintro e w5 ⟨rfl, hT⟩; have HT := Aside0.mk (RgTo.from HB.out hT); clear hT) | fail)
     go_ret
     exact ⟨rfl, HT.out⟩
    ·rw [if_neg h2]
     have q2 : ((ws.length : Int) != 2) = true := by simpa using h2
     go_enter Tryd.func20, Tryd.ntmps20
     go_upto_region 2 with (first | (go_at_call 35; (with_reducible refine (I1.out _).mono ?_); rintro e w3 ⟨vw, rfl, ho, hb⟩; obtain ⟨Aw, cw, ew, lw, rw_⟩ := Kd.R_reads ho; subst ew; have HW := Aside0.mk rw_; have HB := Aside0.mk hb; have HO := Aside0.mk ho; clear ho hb rw_) | fail)
     obtain ⟨gw, cw9, ew9, -⟩ := Kd.R_form HO.out hn0
     (first | cases ew9 | (injection ew9 with ea_ en_ ec_; (first | subst ea_ | (injection ea_ with ea_; subst ea_)); subst ec_; clear en_))
     obtain ⟨aw, eaw, cw0⟩ := Kd.at_string HW.out 0 (by omega) (by omega)
     cases eaw
     rw [show rdOf ByteArray.empty ws 0 = t0 from T0.out] at cw0
     simp only [Int.reduceToNat, Int.toNat_zero] at cw0
     rw [add_plain] at cw0
     go_wp2
     go_ret
     exact ⟨rfl, HX.out.same HB.out⟩
   | false =>
    rw [if_neg (by simp)]
    generalize er : (t0.toList == [114, 97, 105, 108]) = br
    generalize eb : (t0.toList == [98, 101, 108, 97, 121]) = bb
    cases br with
    | true =>
     rw [if_pos (by simp)]
     by_cases h4 : (ws.length : Int) = 4
     ·rw [if_pos h4]
      obtain ⟨t1, ht1⟩ : ∃ t1, wd ws 1 = t1 := ⟨_, rfl⟩
      have hz1 := HZ.out (wd ws 1) (wd_mem (i := 1) (by omega))
      rw [ht1] at hz1 ⊢
      have T1 := Aside0.mk ht1
      have Z1 := Aside0.mk hz1
      clear ht1 hz1
      obtain ⟨t2, ht2⟩ : ∃ t2, wd ws 2 = t2 := ⟨_, rfl⟩
      have hz2 := HZ.out (wd ws 2) (wd_mem (i := 2) (by omega))
      rw [ht2] at hz2 ⊢
      have T2 := Aside0.mk ht2
      have Z2 := Aside0.mk hz2
      clear ht2 hz2
      obtain ⟨t3, ht3⟩ : ∃ t3, wd ws 3 = t3 := ⟨_, rfl⟩
      have hz3 := HZ.out (wd ws 3) (wd_mem (i := 3) (by omega))
      rw [ht3] at hz3 ⊢
      have T3 := Aside0.mk ht3
      have Z3 := Aside0.mk hz3
      clear ht3 hz3
      have q4 : ((ws.length : Int) != 4) = false := by simpa using h4
      have q1 : (1 : Int) < (ws.length : Int) := by omega
      have q2 : (2 : Int) < (ws.length : Int) := by omega
      have q3 : (3 : Int) < (ws.length : Int) := by omega
      obtain ⟨K2, hK2⟩ := Ev.pick (num_spec t3 Z3.out)
      have N1 := Aside0.mk (fun W => spec_l01Number.calls K2 t3 (numV t3).1 (numV t3).2 W (hK2 K2 (Nat.le_refl _)))
      clear hK2
      generalize (numV t3).1 = n at N1 ⊢
      generalize (numV t3).2 = ok at N1 ⊢
      cases ok with
      | false =>
       go_enter Tryd.func20, Tryd.ntmps20
       go_upto_region 2 with (first | (go_at_call 35; (with_reducible refine (I1.out _).mono ?_); rintro e w3 ⟨vw, rfl, ho, hb⟩; obtain ⟨Aw, cw, ew, lw, rw_⟩ := Kd.R_reads ho; subst ew; have HW := Aside0.mk rw_; have HB := Aside0.mk hb; have HO := Aside0.mk ho; clear ho hb rw_) | fail)
       obtain ⟨gw, cw9, ew9, -⟩ := Kd.R_form HO.out hn0
       (first | cases ew9 | (injection ew9 with ea_ en_ ec_; (first | subst ea_ | (injection ea_ with ea_; subst ea_)); subst ec_; clear en_))
       obtain ⟨aw, eaw, cw0⟩ := Kd.at_string HW.out 0 (by omega) (by omega)
       cases eaw
       rw [show rdOf ByteArray.empty ws 0 = t0 from T0.out] at cw0
       simp only [Int.reduceToNat, Int.toNat_zero] at cw0
       rw [add_plain] at cw0
       obtain ⟨aw, eaw, cw1⟩ := Kd.at_string HW.out 1 (by omega) (by omega)
       cases eaw
       rw [show rdOf ByteArray.empty ws 1 = t1 from T1.out] at cw1
       simp only [Int.reduceToNat, Int.toNat_zero] at cw1
       rw [add_plain] at cw1
       obtain ⟨aw, eaw, cw2⟩ := Kd.at_string HW.out 2 (by omega) (by omega)
       cases eaw
       rw [show rdOf ByteArray.empty ws 2 = t2 from T2.out] at cw2
       simp only [Int.reduceToNat, Int.toNat_zero] at cw2
       rw [add_plain] at cw2
       obtain ⟨aw, eaw, cw3⟩ := Kd.at_string HW.out 3 (by omega) (by omega)
       cases eaw
       rw [show rdOf ByteArray.empty ws 3 = t3 from T3.out] at cw3
       simp only [Int.reduceToNat, Int.toNat_zero] at cw3
       rw [add_plain] at cw3
       clear h4
       go_wp2_with (first | (go_at_call 37; (with_reducible refine (N1.out _).mono ?_); rintro e w5 ⟨rfl, hb⟩; have HB5 := Aside0.mk (below_step HB.out hb); have cw11 := pw_cell_below hb cw1; have cw21 := pw_cell_below hb cw2; have cw01 := pw_cell_below hb cw0; clear hb) | fail)
       go_ret
       try simp only [if_true, if_false, Bool.false_eq_true]
       exact ⟨rfl, HX.out.same HB5.out⟩
      | true =>
       have A2 : Aside0 (∀ W, Below w.heap.size w W → Calls Tryd.prog 38 #[.pointer (some ⟨g, 0, none⟩), .agg #[.string t1, .string t2, .int .i64 n]] W fun e w' => e = .returned (.int .i64 (addRailP R ⟨t1, t2, n⟩).1) ∧ RgTo w0 W w' g v0 v1 v2 (addRailP R ⟨t1, t2, n⟩).2) := ⟨fun W hb => l19AddRail_calls g v0 v1 v2 R ⟨t1, t2, n⟩ w0 W (HX.out.step hb)⟩
       go_enter Tryd.func20, Tryd.ntmps20
       go_upto_region 2 with (first | (go_at_call 35; (with_reducible refine (I1.out _).mono ?_); rintro e w3 ⟨vw, rfl, ho, hb⟩; obtain ⟨Aw, cw, ew, lw, rw_⟩ := Kd.R_reads ho; subst ew; have HW := Aside0.mk rw_; have HB := Aside0.mk hb; have HO := Aside0.mk ho; clear ho hb rw_) | fail)
       obtain ⟨gw, cw9, ew9, -⟩ := Kd.R_form HO.out hn0
       (first | cases ew9 | (injection ew9 with ea_ en_ ec_; (first | subst ea_ | (injection ea_ with ea_; subst ea_)); subst ec_; clear en_))
       obtain ⟨aw, eaw, cw0⟩ := Kd.at_string HW.out 0 (by omega) (by omega)
       cases eaw
       rw [show rdOf ByteArray.empty ws 0 = t0 from T0.out] at cw0
       simp only [Int.reduceToNat, Int.toNat_zero] at cw0
       rw [add_plain] at cw0
       obtain ⟨aw, eaw, cw1⟩ := Kd.at_string HW.out 1 (by omega) (by omega)
       cases eaw
       rw [show rdOf ByteArray.empty ws 1 = t1 from T1.out] at cw1
       simp only [Int.reduceToNat, Int.toNat_zero] at cw1
       rw [add_plain] at cw1
       obtain ⟨aw, eaw, cw2⟩ := Kd.at_string HW.out 2 (by omega) (by omega)
       cases eaw
       rw [show rdOf ByteArray.empty ws 2 = t2 from T2.out] at cw2
       simp only [Int.reduceToNat, Int.toNat_zero] at cw2
       rw [add_plain] at cw2
       obtain ⟨aw, eaw, cw3⟩ := Kd.at_string HW.out 3 (by omega) (by omega)
       cases eaw
       rw [show rdOf ByteArray.empty ws 3 = t3 from T3.out] at cw3
       simp only [Int.reduceToNat, Int.toNat_zero] at cw3
       rw [add_plain] at cw3
       clear h4
       go_upto_region 19 with (first | (go_at_call 37; (with_reducible refine (N1.out _).mono ?_); rintro e w5 ⟨rfl, hb⟩; have HB5 := Aside0.mk (below_step HB.out hb); have cw11 := pw_cell_below hb cw1; have cw21 := pw_cell_below hb cw2; have cw01 := pw_cell_below hb cw0; clear hb) | fail)
       refine start_ (n := 11) (S := fun w' => w'.cell? ⟨gw, 1, none⟩ = some (.string t1) ∧ w'.cell? ⟨gw, 2, none⟩ = some (.string t2)) (ds := [9]) (fl 11 0) (by kernel_rfl) rfl rfl ⟨cw11, cw21⟩ (fun hHeld => ?_)
       refine pu_ (i := 0) (N := some 55) (fl 11 1) (by kernel_rfl) ?_
       refine pu_ (i := 1) (N := some 56) (fl 11 3) (by kernel_rfl) ?_
       refine pu_ (i := 2) (N := some 57) (fl 11 7) (by kernel_rfl) ?_
       refine pu_ (i := 4) (N := some 59) (fl 11 23) (by kernel_rfl) ?_
       refine pu_ (i := 5) (N := some 60) (fl 11 55) (by kernel_rfl) ?_
       refine pu_ (i := 7) (N := some 62) (fl 11 183) (by kernel_rfl) ?_
       refine take_ (i := 3) (N := some 58) (v := ?_) (a' := ?_) (fl 11 191) rfl rfl (by kernel_rfl) (fun _ _ _ h => h) (Or.inl ⟨by rfl, ?_⟩) hHeld ?_ ?_
       rotate_left
       ·rintro w' ⟨s0, s1⟩
        go_simp
        with_reducible rfl
       rotate_left
       ·simp only [Act.put, List.setIfInBounds_toArray, List.set_cons_zero, List.set_cons_succ, i64_w, i32_w]
        rfl
       refine take_ (i := 6) (N := some 61) (v := ?_) (a' := ?_) (fl 11 255) rfl rfl (by kernel_rfl) (fun _ _ _ h => h) (Or.inl ⟨by rfl, ?_⟩) hHeld ?_ ?_
       rotate_left
       ·rintro w' ⟨s0, s1⟩
        go_simp
        with_reducible rfl
       rotate_left
       ·simp only [Act.put, List.setIfInBounds_toArray, List.set_cons_zero, List.set_cons_succ, i64_w, i32_w]
        rfl
       refine pu_ (i := 8) (N := some 63) (fl 11 511) (by kernel_rfl) ?_
       refine last_ (i := 9) (N := some 64) (fl 11 1023) rfl rfl (by kernel_rfl) (by decide) (fun K hK => ?_)
       refine goes_ Tryd.func38 (by kernel_rfl) rfl #[.pointer (some ⟨g, 0, none⟩), .agg #[.string t1, .string t2, .int .i64 n]] (by rfl) rfl rfl (by simp only [List.map_toArray, List.map_cons, List.map_nil]; rfl) ?_
       with_reducible refine (A2.out _ (below_drew1 HB5.out)).mono ?_
       rintro e w6 ⟨rfl, hT⟩
       refine ⟨_, rfl, ?_⟩
       have HT := Aside0.mk (RgTo.from (below_drew1 HB5.out) hT)
       refine hK.out _ _ ?_
       clear hK K
       refine norm_ (a' := ?_) ?_ ?_
       rotate_left
       ·show Act.put _ (some 64) _ = _
        simp only [Act.put, List.setIfInBounds_toArray, List.set_cons_zero, List.set_cons_succ, i64_w, i32_w]
        rfl
       refine pu_ (i := 10) (N := some 4) (fl 11 2047) (by kernel_rfl) ?_
       refine done_ (by kernel_rfl) ?_
       go_wp2
       go_ret
       try simp only [if_true, if_false, Bool.false_eq_true]
       exact ⟨rfl, HT.out⟩
     ·rw [if_neg h4]
      have q4 : ((ws.length : Int) != 4) = true := by simpa using h4
      go_enter Tryd.func20, Tryd.ntmps20
      go_upto_region 2 with (first | (go_at_call 35; (with_reducible refine (I1.out _).mono ?_); rintro e w3 ⟨vw, rfl, ho, hb⟩; obtain ⟨Aw, cw, ew, lw, rw_⟩ := Kd.R_reads ho; subst ew; have HW := Aside0.mk rw_; have HB := Aside0.mk hb; have HO := Aside0.mk ho; clear ho hb rw_) | fail)
      obtain ⟨gw, cw9, ew9, -⟩ := Kd.R_form HO.out hn0
      (first | cases ew9 | (injection ew9 with ea_ en_ ec_; (first | subst ea_ | (injection ea_ with ea_; subst ea_)); subst ec_; clear en_))
      obtain ⟨aw, eaw, cw0⟩ := Kd.at_string HW.out 0 (by omega) (by omega)
      cases eaw
      rw [show rdOf ByteArray.empty ws 0 = t0 from T0.out] at cw0
      simp only [Int.reduceToNat, Int.toNat_zero] at cw0
      rw [add_plain] at cw0
      go_wp2
      go_ret
      exact ⟨rfl, HX.out.same HB.out⟩
    | false =>
     cases bb with
     | true =>
      rw [if_pos (by simp)]
      by_cases h4 : (ws.length : Int) = 4
      ·rw [if_pos h4]
       obtain ⟨t1, ht1⟩ : ∃ t1, wd ws 1 = t1 := ⟨_, rfl⟩
       have hz1 := HZ.out (wd ws 1) (wd_mem (i := 1) (by omega))
       rw [ht1] at hz1 ⊢
       have T1 := Aside0.mk ht1
       have Z1 := Aside0.mk hz1
       clear ht1 hz1
       obtain ⟨t2, ht2⟩ : ∃ t2, wd ws 2 = t2 := ⟨_, rfl⟩
       have hz2 := HZ.out (wd ws 2) (wd_mem (i := 2) (by omega))
       rw [ht2] at hz2 ⊢
       have T2 := Aside0.mk ht2
       have Z2 := Aside0.mk hz2
       clear ht2 hz2
       obtain ⟨t3, ht3⟩ : ∃ t3, wd ws 3 = t3 := ⟨_, rfl⟩
       have hz3 := HZ.out (wd ws 3) (wd_mem (i := 3) (by omega))
       rw [ht3] at hz3 ⊢
       have T3 := Aside0.mk ht3
       have Z3 := Aside0.mk hz3
       clear ht3 hz3
       have q4 : ((ws.length : Int) != 4) = false := by simpa using h4
       have q1 : (1 : Int) < (ws.length : Int) := by omega
       have q2 : (2 : Int) < (ws.length : Int) := by omega
       have q3 : (3 : Int) < (ws.length : Int) := by omega
       obtain ⟨K2, hK2⟩ := Ev.pick (num_spec t3 Z3.out)
       have N1 := Aside0.mk (fun W => spec_l01Number.calls K2 t3 (numV t3).1 (numV t3).2 W (hK2 K2 (Nat.le_refl _)))
       clear hK2
       generalize (numV t3).1 = n at N1 ⊢
       generalize (numV t3).2 = ok at N1 ⊢
       cases ok with
       | false =>
        go_enter Tryd.func20, Tryd.ntmps20
        go_upto_region 2 with (first | (go_at_call 35; (with_reducible refine (I1.out _).mono ?_); rintro e w3 ⟨vw, rfl, ho, hb⟩; obtain ⟨Aw, cw, ew, lw, rw_⟩ := Kd.R_reads ho; subst ew; have HW := Aside0.mk rw_; have HB := Aside0.mk hb; have HO := Aside0.mk ho; clear ho hb rw_) | fail)
        obtain ⟨gw, cw9, ew9, -⟩ := Kd.R_form HO.out hn0
        (first | cases ew9 | (injection ew9 with ea_ en_ ec_; (first | subst ea_ | (injection ea_ with ea_; subst ea_)); subst ec_; clear en_))
        obtain ⟨aw, eaw, cw0⟩ := Kd.at_string HW.out 0 (by omega) (by omega)
        cases eaw
        rw [show rdOf ByteArray.empty ws 0 = t0 from T0.out] at cw0
        simp only [Int.reduceToNat, Int.toNat_zero] at cw0
        rw [add_plain] at cw0
        obtain ⟨aw, eaw, cw1⟩ := Kd.at_string HW.out 1 (by omega) (by omega)
        cases eaw
        rw [show rdOf ByteArray.empty ws 1 = t1 from T1.out] at cw1
        simp only [Int.reduceToNat, Int.toNat_zero] at cw1
        rw [add_plain] at cw1
        obtain ⟨aw, eaw, cw2⟩ := Kd.at_string HW.out 2 (by omega) (by omega)
        cases eaw
        rw [show rdOf ByteArray.empty ws 2 = t2 from T2.out] at cw2
        simp only [Int.reduceToNat, Int.toNat_zero] at cw2
        rw [add_plain] at cw2
        obtain ⟨aw, eaw, cw3⟩ := Kd.at_string HW.out 3 (by omega) (by omega)
        cases eaw
        rw [show rdOf ByteArray.empty ws 3 = t3 from T3.out] at cw3
        simp only [Int.reduceToNat, Int.toNat_zero] at cw3
        rw [add_plain] at cw3
        clear h4
        go_wp2_with (first | (go_at_call 37; (with_reducible refine (N1.out _).mono ?_); rintro e w5 ⟨rfl, hb⟩; have HB5 := Aside0.mk (below_step HB.out hb); have cw11 := pw_cell_below hb cw1; have cw21 := pw_cell_below hb cw2; have cw01 := pw_cell_below hb cw0; clear hb) | fail)
        go_ret
        try simp only [if_true, if_false, Bool.false_eq_true]
        exact ⟨rfl, HX.out.same HB5.out⟩
       | true =>
        have A2 : Aside0 (∀ W, Below w.heap.size w W → Calls Tryd.prog 39 #[.pointer (some ⟨g, 0, none⟩), .agg #[.string t1, .string t2, .int .i64 n]] W fun e w' => e = .returned (.int .i64 (addBelayP R ⟨t1, t2, n⟩).1) ∧ RgTo w0 W w' g v0 v1 v2 (addBelayP R ⟨t1, t2, n⟩).2) := ⟨fun W hb => l19AddBelay_calls g v0 v1 v2 R ⟨t1, t2, n⟩ w0 W (HX.out.step hb) HL.out⟩
        go_enter Tryd.func20, Tryd.ntmps20
        go_upto_region 2 with (first | (go_at_call 35; (with_reducible refine (I1.out _).mono ?_); rintro e w3 ⟨vw, rfl, ho, hb⟩; obtain ⟨Aw, cw, ew, lw, rw_⟩ := Kd.R_reads ho; subst ew; have HW := Aside0.mk rw_; have HB := Aside0.mk hb; have HO := Aside0.mk ho; clear ho hb rw_) | fail)
        obtain ⟨gw, cw9, ew9, -⟩ := Kd.R_form HO.out hn0
        (first | cases ew9 | (injection ew9 with ea_ en_ ec_; (first | subst ea_ | (injection ea_ with ea_; subst ea_)); subst ec_; clear en_))
        obtain ⟨aw, eaw, cw0⟩ := Kd.at_string HW.out 0 (by omega) (by omega)
        cases eaw
        rw [show rdOf ByteArray.empty ws 0 = t0 from T0.out] at cw0
        simp only [Int.reduceToNat, Int.toNat_zero] at cw0
        rw [add_plain] at cw0
        obtain ⟨aw, eaw, cw1⟩ := Kd.at_string HW.out 1 (by omega) (by omega)
        cases eaw
        rw [show rdOf ByteArray.empty ws 1 = t1 from T1.out] at cw1
        simp only [Int.reduceToNat, Int.toNat_zero] at cw1
        rw [add_plain] at cw1
        obtain ⟨aw, eaw, cw2⟩ := Kd.at_string HW.out 2 (by omega) (by omega)
        cases eaw
        rw [show rdOf ByteArray.empty ws 2 = t2 from T2.out] at cw2
        simp only [Int.reduceToNat, Int.toNat_zero] at cw2
        rw [add_plain] at cw2
        obtain ⟨aw, eaw, cw3⟩ := Kd.at_string HW.out 3 (by omega) (by omega)
        cases eaw
        rw [show rdOf ByteArray.empty ws 3 = t3 from T3.out] at cw3
        simp only [Int.reduceToNat, Int.toNat_zero] at cw3
        rw [add_plain] at cw3
        clear h4
        go_upto_region 20 with (first | (go_at_call 37; (with_reducible refine (N1.out _).mono ?_); rintro e w5 ⟨rfl, hb⟩; have HB5 := Aside0.mk (below_step HB.out hb); have cw11 := pw_cell_below hb cw1; have cw21 := pw_cell_below hb cw2; have cw01 := pw_cell_below hb cw0; clear hb) | fail)
        refine start_ (n := 11) (S := fun w' => w'.cell? ⟨gw, 1, none⟩ = some (.string t1) ∧ w'.cell? ⟨gw, 2, none⟩ = some (.string t2)) (ds := [9]) (fl 11 0) (by kernel_rfl) rfl rfl ⟨cw11, cw21⟩ (fun hHeld => ?_)
        refine pu_ (i := 0) (N := some 65) (fl 11 1) (by kernel_rfl) ?_
        refine pu_ (i := 1) (N := some 66) (fl 11 3) (by kernel_rfl) ?_
        refine pu_ (i := 2) (N := some 67) (fl 11 7) (by kernel_rfl) ?_
        refine pu_ (i := 4) (N := some 69) (fl 11 23) (by kernel_rfl) ?_
        refine pu_ (i := 5) (N := some 70) (fl 11 55) (by kernel_rfl) ?_
        refine pu_ (i := 7) (N := some 72) (fl 11 183) (by kernel_rfl) ?_
        refine take_ (i := 3) (N := some 68) (v := ?_) (a' := ?_) (fl 11 191) rfl rfl (by kernel_rfl) (fun _ _ _ h => h) (Or.inl ⟨by rfl, ?_⟩) hHeld ?_ ?_
        rotate_left
        ·rintro w' ⟨s0, s1⟩
         go_simp
         with_reducible rfl
        rotate_left
        ·simp only [Act.put, List.setIfInBounds_toArray, List.set_cons_zero, List.set_cons_succ, i64_w, i32_w]
         rfl
        refine take_ (i := 6) (N := some 71) (v := ?_) (a' := ?_) (fl 11 255) rfl rfl (by kernel_rfl) (fun _ _ _ h => h) (Or.inl ⟨by rfl, ?_⟩) hHeld ?_ ?_
        rotate_left
        ·rintro w' ⟨s0, s1⟩
         go_simp
         with_reducible rfl
        rotate_left
        ·simp only [Act.put, List.setIfInBounds_toArray, List.set_cons_zero, List.set_cons_succ, i64_w, i32_w]
         rfl
        refine pu_ (i := 8) (N := some 73) (fl 11 511) (by kernel_rfl) ?_
        refine last_ (i := 9) (N := some 74) (fl 11 1023) rfl rfl (by kernel_rfl) (by decide) (fun K hK => ?_)
        refine goes_ Tryd.func39 (by kernel_rfl) rfl #[.pointer (some ⟨g, 0, none⟩), .agg #[.string t1, .string t2, .int .i64 n]] (by rfl) rfl rfl (by simp only [List.map_toArray, List.map_cons, List.map_nil]; rfl) ?_
        with_reducible refine (A2.out _ (below_drew1 HB5.out)).mono ?_
        rintro e w6 ⟨rfl, hT⟩
        refine ⟨_, rfl, ?_⟩
        have HT := Aside0.mk (RgTo.from (below_drew1 HB5.out) hT)
        refine hK.out _ _ ?_
        clear hK K
        refine norm_ (a' := ?_) ?_ ?_
        rotate_left
        ·show Act.put _ (some 74) _ = _
         simp only [Act.put, List.setIfInBounds_toArray, List.set_cons_zero, List.set_cons_succ, i64_w, i32_w]
         rfl
        refine pu_ (i := 10) (N := some 4) (fl 11 2047) (by kernel_rfl) ?_
        refine done_ (by kernel_rfl) ?_
        go_wp2
        go_ret
        try simp only [if_true, if_false, Bool.false_eq_true]
        exact ⟨rfl, HT.out⟩
      ·rw [if_neg h4]
       have q4 : ((ws.length : Int) != 4) = true := by simpa using h4
       go_enter Tryd.func20, Tryd.ntmps20
       go_upto_region 2 with (first | (go_at_call 35; (with_reducible refine (I1.out _).mono ?_); rintro e w3 ⟨vw, rfl, ho, hb⟩; obtain ⟨Aw, cw, ew, lw, rw_⟩ := Kd.R_reads ho; subst ew; have HW := Aside0.mk rw_; have HB := Aside0.mk hb; have HO := Aside0.mk ho; clear ho hb rw_) | fail)
       obtain ⟨gw, cw9, ew9, -⟩ := Kd.R_form HO.out hn0
       (first | cases ew9 | (injection ew9 with ea_ en_ ec_; (first | subst ea_ | (injection ea_ with ea_; subst ea_)); subst ec_; clear en_))
       obtain ⟨aw, eaw, cw0⟩ := Kd.at_string HW.out 0 (by omega) (by omega)
       cases eaw
       rw [show rdOf ByteArray.empty ws 0 = t0 from T0.out] at cw0
       simp only [Int.reduceToNat, Int.toNat_zero] at cw0
       rw [add_plain] at cw0
       go_wp2
       go_ret
       exact ⟨rfl, HX.out.same HB.out⟩
     | false =>
      rw [if_neg (by simp)]
      go_enter Tryd.func20, Tryd.ntmps20
      go_upto_region 2 with (first | (go_at_call 35; (with_reducible refine (I1.out _).mono ?_); rintro e w3 ⟨vw, rfl, ho, hb⟩; obtain ⟨Aw, cw, ew, lw, rw_⟩ := Kd.R_reads ho; subst ew; have HW := Aside0.mk rw_; have HB := Aside0.mk hb; have HO := Aside0.mk ho; clear ho hb rw_) | fail)
      obtain ⟨gw, cw9, ew9, -⟩ := Kd.R_form HO.out hn0
      (first | cases ew9 | (injection ew9 with ea_ en_ ec_; (first | subst ea_ | (injection ea_ with ea_; subst ea_)); subst ec_; clear en_))
      obtain ⟨aw, eaw, cw0⟩ := Kd.at_string HW.out 0 (by omega) (by omega)
      cases eaw
      rw [show rdOf ByteArray.empty ws 0 = t0 from T0.out] at cw0
      simp only [Int.reduceToNat, Int.toNat_zero] at cw0
      rw [add_plain] at cw0
      go_wp2
      go_ret
      exact ⟨rfl, HX.out.same HB.out⟩
theorem infoN : (Tryd.prog.info? 50).map (fun i => (i.zero, i.size, i.bytes)) = some (some (.agg #[(.int .i64 0), (.int .i64 0)]), 2, 16) := by kernel_rfl
def noteP (ns : List S50) (i : Nat) (k : Int) : List S50 := if k = 0 then ns else if (ns.length : Int) < 20 then ns ++ [⟨(i : Int) + 1, k⟩] else ns
def rowsP : List ByteArray → Nat → RT → List S50 → RT × List S50
 | [], _, R, ns => (R, ns)
 | s :: l, i, R, ns => rowsP l (i + 1) (rowP R (wordsOf s)).2 (noteP ns i (rowP R (wordsOf s)).1)
def rigA (s : ByteArray) : RT × List S50 × Int := if 3000 < s.size then (([], [], []), [], 2) else ((rowsP (S1 10 s) 0 ([], [], []) []).1, (rowsP (S1 10 s) 0 ([], [], []) []).2, 0)
theorem ite_len {p : Prop} [Decidable p] {a b : Int × RT} {n : Nat} (ha : a.2.2.2.length ≤ n) (hb : b.2.2.2.length ≤ n) : (if p then a else b).2.2.2.length ≤ n := by split <;> assumption
theorem addRow_len (R : RT) (ws : List ByteArray) : (addRowP R ws).2.2.2.length ≤ R.2.2.length + 1 := by
 unfold addRowP addLineP addRailP addBelayP
 repeat' (first | (with_reducible exact Nat.le_succ _) | (with_reducible refine ite_len ?_ ?_) | exact Nat.le_succ _ | (simp; done))
theorem row_len (R : RT) (ws : List ByteArray) : (rowP R ws).2.2.2.length ≤ R.2.2.length + 1 := by
 unfold rowP
 split
 ·simp
 ·split
  ·simp
  ·exact addRow_len R ws
theorem note_len (ns : List S50) (i : Nat) (k : Int) : (noteP ns i k).length ≤ ns.length + 1 := by
 unfold noteP
 split
 ·omega
 ·split
  ·simp
  ·omega
theorem ty_ne {α β : Type} {d : Kd α} {d' : Kd β} {w : World} {e e' b b' : Nat} {ok ok' : Nat → Prop} {v v' : Value} {xs : List α} {ys : List β} (h1 : d.R e w b ok v xs) (h2 : d'.R e' w b' ok' v' ys) (hne : e' ≠ e) : ∀ k, v.ownBlock = some k → v'.ownBlock ≠ some k := fun k hk he => by
 obtain ⟨cells, hc⟩ := Kd.R_typed h1 k hk
 exact Kd.R_ne h2 hc hne he.symm
structure PR (w0 w : World) (g gc : Nat) (v0 v1 v2 vn vr : Value) (R : RT) (ns : List S50) (ls : List ByteArray) : Prop where
 rg : Rg w0 w g v0 v1 v2 R
 cg : w.heap[gc]? = some (.cells #[.slice none 0 0, .slice none 0 0, .slice none 0 0] 26 (0, 0))
 cb : w0.heap.size ≤ gc
 ne : gc ≠ g
 rr : Kd.R Kd.string 9 w w0.heap.size (fun k => vr.ownBlock = some k) vr ls
 rn : ∀ k, vr.ownBlock = some k → v1.ownBlock ≠ some k
 nn : Kd.R k50 50 w w0.heap.size (fun _ => True) vn ns
section
variable {w0 w W w' w7 : World} {g gc : Nat} {v0 v1 v2 vn vr vn' : Value} {R R' : RT} {ns ns' : List S50} {ls : List ByteArray}
theorem PR.step (h : PR w0 w g gc v0 v1 v2 vn vr R ns ls) (hb : Below w.heap.size w W) : PR w0 W g gc v0 v1 v2 vn vr R ns ls :=
 ⟨h.rg.step hb, blk_below h.cg hb, h.cb, h.ne, Kd.R_below h.rr hb, h.rn, Kd.R_below h.nn hb⟩
theorem PR.row (h : PR w0 w g gc v0 v1 v2 vn vr R ns ls) (ht : RgTo w0 w w' g v0 v1 v2 R') : ∃ v0' v1' v2', PR w0 w' g gc v0' v1' v2' vn vr R' ns ls := by
 obtain ⟨u0, u1, u2, hr, hk, -, h1, -⟩ := ht
 have nc : ¬ RS g v0 v1 v2 gc := by
  rintro (e | e | e | e)
  ·exact h.ne e
  ·exact Kd.R_ne h.rg.r0 h.cg (by decide) e.symm
  ·exact Kd.R_ne h.rg.r1 h.cg (by decide) e.symm
  ·exact Kd.R_ne h.rg.r2 h.cg (by decide) e.symm
 refine ⟨u0, u1, u2, hr, blk_kept h.cg hk nc, h.cb, h.ne, ?_, ?_, ?_⟩
 ·refine Kd.R_step h.rr (fun k ho hlt => hk.2 k hlt ?_)
  rintro (e | e | e | e)
  ·exact Kd.R_ne h.rr h.rg.blk (by decide) (by rw [ho, e])
  ·exact ty_ne h.rr h.rg.r0 (by decide) k ho e
  ·exact h.rn k ho e
  ·exact ty_ne h.rr h.rg.r2 (by decide) k ho e
 ·intro k ho e
  rcases h1 k e with h5 | h5
  ·exact h.rn k ho h5
  ·have := Kd.R_lt h.rr k ho
   omega
 ·refine Kd.R_mono (Kd.R_move (Kd.R_bound h.nn) (fun k hq => hk.2 k hq.2.2.1 ?_)) (fun _ hq => hq.1)
  obtain ⟨-, -, -, q, hq, cells, hc⟩ := hq
  have hqe : q = 50 := List.mem_singleton.1 hq
  subst hqe
  rintro (e | e | e | e)
  ·subst e
   exact blk_ne hc h.rg.blk (by decide) rfl
  ·exact Kd.R_ne h.rg.r0 hc (by decide) e.symm
  ·exact Kd.R_ne h.rg.r1 hc (by decide) e.symm
  ·exact Kd.R_ne h.rg.r2 hc (by decide) e.symm
theorem PR.note (h0 : PR w0 w g gc v0 v1 v2 vn vr R ns ls) (hb : Below w.heap.size w W) (hR : Kd.R k50 50 w7 w0.heap.size (fun _ => True) vn' ns') (hg : W.grownBy w7 vn.ownBlock) (hl : Below w0.heap.size w0 w7) : PR w0 w7 g gc v0 v1 v2 vn' vr R ns' ls := by
 have h := h0.step hb
 refine ⟨⟨blk_grown h.rg.blk hg (Kd.R_ne h.nn h.rg.blk (by decide)), h.rg.bg, Kd.R_over h.rg.r0 h.nn (fun q hq => eTy rfl (by decide) hq) hg, Kd.R_over h.rg.r1 h.nn (fun q hq => eTy rfl (by decide) hq) hg, Kd.R_over h.rg.r2 h.nn (fun q hq => eTy rfl (by decide) hq) hg, hl⟩, blk_grown h.cg hg (Kd.R_ne h.nn h.cg (by decide)), h.cb, h.ne, Kd.R_grown h.rr hg (fun k hk e => ty_ne h.rr h.nn (by decide) k hk e.symm), h.rn, hR⟩
theorem rig_three {α : Type} {d : Kd α} {e base : Nat} {ok : Nat → Prop} {v : Value} {xs : List α} (h : d.R e w base ok v xs) (hE : d.E = []) (he : e ≠ 26) {a b c x y z : Value} (hb : w.heap[gc]? = some (.cells #[a, b, c] 26 (0, 0))) :
  d.R e (((w.setCell ⟨gc, 0, none⟩ x).setCell ⟨gc, 1, none⟩ y).setCell ⟨gc, 2, none⟩ z) base ok v xs :=
 Kd.R_set (Kd.R_set (Kd.R_set h hb (fun q hq => eTy hE he hq) 0 x) (blk_set hb 0 x) (fun q hq => eTy hE he hq) 1 y) (blk_set (blk_set hb 0 x) 1 y) (fun q hq => eTy hE he hq) 2 z
theorem rig_blk {a b c x y z : Value} (hb : w.heap[gc]? = some (.cells #[a, b, c] 26 (0, 0))) : (((w.setCell ⟨gc, 0, none⟩ x).setCell ⟨gc, 1, none⟩ y).setCell ⟨gc, 2, none⟩ z).heap[gc]? = some (.cells #[x, y, z] 26 (0, 0)) := blk_set (blk_set (blk_set hb 0 x) 1 y) 2 z
theorem rig_low {x y z : Value} {b : Nat} (h : Below b w0 w) (hg : b ≤ gc) : Below b w0 (((w.setCell ⟨gc, 0, none⟩ x).setCell ⟨gc, 1, none⟩ y).setCell ⟨gc, 2, none⟩ z) :=
 ((h.setCell (p := ⟨gc, 0, none⟩) hg x).setCell (p := ⟨gc, 1, none⟩) hg y).setCell (p := ⟨gc, 2, none⟩) hg z
end
def RigOut (w w' : World) (v0 v1 v2 vn : Value) (r : RT × List S50 × Int) : Prop :=
 Kd.R k68 68 w' w.heap.size (fun _ => True) v0 r.1.1 ∧ Kd.R Kd.string 9 w' w.heap.size (fun _ => True) v1 r.1.2.1 ∧ Kd.R k71 71 w' w.heap.size (fun _ => True) v2 r.1.2.2 ∧ Kd.R k50 50 w' w.heap.size (fun _ => True) vn r.2.1 ∧ Below w.heap.size w w'
theorem PR.out {w0 w : World} {g gc : Nat} {v0 v1 v2 vn vr : Value} {R : RT} {ns : List S50} {ls : List ByteArray} (h : PR w0 w g gc v0 v1 v2 vn vr R ns ls) (c : Int) : RigOut w0 (((w.setCell ⟨gc, 0, none⟩ v0).setCell ⟨gc, 1, none⟩ v1).setCell ⟨gc, 2, none⟩ v2) v0 v1 v2 vn (R, ns, c) :=
 ⟨rig_three h.rg.r0 rfl (by decide) h.cg, rig_three h.rg.r1 rfl (by decide) h.cg, rig_three h.rg.r2 rfl (by decide) h.cg, rig_three h.nn rfl (by decide) h.cg, rig_low h.rg.low h.cb⟩
set_option maxHeartbeats 8000000 in
set_option maxRecDepth 100000 in
theorem ParseRig_calls (s : ByteArray) (w : World) (hs : s.size ≤ 1048576) :
  Calls Tryd.prog 9 #[.string s] w fun e w' => ∃ v0 v1 v2 vn : Value, e = .returned (.tuple #[.agg #[v0, v1, v2], vn, .int .i64 (rigA s).2.2]) ∧ RigOut w w' v0 v1 v2 vn (rigA s) := by
 have hu := Tryd.underlying26
 unfold rigA
 by_cases h3 : 3000 < s.size
 ·rw [if_pos h3]
  have p3 : (3000 : Int) < (s.size : Int) := by omega
  go_enter Tryd.func9, Tryd.ntmps9
  go_wp2_with (first | ((with_reducible refine gate_dst (N := 2) rfl ?_); refine be_ 2 #[.slice none 0 0, .slice none 0 0, .slice none 0 0] 26 ?_; intro gc hg w2 hbox hb; have CG := Aside0.mk hbox; have HB := Aside0.mk hb; have GC := Aside0.mk (Nat.le_of_eq hg.symm); clear hbox hb hg; have d0 := (blk_cell CG.out 0).trans rfl; have d1 := (blk_cell CG.out 1).trans rfl; have d2 := (blk_cell CG.out 2).trans rfl; have df : ∀ o, w2.frozen? ⟨gc, o, none⟩ = false := fun o => blk_frozen CG.out o) | fail)
  refine bodyPost_ret (results_ctt rfl _ _ gc 26 #[.slice none 0 0, .slice none 0 0, .slice none 0 0] (0, 0) _ rfl (rig_blk CG.out) Tryd.underlying26 rfl (by kernel_rfl)) rfl ?_
  exact ⟨_, _, _, _, rfl, rig_three (Kd.R_nil _ _ _ _ _) rfl (by decide) CG.out, rig_three (Kd.R_nil _ _ _ _ _) rfl (by decide) CG.out, rig_three (Kd.R_nil _ _ _ _ _) rfl (by decide) CG.out, rig_three (Kd.R_nil _ _ _ _ _) rfl (by decide) CG.out, rig_low HB.out GC.out⟩
 ·rw [if_neg h3]
  have p3 : ¬ (3000 : Int) < (s.size : Int) := by omega
  obtain ⟨K, hK⟩ := Ev.pick (split_spec s 10 hs)
  have I1 := Aside0.mk (fun W => spec_l01Split.calls K s 10 (S1 10 s) W (hK K (Nat.le_refl _)))
  have hz : ∀ x ∈ S1 10 s, x.size ≤ 1048576 := fun x hx => by have := S1_size 10 s.size s (Nat.le_refl _) x hx; omega
  have hcnt := S1_len 10 s
  generalize S1 10 s = ls at *
  obtain ⟨rt, hrt⟩ : ∃ rt, rowsP ls 0 ([], [], []) [] = rt := ⟨_, rfl⟩
  rw [hrt]
  have HRT := Aside0.mk hrt
  have HZ := Aside0.mk hz
  have HC := Aside0.mk hcnt
  have P3 := Aside0.mk h3
  clear hrt hz hcnt hK h3
  go_enter Tryd.func9, Tryd.ntmps9
  go_upto_region 4 with (first | ((with_reducible refine gate_dst (N := 2) rfl ?_); refine be_ 2 #[.slice none 0 0, .slice none 0 0, .slice none 0 0] 26 ?_; intro gc hg w2 hbox hb; have CG := Aside0.mk hbox; have HB := Aside0.mk hb; have GC := Aside0.mk (Nat.le_of_eq hg.symm); clear hbox hb hg; have d0 := (blk_cell CG.out 0).trans rfl; have d1 := (blk_cell CG.out 1).trans rfl; have d2 := (blk_cell CG.out 2).trans rfl; have df : ∀ o, w2.frozen? ⟨gc, o, none⟩ = false := fun o => blk_frozen CG.out o) | (go_at_call 18; (with_reducible refine (spec_l19Empty.calls [] [] [] _ rfl).mono ?_); rintro e w3 ⟨v0, v1, v2, rfl, ho0, ho1, ho2, hb3⟩; have HE := Aside0.mk (And.intro ho0 (And.intro ho1 ho2)); have CG3 := Aside0.mk (blk_below CG.out hb3); have HB3 := Aside0.mk (below_step HB.out hb3); obtain ⟨A0, c0, e0⟩ := Kd.R_slice ho0; subst e0; obtain ⟨A1, c1, e1⟩ := Kd.R_slice ho1; subst e1; obtain ⟨A2, c2, e2⟩ := Kd.R_slice ho2; subst e2; clear ho0 ho1 ho2 hb3) | ((with_reducible refine gate_dst (N := 5) rfl ?_); refine be_ 5 #[.slice none 0 0, .slice none 0 0, .slice none 0 0] 26 ?_; intro g hg w4 hbox hb; have BG := Aside0.mk hbox; have HB4 := Aside0.mk hb; have GG := Aside0.mk (Nat.le_of_eq hg.symm); clear hbox hb hg; have d0 := (blk_cell BG.out 0).trans rfl; have d1 := (blk_cell BG.out 1).trans rfl; have d2 := (blk_cell BG.out 2).trans rfl; have df : ∀ o, w4.frozen? ⟨g, o, none⟩ = false := fun o => blk_frozen BG.out o) | fail)
  obtain ⟨w5, hw5⟩ : ∃ w5, w5 = ((w4.setCell ⟨g, 0, none⟩ (.slice A0 0 c0)).setCell ⟨g, 1, none⟩ (.slice A1 0 c1)).setCell ⟨g, 2, none⟩ (.slice A2 0 c2) := ⟨_, rfl⟩
  have hX5 : Aside0 (Rg w w5 g (.slice A0 0 c0) (.slice A1 0 c1) (.slice A2 0 c2) ([], [], [])) := ⟨hw5 ▸ ⟨rig_blk BG.out, Nat.le_trans (below_size HB3.out) GG.out, rig_three (Kd.R_below (Kd.R_lower HE.out.1 (below_size HB.out)) HB4.out) rfl (by decide) BG.out, rig_three (Kd.R_below (Kd.R_lower HE.out.2.1 (below_size HB.out)) HB4.out) rfl (by decide) BG.out, rig_three (Kd.R_below (Kd.R_lower HE.out.2.2 (below_size HB.out)) HB4.out) rfl (by decide) BG.out, rig_low (below_step HB3.out HB4.out) (Nat.le_trans (below_size HB3.out) GG.out)⟩⟩
  have NG : Aside0 (gc ≠ g) := ⟨fun e => by have h1 := blk_lt CG3.out; have h2 := GG.out; omega⟩
  have CG5 : Aside0 (w5.heap[gc]? = some (.cells #[.slice none 0 0, .slice none 0 0, .slice none 0 0] 26 (0, 0))) := ⟨by rw [hw5]; exact blk_far (blk_far (blk_far (blk_below CG3.out HB4.out) NG.out _) NG.out _) NG.out _⟩
  rw [← hw5]
  clear hw5 d0 d1 d2 df
  go_upto_region 6 with (first | ((with_reducible refine gate_dst (N := 15) rfl ?_); refine Kd.R_lit k50 (w0 := w5) w5.heap.size 50 ?hg (N := 15) ?hd (xs := ([] : List S50)) (inner := []) (ok := fun _ => True) (okp := fun _ => True) ?hr ?hp (fun _ hk => hk) trivial (Below.refl _ _) (Nat.le_refl _) (by simp) ?_; (case hd => rfl); (case hg => rfl); (case hr => first | (go_simp; done) | (go_simp; rfl)); (case hp => exact (Reps.none _ _)); intro vn w6 hn hb hg_ hn_; clear hg_ hn_; have HN := Aside0.mk (And.intro hn hb); clear hn hb) | (go_at_call 19; (with_reducible refine (I1.out _).mono ?_); rintro e w7 ⟨vr, rfl, ho, hb⟩; obtain ⟨Ar, cr, er⟩ := Kd.R_slice ho; subst er; have HV := Aside0.mk (And.intro ho hb); clear ho hb) | fail)
  have hPR : Aside0 (PR w w7 g gc (.slice A0 0 c0) (.slice A1 0 c1) (.slice A2 0 c2) vn (.slice Ar ls.length cr) ([], [], []) [] ls) := ⟨⟨hX5.out.step (below_step HN.out.2 HV.out.2), blk_below CG5.out (below_step HN.out.2 HV.out.2), GC.out, NG.out, Kd.R_of_own (Kd.own_of_R (Kd.R_lower HV.out.1 (below_size (below_step hX5.out.low HN.out.2)))) (fun _ hk => hk), fun k hk e => by have h1 := Kd.R_base HV.out.1 k hk; have h2 := Kd.R_lt hX5.out.r1 k e; have h3 := below_size HN.out.2; omega, Kd.R_below (Kd.R_lower HN.out.1 (below_size hX5.out.low)) HV.out.2⟩⟩
  have hll : ls.length ≤ 3001 := by have h1 := HC.out; have h2 := P3.out; omega
  clear HE CG CG3 HB HB3 GC BG HB4 GG hX5 NG CG5 HN HV HC P3
  go_wp2
  go_loopw [6, 8, 9] (fun v6 v8 _ w' => ∃ (i : Nat) (u0 u1 u2 : Value) (R : RT) (ns : List S50), v8 = .int .i64 (i : Int) ∧ i ≤ ls.length ∧ Aside0 (PR w w' g gc u0 u1 u2 v6 (.slice Ar ls.length cr) R ns ls) ∧ Aside0 (R.2.2.length ≤ i ∧ ns.length ≤ i) ∧ Aside0 (rowsP (ls.drop i) i R ns = rt)) (fun _ v8 _ _ => ls.length - (intOf v8).toNat)
  case atStart => exact ⟨0, _, _, _, _, _, rfl, Nat.zero_le _, hPR, ⟨by simp, by simp⟩, HRT⟩
  case round =>
   obtain ⟨i, u0, u1, u2, R, ns, rfl, hi, hp, hl, hr⟩ := hrel
   clear hPR HRT
   by_cases hlt : i < ls.length
   ·have hr2 := hr.out
    rw [List.drop_eq_getElem_cons hlt] at hr2
    unfold rowsP at hr2
    have hzi := HZ.out _ (List.getElem_mem hlt)
    obtain ⟨gr, cr9, er9, -⟩ := Kd.R_form hp.out.rr (by omega)
    (first | cases er9 | (injection er9 with ea_ en_ ec_; (first | subst ea_ | (injection ea_ with ea_; subst ea_)); subst ec_; clear en_))
    have hcr := (Kd.R_reads' hp.out.rr).2.2
    obtain ⟨ar, ear, cwi⟩ := Kd.at_string hcr (i : Int) (by omega) (by omega)
    cases ear
    rw [rdLine ls i hlt] at cwi
    simp only [Int.toNat_natCast] at cwi
    rw [add_plain] at cwi
    have hlr := l19Row_calls g u0 u1 u2 R ls[i] w wr hp.out.rg (by have := hl.out.1; omega) hzi
    have hrl := row_len R (wordsOf ls[i])
    have hnl := note_len ns i (rowP R (wordsOf ls[i])).1
    generalize ls[i] = row at *
    obtain ⟨pr, hpr⟩ : ∃ pr, rowP R (wordsOf row) = pr := ⟨_, rfl⟩
    rw [hpr] at hr2 hlr hrl hnl
    clear hpr
    obtain ⟨kk, R2⟩ := pr
    simp only at hr2 hlr hrl hnl
    obtain ⟨An, cn, en⟩ := Kd.R_slice hp.out.nn
    subst en
    have ILR := Aside0.mk hlr
    have HR2 := Aside0.mk hr2
    have HL2 := Aside0.mk (And.intro hrl hnl)
    clear hlr hr2 hrl hnl hcr hzi hr
    have q1 : (0 : Int) ≤ (i : Int) := Int.natCast_nonneg i
    have q2 : (i : Int) < (ls.length : Int) := Int.ofNat_lt.2 hlt
    unfold noteP at HR2 HL2
    by_cases hk : kk = 0
    ·subst hk
     rw [if_pos rfl] at HR2 HL2
     go_wp2_with (first | (go_at_call 20; (with_reducible refine ILR.out.mono ?_); rintro e w8 ⟨rfl, hT⟩; obtain ⟨x0, x1, x2, hq8⟩ := hp.out.row hT; have hp8 := Aside0.mk hq8; clear hT hq8) | fail)
     go_roundw
     case rel => exact ⟨i + 1, _, _, _, _, _, by go_num, by omega, hp8, ⟨by have := hl.out; have := HL2.out; omega, by have := hl.out; omega⟩, HR2⟩
     case measure => simp [intOf]; omega
    ·rw [if_neg hk] at HR2 HL2
     have k1 : (kk == 0) = false := by simpa using hk
     have k2 : (kk != 0) = true := by simpa using hk
     clear hk
     by_cases hn : (ns.length : Int) < 20
     ·rw [if_pos hn] at HR2 HL2
      go_wp2_with (first | (go_at_call 20; (with_reducible refine ILR.out.mono ?_); rintro e w8 ⟨rfl, hT⟩; obtain ⟨x0, x1, x2, hq8⟩ := hp.out.row hT; have hp8 := Aside0.mk hq8; clear hT hq8) | ((with_reducible refine gate_builtin (b := .append) (xs := #[.tmp 36, .tmp 41]) rfl ?_); at_builtin; refine Kd.R_append k50 (w0 := w) w.heap.size rfl (.tmp 36) (.tmp 41) 37 50 (.agg #[.int .i64 0, .int .i64 0]) 16 rfl Tryd.underlying37 infoN rfl (by decide) (by omega) (.slice An ns.length cn) ns ⟨(i : Int) + 1, kk⟩ [.int .i64 ((i : Int) + 1), .int .i64 kk] (fun _ => True) (fun _ => False) rfl rfl ?bP (fun _ hk => hk.elim) ?bF ?bO ?bB ?bS ?bL ?_; (case bP => exact k50_mkM _ _ _ _); (case bB => exact hp8.out.rg.low); (case bF => exact (fun _ _ => trivial)); (case bO => exact hp8.out.nn); (case bS => exact hp8.out.rg.low.size); (case bL => have := hl.out.2; omega); intro v9 w9 ho hb hg hat; have hp9 := Aside0.mk (hp8.out.note (Below.refl _ _) ho hg hb); clear ho hb hg hat) | fail)
      go_roundw
      case rel => exact ⟨i + 1, _, _, _, _, _, by go_num, by omega, hp9, ⟨by have := hl.out; have := HL2.out; omega, by have := hl.out; have := HL2.out; omega⟩, HR2⟩
      case measure => simp [intOf]; omega
     ·rw [if_neg hn] at HR2 HL2
      go_wp2_with (first | (go_at_call 20; (with_reducible refine ILR.out.mono ?_); rintro e w8 ⟨rfl, hT⟩; obtain ⟨x0, x1, x2, hq8⟩ := hp.out.row hT; have hp8 := Aside0.mk hq8; clear hT hq8) | fail)
      go_roundw
      case rel => exact ⟨i + 1, _, _, _, _, _, by go_num, by omega, hp8, ⟨by have := hl.out; have := HL2.out; omega, by have := hl.out; omega⟩, HR2⟩
      case measure => simp [intOf]; omega
   ·have hr2 := hr.out
    rw [List.drop_of_length_le (by omega)] at hr2
    unfold rowsP at hr2
    subst hr2
    obtain ⟨⟨A7, c7, e7⟩, ⟨A8, c8, e8⟩, ⟨A9, c9, e9⟩⟩ := hp.out.rg.form
    subst e7
    subst e8
    subst e9
    have c0 := hp.out.rg.c0
    have c1 := hp.out.rg.c1
    have c2 := hp.out.rg.c2
    have d0 := (blk_cell hp.out.cg 0).trans rfl
    have d1 := (blk_cell hp.out.cg 1).trans rfl
    have d2 := (blk_cell hp.out.cg 2).trans rfl
    have df : ∀ o, wr.frozen? ⟨gc, o, none⟩ = false := fun o => blk_frozen hp.out.cg o
    go_wp2
    refine bodyPost_ret (results_ctt rfl _ _ gc 26 #[.slice A7 _ c7, .slice A8 _ c8, .slice A9 _ c9] (0, 0) _ rfl (rig_blk hp.out.cg) Tryd.underlying26 rfl (by kernel_rfl)) rfl ?_
    exact ⟨_, _, _, _, rfl, hp.out.out 0⟩
def spec_ParseRig.f (a0 : ByteArray) : Option (List S68 × List ByteArray × List S71 × List S50 × Int) := if a0.size ≤ 1048576 then some ((rigA a0).1.1, (rigA a0).1.2.1, (rigA a0).1.2.2, (rigA a0).2.1, (rigA a0).2.2) else none
theorem spec_ParseRig.calls (a0 : ByteArray) (r1 : List S68) (r2 : List ByteArray) (r3 : List S71) (r4 : List S50) (r5 : Int) (w : World) (h : spec_ParseRig.f a0 = some (r1, r2, r3, r4, r5)) :
  Calls Tryd.prog 9 #[.string a0] w fun e w' => ∃ v1_ v2_ v3_ v4_ : Value, e = .returned (.tuple #[.agg #[v1_, v2_, v3_], v4_, .int .i64 r5]) ∧ Kd.R k68 68 w' w.heap.size (fun _ => True) v1_ r1 ∧ Kd.R Kd.string 9 w' w.heap.size (fun _ => True) v2_ r2 ∧ Kd.R k71 71 w' w.heap.size (fun _ => True) v3_ r3 ∧ Kd.R k50 50 w' w.heap.size (fun _ => True) v4_ r4 ∧ Below w.heap.size w w' := by
 unfold spec_ParseRig.f at h
 split at h
 ·rename_i hs
  simp only [Option.some.injEq, Prod.mk.injEq] at h
  obtain ⟨rfl, rfl, rfl, rfl, rfl⟩ := h
  exact ParseRig_calls a0 w hs
 ·cases h
end
end Go.Proofs.YtihiodhlmnhfdaaDoor.QFnExactNewDesk
