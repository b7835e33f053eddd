import Derived.Test.YtkoeeajciciphaaGreatDoorSq
import Derived.Test.YtkoeeajciciphaaGreatDoorS4
import Derived.Test.YtkoeeajciciphaaGreatDoorQFnExactStartAgainx0
import Derived.Test.YtkoeeajciciphaaGreatDoorQFnExactStartAgainx1
import Derived.Test.YtkoeeajciciphaaGreatDoorQFnExactStartAgainx2
namespace Go.Proofs.YtkoeeajciciphaaGreatDoor.QFnExactStartAgain
open Sq (fl pu_ gl_ b20_ b21_ b30_ b31_ b32_ od_ rr_ be_)
open Sq
open Go.RowKit Go.Proofs.YtkoeeajciciphaaGreatDoorW.PrintWords Go.Proofs.YtkoeeajciciphaaGreatDoorW.PrintLast Go.Proofs.YtkoeeajciciphaaGreatDoorW.PrintMore
attribute [local go_sem] max2_int min2_int max_two min_two max_three min_three max_four min_four
set_option linter.unusedVariables false
set_option linter.unusedSimpArgs false
set_option maxHeartbeats 8000000
set_option maxRecDepth 100000
section
open Go.Proofs.YtkoeeajciciphaaGreatDoor.Base
def decL (u : Nat) : List Int := if h : u = 0 then [] else decL (u / 10) ++ [(48 + (u % 10 : Nat) : Int)]
termination_by u
decreasing_by omega
theorem decL_zero : decL 0 = [] := by unfold decL; rfl
theorem decL_pos {u : Nat} (h : ¬ u = 0) : decL u = decL (u / 10) ++ [(48 + (u % 10 : Nat) : Int)] := by rw [decL, dif_neg h]
theorem decL_bytes (u : Nat) (h : 0 < u) : (decL u).map (fun n : Int => UInt8.ofNat n.toNat) = Lib.decDigits u := by
 induction u using Nat.strongRecOn with
 | _ u ih =>
  rw [decL_pos (by omega), Lib.decDigits]
  have e : (48 + ((u % 10 : Nat) : Int)).toNat = 48 + u % 10 := by omega
  by_cases h10 : u < 10
  ·rw [dif_pos h10, Nat.div_eq_of_lt h10, decL_zero]
   simp only [List.nil_append, List.map_cons, List.map_nil, e]
   rw [Nat.mod_eq_of_lt h10]
  ·rw [dif_neg h10, List.map_append, ih (u / 10) (by omega) (by omega)]
   simp only [List.map_cons, List.map_nil, e]
theorem strOfNums_size (xs : List Int) : (strOfNums xs).size = xs.length := by unfold strOfNums; show (Array.size _) = _; simp
def finD (n : Int) (xs : List Int) : ByteArray := if (xs.length : Int) = 0 then (⟨#[48]⟩ : ByteArray) else if n < 0 then (⟨#[45]⟩ : ByteArray) ++ strOfNums xs else strOfNums xs
theorem mod256 {x : Int} (h0 : 0 ≤ x) (h1 : x < 256) : x % 256 = x := Int.emod_eq_of_lt h0 h1
theorem dec_end (n : Int) (acc : List Int) (h : acc.length ≤ 200) : Ev (fun k => spec_l01Dec.l0 k n acc 0) (finD n acc) := by
 refine Ev.const fun k => ?_
 simp only [spec_l01Dec.l0, if_true]
 unfold finD
 split
 ·rfl
 ·split
  ·rw [if_pos (by rw [strOfNums_size]; omega)]
  ·rfl
theorem dec_loop (n : Int) : ∀ (m u : Nat) (acc : List Int) (x : Int), (x = u ∨ x = -(u : Int)) → u < 10 ^ m → acc.length + m ≤ 100 → u ≤ 9223372036854775808 → Ev (fun k => spec_l01Dec.l0 k n acc x) (finD n (decL u ++ acc))
 | 0, u, acc, x, hx, hu, ha, _ => by
  have h0 : u = 0 := by simpa using hu
  subst h0
  obtain rfl : x = 0 := by omega
  rw [decL_zero, List.nil_append]
  exact dec_end n acc (by omega)
 | m + 1, u, acc, x, hx, hu, ha, hb => by
  by_cases h0 : u = 0
  ·subst h0
   obtain rfl : x = 0 := by omega
   rw [decL_zero, List.nil_append]
   exact dec_end n acc (by omega)
  ·have hlt : u / 10 < 10 ^ m := by rw [Nat.pow_succ] at hu; omega
   have ih := dec_loop n m (u / 10) ((48 + (u % 10 : Nat) : Int) :: acc) (Int.tdiv x 10) ?_ hlt (by simp only [List.length_cons]; omega) (by omega)
   ·rw [decL_pos h0, List.append_assoc, List.singleton_append]
    refine Ev.step (fun k => ?_) ih
    have hxn : ¬ x = 0 := by omega
    simp only [spec_l01Dec.l0]
    rw [if_neg hxn]
    have hw : wrap64 (Int.tdiv x 10) = Int.tdiv x 10 := by
     rcases hx with rfl | rfl
     ·rw [tdiv_nn (by omega)]; exact w64 (by omega) (by omega)
     ·rw [Int.neg_tdiv, tdiv_nn (by omega)]; exact w64 (by omega) (by omega)
    have hm : (Int.tmod x 10 = (u % 10 : Nat) ∨ Int.tmod x 10 = -((u % 10 : Nat) : Int)) := by
     rcases hx with rfl | rfl
     ·left; rw [tmod_nn (by omega)]; omega
     ·right; rw [Int.neg_tmod, tmod_nn (by omega)]; omega
    have hd : u % 10 < 10 := Nat.mod_lt _ (by omega)
    generalize u % 10 = d at hm hd ⊢
    rw [hw]
    by_cases hneg : Int.tmod x 10 < 0
    ·have hm2 : Int.tmod x 10 = -(d : Int) := by omega
     rw [if_pos hneg, hm2]
     simp only [Option.bind_some, List.length_cons, List.length_nil]
     rw [if_pos (by omega), w64 (x := - -(d : Int)) (by omega) (by omega), w64 (x := 48 + - -(d : Int)) (by omega) (by omega), mod256 (by omega) (by omega), Int.neg_neg]
     rfl
    ·have hm2 : Int.tmod x 10 = (d : Int) := by omega
     rw [if_neg hneg, hm2]
     simp only [Option.bind_some, List.length_cons, List.length_nil]
     rw [if_pos (by omega), w64 (x := 48 + (d : Int)) (by omega) (by omega), mod256 (by omega) (by omega)]
     rfl
   ·rcases hx with rfl | rfl
    ·left; rw [tdiv_nn (by omega)]; omega
    ·right; rw [Int.neg_tdiv, tdiv_nn (by omega)]; omega
theorem finD_itoa (n : Int) : finD n (decL n.natAbs) = ⟨(Lib.itoa n).toArray⟩ := by
 unfold finD Lib.itoa
 by_cases h0 : n = 0
 ·subst h0
  rw [show (0 : Int).natAbs = 0 from rfl, decL_zero]
  rw [if_pos (show (([] : List Int).length : Int) = 0 from rfl), if_neg (by omega)]
  rw [show (0 : Int).toNat = 0 from rfl, Lib.decDigits]
  rfl
 ·have hpos : 0 < n.natAbs := by omega
  have hlen : ¬ ((decL n.natAbs).length : Int) = 0 := by
   rw [decL_pos (by omega), List.length_append]
   simp only [List.length_cons, List.length_nil]
   omega
  rw [if_neg hlen]
  have hs : strOfNums (decL n.natAbs) = ⟨(Lib.decDigits n.natAbs).toArray⟩ := by
   unfold strOfNums
   rw [decL_bytes _ hpos]
  rw [hs]
  by_cases hn : n < 0
  ·rw [if_pos hn, if_pos hn]
   apply ByteArray.ext
   rw [ByteArray.data_append]
   simp
  ·rw [if_neg hn, if_neg hn]
   have : n.toNat = n.natAbs := by omega
   rw [this]
def dec (n : Int) : ByteArray := ⟨(Lib.itoa n).toArray⟩
theorem dec_spec (n : Int) (h0 : -9223372036854775808 ≤ n) (h1 : n ≤ 9223372036854775807) : Ev (fun k => spec_l01Dec.f k n) (dec n) := by
 have := dec_loop n 20 n.natAbs [] n (by omega) (by omega) (by simp) (by omega)
 rw [List.append_nil, finD_itoa] at this
 exact this
theorem dec_size (n : Int) (h0 : -9223372036854775808 ≤ n) (h1 : n ≤ 9223372036854775807) : (dec n).size ≤ 21 := by
 have := Lib.itoa_length_le n h0 h1
 show (Lib.itoa n).toArray.size ≤ 21
 rw [List.size_toArray]
 exact this
theorem bt_list (s : ByteArray) (i : Nat) (h : i < s.data.toList.length) : bt s (i : Int) = ((s.data.toList[i]).toNat : Int) := by
 unfold bt
 have h2 : i < s.size := by simpa using h
 rw [dif_pos (by simpa using h2)]
 rfl
theorem size_list (s : ByteArray) : s.size = s.data.toList.length := by rw [Array.length_toList]; rfl
theorem bytes_ext {a b : ByteArray} (h : a.data.toList = b.data.toList) : a = b := by
 have h3 : a.data = b.data := Array.toList_inj.mp h
 cases a; cases b; exact congrArg ByteArray.mk h3
theorem toList_iff {a b : ByteArray} : a.toList = b.toList ↔ a = b := by
 constructor
 ·intro h
  rw [ByteArray.toList_eq, ByteArray.toList_eq] at h
  exact bytes_ext h
 ·intro h; rw [h]
def valL (l : List UInt8) : Int := l.foldl (fun a b => 10 * a + ((b.toNat : Int) - 48)) 0
theorem valL_snoc (l : List UInt8) (b : UInt8) : valL (l ++ [b]) = 10 * valL l + ((b.toNat : Int) - 48) := by unfold valL; rw [List.foldl_append]; rfl
def valD (t : ByteArray) (i : Nat) : Int := valL (t.data.toList.take i)
theorem valD_succ (t : ByteArray) (i : Nat) (h : i < t.size) : valD t (i + 1) = 10 * valD t i + (bt t (i : Int) - 48) := by
 have h2 : i < t.data.toList.length := by rw [← size_list]; exact h
 unfold valD
 rw [List.take_succ_eq_append_getElem h2, valL_snoc, bt_list t i h2]
def digitB (b : Int) : Bool := decide (48 ≤ b ∧ b ≤ 57)
def allD (t : ByteArray) : Bool := (List.range t.size).all fun i => digitB (bt t (i : Int))
theorem valD_bd (t : ByteArray) : ∀ (i : Nat), i ≤ t.size → (∀ j, j < i → digitB (bt t (j : Int)) = true) → 0 ≤ valD t i ∧ valD t i < (10 ^ i : Nat)
 | 0, _, _ => by simp [valD, valL]
 | i + 1, hi, hd => by
  have ih := valD_bd t i (by omega) (fun j hj => hd j (by omega))
  have h := of_decide_eq_true (hd i (by omega))
  rw [valD_succ t i (by omega), Nat.pow_succ]
  omega
theorem pow_le18 {i : Nat} (h : i ≤ 18) : 10 ^ i ≤ 1000000000000000000 := by
 have := Nat.pow_le_pow_right (n := 10) (by omega) h
 simpa using this
def bare (s : ByteArray) : ByteArray := if 0 < s.size ∧ bt s 0 = 45 then s.extract 1 s.size else s
theorem bare_size (s : ByteArray) : (bare s).size ≤ s.size := by
 unfold bare
 split
 ·rw [ByteArray.size_extract]; omega
 ·exact Nat.le_refl _
def numAt (s : ByteArray) (n : Int) : Int × Bool := if dec n = s then (n, true) else (0, false)
def numEnd (s t : ByteArray) : Int × Bool := numAt s (if t.size < s.size then -valD t t.size else valD t t.size)
def numV (s : ByteArray) : Int × Bool := if (bare s).size < 1 ∨ 18 < (bare s).size then (0, false) else if allD (bare s) = true then numEnd s (bare s) else (0, false)
theorem numAt_bd {s : ByteArray} {n : Int} (h0 : -1000000000000000000 ≤ n) (h1 : n ≤ 1000000000000000000) : -1000000000000000000 ≤ (numAt s n).1 ∧ (numAt s n).1 ≤ 1000000000000000000 := by
 unfold numAt
 by_cases c : dec n = s
 ·rw [if_pos c]; exact ⟨h0, h1⟩
 ·rw [if_neg c]; simp
theorem numV_bd (s : ByteArray) : -1000000000000000000 ≤ (numV s).1 ∧ (numV s).1 ≤ 1000000000000000000 := by
 unfold numV
 by_cases c : (bare s).size < 1 ∨ 18 < (bare s).size
 ·rw [if_pos c]; simp
 ·rw [if_neg c]
  by_cases c2 : allD (bare s) = true
  ·rw [if_pos c2]
   have h := valD_bd (bare s) (bare s).size (Nat.le_refl _) (fun j hj => List.all_eq_true.1 c2 j (List.mem_range.2 hj))
   have hp := pow_le18 (i := (bare s).size) (by omega)
   unfold numEnd
   split
   ·exact numAt_bd (by omega) (by omega)
   ·exact numAt_bd (by omega) (by omega)
  ·rw [if_neg c2]; simp
theorem dec_digits {u : Nat} : ∀ b ∈ Lib.decDigits u, 48 ≤ b.toNat ∧ b.toNat ≤ 57 := by
 induction u using Nat.strongRecOn with
 | _ u ih =>
  intro b hb
  rw [Lib.decDigits] at hb
  split at hb
  ·rename_i h10
   rw [List.mem_singleton] at hb
   subst hb
   rw [UInt8.toNat_ofNat']
   omega
  ·rename_i h10
   rw [List.mem_append] at hb
   rcases hb with hb | hb
   ·exact ih (u / 10) (by omega) b hb
   ·rw [List.mem_singleton] at hb
    subst hb
    rw [UInt8.toNat_ofNat']
    omega
theorem dec_val (u : Nat) : valL (Lib.decDigits u) = u := by
 induction u using Nat.strongRecOn with
 | _ u ih =>
  rw [Lib.decDigits]
  split
  ·rename_i h10
   show 10 * 0 + (((UInt8.ofNat (48 + u)).toNat : Int) - 48) = u
   rw [UInt8.toNat_ofNat']
   omega
  ·rename_i h10
   rw [valL_snoc, ih (u / 10) (by omega), UInt8.toNat_ofNat']
   omega
theorem nDigits_le : ∀ (m u : Nat), u < 10 ^ (m + 1) → Lib.nDigits u ≤ m + 1
 | 0, u, h => by rw [Lib.nDigits_small (by simpa using h)]; omega
 | m + 1, u, h => by
  by_cases h10 : u < 10
  ·rw [Lib.nDigits_small h10]; omega
  ·rw [Lib.nDigits_big h10]
   rw [Nat.pow_succ] at h
   have := nDigits_le m (u / 10) (by omega)
   omega
theorem numV_dec (n : Nat) (h : n < 1000000000000000000) : numV (dec (n : Int)) = ((n : Int), true) := by
 have hl : (dec (n : Int)).data.toList = Lib.decDigits n := by
  show (Lib.itoa (n : Int)).toArray.toList = _
  rw [Lib.itoa_nonneg]
 have hsz : (dec (n : Int)).size = Lib.nDigits n := by rw [size_list, hl, Lib.decDigits_length]
 have hn18 := nDigits_le 17 n (by omega)
 have hn1 := Lib.nDigits_pos n
 have hd : ∀ j, j < (dec (n : Int)).size → digitB (bt (dec (n : Int)) (j : Int)) = true := by
  intro j hj
  have hj2 : j < (dec (n : Int)).data.toList.length := by rw [← size_list]; exact hj
  rw [bt_list _ j hj2]
  have := dec_digits (u := n) ((dec (n : Int)).data.toList[j]) (by rw [← hl]; exact List.getElem_mem hj2)
  exact decide_eq_true (by omega)
 have hb : bare (dec (n : Int)) = dec (n : Int) := by
  unfold bare
  rw [if_neg]
  rintro ⟨g0, g1⟩
  have := of_decide_eq_true (hd 0 g0)
  rw [show ((0 : Nat) : Int) = 0 from rfl] at this
  omega
 have hv : valD (dec (n : Int)) (dec (n : Int)).size = n := by
  unfold valD
  rw [size_list, List.take_length, hl, dec_val]
 unfold numV
 rw [hb, if_neg (by omega), if_pos (show allD (dec (n : Int)) = true from List.all_eq_true.2 fun j hj => hd j (List.mem_range.1 hj))]
 unfold numEnd numAt
 rw [if_neg (Nat.lt_irrefl _), hv, if_pos rfl]
theorem name_loop_spec (s : ByteArray) (h : s.size ≤ 12) : Ev (fun k => spec_IsName.l0 k s 0) ((List.range s.size).all fun i => nameByte (bt s i)) := by
 have := all_lt s.size (fun i => nameByte (bt s i)) (fun k i => spec_IsName.l0 k s i) true false (fun i hi hp => ⟨0, fun k _ => ?_⟩) (fun i hi hp => Ev.const fun k => ?_) (fun _ => Ev.const fun k => ?_)
 ·rw [ite_bool] at this
  exact this
 ·have hp := of_decide_eq_true hp
  simp only [spec_IsName.l0, spec_l01Small.f, spec_l01Digit.f]
  rw [if_pos (by omega), if_pos (by omega), w64 (by omega) (by omega)]
  by_cases h1 : bt s i ≥ 97
  ·rw [if_pos h1]
   simp only [Option.bind_some, decide_eq_true_eq]
   by_cases h2 : bt s i ≤ 122
   ·rw [if_pos h2]
   ·exfalso; omega
  ·rw [if_neg h1]
   simp only [Option.bind_some, Bool.false_eq_true, if_false]
   by_cases h3 : bt s i ≥ 48
   ·rw [if_pos h3]
    simp only [Option.bind_some, decide_eq_true_eq]
    rw [if_pos (by omega)]
   ·rw [if_neg h3]
    simp only [Option.bind_some, Bool.false_eq_true, if_false]
    rw [if_pos (by omega)]
 ·have hp := of_decide_eq_false hp
  simp only [spec_IsName.l0, spec_l01Small.f, spec_l01Digit.f]
  rw [if_pos (by omega), if_pos (by omega)]
  by_cases h1 : bt s i ≥ 97
  ·rw [if_pos h1, if_pos (by omega)]
   simp only [Option.bind_some, decide_eq_true_eq]
   rw [if_neg (by omega), if_neg (by omega), if_neg (by omega)]
  ·rw [if_neg h1]
   simp only [Option.bind_some, Bool.false_eq_true, if_false]
   by_cases h3 : bt s i ≥ 48
   ·rw [if_pos h3]
    simp only [Option.bind_some, decide_eq_true_eq]
    rw [if_neg (by omega), if_neg (by omega)]
   ·rw [if_neg h3]
    simp only [Option.bind_some, Bool.false_eq_true, if_false]
    rw [if_neg (by omega)]
 ·simp only [spec_IsName.l0]
  rw [if_neg (by omega)]
theorem name_j0 (s : ByteArray) (k : Nat) : spec_IsName.j0 (k + 1) s true = some false := by simp only [spec_IsName.j0, if_true]
theorem name_spec (s : ByteArray) : Ev (fun k => spec_IsName.f k s) (isNameB s) := by
 unfold isNameB
 by_cases h0 : s.size = 0
 ·rw [decide_eq_false (by omega), Bool.false_and]
  refine Ev.const fun k => ?_
  unfold spec_IsName.f
  rw [if_pos (List.eq_nil_of_length_eq_zero (by rw [size_toList, h0]))]
  exact name_j0 s k
 ·have hne : ¬ s.toList = ([] : List UInt8) := fun h => h0 (by rw [← size_toList, h]; rfl)
  by_cases h12 : s.size ≤ 12
  ·by_cases hs : 97 ≤ bt s 0 ∧ bt s 0 ≤ 122
   ·rw [decide_eq_true ⟨by omega, h12, hs⟩, Bool.true_and]
    refine Ev.step (f := fun k => spec_IsName.l0 k s 0) (fun k => ?_) (name_loop_spec s h12)
    simp only [spec_IsName.f, spec_l01Small.f]
    rw [if_neg hne, if_neg (by omega), if_pos (by omega), if_pos (by omega)]
    simp only [Option.bind_some]
    rw [decide_eq_true hs.2]
    simp only [Bool.not_true, spec_IsName.j0, Bool.false_eq_true, if_false]
   ·rw [decide_eq_false (fun h => hs h.2.2), Bool.false_and]
    refine Ev.const fun k => ?_
    simp only [spec_IsName.f, spec_l01Small.f]
    rw [if_neg hne, if_neg (by omega), if_pos (by omega)]
    by_cases h1 : bt s 0 ≥ 97
    ·rw [if_pos h1]
     simp only [Option.bind_some]
     rw [decide_eq_false (by omega)]
     exact name_j0 s k
    ·rw [if_neg h1]
     exact name_j0 s k
  ·rw [decide_eq_false (by omega), Bool.false_and]
   refine Ev.const fun k => ?_
   unfold spec_IsName.f
   rw [if_neg hne, if_pos (by omega)]
   exact name_j0 s k
def idxOf {α : Type} (p : α → Bool) (l : List α) : Int := match l.findIdx? p with | some i => (i : Int) | none => -1
theorem idx_hit {α : Type} {p : α → Bool} {l : List α} {i : Nat} (h : i < l.length) (hi : p l[i] = true) (hn : ∀ j (hj : j < i), p (l[j]'(by omega)) = false) : idxOf p l = i := by
 unfold idxOf
 rw [List.findIdx?_eq_some_iff_getElem.mpr ⟨h, hi, fun j hj => by rw [hn j hj]; simp⟩]
theorem idx_miss {α : Type} {p : α → Bool} {l : List α} (hn : ∀ j (hj : j < l.length), p l[j] = false) : idxOf p l = -1 := by
 unfold idxOf
 rw [List.findIdx?_eq_none_iff.mpr (fun x hx => by obtain ⟨j, hj, rfl⟩ := List.getElem_of_mem hx; exact hn j hj)]
theorem idx_range {α : Type} (p : α → Bool) (l : List α) : -1 ≤ idxOf p l ∧ idxOf p l < l.length ∨ idxOf p l = -1 := by
 unfold idxOf
 split
 ·rename_i i hi
  obtain ⟨h, -⟩ := List.findIdx?_eq_some_iff_getElem.mp hi
  exact .inl ⟨by omega, by omega⟩
 ·exact .inr rfl
theorem any_hit {α : Type} {p : α → Bool} {l : List α} {i : Nat} (h : i < l.length) (hi : p l[i] = true) : l.any p = true := List.any_eq_true.2 ⟨l[i], List.getElem_mem h, hi⟩
theorem any_miss {α : Type} {p : α → Bool} {l : List α} (hn : ∀ j (hj : j < l.length), p l[j] = false) : l.any p = false := by
 rw [List.any_eq_false]
 intro x hx
 obtain ⟨j, hj, rfl⟩ := List.getElem_of_mem hx
 rw [hn j hj]; simp
def railIdx (ra : List S97) (nm : ByteArray) : Int := idxOf (fun x => x.f0.toList == nm.toList) ra
def hasLn (li : List ByteArray) (nm : ByteArray) : Bool := li.any fun x => x.toList == nm.toList
def beLn (be : List S101) (nm : ByteArray) : Int := idxOf (fun x => x.f0.toList == nm.toList) be
def beAt (be : List S101) (rl : ByteArray) (pn : Int) : Int := idxOf (fun x => x.f1.toList == rl.toList && x.f2 == pn) be
theorem rdRail (xs : List S97) (i : Nat) (h : i < xs.length) : rd_T97 xs (i : Int) = xs[i] := by
 unfold rd_T97; rw [Int.toNat_natCast, List.getD_eq_getElem?_getD, List.getElem?_eq_getElem h]; rfl
theorem rdBelay (xs : List S101) (i : Nat) (h : i < xs.length) : rd_T101 xs (i : Int) = xs[i] := by
 unfold rd_T101; rw [Int.toNat_natCast, List.getD_eq_getElem?_getD, List.getElem?_eq_getElem h]; rfl
theorem rdLine (xs : List ByteArray) (i : Nat) (h : i < xs.length) : rdOf ByteArray.empty xs (i : Int) = xs[i] := by
 unfold rdOf; rw [Int.toNat_natCast, List.getD_eq_getElem?_getD, List.getElem?_eq_getElem h]; rfl
abbrev RT := List S97 × List ByteArray × List S101
def sideB (s : ByteArray) : Bool := s.toList == [112] || s.toList == [115] || s.toList == [109]
def addRailP (R : RT) (r : S97) : Int × RT :=
 if isNameB r.f0 = true then (if sideB r.f1 = true then (if decide (1 ≤ r.f2 ∧ r.f2 ≤ 30) = true then (if 0 ≤ railIdx R.1 r.f0 then (5, R) else if 10 ≤ (R.1.length : Int) then (8, R) else (0, (R.1 ++ [r], R.2.1, R.2.2))) else (4, R)) else (1, R)) else (3, R)
def addLineP (R : RT) (nm : ByteArray) : Int × RT :=
 if isNameB nm = true then (if hasLn R.2.1 nm = true then (5, R) else if 60 ≤ (R.2.1.length : Int) then (8, R) else (0, (R.1, R.2.1 ++ [nm], R.2.2))) else (3, R)
def addBelayP (R : RT) (b : S101) : Int × RT :=
 if 0 ≤ railIdx R.1 b.f1 then (if hasLn R.2.1 b.f0 = true then (if decide (1 ≤ b.f2 ∧ b.f2 ≤ (rd_T97 R.1 (railIdx R.1 b.f1)).f2) = true then (if 0 ≤ beLn R.2.2 b.f0 then (5, R) else if 0 ≤ beAt R.2.2 b.f1 b.f2 then (7, R) else (0, (R.1, R.2.1, R.2.2 ++ [b]))) else (4, R)) else (6, R)) else (6, R)
structure Rg (w0 w : World) (g : Nat) (v0 v1 v2 : Value) (R : RT) : Prop where
 blk : w.heap[g]? = some (.cells #[v0, v1, v2] 37 (0, 0))
 bg : w0.heap.size ≤ g
 r0 : Kd.R k97 97 w w0.heap.size (fun _ => True) v0 R.1
 r1 : Kd.R Kd.string 9 w w0.heap.size (fun _ => True) v1 R.2.1
 r2 : Kd.R k101 101 w w0.heap.size (fun _ => True) v2 R.2.2
 low : Below w0.heap.size w0 w
section
variable {w0 w w5 : World} {g : Nat} {v0 v1 v2 : Value} {R : RT}
theorem Rg.step (h : Rg w0 w g v0 v1 v2 R) (hb : Below w.heap.size w w5) : Rg w0 w5 g v0 v1 v2 R :=
 ⟨blk_below h.blk hb, h.bg, Kd.R_below h.r0 hb, Kd.R_below h.r1 hb, Kd.R_below h.r2 hb, h.low.trans (hb.mono h.low.size)⟩
theorem Rg.form (h : Rg w0 w g v0 v1 v2 R) : (∃ A c, v0 = .slice A R.1.length c) ∧ (∃ A c, v1 = .slice A R.2.1.length c) ∧ (∃ A c, v2 = .slice A R.2.2.length c) := ⟨Kd.R_slice h.r0, Kd.R_slice h.r1, Kd.R_slice h.r2⟩
theorem Rg.c0 (h : Rg w0 w g v0 v1 v2 R) : w.cell? ⟨g, 0, none⟩ = some v0 := (blk_cell h.blk 0).trans rfl
theorem Rg.c1 (h : Rg w0 w g v0 v1 v2 R) : w.cell? ⟨g, 1, none⟩ = some v1 := (blk_cell h.blk 1).trans rfl
theorem Rg.c2 (h : Rg w0 w g v0 v1 v2 R) : w.cell? ⟨g, 2, none⟩ = some v2 := (blk_cell h.blk 2).trans rfl
end
def RS (g : Nat) (v0 v1 v2 : Value) (k : Nat) : Prop := k = g ∨ v0.ownBlock = some k ∨ v1.ownBlock = some k ∨ v2.ownBlock = some k
def Pr (w : World) (v v' : Value) : Prop := ∀ k, v'.ownBlock = some k → v.ownBlock = some k ∨ w.heap.size ≤ k
theorem Pr.refl (w : World) (v : Value) : Pr w v v := fun _ h => .inl h
def RgTo (w0 w w' : World) (g : Nat) (v0 v1 v2 : Value) (R : RT) : Prop := ∃ v0' v1' v2', Rg w0 w' g v0' v1' v2' R ∧ Kept w w' (RS g v0 v1 v2) ∧ Pr w v0 v0' ∧ Pr w v1 v1' ∧ Pr w v2 v2'
section
variable {w0 w W w7 : World} {g : Nat} {v0 v1 v2 v' : Value} {R : RT}
theorem Rg.same (h : Rg w0 w g v0 v1 v2 R) (hb : Below w.heap.size w W) : RgTo w0 w W g v0 v1 v2 R := ⟨v0, v1, v2, h.step hb, Kept.of_below hb _, Pr.refl _ _, Pr.refl _ _, Pr.refl _ _⟩
theorem pr_of (hb : Below w.heap.size w W) {v v' : Value} (hat : v'.ownBlock = v.ownBlock ∨ ∃ b, v'.ownBlock = some b ∧ W.heap.size ≤ b) : Pr w v v' := fun k hk => by
 rcases hat with h | ⟨b, h, hb2⟩
 ·exact .inl (by rw [← h]; exact hk)
 ·rw [h] at hk
  injection hk with hk
  subst hk
  exact .inr (Nat.le_trans hb.size hb2)
theorem eTy {q t : Nat} {α : Type} {d : Kd α} (hE : d.E = []) {e : Nat} (h : e ≠ t) (hq : q ∈ e :: d.E) : q ≠ t := by
 rw [hE] at hq
 rw [List.mem_singleton.1 hq]
 exact h
theorem kept_app (hb : Below w.heap.size w W) {row : Option Nat} (hg : W.grownBy w7 row) (hr : ∀ k, row = some k → RS g v0 v1 v2 k) (j : Nat) : Kept w (w7.setCell ⟨g, j, none⟩ v') (RS g v0 v1 v2) :=
 (Kept.of_grown hg (Kept.of_below hb _) (fun k hk => .inl (hr k hk))).setCell (p := ⟨g, j, none⟩) (.inl (.inl rfl)) _
theorem Rg.app0 (h : Rg w0 w g v0 v1 v2 R) (hb : Below w.heap.size w W) {r : S97} (hR : Kd.R k97 97 w7 w0.heap.size (fun _ => True) v' (R.1 ++ [r])) (hg : W.grownBy w7 v0.ownBlock) (hb7 : Below w0.heap.size w0 w7) (hat : v'.ownBlock = v0.ownBlock ∨ ∃ b, v'.ownBlock = some b ∧ W.heap.size ≤ b) :
  RgTo w0 w (w7.setCell ⟨g, 0, none⟩ v') g v0 v1 v2 (R.1 ++ [r], R.2.1, R.2.2) := by
 have h5 := h.step hb
 have hne : some g ≠ v0.ownBlock := Kd.R_ne h5.r0 h5.blk (by decide)
 have hb' : w7.heap[g]? = some (.cells #[v0, v1, v2] 37 (0, 0)) := blk_grown h5.blk hg hne
 refine ⟨v', v1, v2, ⟨blk_set hb' 0 v', h.bg, Kd.R_set hR hb' (fun q hq => eTy rfl (by decide) hq) 0 _, Kd.R_set (Kd.R_over h5.r1 h5.r0 (fun q hq => eTy rfl (by decide) hq) hg) hb' (fun q hq => eTy rfl (by decide) hq) 0 _, Kd.R_set (Kd.R_over h5.r2 h5.r0 (fun q hq => eTy rfl (by decide) hq) hg) hb' (fun q hq => eTy rfl (by decide) hq) 0 _, hb7.setCell (p := ⟨g, 0, none⟩) h.bg _⟩, kept_app hb hg (fun k hk => .inr (.inl hk)) 0, pr_of hb hat, Pr.refl _ _, Pr.refl _ _⟩
theorem Rg.app1 (h : Rg w0 w g v0 v1 v2 R) (hb : Below w.heap.size w W) {r : ByteArray} (hR : Kd.R Kd.string 9 w7 w0.heap.size (fun _ => True) v' (R.2.1 ++ [r])) (hg : W.grownBy w7 v1.ownBlock) (hb7 : Below w0.heap.size w0 w7) (hat : v'.ownBlock = v1.ownBlock ∨ ∃ b, v'.ownBlock = some b ∧ W.heap.size ≤ b) :
  RgTo w0 w (w7.setCell ⟨g, 1, none⟩ v') g v0 v1 v2 (R.1, R.2.1 ++ [r], R.2.2) := by
 have h5 := h.step hb
 have hne : some g ≠ v1.ownBlock := Kd.R_ne h5.r1 h5.blk (by decide)
 have hb' : w7.heap[g]? = some (.cells #[v0, v1, v2] 37 (0, 0)) := blk_grown h5.blk hg hne
 refine ⟨v0, v', v2, ⟨blk_set hb' 1 v', h.bg, Kd.R_set (Kd.R_over h5.r0 h5.r1 (fun q hq => eTy rfl (by decide) hq) hg) hb' (fun q hq => eTy rfl (by decide) hq) 1 _, Kd.R_set hR hb' (fun q hq => eTy rfl (by decide) hq) 1 _, Kd.R_set (Kd.R_over h5.r2 h5.r1 (fun q hq => eTy rfl (by decide) hq) hg) hb' (fun q hq => eTy rfl (by decide) hq) 1 _, hb7.setCell (p := ⟨g, 1, none⟩) h.bg _⟩, kept_app hb hg (fun k hk => .inr (.inr (.inl hk))) 1, Pr.refl _ _, pr_of hb hat, Pr.refl _ _⟩
theorem Rg.app2 (h : Rg w0 w g v0 v1 v2 R) (hb : Below w.heap.size w W) {r : S101} (hR : Kd.R k101 101 w7 w0.heap.size (fun _ => True) v' (R.2.2 ++ [r])) (hg : W.grownBy w7 v2.ownBlock) (hb7 : Below w0.heap.size w0 w7) (hat : v'.ownBlock = v2.ownBlock ∨ ∃ b, v'.ownBlock = some b ∧ W.heap.size ≤ b) :
  RgTo w0 w (w7.setCell ⟨g, 2, none⟩ v') g v0 v1 v2 (R.1, R.2.1, R.2.2 ++ [r]) := by
 have h5 := h.step hb
 have hne : some g ≠ v2.ownBlock := Kd.R_ne h5.r2 h5.blk (by decide)
 have hb' : w7.heap[g]? = some (.cells #[v0, v1, v2] 37 (0, 0)) := blk_grown h5.blk hg hne
 refine ⟨v0, v1, v', ⟨blk_set hb' 2 v', h.bg, Kd.R_set (Kd.R_over h5.r0 h5.r2 (fun q hq => eTy rfl (by decide) hq) hg) hb' (fun q hq => eTy rfl (by decide) hq) 2 _, Kd.R_set (Kd.R_over h5.r1 h5.r2 (fun q hq => eTy rfl (by decide) hq) hg) hb' (fun q hq => eTy rfl (by decide) hq) 2 _, Kd.R_set hR hb' (fun q hq => eTy rfl (by decide) hq) 2 _, hb7.setCell (p := ⟨g, 2, none⟩) h.bg _⟩, kept_app hb hg (fun k hk => .inr (.inr (.inr hk))) 2, Pr.refl _ _, Pr.refl _ _, pr_of hb hat⟩
end
theorem Pr.from {w W : World} {v v' : Value} (hb : Below w.heap.size w W) (h : Pr W v v') : Pr w v v' := fun k hk => (h k hk).imp id (fun h => Nat.le_trans hb.size h)
theorem RgTo.from {w0 w W w' : World} {g : Nat} {v0 v1 v2 : Value} {R : RT} (hb : Below w.heap.size w W) (h : RgTo w0 W w' g v0 v1 v2 R) : RgTo w0 w w' g v0 v1 v2 R := by
 obtain ⟨a, b, c, h1, h2, h3, h4, h5⟩ := h
 exact ⟨a, b, c, h1, (Kept.of_below hb _).then_ h2 (fun _ hk => .inl hk), h3.from hb, h4.from hb, h5.from hb⟩
theorem l19Rail_calls (g : Nat) (A : Option Addr) (c : Nat) (xs : List S97) (nm : ByteArray) (w : World) (hc : w.cell? ⟨g, 0, none⟩ = some (.slice A xs.length c)) (hr : Kd.C k97 w A xs.length xs) :
  Calls Tryz.prog 102 #[.pointer (some ⟨g, 0, none⟩), .string nm] w fun e w' => e = .returned (.int .i64 (railIdx xs nm)) ∧ w' = w := by
 have hm := Kd.C_max hr
 have HR := Aside0.mk hr
 clear hr
 go_enter Tryz.func102, Tryz.ntmps102
 go_wp2
 go_loopw [5] (fun v5 w' => ∃ i : Nat, v5 = .int .i64 i ∧ i ≤ xs.length ∧ Aside0 (∀ j (hj : j < xs.length), j < i → ((xs[j]).f0.toList == nm.toList) = false) ∧ w' = w) (fun v5 _ => xs.length - (intOf v5).toNat)
 case atStart => exact ⟨0, rfl, Nat.zero_le _, ⟨fun j _ hj => absurd hj (Nat.not_lt_zero _)⟩, rfl⟩
 case round =>
  obtain ⟨i, rfl, hi, hf, hw⟩ := hrel
  subst hw
  by_cases hlt : i < xs.length
  ·have p1 : (0 : Int) ≤ (i : Int) := Int.natCast_nonneg i
   have p2 : (i : Int) < (xs.length : Int) := Int.ofNat_lt.2 hlt
   obtain ⟨ad, rfl, x0, x1, x2⟩ := at_T97 HR.out (i : Int) p1 p2
   rw [Int.toNat_natCast] at x0 x1 x2
   rw [rdRail xs i hlt] at x0 x1 x2
   obtain ⟨q, hq⟩ : ∃ q, (xs[i].f0.toList == nm.toList) = q := ⟨_, rfl⟩
   have HV := Aside0.mk hq
   cases q
   ·skip
    go_wp2
    go_roundw
    case rel => exact ⟨i + 1, by go_num, by omega, ⟨fun j hj hji => by
     by_cases e : j = i
     ·subst e; exact HV.out
     ·exact hf.out j hj (by omega)⟩, (by first | rfl | trivial)⟩
    case measure => simp [intOf]; omega
   ·skip
    go_wp2
    go_ret
    exact ⟨by rw [show railIdx xs nm = (i : Int) from idx_hit hlt HV.out (fun j hj => hf.out j (by omega) hj)]; rfl, rfl⟩
  ·go_wp2
   go_ret
   exact ⟨by rw [show railIdx xs nm = -1 from idx_miss (fun j hj => hf.out j hj (by omega))]; rfl, rfl⟩
theorem l19Of_calls (g : Nat) (A : Option Addr) (c : Nat) (xs : List S101) (nm : ByteArray) (w : World) (hc : w.cell? ⟨g, 2, none⟩ = some (.slice A xs.length c)) (hr : Kd.C k101 w A xs.length xs) :
  Calls Tryz.prog 104 #[.pointer (some ⟨g, 0, none⟩), .string nm] w fun e w' => e = .returned (.int .i64 (beLn xs nm)) ∧ w' = w := by
 have hm := Kd.C_max hr
 have HR := Aside0.mk hr
 clear hr
 go_enter Tryz.func104, Tryz.ntmps104
 go_wp2
 go_loopw [5] (fun v5 w' => ∃ i : Nat, v5 = .int .i64 i ∧ i ≤ xs.length ∧ Aside0 (∀ j (hj : j < xs.length), j < i → ((xs[j]).f0.toList == nm.toList) = false) ∧ w' = w) (fun v5 _ => xs.length - (intOf v5).toNat)
 case atStart => exact ⟨0, rfl, Nat.zero_le _, ⟨fun j _ hj => absurd hj (Nat.not_lt_zero _)⟩, rfl⟩
 case round =>
  obtain ⟨i, rfl, hi, hf, hw⟩ := hrel
  subst hw
  by_cases hlt : i < xs.length
  ·have p1 : (0 : Int) ≤ (i : Int) := Int.natCast_nonneg i
   have p2 : (i : Int) < (xs.length : Int) := Int.ofNat_lt.2 hlt
   obtain ⟨ad, rfl, x0, x1, x2⟩ := at_T101 HR.out (i : Int) p1 p2
   rw [Int.toNat_natCast] at x0 x1 x2
   rw [rdBelay xs i hlt] at x0 x1 x2
   obtain ⟨q, hq⟩ : ∃ q, (xs[i].f0.toList == nm.toList) = q := ⟨_, rfl⟩
   have HV := Aside0.mk hq
   cases q
   ·skip
    go_wp2
    go_roundw
    case rel => exact ⟨i + 1, by go_num, by omega, ⟨fun j hj hji => by
     by_cases e : j = i
     ·subst e; exact HV.out
     ·exact hf.out j hj (by omega)⟩, (by first | rfl | trivial)⟩
    case measure => simp [intOf]; omega
   ·skip
    go_wp2
    go_ret
    exact ⟨by rw [show beLn xs nm = (i : Int) from idx_hit hlt HV.out (fun j hj => hf.out j (by omega) hj)]; rfl, rfl⟩
  ·go_wp2
   go_ret
   exact ⟨by rw [show beLn xs nm = -1 from idx_miss (fun j hj => hf.out j hj (by omega))]; rfl, rfl⟩
theorem l19Line_calls (g : Nat) (A : Option Addr) (c : Nat) (xs : List ByteArray) (nm : ByteArray) (w : World) (hc : w.cell? ⟨g, 1, none⟩ = some (.slice A xs.length c)) (hr : Kd.C Kd.string w A xs.length xs) :
  Calls Tryz.prog 103 #[.pointer (some ⟨g, 0, none⟩), .string nm] w fun e w' => e = .returned (.bool (hasLn xs nm)) ∧ w' = w := by
 have hm := Kd.C_max hr
 have HR := Aside0.mk hr
 clear hr
 go_enter Tryz.func103, Tryz.ntmps103
 go_wp2
 go_loopw [5] (fun v5 w' => ∃ i : Nat, v5 = .int .i64 i ∧ i ≤ xs.length ∧ Aside0 (∀ j (hj : j < xs.length), j < i → ((xs[j]).toList == nm.toList) = false) ∧ w' = w) (fun v5 _ => xs.length - (intOf v5).toNat)
 case atStart => exact ⟨0, rfl, Nat.zero_le _, ⟨fun j _ hj => absurd hj (Nat.not_lt_zero _)⟩, rfl⟩
 case round =>
  obtain ⟨i, rfl, hi, hf, hw⟩ := hrel
  subst hw
  by_cases hlt : i < xs.length
  ·have p1 : (0 : Int) ≤ (i : Int) := Int.natCast_nonneg i
   have p2 : (i : Int) < (xs.length : Int) := Int.ofNat_lt.2 hlt
   obtain ⟨ad, rfl, x0⟩ := Kd.at_string HR.out (i : Int) p1 p2
   rw [Int.toNat_natCast] at x0
   rw [rdLine xs i hlt] at x0
   obtain ⟨q, hq⟩ : ∃ q, (xs[i].toList == nm.toList) = q := ⟨_, rfl⟩
   have HV := Aside0.mk hq
   cases q
   ·skip
    go_wp2
    go_roundw
    case rel => exact ⟨i + 1, by go_num, by omega, ⟨fun j hj hji => by
     by_cases e : j = i
     ·subst e; exact HV.out
     ·exact hf.out j hj (by omega)⟩, (by first | rfl | trivial)⟩
    case measure => simp [intOf]; omega
   ·skip
    go_wp2
    go_ret
    exact ⟨by rw [show hasLn xs nm = true from any_hit hlt HV.out]; rfl, rfl⟩
  ·go_wp2
   go_ret
   exact ⟨by rw [show hasLn xs nm = false from any_miss (fun j hj => hf.out j hj (by omega))]; rfl, rfl⟩
theorem l19At_calls (g : Nat) (A : Option Addr) (c : Nat) (xs : List S101) (rl : ByteArray) (pn : Int) (w : World) (hc : w.cell? ⟨g, 2, none⟩ = some (.slice A xs.length c)) (hr : Kd.C k101 w A xs.length xs) :
  Calls Tryz.prog 105 #[.pointer (some ⟨g, 0, none⟩), .string rl, .int .i64 pn] w fun e w' => e = .returned (.int .i64 (beAt xs rl pn)) ∧ w' = w := by
 have hm := Kd.C_max hr
 have HR := Aside0.mk hr
 clear hr
 go_enter Tryz.func105, Tryz.ntmps105
 go_wp2
 go_loopw [7] (fun v5 w' => ∃ i : Nat, v5 = .int .i64 i ∧ i ≤ xs.length ∧ Aside0 (∀ j (hj : j < xs.length), j < i → ((xs[j]).f1.toList == rl.toList && (xs[j]).f2 == pn) = false) ∧ w' = w) (fun v5 _ => xs.length - (intOf v5).toNat)
 case atStart => exact ⟨0, rfl, Nat.zero_le _, ⟨fun j _ hj => absurd hj (Nat.not_lt_zero _)⟩, rfl⟩
 case round =>
  obtain ⟨i, rfl, hi, hf, hw⟩ := hrel
  subst hw
  by_cases hlt : i < xs.length
  ·have p1 : (0 : Int) ≤ (i : Int) := Int.natCast_nonneg i
   have p2 : (i : Int) < (xs.length : Int) := Int.ofNat_lt.2 hlt
   obtain ⟨ad, rfl, x0, x1, x2⟩ := at_T101 HR.out (i : Int) p1 p2
   rw [Int.toNat_natCast] at x0 x1 x2
   rw [rdBelay xs i hlt] at x0 x1 x2
   obtain ⟨q, hq⟩ : ∃ q, (xs[i].f1.toList == rl.toList) = q := ⟨_, rfl⟩
   obtain ⟨u, hu⟩ : ∃ u, (xs[i].f2 == pn) = u := ⟨_, rfl⟩
   cases q
   ·have HV : Aside0 ((xs[i].f1.toList == rl.toList && xs[i].f2 == pn) = false) := ⟨by rw [hq]; rfl⟩
    go_wp2
    go_roundw
    case rel => exact ⟨i + 1, by go_num, by omega, ⟨fun j hj hji => by
     by_cases e : j = i
     ·subst e; exact HV.out
     ·exact hf.out j hj (by omega)⟩, (by first | rfl | trivial)⟩
    case measure => simp [intOf]; omega
   ·have HV : Aside0 ((xs[i].f1.toList == rl.toList && xs[i].f2 == pn) = u) := ⟨by rw [hq, hu]; rfl⟩
    cases u
    ·go_wp2
     go_roundw
     case rel => exact ⟨i + 1, by go_num, by omega, ⟨fun j hj hji => by
      by_cases e : j = i
      ·subst e; exact HV.out
      ·exact hf.out j hj (by omega)⟩, (by first | rfl | trivial)⟩
     case measure => simp [intOf]; omega
    go_wp2
    go_ret
    exact ⟨by rw [show beAt xs rl pn = (i : Int) from idx_hit hlt HV.out (fun j hj => hf.out j (by omega) hj)]; rfl, rfl⟩
  ·go_wp2
   go_ret
   exact ⟨by rw [show beAt xs rl pn = -1 from idx_miss (fun j hj => hf.out j hj (by omega))]; rfl, rfl⟩
theorem name_c (nm : ByteArray) : ∀ w, Calls Tryz.prog 101 #[.string nm] w fun e w' => e = .returned (.bool (isNameB nm)) ∧ Below w.heap.size w w' := fun w => by
 obtain ⟨k, hk⟩ := (name_spec nm).rounds
 exact (spec_IsName.calls k nm _ w hk).mono fun e w' ⟨he, hd⟩ => ⟨he, Drawn0.below hd⟩
theorem in_c (a b c : Int) : ∀ w, Calls Tryz.prog 52 #[.int .i64 a, .int .i64 b, .int .i64 c] w fun e w' => e = .returned (.bool (decide (b ≤ a ∧ a ≤ c))) ∧ Below w.heap.size w w' := fun w => by
 refine (spec_l00In.calls a b c _ w ?_).mono fun e w' ⟨he, hd⟩ => ⟨he, Drawn0.below hd⟩
 unfold spec_l00In.f
 by_cases hh : a ≥ b
 ·rw [if_pos hh]; congr 1; apply Bool.eq_iff_iff.mpr; simp; omega
 ·rw [if_neg hh]; congr 1; symm; simp; omega
theorem l19AddLine_calls (g : Nat) (v0 v1 v2 : Value) (R : RT) (nm : ByteArray) (w0 w : World) (hX : Rg w0 w g v0 v1 v2 R) :
  Calls Tryz.prog 85 #[.pointer (some ⟨g, 0, none⟩), .string nm] w fun e w' => e = .returned (.int .i64 (addLineP R nm).1) ∧ RgTo w0 w w' g v0 v1 v2 (addLineP R nm).2 := by
 have I1 := Aside0.mk (name_c nm)
 obtain ⟨-, ⟨A, c, e⟩, -⟩ := hX.form
 subst e
 have I2 : Aside0 (∀ W, Below w.heap.size w W → Calls Tryz.prog 103 #[.pointer (some ⟨g, 0, none⟩), .string nm] W fun e w' => e = .returned (.bool (hasLn R.2.1 nm)) ∧ w' = W) := ⟨fun W hb => l19Line_calls g A c R.2.1 nm W (hX.step hb).c1 (Kd.R_reads' (hX.step hb).r1).2.2⟩
 have HX := Aside0.mk hX
 clear hX
 have HP : Aside0 (addLineP R nm = addLineP R nm) := ⟨rfl⟩
 unfold addLineP
 generalize hq : isNameB nm = q at *
 generalize hu : hasLn R.2.1 nm = u at *
 have HQ := Aside0.mk hq
 clear hq hu HP
 cases q with
 | false =>
  go_enter Tryz.func85, Tryz.ntmps85
  go_wp2_with (first | (go_at_call 101; (with_reducible refine (I1.out _).mono ?_); rintro e w3 ⟨rfl, hb⟩; have HB3 := Aside0.mk hb; clear hb) | fail)
  go_ret
  exact ⟨rfl, HX.out.same HB3.out⟩
 | true =>
  cases u with
  | true =>
   go_enter Tryz.func85, Tryz.ntmps85
   go_wp2_with (first | (go_at_call 101; (with_reducible refine (I1.out _).mono ?_); rintro e w3 ⟨rfl, hb⟩; have HB3 := Aside0.mk hb; clear hb) | (go_at_call 103; (with_reducible refine (I2.out _ HB3.out).mono ?_); rintro e w4 ⟨rfl, hb⟩; subst hb) | fail)
   go_ret
   exact ⟨rfl, HX.out.same HB3.out⟩
  | false =>
   by_cases h6 : 60 ≤ (R.2.1.length : Int)
   ·go_enter Tryz.func85, Tryz.ntmps85
    go_wp2_with (first | (go_at_call 101; (with_reducible refine (I1.out _).mono ?_); rintro e w3 ⟨rfl, hb⟩; have HB3 := Aside0.mk hb; have c13 := (HX.out.step hb).c1; clear hb) | (go_at_call 103; (with_reducible refine (I2.out _ HB3.out).mono ?_); rintro e w4 ⟨rfl, hb⟩; subst hb) | fail)
    go_ret
    try rw [if_pos h6]
    exact ⟨rfl, HX.out.same HB3.out⟩
   ·have LM : Aside0 (R.2.1.length ≤ 60) := ⟨by omega⟩
    go_enter Tryz.func85, Tryz.ntmps85
    go_wp2_with (first
     | (go_at_call 101; (with_reducible refine (I1.out _).mono ?_); rintro e w3 ⟨rfl, hb⟩; have HB3 := Aside0.mk hb; have c13 := (HX.out.step hb).c1; have X3 := Aside0.mk (HX.out.step hb); clear hb)
     | (go_at_call 103; (with_reducible refine (I2.out _ HB3.out).mono ?_); rintro e w4 ⟨rfl, hb⟩; subst hb)
     | ((with_reducible refine gate_builtin (b := .append) (xs := #[.tmp 24, .tmp 26]) rfl ?_); at_builtin; refine Kd.R_append Kd.string (w0 := w0) w0.heap.size rfl (.tmp 24) (.tmp 26) 23 9 (.string ⟨#[]⟩) 16 rfl Tryz.underlying23 info9 rfl (by decide) (by omega) (.slice A R.2.1.length c) R.2.1 nm [.string nm] (fun _ => True) (fun _ => False) rfl rfl ?bP (fun _ hk => hk.elim) ?bF ?bO ?bB ?bS ?bL ?_; (case bP => exact rfl); (case bB => exact X3.out.low); (case bF => exact (fun _ _ => trivial)); (case bO => exact X3.out.r1); (case bS => exact X3.out.low.size); (case bL => have := LM.out; omega); intro v7 w7 ho hb hg hat; obtain ⟨A7, c7, e7⟩ := Kd.R_slice ho; subst e7; have e1 : (R.2.1 ++ [nm]).length = R.2.1.length + 1 := (by simp); rw [e1] at ho hat; clear e1; have hR7 := Aside0.mk (HX.out.app1 HB3.out ho hg hb hat); have cc : w7.cell? ⟨g, 1, none⟩ = some (.slice A R.2.1.length c) := (blk_cell (blk_grown X3.out.blk hg (Kd.R_ne X3.out.r1 X3.out.blk (by decide))) 1).trans rfl; have ff : w7.frozen? ⟨g, 1, none⟩ = false := blk_frozen (blk_grown X3.out.blk hg (Kd.R_ne X3.out.r1 X3.out.blk (by decide))) 1; clear ho hb hg hat)
     | fail)
    go_ret
    try rw [if_neg h6]
    exact ⟨rfl, hR7.out⟩
theorem l19AddRail_calls (g : Nat) (v0 v1 v2 : Value) (R : RT) (r : S97) (w0 w : World) (hX : Rg w0 w g v0 v1 v2 R) :
  Calls Tryz.prog 84 #[.pointer (some ⟨g, 0, none⟩), .agg #[.string r.f0, .string r.f1, .int .i64 r.f2]] w fun e w' => e = .returned (.int .i64 (addRailP R r).1) ∧ RgTo w0 w w' g v0 v1 v2 (addRailP R r).2 := by
 have I1 := Aside0.mk (name_c r.f0)
 have I2 := Aside0.mk (in_c r.f2 1 30)
 obtain ⟨⟨A, c, e⟩, -, -⟩ := hX.form
 subst e
 have I3 : Aside0 (∀ W, Below w.heap.size w W → Calls Tryz.prog 102 #[.pointer (some ⟨g, 0, none⟩), .string r.f0] W fun e w' => e = .returned (.int .i64 (railIdx R.1 r.f0)) ∧ w' = W) := ⟨fun W hb => l19Rail_calls g A c R.1 r.f0 W (hX.step hb).c0 (Kd.R_reads' (hX.step hb).r0).2.2⟩
 have HX := Aside0.mk hX
 clear hX
 obtain ⟨f0, f1, f2⟩ := r
 simp only at I1 I2 I3 ⊢
 unfold addRailP
 simp only
 generalize isNameB f0 = q at *
 obtain ⟨ix, hix⟩ : ∃ ix, railIdx R.1 f0 = ix := ⟨_, rfl⟩
 rw [hix] at I3 ⊢
 clear hix
 generalize hd : decide (1 ≤ f2 ∧ f2 ≤ 30) = d at *
 clear hd
 have hu := Tryz.underlying97
 cases q with
 | false =>
  go_enter Tryz.func84, Tryz.ntmps84
  go_wp2_with (first | ((with_reducible refine gd_ 3 rfl ?_); refine be_ 3 #[.string f0, .string f1, .int .i64 f2] 97 ?_; intro gb hgb w2 hbox hb; have BK2 := Aside0.mk hbox; have HB2 := Aside0.mk hb; have GB := Aside0.mk (Nat.le_of_eq hgb.symm); clear hbox hb hgb; have b20 := (blk_cell BK2.out 0).trans rfl) | (go_at_call 101; (with_reducible refine (I1.out _).mono ?_); rintro e w3 ⟨rfl, hb⟩; have BK3 := Aside0.mk (blk_below BK2.out hb); have HB3 := Aside0.mk (below_step HB2.out hb); clear hb; have b30 := (blk_cell BK3.out 0).trans rfl; have b31 := (blk_cell BK3.out 1).trans rfl; have b32 := (blk_cell BK3.out 2).trans rfl) | fail)
  go_ret
  try simp only [if_true, if_false, Bool.false_eq_true]
  exact ⟨rfl, HX.out.same HB3.out⟩
 | true =>
  generalize hsd : sideB f1 = sd
  have HSD := Aside0.mk hsd
  cases sd with
  | false =>
   unfold sideB at hsd
   simp only [Bool.or_eq_false_iff] at hsd
   obtain ⟨⟨e1, e2⟩, e3⟩ := hsd
   go_enter Tryz.func84, Tryz.ntmps84
   go_wp2_with (first | ((with_reducible refine gd_ 3 rfl ?_); refine be_ 3 #[.string f0, .string f1, .int .i64 f2] 97 ?_; intro gb hgb w2 hbox hb; have BK2 := Aside0.mk hbox; have HB2 := Aside0.mk hb; have GB := Aside0.mk (Nat.le_of_eq hgb.symm); clear hbox hb hgb; have b20 := (blk_cell BK2.out 0).trans rfl) | (go_at_call 101; (with_reducible refine (I1.out _).mono ?_); rintro e w3 ⟨rfl, hb⟩; have BK3 := Aside0.mk (blk_below BK2.out hb); have HB3 := Aside0.mk (below_step HB2.out hb); clear hb; have b30 := (blk_cell BK3.out 0).trans rfl; have b31 := (blk_cell BK3.out 1).trans rfl; have b32 := (blk_cell BK3.out 2).trans rfl) | fail)
   go_ret
   try simp only [if_true, if_false, Bool.false_eq_true]
   exact ⟨rfl, HX.out.same HB3.out⟩
  | true =>
   clear hsd
   cases d with
   | false =>
    go_enter Tryz.func84, Tryz.ntmps84
    go_upto_region 3 with (first | ((with_reducible refine gd_ 3 rfl ?_); refine be_ 3 #[.string f0, .string f1, .int .i64 f2] 97 ?_; intro gb hgb w2 hbox hb; have BK2 := Aside0.mk hbox; have HB2 := Aside0.mk hb; have GB := Aside0.mk (Nat.le_of_eq hgb.symm); clear hbox hb hgb; have b20 := (blk_cell BK2.out 0).trans rfl) | (go_at_call 101; (with_reducible refine (I1.out _).mono ?_); rintro e w3 ⟨rfl, hb⟩; have BK3 := Aside0.mk (blk_below BK2.out hb); have HB3 := Aside0.mk (below_step HB2.out hb); clear hb; have b30 := (blk_cell BK3.out 0).trans rfl; have b31 := (blk_cell BK3.out 1).trans rfl; have b32 := (blk_cell BK3.out 2).trans rfl) | fail)
    go_cut [10] (fun v10 wc => v10 = .bool false ∧ wc = w3)
    case first =>
     generalize e1 : (f1.toList == [112]) = s1
     generalize e2 : (f1.toList == [115]) = s2
     generalize e3 : (f1.toList == [109]) = s3
     have HE := Aside0.mk (And.intro e1 (And.intro e2 e3))
     cases s1 <;> cases s2 <;> cases s3
     case false.false.false => exact absurd HSD.out (by unfold sideB; rw [HE.out.1, HE.out.2.1, HE.out.2.2]; simp)
     all_goals
      go_wp2
      go_meet
      exact ⟨rfl, rfl⟩
    case rest =>
     obtain ⟨rfl, hw⟩ := hcut
     replace hw := hw.symm
     subst hw
     go_wp2_with (first | ((with_reducible refine gd_ 3 rfl ?_); refine be_ 3 #[.string f0, .string f1, .int .i64 f2] 97 ?_; intro gb hgb w2 hbox hb; have BK2 := Aside0.mk hbox; have HB2 := Aside0.mk hb; have GB := Aside0.mk (Nat.le_of_eq hgb.symm); clear hbox hb hgb; have b20 := (blk_cell BK2.out 0).trans rfl) | (go_at_call 101; (with_reducible refine (I1.out _).mono ?_); rintro e w3 ⟨rfl, hb⟩; have BK3 := Aside0.mk (blk_below BK2.out hb); have HB3 := Aside0.mk (below_step HB2.out hb); clear hb; have b30 := (blk_cell BK3.out 0).trans rfl; have b31 := (blk_cell BK3.out 1).trans rfl; have b32 := (blk_cell BK3.out 2).trans rfl) | (go_at_call 52; (with_reducible refine (I2.out _).mono ?_); rintro e w4 ⟨rfl, hb⟩; have BK4 := Aside0.mk (blk_below BK3.out hb); have HB4 := Aside0.mk (below_step HB3.out hb); clear hb; have b40 := (blk_cell BK4.out 0).trans rfl; have b41 := (blk_cell BK4.out 1).trans rfl; have b42 := (blk_cell BK4.out 2).trans rfl; have X4 := Aside0.mk (HX.out.step HB4.out); have c40 := X4.out.c0) | (go_at_call 102; (with_reducible refine (I3.out _ HB4.out).mono ?_); rintro e w5 ⟨rfl, hb⟩; subst hb) | fail)
     go_ret
     try simp only [if_true, if_false, Bool.false_eq_true]
     exact ⟨rfl, HX.out.same HB4.out⟩
   | true =>
    by_cases h5 : 0 ≤ ix
    ·have h5' := eq_true h5
     go_enter Tryz.func84, Tryz.ntmps84
     go_upto_region 3 with (first | ((with_reducible refine gd_ 3 rfl ?_); refine be_ 3 #[.string f0, .string f1, .int .i64 f2] 97 ?_; intro gb hgb w2 hbox hb; have BK2 := Aside0.mk hbox; have HB2 := Aside0.mk hb; have GB := Aside0.mk (Nat.le_of_eq hgb.symm); clear hbox hb hgb; have b20 := (blk_cell BK2.out 0).trans rfl) | (go_at_call 101; (with_reducible refine (I1.out _).mono ?_); rintro e w3 ⟨rfl, hb⟩; have BK3 := Aside0.mk (blk_below BK2.out hb); have HB3 := Aside0.mk (below_step HB2.out hb); clear hb; have b30 := (blk_cell BK3.out 0).trans rfl; have b31 := (blk_cell BK3.out 1).trans rfl; have b32 := (blk_cell BK3.out 2).trans rfl) | fail)
     go_cut [10] (fun v10 wc => v10 = .bool false ∧ wc = w3)
     case first =>
      generalize e1 : (f1.toList == [112]) = s1
      generalize e2 : (f1.toList == [115]) = s2
      generalize e3 : (f1.toList == [109]) = s3
      have HE := Aside0.mk (And.intro e1 (And.intro e2 e3))
      cases s1 <;> cases s2 <;> cases s3
      case false.false.false => exact absurd HSD.out (by unfold sideB; rw [HE.out.1, HE.out.2.1, HE.out.2.2]; simp)
      all_goals
       go_wp2
       go_meet
       exact ⟨rfl, rfl⟩
     case rest =>
      obtain ⟨rfl, hw⟩ := hcut
      replace hw := hw.symm
      subst hw
      go_wp2_with (first | ((with_reducible refine gd_ 3 rfl ?_); refine be_ 3 #[.string f0, .string f1, .int .i64 f2] 97 ?_; intro gb hgb w2 hbox hb; have BK2 := Aside0.mk hbox; have HB2 := Aside0.mk hb; have GB := Aside0.mk (Nat.le_of_eq hgb.symm); clear hbox hb hgb; have b20 := (blk_cell BK2.out 0).trans rfl) | (go_at_call 101; (with_reducible refine (I1.out _).mono ?_); rintro e w3 ⟨rfl, hb⟩; have BK3 := Aside0.mk (blk_below BK2.out hb); have HB3 := Aside0.mk (below_step HB2.out hb); clear hb; have b30 := (blk_cell BK3.out 0).trans rfl; have b31 := (blk_cell BK3.out 1).trans rfl; have b32 := (blk_cell BK3.out 2).trans rfl) | (go_at_call 52; (with_reducible refine (I2.out _).mono ?_); rintro e w4 ⟨rfl, hb⟩; have BK4 := Aside0.mk (blk_below BK3.out hb); have HB4 := Aside0.mk (below_step HB3.out hb); clear hb; have b40 := (blk_cell BK4.out 0).trans rfl; have b41 := (blk_cell BK4.out 1).trans rfl; have b42 := (blk_cell BK4.out 2).trans rfl; have X4 := Aside0.mk (HX.out.step HB4.out); have c40 := X4.out.c0) | (go_at_call 102; (with_reducible refine (I3.out _ HB4.out).mono ?_); rintro e w5 ⟨rfl, hb⟩; subst hb) | fail)
      go_ret
      try simp only [if_true, if_false, Bool.false_eq_true]
      exact ⟨rfl, HX.out.same HB4.out⟩
    ·have h5' := eq_false h5
     by_cases h8 : 10 ≤ (R.1.length : Int)
     ·have h8' := eq_true h8
      go_enter Tryz.func84, Tryz.ntmps84
      go_upto_region 3 with (first | ((with_reducible refine gd_ 3 rfl ?_); refine be_ 3 #[.string f0, .string f1, .int .i64 f2] 97 ?_; intro gb hgb w2 hbox hb; have BK2 := Aside0.mk hbox; have HB2 := Aside0.mk hb; have GB := Aside0.mk (Nat.le_of_eq hgb.symm); clear hbox hb hgb; have b20 := (blk_cell BK2.out 0).trans rfl) | (go_at_call 101; (with_reducible refine (I1.out _).mono ?_); rintro e w3 ⟨rfl, hb⟩; have BK3 := Aside0.mk (blk_below BK2.out hb); have HB3 := Aside0.mk (below_step HB2.out hb); clear hb; have b30 := (blk_cell BK3.out 0).trans rfl; have b31 := (blk_cell BK3.out 1).trans rfl; have b32 := (blk_cell BK3.out 2).trans rfl) | fail)
      go_cut [10] (fun v10 wc => v10 = .bool false ∧ wc = w3)
      case first =>
       generalize e1 : (f1.toList == [112]) = s1
       generalize e2 : (f1.toList == [115]) = s2
       generalize e3 : (f1.toList == [109]) = s3
       have HE := Aside0.mk (And.intro e1 (And.intro e2 e3))
       cases s1 <;> cases s2 <;> cases s3
       case false.false.false => exact absurd HSD.out (by unfold sideB; rw [HE.out.1, HE.out.2.1, HE.out.2.2]; simp)
       all_goals
        go_wp2
        go_meet
        exact ⟨rfl, rfl⟩
      case rest =>
       obtain ⟨rfl, hw⟩ := hcut
       replace hw := hw.symm
       subst hw
       go_wp2_with (first | ((with_reducible refine gd_ 3 rfl ?_); refine be_ 3 #[.string f0, .string f1, .int .i64 f2] 97 ?_; intro gb hgb w2 hbox hb; have BK2 := Aside0.mk hbox; have HB2 := Aside0.mk hb; have GB := Aside0.mk (Nat.le_of_eq hgb.symm); clear hbox hb hgb; have b20 := (blk_cell BK2.out 0).trans rfl) | (go_at_call 101; (with_reducible refine (I1.out _).mono ?_); rintro e w3 ⟨rfl, hb⟩; have BK3 := Aside0.mk (blk_below BK2.out hb); have HB3 := Aside0.mk (below_step HB2.out hb); clear hb; have b30 := (blk_cell BK3.out 0).trans rfl; have b31 := (blk_cell BK3.out 1).trans rfl; have b32 := (blk_cell BK3.out 2).trans rfl) | (go_at_call 52; (with_reducible refine (I2.out _).mono ?_); rintro e w4 ⟨rfl, hb⟩; have BK4 := Aside0.mk (blk_below BK3.out hb); have HB4 := Aside0.mk (below_step HB3.out hb); clear hb; have b40 := (blk_cell BK4.out 0).trans rfl; have b41 := (blk_cell BK4.out 1).trans rfl; have b42 := (blk_cell BK4.out 2).trans rfl; have X4 := Aside0.mk (HX.out.step HB4.out); have c40 := X4.out.c0) | (go_at_call 102; (with_reducible refine (I3.out _ HB4.out).mono ?_); rintro e w5 ⟨rfl, hb⟩; subst hb) | fail)
       go_ret
       try simp only [if_true, if_false, Bool.false_eq_true]
       exact ⟨rfl, HX.out.same HB4.out⟩
     ·have LM : Aside0 (R.1.length ≤ 10) := ⟨by omega⟩
      have h8' := eq_false h8
      go_enter Tryz.func84, Tryz.ntmps84
      go_upto_region 3 with (first | ((with_reducible refine gd_ 3 rfl ?_); refine be_ 3 #[.string f0, .string f1, .int .i64 f2] 97 ?_; intro gb hgb w2 hbox hb; have BK2 := Aside0.mk hbox; have HB2 := Aside0.mk hb; have GB := Aside0.mk (Nat.le_of_eq hgb.symm); clear hbox hb hgb; have b20 := (blk_cell BK2.out 0).trans rfl) | (go_at_call 101; (with_reducible refine (I1.out _).mono ?_); rintro e w3 ⟨rfl, hb⟩; have BK3 := Aside0.mk (blk_below BK2.out hb); have HB3 := Aside0.mk (below_step HB2.out hb); clear hb; have b30 := (blk_cell BK3.out 0).trans rfl; have b31 := (blk_cell BK3.out 1).trans rfl; have b32 := (blk_cell BK3.out 2).trans rfl) | fail)
      go_cut [10] (fun v10 wc => v10 = .bool false ∧ wc = w3)
      case first =>
       generalize e1 : (f1.toList == [112]) = s1
       generalize e2 : (f1.toList == [115]) = s2
       generalize e3 : (f1.toList == [109]) = s3
       have HE := Aside0.mk (And.intro e1 (And.intro e2 e3))
       cases s1 <;> cases s2 <;> cases s3
       case false.false.false => exact absurd HSD.out (by unfold sideB; rw [HE.out.1, HE.out.2.1, HE.out.2.2]; simp)
       all_goals
        go_wp2
        go_meet
        exact ⟨rfl, rfl⟩
      case rest =>
       obtain ⟨rfl, hw⟩ := hcut
       replace hw := hw.symm
       subst hw
       go_upto_region 11 with (first | ((with_reducible refine gd_ 3 rfl ?_); refine be_ 3 #[.string f0, .string f1, .int .i64 f2] 97 ?_; intro gb hgb w2 hbox hb; have BK2 := Aside0.mk hbox; have HB2 := Aside0.mk hb; have GB := Aside0.mk (Nat.le_of_eq hgb.symm); clear hbox hb hgb; have b20 := (blk_cell BK2.out 0).trans rfl) | (go_at_call 101; (with_reducible refine (I1.out _).mono ?_); rintro e w3 ⟨rfl, hb⟩; have BK3 := Aside0.mk (blk_below BK2.out hb); have HB3 := Aside0.mk (below_step HB2.out hb); clear hb; have b30 := (blk_cell BK3.out 0).trans rfl; have b31 := (blk_cell BK3.out 1).trans rfl; have b32 := (blk_cell BK3.out 2).trans rfl) | (go_at_call 52; (with_reducible refine (I2.out _).mono ?_); rintro e w4 ⟨rfl, hb⟩; have BK4 := Aside0.mk (blk_below BK3.out hb); have HB4 := Aside0.mk (below_step HB3.out hb); clear hb; have b40 := (blk_cell BK4.out 0).trans rfl; have b41 := (blk_cell BK4.out 1).trans rfl; have b42 := (blk_cell BK4.out 2).trans rfl; have X4 := Aside0.mk (HX.out.step HB4.out); have c40 := X4.out.c0) | (go_at_call 102; (with_reducible refine (I3.out _ HB4.out).mono ?_); rintro e w5 ⟨rfl, hb⟩; subst hb) | fail)
       have hne : some gb ≠ (Value.slice A R.1.length c).ownBlock := fun e => by have := Kd.R_lt HX.out.r0 gb e.symm; have := GB.out; omega
       refine start_ (n := 11) (S := fun w' => w'.cell? ⟨g, 0, none⟩ = some (.slice A R.1.length c) ∧ w'.cell? ⟨gb, 0, none⟩ = some (.string f0) ∧ w'.cell? ⟨gb, 1, none⟩ = some (.string f1) ∧ w'.cell? ⟨gb, 2, none⟩ = some (.int .i64 f2)) (ds := [10]) (fl 11 0) (by kernel_rfl) rfl rfl ⟨c40, b40, b41, b42⟩ (fun hHeld => ?_)
       refine pk_ 0 (some 42) (fl 11 1) ?_
       refine pk_ 1 (some 43) (fl 11 3) ?_
       refine pk_ 2 (some 44) (fl 11 7) ?_
       refine pk_ 3 (some 45) (fl 11 15) ?_
       refine tk_ 4 (some 46) (fl 11 31) hHeld ?_
       refine tk_ 5 (some 47) (fl 11 63) hHeld ?_
       refine one_ (i := 6) (N := some 48) (fl 11 127) rfl rfl (by kernel_rfl) (by decide) (fun K hK => ?_)
       refine value_ (w1 := ?_) (v := ?_) (by rfl) rfl ?_ ?_
       rotate_left 2
       ·go_simp
        constructor
        ·rfl
        ·rfl
       refine hK.out _ _ ⟨pw_cell_below (below_alloc (Below.refl _ _) _) hHeld.1, pw_cell_below (below_alloc (Below.refl _ _) _) hHeld.2.1, pw_cell_below (below_alloc (Below.refl _ _) _) hHeld.2.2.1, pw_cell_below (below_alloc (Below.refl _ _) _) hHeld.2.2.2⟩ (fun hHeld => ?_)
       clear hK K
       refine norm_ (a' := ?_) ?_ ?_
       rotate_left
       ·show Act.put _ (some 48) _ = _
        simp only [Act.put, List.setIfInBounds_toArray, List.set_cons_zero, List.set_cons_succ, i64_w, i32_w]
        rfl
       refine one_ (i := 7) (N := some 49) (fl 11 255) rfl rfl (by kernel_rfl) (by decide) (fun K hK => ?_)
       rw [show ((w5.alloc (.cells #[.string f0, .string f1, .int .i64 f2] 97)).drew : World) = w5.drew.alloc (.cells #[.string f0, .string f1, .int .i64 f2] 97) from rfl]
       refine Kd.R_append_step k97 (w0 := w0) w0.heap.size (by rfl) (.tmp 46) (.tmp 48) 34 97 (.agg #[.string ⟨#[]⟩, .string ⟨#[]⟩, .int .i64 0]) 40 (by rfl) Tryz.underlying34 info97 rfl (by decide) (by omega) (.slice A R.1.length c) R.1 ⟨f0, f1, f2⟩ [.string f0, .string f1, .int .i64 f2] (fun _ => True) (fun _ => False) (by rfl) (by rfl) ?bP (fun _ hk => hk.elim) (fun _ _ => trivial) (Kd.R_drew X4.out.r0) (below_drew1 X4.out.low) X4.out.low.size (by have := LM.out; omega) ?_
       case bP => exact k97_mkM _ _ _ (⟨f0, f1, f2⟩ : S97)
       intro v7 w7 ho hb hg hat
       obtain ⟨A7, c7, e7⟩ := Kd.R_slice ho
       subst e7
       have eL : (R.1 ++ [(⟨f0, f1, f2⟩ : S97)]).length = R.1.length + 1 := (by simp)
       rw [eL] at ho hat
       have hrg := blk_grown (blk_drew X4.out.blk) hg (Kd.R_ne X4.out.r0 X4.out.blk (by decide))
       have cc := (blk_cell hrg 0).trans rfl
       have ff := blk_frozen hrg 0
       have hbx := blk_grown (blk_drew BK4.out) hg hne
       have hR7 := Aside0.mk (HX.out.app0 (below_drew1 HB4.out) ho hg hb hat)
       refine hK.out _ _ ⟨cc, (blk_cell hbx 0).trans rfl, (blk_cell hbx 1).trans rfl, (blk_cell hbx 2).trans rfl⟩ (fun hHeld => ?_)
       clear hK K
       refine norm_ (a' := ?_) ?_ ?_
       rotate_left
       ·show Act.put _ (some 49) _ = _
        simp only [Act.put, List.setIfInBounds_toArray, List.set_cons_zero, List.set_cons_succ, i64_w, i32_w]
        rfl
       refine pk_ 8 (some 50) (fl 11 511) ?_
       refine pk_ 9 (some 51) (fl 11 1023) ?_
       refine last_ (i := 10) (N := none) (fl 11 2047) rfl rfl (by kernel_rfl) (by decide) (fun K hK => ?_)
       refine skip_ (w1 := ?_) (by rfl) rfl ?_ ?_
       rotate_left
       ·go_simp
        rfl
       refine hK.out _ _ ?_
       clear hK K
       refine done_ (by kernel_rfl) ?_
       go_wp2
       go_ret
       try simp only [if_true, if_false, Bool.false_eq_true]
       exact ⟨rfl, hR7.out⟩
theorem l19AddBelay_calls (g : Nat) (v0 v1 v2 : Value) (R : RT) (b : S101) (w0 w : World) (hX : Rg w0 w g v0 v1 v2 R) (hlen : R.2.2.length ≤ 1100000) :
  Calls Tryz.prog 86 #[.pointer (some ⟨g, 0, none⟩), .agg #[.string b.f0, .string b.f1, .int .i64 b.f2]] w fun e w' => e = .returned (.int .i64 (addBelayP R b).1) ∧ RgTo w0 w w' g v0 v1 v2 (addBelayP R b).2 := by
 have LM := Aside0.mk hlen
 clear hlen
 obtain ⟨⟨A, c, e⟩, ⟨A1, c1, e1⟩, ⟨A2, c2, e2⟩⟩ := hX.form
 subst e
 subst e1
 subst e2
 obtain ⟨f0, f1, f2⟩ := b
 simp only
 have I1 : Aside0 (∀ W, Below w.heap.size w W → Calls Tryz.prog 102 #[.pointer (some ⟨g, 0, none⟩), .string f1] W fun e w' => e = .returned (.int .i64 (railIdx R.1 f1)) ∧ w' = W) := ⟨fun W hb => l19Rail_calls g A c R.1 f1 W (hX.step hb).c0 (Kd.R_reads' (hX.step hb).r0).2.2⟩
 have I2 : Aside0 (∀ W, Below w.heap.size w W → Calls Tryz.prog 103 #[.pointer (some ⟨g, 0, none⟩), .string f0] W fun e w' => e = .returned (.bool (hasLn R.2.1 f0)) ∧ w' = W) := ⟨fun W hb => l19Line_calls g A1 c1 R.2.1 f0 W (hX.step hb).c1 (Kd.R_reads' (hX.step hb).r1).2.2⟩
 have I4 : Aside0 (∀ W, Below w.heap.size w W → Calls Tryz.prog 104 #[.pointer (some ⟨g, 0, none⟩), .string f0] W fun e w' => e = .returned (.int .i64 (beLn R.2.2 f0)) ∧ w' = W) := ⟨fun W hb => l19Of_calls g A2 c2 R.2.2 f0 W (hX.step hb).c2 (Kd.R_reads' (hX.step hb).r2).2.2⟩
 have I5 : Aside0 (∀ W, Below w.heap.size w W → Calls Tryz.prog 105 #[.pointer (some ⟨g, 0, none⟩), .string f1, .int .i64 f2] W fun e w' => e = .returned (.int .i64 (beAt R.2.2 f1 f2)) ∧ w' = W) := ⟨fun W hb => l19At_calls g A2 c2 R.2.2 f1 f2 W (hX.step hb).c2 (Kd.R_reads' (hX.step hb).r2).2.2⟩
 have HX := Aside0.mk hX
 clear hX
 unfold addBelayP
 simp only
 have hir := idx_range (fun x : S97 => x.f0.toList == f1.toList) R.1
 obtain ⟨ix, hix⟩ : ∃ ix, railIdx R.1 f1 = ix := ⟨_, rfl⟩
 rw [hix] at I1 ⊢
 unfold railIdx at hix
 rw [hix] at hir
 clear hix
 have hu := Tryz.underlying101
 by_cases h1 : 0 ≤ ix
 ·have h1' := eq_true h1
  have h1n : ¬ ix < 0 := by omega
  have hlt : ix < (R.1.length : Int) := by rcases hir with h | h <;> omega
  generalize hasLn R.2.1 f0 = ln at *
  cases ln with
  | false =>
   go_enter Tryz.func86, Tryz.ntmps86
   go_wp2_with (first | ((with_reducible refine gd_ 3 rfl ?_); refine be_ 3 #[.string f0, .string f1, .int .i64 f2] 101 ?_; intro gb hgb w2 hbox hb; have BK2 := Aside0.mk hbox; have HB2 := Aside0.mk hb; have GB := Aside0.mk (Nat.le_of_eq hgb.symm); clear hbox hb hgb; have b20 := (blk_cell BK2.out 0).trans rfl; have b21 := (blk_cell BK2.out 1).trans rfl; have b22 := (blk_cell BK2.out 2).trans rfl; have X2 := Aside0.mk (HX.out.step HB2.out); have c20 := X2.out.c0; have c22 := X2.out.c2) | (go_at_call 102; (with_reducible refine (I1.out _ HB2.out).mono ?_); rintro e w3 ⟨rfl, hb⟩; subst hb) | (go_at_call 103; (with_reducible refine (I2.out _ HB2.out).mono ?_); rintro e w4 ⟨rfl, hb⟩; subst hb) | fail)
   go_ret
   try simp only [if_true, if_false, Bool.false_eq_true]
   exact ⟨rfl, HX.out.same HB2.out⟩
  | true =>
   obtain ⟨m2, hm2⟩ : ∃ m2, (rd_T97 R.1 ix).f2 = m2 := ⟨_, rfl⟩
   rw [hm2]
   have HM2 := Aside0.mk hm2
   clear hm2
   have I3 := Aside0.mk (in_c f2 1 m2)
   generalize decide (1 ≤ f2 ∧ f2 ≤ m2) = d at *
   cases d with
   | false =>
    go_enter Tryz.func86, Tryz.ntmps86
    go_upto_region 4 with (first | ((with_reducible refine gd_ 3 rfl ?_); refine be_ 3 #[.string f0, .string f1, .int .i64 f2] 101 ?_; intro gb hgb w2 hbox hb; have BK2 := Aside0.mk hbox; have HB2 := Aside0.mk hb; have GB := Aside0.mk (Nat.le_of_eq hgb.symm); clear hbox hb hgb; have b20 := (blk_cell BK2.out 0).trans rfl; have b21 := (blk_cell BK2.out 1).trans rfl; have b22 := (blk_cell BK2.out 2).trans rfl; have X2 := Aside0.mk (HX.out.step HB2.out); have c20 := X2.out.c0; have c22 := X2.out.c2) | (go_at_call 102; (with_reducible refine (I1.out _ HB2.out).mono ?_); rintro e w3 ⟨rfl, hb⟩; subst hb) | (go_at_call 103; (with_reducible refine (I2.out _ HB2.out).mono ?_); rintro e w4 ⟨rfl, hb⟩; subst hb) | fail)
    obtain ⟨ad, ea, -, -, x2⟩ := at_T97 (Kd.R_reads' X2.out.r0).2.2 ix h1 hlt
    subst ea
    rw [HM2.out] at x2
    go_region_held3 (fun w' => w'.cell? ⟨gb, 2, none⟩ = some (.int .i64 f2) ∧ w'.cell? ⟨g, 0, none⟩ = some (.slice (some ad) R.1.length c) ∧ w'.cell? ⟨(ad.add (ix.toNat * 3)).block, (ad.add (ix.toNat * 3)).off + 2, none⟩ = some (.int .i64 m2))
     (first | assumption | exact ⟨by simpa using b22, by simpa using c20, by simpa using x2⟩ | exact ⟨pw_cell_below hx5.out b22, pw_cell_below hx5.out c20, pw_cell_below hx5.out x2⟩ | fail)
     (first | (go_at_call 52; (with_reducible refine (I3.out _).mono ?_); rintro e w5 ⟨rfl, hb⟩; have hx5 := Aside0.mk (below_step (below_drew1 (Below.refl w4.heap.size w4)) hb); have HB5 := Aside0.mk (below_step HB2.out hx5.out); have BK5 := Aside0.mk (blk_below BK2.out hx5.out)) | fail)
    have b50 := (blk_cell BK5.out 0).trans rfl
    have b51 := (blk_cell BK5.out 1).trans rfl
    have b52 := (blk_cell BK5.out 2).trans rfl
    have X5 := Aside0.mk (HX.out.step HB5.out)
    have c52 := X5.out.c2
    go_wp2_with (first | (go_at_call 104; (with_reducible refine (I4.out _ HB5.out).mono ?_); rintro e w6 ⟨rfl, hb⟩; subst hb) | fail)
    go_ret
    try simp only [if_true, if_false, Bool.false_eq_true]
    exact ⟨rfl, HX.out.same HB5.out⟩
   | true =>
    generalize beLn R.2.2 f0 = iz at *
    by_cases h5 : 0 ≤ iz
    ·have h5' := eq_true h5
     go_enter Tryz.func86, Tryz.ntmps86
     go_upto_region 4 with (first | ((with_reducible refine gd_ 3 rfl ?_); refine be_ 3 #[.string f0, .string f1, .int .i64 f2] 101 ?_; intro gb hgb w2 hbox hb; have BK2 := Aside0.mk hbox; have HB2 := Aside0.mk hb; have GB := Aside0.mk (Nat.le_of_eq hgb.symm); clear hbox hb hgb; have b20 := (blk_cell BK2.out 0).trans rfl; have b21 := (blk_cell BK2.out 1).trans rfl; have b22 := (blk_cell BK2.out 2).trans rfl; have X2 := Aside0.mk (HX.out.step HB2.out); have c20 := X2.out.c0; have c22 := X2.out.c2) | (go_at_call 102; (with_reducible refine (I1.out _ HB2.out).mono ?_); rintro e w3 ⟨rfl, hb⟩; subst hb) | (go_at_call 103; (with_reducible refine (I2.out _ HB2.out).mono ?_); rintro e w4 ⟨rfl, hb⟩; subst hb) | fail)
     obtain ⟨ad, ea, -, -, x2⟩ := at_T97 (Kd.R_reads' X2.out.r0).2.2 ix h1 hlt
     subst ea
     rw [HM2.out] at x2
     go_region_held3 (fun w' => w'.cell? ⟨gb, 2, none⟩ = some (.int .i64 f2) ∧ w'.cell? ⟨g, 0, none⟩ = some (.slice (some ad) R.1.length c) ∧ w'.cell? ⟨(ad.add (ix.toNat * 3)).block, (ad.add (ix.toNat * 3)).off + 2, none⟩ = some (.int .i64 m2))
      (first | assumption | exact ⟨by simpa using b22, by simpa using c20, by simpa using x2⟩ | exact ⟨pw_cell_below hx5.out b22, pw_cell_below hx5.out c20, pw_cell_below hx5.out x2⟩ | fail)
      (first | (go_at_call 52; (with_reducible refine (I3.out _).mono ?_); rintro e w5 ⟨rfl, hb⟩; have hx5 := Aside0.mk (below_step (below_drew1 (Below.refl w4.heap.size w4)) hb); have HB5 := Aside0.mk (below_step HB2.out hx5.out); have BK5 := Aside0.mk (blk_below BK2.out hx5.out)) | fail)
     have b50 := (blk_cell BK5.out 0).trans rfl
     have b51 := (blk_cell BK5.out 1).trans rfl
     have b52 := (blk_cell BK5.out 2).trans rfl
     have X5 := Aside0.mk (HX.out.step HB5.out)
     have c52 := X5.out.c2
     go_wp2_with (first | (go_at_call 104; (with_reducible refine (I4.out _ HB5.out).mono ?_); rintro e w6 ⟨rfl, hb⟩; subst hb) | fail)
     go_ret
     try simp only [if_true, if_false, Bool.false_eq_true]
     exact ⟨rfl, HX.out.same HB5.out⟩
    ·have h5' := eq_false h5
     generalize beAt R.2.2 f1 f2 = ia at *
     by_cases h7 : 0 ≤ ia
     ·have h7' := eq_true h7
      go_enter Tryz.func86, Tryz.ntmps86
      go_upto_region 4 with (first | ((with_reducible refine gd_ 3 rfl ?_); refine be_ 3 #[.string f0, .string f1, .int .i64 f2] 101 ?_; intro gb hgb w2 hbox hb; have BK2 := Aside0.mk hbox; have HB2 := Aside0.mk hb; have GB := Aside0.mk (Nat.le_of_eq hgb.symm); clear hbox hb hgb; have b20 := (blk_cell BK2.out 0).trans rfl; have b21 := (blk_cell BK2.out 1).trans rfl; have b22 := (blk_cell BK2.out 2).trans rfl; have X2 := Aside0.mk (HX.out.step HB2.out); have c20 := X2.out.c0; have c22 := X2.out.c2) | (go_at_call 102; (with_reducible refine (I1.out _ HB2.out).mono ?_); rintro e w3 ⟨rfl, hb⟩; subst hb) | (go_at_call 103; (with_reducible refine (I2.out _ HB2.out).mono ?_); rintro e w4 ⟨rfl, hb⟩; subst hb) | fail)
      obtain ⟨ad, ea, -, -, x2⟩ := at_T97 (Kd.R_reads' X2.out.r0).2.2 ix h1 hlt
      subst ea
      rw [HM2.out] at x2
      go_region_held3 (fun w' => w'.cell? ⟨gb, 2, none⟩ = some (.int .i64 f2) ∧ w'.cell? ⟨g, 0, none⟩ = some (.slice (some ad) R.1.length c) ∧ w'.cell? ⟨(ad.add (ix.toNat * 3)).block, (ad.add (ix.toNat * 3)).off + 2, none⟩ = some (.int .i64 m2))
       (first | assumption | exact ⟨by simpa using b22, by simpa using c20, by simpa using x2⟩ | exact ⟨pw_cell_below hx5.out b22, pw_cell_below hx5.out c20, pw_cell_below hx5.out x2⟩ | fail)
       (first | (go_at_call 52; (with_reducible refine (I3.out _).mono ?_); rintro e w5 ⟨rfl, hb⟩; have hx5 := Aside0.mk (below_step (below_drew1 (Below.refl w4.heap.size w4)) hb); have HB5 := Aside0.mk (below_step HB2.out hx5.out); have BK5 := Aside0.mk (blk_below BK2.out hx5.out)) | fail)
      have b50 := (blk_cell BK5.out 0).trans rfl
      have b51 := (blk_cell BK5.out 1).trans rfl
      have b52 := (blk_cell BK5.out 2).trans rfl
      have X5 := Aside0.mk (HX.out.step HB5.out)
      have c52 := X5.out.c2
      go_wp2_with (first | (go_at_call 104; (with_reducible refine (I4.out _ HB5.out).mono ?_); rintro e w6 ⟨rfl, hb⟩; subst hb) | (go_at_call 105; (with_reducible refine (I5.out _ HB5.out).mono ?_); rintro e w7 ⟨rfl, hb⟩; subst hb) | fail)
      go_ret
      try simp only [if_true, if_false, Bool.false_eq_true]
      exact ⟨rfl, HX.out.same HB5.out⟩
     ·have h7' := eq_false h7
      go_enter Tryz.func86, Tryz.ntmps86
      go_upto_region 4 with (first | ((with_reducible refine gd_ 3 rfl ?_); refine be_ 3 #[.string f0, .string f1, .int .i64 f2] 101 ?_; intro gb hgb w2 hbox hb; have BK2 := Aside0.mk hbox; have HB2 := Aside0.mk hb; have GB := Aside0.mk (Nat.le_of_eq hgb.symm); clear hbox hb hgb; have b20 := (blk_cell BK2.out 0).trans rfl; have b21 := (blk_cell BK2.out 1).trans rfl; have b22 := (blk_cell BK2.out 2).trans rfl; have X2 := Aside0.mk (HX.out.step HB2.out); have c20 := X2.out.c0; have c22 := X2.out.c2) | (go_at_call 102; (with_reducible refine (I1.out _ HB2.out).mono ?_); rintro e w3 ⟨rfl, hb⟩; subst hb) | (go_at_call 103; (with_reducible refine (I2.out _ HB2.out).mono ?_); rintro e w4 ⟨rfl, hb⟩; subst hb) | fail)
      obtain ⟨ad, ea, -, -, x2⟩ := at_T97 (Kd.R_reads' X2.out.r0).2.2 ix h1 hlt
      subst ea
      rw [HM2.out] at x2
      go_region_held3 (fun w' => w'.cell? ⟨gb, 2, none⟩ = some (.int .i64 f2) ∧ w'.cell? ⟨g, 0, none⟩ = some (.slice (some ad) R.1.length c) ∧ w'.cell? ⟨(ad.add (ix.toNat * 3)).block, (ad.add (ix.toNat * 3)).off + 2, none⟩ = some (.int .i64 m2))
       (first | assumption | exact ⟨by simpa using b22, by simpa using c20, by simpa using x2⟩ | exact ⟨pw_cell_below hx5.out b22, pw_cell_below hx5.out c20, pw_cell_below hx5.out x2⟩ | fail)
       (first | (go_at_call 52; (with_reducible refine (I3.out _).mono ?_); rintro e w5 ⟨rfl, hb⟩; have hx5 := Aside0.mk (below_step (below_drew1 (Below.refl w4.heap.size w4)) hb); have HB5 := Aside0.mk (below_step HB2.out hx5.out); have BK5 := Aside0.mk (blk_below BK2.out hx5.out)) | fail)
      have b50 := (blk_cell BK5.out 0).trans rfl
      have b51 := (blk_cell BK5.out 1).trans rfl
      have b52 := (blk_cell BK5.out 2).trans rfl
      have X5 := Aside0.mk (HX.out.step HB5.out)
      have c52 := X5.out.c2
      go_upto_region 10 with (first | (go_at_call 104; (with_reducible refine (I4.out _ HB5.out).mono ?_); rintro e w6 ⟨rfl, hb⟩; subst hb) | (go_at_call 105; (with_reducible refine (I5.out _ HB5.out).mono ?_); rintro e w7 ⟨rfl, hb⟩; subst hb) | fail)
      have hne : some gb ≠ (Value.slice A2 R.2.2.length c2).ownBlock := fun e => by have := Kd.R_lt HX.out.r2 gb e.symm; have := GB.out; omega
      refine start_ (n := 11) (S := fun w' => w'.cell? ⟨g, 2, none⟩ = some (.slice A2 R.2.2.length c2) ∧ w'.cell? ⟨gb, 0, none⟩ = some (.string f0) ∧ w'.cell? ⟨gb, 1, none⟩ = some (.string f1) ∧ w'.cell? ⟨gb, 2, none⟩ = some (.int .i64 f2)) (ds := [10]) (fl 11 0) (by kernel_rfl) rfl rfl ⟨c52, b50, b51, b52⟩ (fun hHeld => ?_)
      refine pk_ 0 (some 47) (fl 11 1) ?_
      refine pk_ 1 (some 48) (fl 11 3) ?_
      refine pk_ 2 (some 49) (fl 11 7) ?_
      refine pk_ 3 (some 50) (fl 11 15) ?_
      refine tk_ 4 (some 51) (fl 11 31) hHeld ?_
      refine tk_ 5 (some 52) (fl 11 63) hHeld ?_
      refine one_ (i := 6) (N := some 53) (fl 11 127) rfl rfl (by kernel_rfl) (by decide) (fun K hK => ?_)
      refine value_ (w1 := ?_) (v := ?_) (by rfl) rfl ?_ ?_
      rotate_left 2
      ·go_simp
       constructor
       ·rfl
       ·rfl
      refine hK.out _ _ ⟨pw_cell_below (below_alloc (Below.refl _ _) _) hHeld.1, pw_cell_below (below_alloc (Below.refl _ _) _) hHeld.2.1, pw_cell_below (below_alloc (Below.refl _ _) _) hHeld.2.2.1, pw_cell_below (below_alloc (Below.refl _ _) _) hHeld.2.2.2⟩ (fun hHeld => ?_)
      clear hK K
      refine norm_ (a' := ?_) ?_ ?_
      rotate_left
      ·show Act.put _ (some 53) _ = _
       simp only [Act.put, List.setIfInBounds_toArray, List.set_cons_zero, List.set_cons_succ, i64_w, i32_w]
       rfl
      refine one_ (i := 7) (N := some 54) (fl 11 255) rfl rfl (by kernel_rfl) (by decide) (fun K hK => ?_)
      rw [show ((w7.alloc (.cells #[.string f0, .string f1, .int .i64 f2] 101)).drew : World) = w7.drew.alloc (.cells #[.string f0, .string f1, .int .i64 f2] 101) from rfl]
      refine Kd.R_append_step k101 (w0 := w0) w0.heap.size (by rfl) (.tmp 51) (.tmp 53) 35 101 (.agg #[.string ⟨#[]⟩, .string ⟨#[]⟩, .int .i64 0]) 40 (by rfl) Tryz.underlying35 info101 rfl (by decide) (by omega) (.slice A2 R.2.2.length c2) R.2.2 ⟨f0, f1, f2⟩ [.string f0, .string f1, .int .i64 f2] (fun _ => True) (fun _ => False) (by rfl) (by rfl) ?bP (fun _ hk => hk.elim) (fun _ _ => trivial) (Kd.R_drew X5.out.r2) (below_drew1 X5.out.low) X5.out.low.size (by have := LM.out; omega) ?_
      case bP => exact k101_mkM _ _ _ (⟨f0, f1, f2⟩ : S101)
      intro v9 w9 ho hb hg hat
      obtain ⟨A7, c7, e7⟩ := Kd.R_slice ho
      subst e7
      have eL : (R.2.2 ++ [(⟨f0, f1, f2⟩ : S101)]).length = R.2.2.length + 1 := (by simp)
      rw [eL] at ho hat
      have hrg := blk_grown (blk_drew X5.out.blk) hg (Kd.R_ne X5.out.r2 X5.out.blk (by decide))
      have cc := (blk_cell hrg 2).trans rfl
      have ff := blk_frozen hrg 2
      have hbx := blk_grown (blk_drew BK5.out) hg hne
      have hR7 := Aside0.mk (HX.out.app2 (below_drew1 HB5.out) ho hg hb hat)
      refine hK.out _ _ ⟨cc, (blk_cell hbx 0).trans rfl, (blk_cell hbx 1).trans rfl, (blk_cell hbx 2).trans rfl⟩ (fun hHeld => ?_)
      clear hK K
      refine norm_ (a' := ?_) ?_ ?_
      rotate_left
      ·show Act.put _ (some 54) _ = _
       simp only [Act.put, List.setIfInBounds_toArray, List.set_cons_zero, List.set_cons_succ, i64_w, i32_w]
       rfl
      refine pk_ 8 (some 55) (fl 11 511) ?_
      refine pk_ 9 (some 56) (fl 11 1023) ?_
      refine last_ (i := 10) (N := none) (fl 11 2047) rfl rfl (by kernel_rfl) (by decide) (fun K hK => ?_)
      refine skip_ (w1 := ?_) (by rfl) rfl ?_ ?_
      rotate_left
      ·go_simp
       rfl
      refine hK.out _ _ ?_
      clear hK K
      refine done_ (by kernel_rfl) ?_
      go_wp2
      go_ret
      try simp only [if_true, if_false, Bool.false_eq_true]
      exact ⟨rfl, hR7.out⟩
 ·have h1' := eq_false h1
  have h1n : ix < 0 := by omega
  go_enter Tryz.func86, Tryz.ntmps86
  go_wp2_with (first | ((with_reducible refine gd_ 3 rfl ?_); refine be_ 3 #[.string f0, .string f1, .int .i64 f2] 101 ?_; intro gb hgb w2 hbox hb; have BK2 := Aside0.mk hbox; have HB2 := Aside0.mk hb; have GB := Aside0.mk (Nat.le_of_eq hgb.symm); clear hbox hb hgb; have b20 := (blk_cell BK2.out 0).trans rfl; have b21 := (blk_cell BK2.out 1).trans rfl; have b22 := (blk_cell BK2.out 2).trans rfl; have X2 := Aside0.mk (HX.out.step HB2.out); have c20 := X2.out.c0; have c22 := X2.out.c2) | (go_at_call 102; (with_reducible refine (I1.out _ HB2.out).mono ?_); rintro e w3 ⟨rfl, hb⟩; subst hb) | (go_at_call 103; (with_reducible refine (I2.out _ HB2.out).mono ?_); rintro e w4 ⟨rfl, hb⟩; subst hb) | fail)
  go_ret
  try simp only [if_true, if_false, Bool.false_eq_true]
  exact ⟨rfl, HX.out.same HB2.out⟩
section
variable {w0 w : World} {gc : Nat}
theorem rig_three {α : Type} {d : Kd α} {e base : Nat} {ok : Nat → Prop} {v : Value} {xs : List α} (h : d.R e w base ok v xs) (hE : d.E = []) (he : e ≠ 37) {a b c x y z : Value} (hb : w.heap[gc]? = some (.cells #[a, b, c] 37 (0, 0))) :
  d.R e (((w.setCell ⟨gc, 0, none⟩ x).setCell ⟨gc, 1, none⟩ y).setCell ⟨gc, 2, none⟩ z) base ok v xs :=
 Kd.R_set (Kd.R_set (Kd.R_set h hb (fun q hq => eTy hE he hq) 0 x) (blk_set hb 0 x) (fun q hq => eTy hE he hq) 1 y) (blk_set (blk_set hb 0 x) 1 y) (fun q hq => eTy hE he hq) 2 z
theorem rig_blk {a b c x y z : Value} (hb : w.heap[gc]? = some (.cells #[a, b, c] 37 (0, 0))) : (((w.setCell ⟨gc, 0, none⟩ x).setCell ⟨gc, 1, none⟩ y).setCell ⟨gc, 2, none⟩ z).heap[gc]? = some (.cells #[x, y, z] 37 (0, 0)) := blk_set (blk_set (blk_set hb 0 x) 1 y) 2 z
theorem rig_low {x y z : Value} {b : Nat} (h : Below b w0 w) (hg : b ≤ gc) : Below b w0 (((w.setCell ⟨gc, 0, none⟩ x).setCell ⟨gc, 1, none⟩ y).setCell ⟨gc, 2, none⟩ z) :=
 ((h.setCell (p := ⟨gc, 0, none⟩) hg x).setCell (p := ⟨gc, 1, none⟩) hg y).setCell (p := ⟨gc, 2, none⟩) hg z
end
def railsP : List S97 → RT → Option RT
 | [], R => some R
 | x :: l, R => if (addRailP R x).1 = 0 then railsP l (addRailP R x).2 else none
def linesP : List ByteArray → RT → Option RT
 | [], R => some R
 | x :: l, R => if (addLineP R x).1 = 0 then linesP l (addLineP R x).2 else none
def belaysP : List S101 → RT → Option RT
 | [], R => some R
 | x :: l, R => if (addBelayP R x).1 = 0 then belaysP l (addBelayP R x).2 else none
def rigOkP (X : RT) : Bool := (railsP X.1 ([], [], [])).any fun R => (linesP X.2.1 R).any fun R => (belaysP X.2.2 R).isSome
theorem rail_cap (R : RT) (r : S97) (h : R.1.length ≤ 10 ∧ R.2.1.length ≤ 60) : ((addRailP R r).2.1.length ≤ 10 ∧ (addRailP R r).2.2.1.length ≤ 60) ∧ (addRailP R r).2.2.2 = R.2.2 := by
 unfold addRailP
 repeat' split
 all_goals (first | exact ⟨h, rfl⟩ | exact ⟨⟨by show (R.1 ++ [r]).length ≤ 10; rw [List.length_append, List.length_singleton]; omega, h.2⟩, rfl⟩)
theorem line_cap (R : RT) (r : ByteArray) (h : R.1.length ≤ 10 ∧ R.2.1.length ≤ 60) : ((addLineP R r).2.1.length ≤ 10 ∧ (addLineP R r).2.2.1.length ≤ 60) ∧ (addLineP R r).2.2.2 = R.2.2 := by
 unfold addLineP
 repeat' split
 all_goals (first | exact ⟨h, rfl⟩ | exact ⟨⟨h.1, by show (R.2.1 ++ [r]).length ≤ 60; rw [List.length_append, List.length_singleton]; omega⟩, rfl⟩)
theorem belay_len (R : RT) (b : S101) : (addBelayP R b).2.2.2.length ≤ R.2.2.length + 1 := by
 unfold addBelayP
 repeat' split
 all_goals (first | exact Nat.le_succ _ | (show (R.2.2 ++ [b]).length ≤ _; rw [List.length_append, List.length_singleton]; exact Nat.le_refl _))
theorem belay_cap (R : RT) (b : S101) (h : R.1.length ≤ 10 ∧ R.2.1.length ≤ 60) : (addBelayP R b).2.1.length ≤ 10 ∧ (addBelayP R b).2.2.1.length ≤ 60 := by
 unfold addBelayP
 repeat' split
 all_goals exact h
theorem rs_apart {w0 w : World} {g gy : Nat} {v0 v1 v2 a b c : Value} {R : RT} (hp : Rg w0 w gy v0 v1 v2 R) (hb : w.heap[g]? = some (.cells #[a, b, c] 37 (0, 0))) (hne : g ≠ gy) : ¬ RS gy v0 v1 v2 g := by
 rintro (e | e | e | e)
 ·exact hne e
 ·exact Kd.R_ne hp.r0 hb (by decide) e.symm
 ·exact Kd.R_ne hp.r1 hb (by decide) e.symm
 ·exact Kd.R_ne hp.r2 hb (by decide) e.symm
theorem l19Ok_calls (g : Nat) (A0 A1 A2 : Option Addr) (c0 c1 c2 : Nat) (X : RT) (w : World) (hg0 : w.cell? ⟨g, 1, none⟩ = some (.slice A0 X.1.length c0)) (hg1 : w.cell? ⟨g, 2, none⟩ = some (.slice A1 X.2.1.length c1)) (hg2 : w.cell? ⟨g, 3, none⟩ = some (.slice A2 X.2.2.length c2)) (hr0 : Kd.C k97 w A0 X.1.length X.1) (hr1 : Kd.C Kd.string w A1 X.2.1.length X.2.1) (hr2 : Kd.C k101 w A2 X.2.2.length X.2.2) (hlen : X.2.2.length ≤ 1048576) :
  Calls Tryz.prog 53 #[.pointer (some ⟨g, 1, none⟩)] w fun e w' => e = .returned (.bool (rigOkP X)) ∧ Below w.heap.size w w' := by
 have hm0 := Kd.C_max hr0
 have hm1 := Kd.C_max hr1
 have hm2 := Kd.C_max hr2
 have HR0 := Aside0.mk hr0
 have HR1 := Aside0.mk hr1
 have HR2 := Aside0.mk hr2
 have HG0 := Aside0.mk hg0
 have HG1 := Aside0.mk hg1
 have HG2 := Aside0.mk hg2
 have HL := Aside0.mk hlen
 clear hr0 hr1 hr2 hlen hg0 hg1 hg2
 obtain ⟨tgt, htg⟩ : ∃ tgt, rigOkP X = tgt := ⟨_, rfl⟩
 rw [htg]
 unfold rigOkP at htg
 have HT := Aside0.mk htg
 clear htg
 have hu := Tryz.underlying37
 go_enter Tryz.func53, Tryz.ntmps53
 go_upto_region 2 with (first | (go_at_call 83; (with_reducible refine (spec_l19Empty.calls [] [] [] _ rfl).mono ?_); rintro e w3 ⟨v0, v1, v2, rfl, ho0, ho1, ho2, hb3⟩; have HE := Aside0.mk (And.intro ho0 (And.intro ho1 ho2)); have HB3 := Aside0.mk hb3; obtain ⟨B0, d0, q0⟩ := Kd.R_slice ho0; subst q0; obtain ⟨B1, d1, q1⟩ := Kd.R_slice ho1; subst q1; obtain ⟨B2, d2, q2⟩ := Kd.R_slice ho2; subst q2; clear ho0 ho1 ho2 hb3) | ((with_reducible refine gd_ 3 rfl ?_); refine be_ 3 #[.slice none 0 0, .slice none 0 0, .slice none 0 0] 37 ?_; intro gy hg w4 hbox hb; have BG := Aside0.mk hbox; have HB4 := Aside0.mk hb; have GG := Aside0.mk (Nat.le_of_eq hg.symm); clear hbox hb hg; have e0 := (blk_cell BG.out 0).trans rfl; have e1 := (blk_cell BG.out 1).trans rfl; have e2 := (blk_cell BG.out 2).trans rfl; have ef : ∀ o, w4.frozen? ⟨gy, o, none⟩ = false := fun o => blk_frozen BG.out o) | fail)
 obtain ⟨w5, hw5⟩ : ∃ w5, w5 = (((w4.setCell ⟨gy, 0, none⟩ (.slice B0 0 d0)).setCell ⟨gy, 1, none⟩ (.slice B1 0 d1)).setCell ⟨gy, 2, none⟩ (.slice B2 0 d2)) := ⟨_, rfl⟩
 have hX5 : Aside0 (Rg w w5 gy (.slice B0 0 d0) (.slice B1 0 d1) (.slice B2 0 d2) ([], [], [])) := ⟨hw5 ▸ ⟨rig_blk BG.out, Nat.le_trans (below_size HB3.out) GG.out, rig_three (Kd.R_below HE.out.1 HB4.out) rfl (by decide) BG.out, rig_three (Kd.R_below HE.out.2.1 HB4.out) rfl (by decide) BG.out, rig_three (Kd.R_below HE.out.2.2 HB4.out) rfl (by decide) BG.out, rig_low (below_step HB3.out HB4.out) (Nat.le_trans (below_size HB3.out) GG.out)⟩⟩
 rw [← hw5]
 clear hw5 e0 e1 e2 ef HE BG HB4 GG
 go_wp2
 go_loopw [4] (fun v4 w' => ∃ (i : Nat) (u0 u1 u2 : Value) (R : RT), v4 = .int .i64 (i : Int) ∧ i ≤ X.1.length ∧ Aside0 (Rg w w' gy u0 u1 u2 R) ∧ Aside0 (R.1.length ≤ 10 ∧ R.2.1.length ≤ 60) ∧ Aside0 (R.2.2.length ≤ 0) ∧ Aside0 ((railsP (X.1.drop i) R).any (fun R => (linesP X.2.1 R).any fun R => (belaysP X.2.2 R).isSome) = tgt)) (fun v4 _ => X.1.length - (intOf v4).toNat)
 case atStart => exact ⟨0, _, _, _, _, rfl, Nat.zero_le _, hX5, ⟨by simp, by simp⟩, ⟨by simp⟩, HT⟩
 case round =>
  clear hX5 HT
  obtain ⟨i, u0, u1, u2, R, rfl, hi, hp, hcp, hbl, hr⟩ := hrel
  by_cases hlt : i < X.1.length
  ·have hr2 := hr.out
   rw [List.drop_eq_getElem_cons hlt] at hr2
   unfold railsP at hr2
   have q1 : (0 : Int) ≤ (i : Int) := Int.natCast_nonneg i
   have q2 : (i : Int) < (X.1.length : Int) := Int.ofNat_lt.2 hlt
   have cg_ := pw_cell_below hp.out.low HG0.out
   obtain ⟨ad, ea, d0, d1, d2⟩ := at_T97 (Kd.C_below HR0.out hp.out.low) (i : Int) q1 q2
   subst ea
   rw [Int.toNat_natCast] at d0 d1 d2
   rw [rdRail X.1 i hlt] at d0 d1 d2
   have hlr := l19AddRail_calls gy u0 u1 u2 R X.1[i] w wr hp.out
   have hcc := rail_cap R X.1[i] hcp.out
   generalize X.1[i] = x at *
   obtain ⟨pr, hpr⟩ : ∃ pr, addRailP R x = pr := ⟨_, rfl⟩
   rw [hpr] at hr2 hlr hcc
   clear hpr
   obtain ⟨kk, R2⟩ := pr
   simp only at hr2 hlr hcc
   have ILR := Aside0.mk hlr
   have HCC := Aside0.mk hcc
   clear hlr hcc hr
   by_cases hk : kk = 0
   ·subst hk
    rw [if_pos rfl] at hr2
    have HR8 := Aside0.mk hr2
    clear hr2
    go_wp2_with (first | (go_at_call 84; (with_reducible refine ILR.out.mono ?_); rintro e w8 ⟨rfl, hT⟩; have HTT := Aside0.mk hT; clear hT) | fail)
    obtain ⟨z0, z1, z2, hq8, hk8_, -⟩ := HTT.out
    have hk8 := Aside0.mk hk8_
    have hp8 := Aside0.mk hq8
    go_roundw
    case rel => exact ⟨i + 1, _, _, _, _, by go_num, by omega, hp8, ⟨HCC.out.1⟩, ⟨by rw [HCC.out.2]; exact hbl.out⟩, HR8⟩
    case measure => simp [intOf]; omega
   ·rw [if_neg hk] at hr2
    have k2 : (kk != 0) = true := by simpa using hk
    have HR8 := Aside0.mk hr2
    clear hr2
    go_wp2_with (first | (go_at_call 84; (with_reducible refine ILR.out.mono ?_); rintro e w8 ⟨rfl, hT⟩; have HTT := Aside0.mk hT; clear hT) | fail)
    go_ret
    obtain ⟨z0, z1, z2, hq8, -⟩ := HTT.out
    have hh := HR8.out
    exact ⟨by rw [← hh]; rfl, hq8.low⟩
  ·have hr2 := hr.out
   rw [List.drop_of_length_le (by omega)] at hr2
   unfold railsP at hr2
   have q2 : ¬ (i : Int) < (X.1.length : Int) := by omega
   have cg_ := pw_cell_below hp.out.low HG0.out
   clear hr hi hlt
   replace hr2 : (linesP X.2.1 R).any (fun R => (belaysP X.2.2 R).isSome) = tgt := hr2
   go_wp2
   clear cg_ q2
   go_loopw [5] (fun v5 w' => ∃ (i : Nat) (u0 u1 u2 : Value) (R : RT), v5 = .int .i64 (i : Int) ∧ i ≤ X.2.1.length ∧ Aside0 (Rg w w' gy u0 u1 u2 R) ∧ Aside0 (R.1.length ≤ 10 ∧ R.2.1.length ≤ 60) ∧ Aside0 (R.2.2.length ≤ 0) ∧ Aside0 ((linesP (X.2.1.drop i) R).any (fun R => (belaysP X.2.2 R).isSome) = tgt)) (fun v5 _ => X.2.1.length - (intOf v5).toNat)
   case atStart => exact ⟨0, _, _, _, _, rfl, Nat.zero_le _, hp, hcp, ⟨hbl.out⟩, ⟨hr2⟩⟩
   case round =>
    clear hp hcp hbl hr2
    obtain ⟨i, u0, u1, u2, R, rfl, hi, hp, hcp, hbl, hr⟩ := hrel
    by_cases hlt : i < X.2.1.length
    ·have hr2 := hr.out
     rw [List.drop_eq_getElem_cons hlt] at hr2
     unfold linesP at hr2
     have q1 : (0 : Int) ≤ (i : Int) := Int.natCast_nonneg i
     have q2 : (i : Int) < (X.2.1.length : Int) := Int.ofNat_lt.2 hlt
     have cg_ := pw_cell_below hp.out.low HG1.out
     obtain ⟨ad, ea, d0⟩ := Kd.at_string (Kd.C_below HR1.out hp.out.low) (i : Int) q1 q2
     subst ea
     rw [Int.toNat_natCast] at d0
     rw [rdLine X.2.1 i hlt] at d0
     have hlr := l19AddLine_calls gy u0 u1 u2 R X.2.1[i] w wr hp.out
     have hcc := line_cap R X.2.1[i] hcp.out
     generalize X.2.1[i] = x at *
     obtain ⟨pr, hpr⟩ : ∃ pr, addLineP R x = pr := ⟨_, rfl⟩
     rw [hpr] at hr2 hlr hcc
     clear hpr
     obtain ⟨kk, R2⟩ := pr
     simp only at hr2 hlr hcc
     have ILR := Aside0.mk hlr
     have HCC := Aside0.mk hcc
     clear hlr hcc hr
     by_cases hk : kk = 0
     ·subst hk
      rw [if_pos rfl] at hr2
      have HR8 := Aside0.mk hr2
      clear hr2
      go_wp2_with (first | (go_at_call 85; (with_reducible refine ILR.out.mono ?_); rintro e w8 ⟨rfl, hT⟩; have HTT := Aside0.mk hT; clear hT) | fail)
      obtain ⟨z0, z1, z2, hq8, hk8_, -⟩ := HTT.out
      have hk8 := Aside0.mk hk8_
      have hp8 := Aside0.mk hq8
      go_roundw
      case rel => exact ⟨i + 1, _, _, _, _, by go_num, by omega, hp8, ⟨HCC.out.1⟩, ⟨by rw [HCC.out.2]; exact hbl.out⟩, HR8⟩
      case measure => simp [intOf]; omega
     ·rw [if_neg hk] at hr2
      have k2 : (kk != 0) = true := by simpa using hk
      have HR8 := Aside0.mk hr2
      clear hr2
      go_wp2_with (first | (go_at_call 85; (with_reducible refine ILR.out.mono ?_); rintro e w8 ⟨rfl, hT⟩; have HTT := Aside0.mk hT; clear hT) | fail)
      go_ret
      obtain ⟨z0, z1, z2, hq8, -⟩ := HTT.out
      have hh := HR8.out
      exact ⟨by rw [← hh]; rfl, hq8.low⟩
    ·have hr2 := hr.out
     rw [List.drop_of_length_le (by omega)] at hr2
     unfold linesP at hr2
     have q2 : ¬ (i : Int) < (X.2.1.length : Int) := by omega
     have cg_ := pw_cell_below hp.out.low HG1.out
     clear hr hi hlt
     replace hr2 : (belaysP X.2.2 R).isSome = tgt := hr2
     go_wp2
     clear cg_ q2
     go_loopw [6] (fun v6 w' => ∃ (i : Nat) (u0 u1 u2 : Value) (R : RT), v6 = .int .i64 (i : Int) ∧ i ≤ X.2.2.length ∧ Aside0 (Rg w w' gy u0 u1 u2 R) ∧ Aside0 (R.1.length ≤ 10 ∧ R.2.1.length ≤ 60) ∧ Aside0 (R.2.2.length ≤ i) ∧ Aside0 ((belaysP (X.2.2.drop i) R).isSome = tgt)) (fun v6 _ => X.2.2.length - (intOf v6).toNat)
     case atStart => exact ⟨0, _, _, _, _, rfl, Nat.zero_le _, hp, hcp, ⟨hbl.out⟩, ⟨hr2⟩⟩
     case round =>
      clear hp hcp hbl hr2
      obtain ⟨i, u0, u1, u2, R, rfl, hi, hp, hcp, hbl, hr⟩ := hrel
      by_cases hlt : i < X.2.2.length
      ·have hr2 := hr.out
       rw [List.drop_eq_getElem_cons hlt] at hr2
       unfold belaysP at hr2
       have q1 : (0 : Int) ≤ (i : Int) := Int.natCast_nonneg i
       have q2 : (i : Int) < (X.2.2.length : Int) := Int.ofNat_lt.2 hlt
       have cg_ := pw_cell_below hp.out.low HG2.out
       obtain ⟨ad, ea, d0, d1, d2⟩ := at_T101 (Kd.C_below HR2.out hp.out.low) (i : Int) q1 q2
       subst ea
       rw [Int.toNat_natCast] at d0 d1 d2
       rw [rdBelay X.2.2 i hlt] at d0 d1 d2
       have hlr := l19AddBelay_calls gy u0 u1 u2 R X.2.2[i] w wr hp.out (by have h1 := hbl.out; have h2 := HL.out; omega)
       have hcc := belay_len R X.2.2[i]
       have hcb := belay_cap R X.2.2[i] hcp.out
       generalize X.2.2[i] = x at *
       obtain ⟨pr, hpr⟩ : ∃ pr, addBelayP R x = pr := ⟨_, rfl⟩
       rw [hpr] at hr2 hlr hcc hcb
       clear hpr
       obtain ⟨kk, R2⟩ := pr
       simp only at hr2 hlr hcc hcb
       have ILR := Aside0.mk hlr
       have HCC := Aside0.mk hcc
       have HCB := Aside0.mk hcb
       clear hlr hcc hr hcb
       by_cases hk : kk = 0
       ·subst hk
        rw [if_pos rfl] at hr2
        have HR8 := Aside0.mk hr2
        clear hr2
        go_wp2_with (first | (go_at_call 86; (with_reducible refine ILR.out.mono ?_); rintro e w8 ⟨rfl, hT⟩; have HTT := Aside0.mk hT; clear hT) | fail)
        have HCP8 : Aside0 (R2.1.length ≤ 10 ∧ R2.2.1.length ≤ 60) := HCB
        obtain ⟨z0, z1, z2, hq8, hk8_, -⟩ := HTT.out
        have hk8 := Aside0.mk hk8_
        have hp8 := Aside0.mk hq8
        go_roundw
        case rel => exact ⟨i + 1, _, _, _, _, by go_num, by omega, hp8, HCP8, ⟨by have h1 := HCC.out; have h2 := hbl.out; omega⟩, HR8⟩
        case measure => simp [intOf]; omega
       ·rw [if_neg hk] at hr2
        have k2 : (kk != 0) = true := by simpa using hk
        have HR8 := Aside0.mk hr2
        clear hr2
        go_wp2_with (first | (go_at_call 86; (with_reducible refine ILR.out.mono ?_); rintro e w8 ⟨rfl, hT⟩; have HTT := Aside0.mk hT; clear hT) | fail)
        go_ret
        obtain ⟨z0, z1, z2, hq8, -⟩ := HTT.out
        have hh := HR8.out
        exact ⟨by rw [← hh]; rfl, hq8.low⟩
      ·have hr2 := hr.out
       rw [List.drop_of_length_le (by omega)] at hr2
       unfold belaysP at hr2
       have q2 : ¬ (i : Int) < (X.2.2.length : Int) := by omega
       have cg_ := pw_cell_below hp.out.low HG2.out
       clear hr hi hlt
       go_wp2
       go_ret
       exact ⟨by rw [← hr2]; rfl, hp.out.low⟩
def coilOkP (x : S69) : Bool := isNameB x.f0 && decide (1 ≤ x.f1 ∧ x.f1 ≤ 100000)
def coilsOkP (l : List S69) : Bool := l.all coilOkP && decide ((l.length : Int) ≤ 40)
theorem rdCoil (xs : List S69) (i : Nat) (h : i < xs.length) : rd_T69 xs (i : Int) = xs[i] := by
 unfold rd_T69; rw [Int.toNat_natCast, List.getD_eq_getElem?_getD, List.getElem?_eq_getElem h]; rfl
theorem l23One_at (p : Addr) (x : S69) (w : World) (h0 : w.cell? p = some (.string x.f0)) (h1 : w.cell? ⟨p.block, p.off + 1, none⟩ = some (.int .i64 x.f1)) :
  Calls Tryz.prog 87 #[.pointer (some p)] w fun e w' => e = .returned (.bool (coilOkP x)) ∧ Below w.heap.size w w' := by
 have I1 := Aside0.mk (name_c x.f0)
 have I2 := Aside0.mk (in_c x.f1 1 100000)
 have H1 := Aside0.mk h1
 clear h1
 unfold coilOkP
 generalize isNameB x.f0 = b1 at *
 generalize decide (1 ≤ x.f1 ∧ x.f1 ≤ 100000) = b2 at *
 cases b1 with
 | false =>
  go_enter Tryz.func87, Tryz.ntmps87
  go_wp2_with (first | (go_at_call 101; (with_reducible refine (I1.out _).mono ?_); rintro e w3 ⟨rfl, hb⟩; have HB3 := Aside0.mk hb; clear hb) | fail)
  go_ret
  exact ⟨rfl, HB3.out⟩
 | true =>
  go_enter Tryz.func87, Tryz.ntmps87
  go_wp2_with (first | (go_at_call 101; (with_reducible refine (I1.out _).mono ?_); rintro e w3 ⟨rfl, hb⟩; have HB3 := Aside0.mk hb; have h13 := pw_cell_below hb H1.out; clear hb) | (go_at_call 52; (with_reducible refine (I2.out _).mono ?_); rintro e w4 ⟨rfl, hb⟩; have HB4 := Aside0.mk (below_step HB3.out hb); clear hb) | fail)
  go_ret
  exact ⟨rfl, HB4.out⟩
theorem l23Ok_at (A : Option Addr) (c : Nat) (l : List S69) (w : World) (hr : Kd.C k69 w A l.length l) :
  Calls Tryz.prog 54 #[.slice A l.length c] w fun e w' => e = .returned (.bool (coilsOkP l)) ∧ Below w.heap.size w w' := by
 have hm := Kd.C_max hr
 have HR := Aside0.mk hr
 clear hr
 obtain ⟨tgt, htg⟩ : ∃ tgt, coilsOkP l = tgt := ⟨_, rfl⟩
 rw [htg]
 unfold coilsOkP at htg
 have HT := Aside0.mk htg
 clear htg
 go_enter Tryz.func54, Tryz.ntmps54
 go_wp2
 go_loopw [3] (fun v3 w' => ∃ i : Nat, v3 = .int .i64 (i : Int) ∧ i ≤ l.length ∧ Aside0 (((l.drop i).all coilOkP && decide ((l.length : Int) ≤ 40)) = tgt) ∧ Aside0 (Below w.heap.size w w')) (fun v3 _ => l.length - (intOf v3).toNat)
 case atStart => exact ⟨0, rfl, Nat.zero_le _, HT, ⟨Below.refl _ _⟩⟩
 case round =>
  clear HT
  obtain ⟨i, rfl, hi, hr, hw⟩ := hrel
  by_cases hlt : i < l.length
  ·have q1 : (0 : Int) ≤ (i : Int) := Int.natCast_nonneg i
   have q2 : (i : Int) < (l.length : Int) := Int.ofNat_lt.2 hlt
   have hr2 := hr.out
   rw [List.drop_eq_getElem_cons hlt, List.all_cons] at hr2
   obtain ⟨ad, ea, d0, d1⟩ := at_T69 (Kd.C_below HR.out hw.out) (i : Int) q1 q2
   subst ea
   rw [Int.toNat_natCast] at d0 d1
   rw [rdCoil l i hlt] at d0 d1
   have I1 := Aside0.mk (l23One_at (ad.add (i * 2)) l[i] wr d0 d1)
   generalize coilOkP l[i] = b at *
   clear d0 d1 hr
   cases b with
   | false =>
    go_wp2_with (first | (go_at_call 87; (with_reducible refine I1.out.mono ?_); rintro e w3 ⟨rfl, hb⟩; have HB3 := Aside0.mk (below_step hw.out hb); clear hb) | fail)
    go_ret
    exact ⟨by rw [← hr2]; rfl, HB3.out⟩
   | true =>
    have HR2 := Aside0.mk hr2
    clear hr2
    go_wp2_with (first | (go_at_call 87; (with_reducible refine I1.out.mono ?_); rintro e w3 ⟨rfl, hb⟩; have HB3 := Aside0.mk (below_step hw.out hb); clear hb) | fail)
    go_roundw
    case rel => exact ⟨i + 1, by go_num, by omega, ⟨by have h1 := HR2.out; rw [Bool.true_and] at h1; exact h1⟩, HB3⟩
    case measure => simp [intOf]; omega
  ·have hr2 := hr.out
   rw [List.drop_of_length_le (by omega), List.all_nil, Bool.true_and] at hr2
   have q2 : ¬ (i : Int) < (l.length : Int) := by omega
   clear hr hi hlt
   subst hr2
   go_wp2
   go_ret
   exact ⟨rfl, hw.out⟩
theorem read_c (k : Nat) (s : ByteArray) (l : List S132) (n : Int) (h : spec_l27Read.f k s = some (l, n)) : ∀ w, Calls Tryz.prog 70 #[.string s] w fun e w' => ∃ A c, e = .returned (.tuple #[.slice A l.length c, .int .i64 n]) ∧ Kd.R k132 132 w' w.heap.size (fun _ => True) (.slice A l.length c) l ∧ Below w.heap.size w w' := fun w => by
 refine (spec_l27Read.calls k s l n w h).mono ?_
 rintro e w' ⟨v, he, hr, hb⟩
 obtain ⟨A, c, rfl⟩ := Kd.R_slice hr
 exact ⟨A, c, he, hr, hb⟩
theorem l27Ok_at (k g : Nat) (kp wt s0 s1 : ByteArray) (b : Bool) (w : World) (hk : w.cell? ⟨g, 5, none⟩ = some (.string kp)) (hw : w.cell? ⟨g, 6, none⟩ = some (.string wt)) (h : spec_l27Ok.f k kp wt = some (b, s0, s1)) :
  Calls Tryz.prog 69 #[.pointer (some ⟨g, 5, none⟩)] w fun e w' => (e = .returned (.bool b) ∧ s0 = kp ∧ s1 = wt) ∧ Below w.heap.size w w' := by
 unfold spec_l27Ok.f at h
 replace h := Option.bind_eq_some_iff.mp h
 obtain ⟨⟨l, n⟩, hu, h⟩ := h
 have I1 := Aside0.mk (read_c k wt l n hu)
 have HK := Aside0.mk hk
 have HW := Aside0.mk hw
 clear hu
 replace h : (if n = (wt.size : Int) then some (decide (wrap64 ((kp.size : Int) + (wt.size : Int)) ≤ 4000), kp, wt) else some (false, kp, wt)) = some (b, s0, s1) := h
 by_cases c3 : n = (wt.size : Int)
 ·rw [if_pos c3] at h
  have c3b0 : (n == (wt.size : Int)) = true := beq_iff_eq.mpr c3
  clear c3
  simp only [Option.some.injEq, Prod.mk.injEq] at h
  obtain ⟨rfl, rfl, rfl⟩ := h
  go_enter Tryz.func69, Tryz.ntmps69
  go_wp2_with (first | (go_at_call 70; (with_reducible refine (I1.out _).mono ?_); rintro e w3 ⟨Aw3, cw3, rfl, ho, hb⟩; have HOw3 := Aside0.mk ho; have HB3 := Aside0.mk (below_step (Below.refl w.heap.size w) hb); have kw3 := pw_cell_below HB3.out HK.out; have ww3_ := pw_cell_below HB3.out HW.out; clear hb ho) | fail)
  repeat (go_quiet (fail))
  go_wp2
  go_ret
  exact ⟨⟨by first | rfl | (simp; done), by first | rfl | trivial, by first | rfl | trivial⟩, by repeat (first | exact HB3.out | apply pw_below_drewN | apply below_drew1)⟩
 ·rw [if_neg c3] at h
  have c3b0 : (n == (wt.size : Int)) = false := beq_eq_false_iff_ne.mpr c3
  clear c3
  simp only [Option.some.injEq, Prod.mk.injEq] at h
  obtain ⟨rfl, rfl, rfl⟩ := h
  go_enter Tryz.func69, Tryz.ntmps69
  go_wp2_with (first | (go_at_call 70; (with_reducible refine (I1.out _).mono ?_); rintro e w3 ⟨Aw3, cw3, rfl, ho, hb⟩; have HOw3 := Aside0.mk ho; have HB3 := Aside0.mk (below_step (Below.refl w.heap.size w) hb); have kw3 := pw_cell_below HB3.out HK.out; have ww3_ := pw_cell_below HB3.out HW.out; clear hb ho) | fail)
  repeat (go_quiet (fail))
  go_wp2
  go_ret
  exact ⟨⟨by first | rfl | (simp; done), by first | rfl | trivial, by first | rfl | trivial⟩, by repeat (first | exact HB3.out | apply pw_below_drewN | apply below_drew1)⟩
theorem l27All_at (k g : Nat) (kp wt s0 s1 : ByteArray) (r1 : List S132) (r2 : Int) (w : World) (hk : w.cell? ⟨g, 5, none⟩ = some (.string kp)) (hw : w.cell? ⟨g, 6, none⟩ = some (.string wt)) (h : spec_l27All.f k kp wt = some (r1, r2, s0, s1)) :
  Calls Tryz.prog 34 #[.pointer (some ⟨g, 5, none⟩)] w fun e w' => ∃ A c, e = .returned (.tuple #[.slice A r1.length c, .int .i64 r2]) ∧ Kd.R k132 132 w' w.heap.size (fun _ => True) (.slice A r1.length c) r1 ∧ Below w.heap.size w w' := by
 unfold spec_l27All.f at h
 replace h := Option.bind_eq_some_iff.mp h
 obtain ⟨⟨b, t0, t1⟩, hu, h⟩ := h
 have hs : t0 = kp ∧ t1 = wt := by
  have hu2 := hu
  unfold spec_l27Ok.f at hu2
  replace hu2 := Option.bind_eq_some_iff.mp hu2
  obtain ⟨⟨l, n⟩, -, hu2⟩ := hu2
  simp only at hu2
  split at hu2 <;> simp only [Option.some.injEq, Prod.mk.injEq] at hu2 <;> exact ⟨hu2.2.1.symm, hu2.2.2.symm⟩
 obtain ⟨rfl, rfl⟩ := hs
 have I0 := Aside0.mk (l27Ok_at k g t0 t1 _ _ b w hk hw hu)
 have HK := Aside0.mk hk
 have HW := Aside0.mk hw
 clear hu hk hw
 simp only at h
 cases b with
 | false =>
  rw [if_neg (by simp)] at h
  simp only [Option.some.injEq, Prod.mk.injEq] at h
  obtain ⟨rfl, rfl, rfl, rfl⟩ := h
  go_enter Tryz.func34, Tryz.ntmps34
  go_wp2_with (first | (go_at_call 69; (with_reducible refine I0.out.mono ?_); rintro e w3 ⟨⟨rfl, -, -⟩, hb⟩; have HB3 := Aside0.mk hb; have k3 := pw_cell_below hb HK.out; have w3_ := pw_cell_below hb HW.out; clear hb) | fail)
  go_ret2
  exact ⟨none, 0, rfl, Kd.R_nil _ _ _ _ _, HB3.out⟩
 | true =>
  rw [if_pos rfl] at h
  replace h := Option.bind_eq_some_iff.mp h
  obtain ⟨⟨l1, n1⟩, hu1, h⟩ := h
  have I1 := Aside0.mk (read_c k t0 l1 n1 hu1)
  clear hu1
  simp only at h
  by_cases c3 : n1 < (t0.size : Int)
  ·rw [if_pos c3] at h
   simp only [Option.some.injEq, Prod.mk.injEq] at h
   obtain ⟨rfl, rfl, rfl, rfl⟩ := h
   go_enter Tryz.func34, Tryz.ntmps34
   go_wp2_with (first | (go_at_call 69; (with_reducible refine I0.out.mono ?_); rintro e w3 ⟨⟨rfl, -, -⟩, hb⟩; have HB3 := Aside0.mk hb; have k3 := pw_cell_below hb HK.out; have w3_ := pw_cell_below hb HW.out; clear hb) | (go_at_call 70; (with_reducible refine (I1.out _).mono ?_); rintro e w4 ⟨A4, c4, rfl, ho, hb⟩; have HO4 := Aside0.mk ho; have HB4 := Aside0.mk (below_step HB3.out hb); have k4 := pw_cell_below HB4.out HK.out; have w4_ := pw_cell_below HB4.out HW.out; clear hb ho) | fail)
   go_ret2
   exact ⟨none, 0, rfl, Kd.R_nil _ _ _ _ _, HB4.out⟩
  ·rw [if_neg c3] at h
   replace h := Option.bind_eq_some_iff.mp h
   obtain ⟨⟨l2, n2⟩, hu2, h⟩ := h
   have I2 := Aside0.mk (read_c k t1 l2 n2 hu2)
   clear hu2
   simp only at h
   by_cases c4 : l1.length + l2.length < 3518437208883
   ·rw [if_pos c4] at h
    have LM := Aside0.mk c4
    clear c4
    simp only [Option.some.injEq, Prod.mk.injEq] at h
    obtain ⟨rfl, rfl, rfl, rfl⟩ := h
    go_enter Tryz.func34, Tryz.ntmps34
    go_upto_region 4 with (first | (go_at_call 69; (with_reducible refine I0.out.mono ?_); rintro e w3 ⟨⟨rfl, -, -⟩, hb⟩; have HB3 := Aside0.mk hb; have k3 := pw_cell_below hb HK.out; have w3_ := pw_cell_below hb HW.out; clear hb) | (go_at_call 70; (with_reducible refine (I1.out _).mono ?_); rintro e w4 ⟨A4, c4, rfl, ho, hb⟩; have HO4 := Aside0.mk ho; have HB4 := Aside0.mk (below_step HB3.out hb); have k4 := pw_cell_below HB4.out HK.out; have w4_ := pw_cell_below HB4.out HW.out; clear hb ho) | fail)
    go_wp2_with (first | (go_at_call 70; (with_reducible refine (I2.out _).mono ?_); rintro e w5 ⟨A5, c5, rfl, ho, hb⟩; have HO5 := Aside0.mk ho; have HO4' := Aside0.mk (Kd.R_below (Kd.R_lower HO4.out (below_size HB3.out)) hb); have HB5 := Aside0.mk (below_step HB4.out hb); clear hb ho) | ((with_reducible refine gate_builtin (b := .append) (xs := #[.tmp 34, .tmp 35]) rfl ?_); at_builtin; refine Kd.R_append_rows k132 (w0 := w) w.heap.size rfl (.tmp 34) (.tmp 35) 70 132 (.agg #[(.int .i64 0), (.string ⟨#[]⟩), (.string ⟨#[]⟩)]) 40 rfl Tryz.underlying70 info132 rfl (by decide) (by omega) (.slice A4 l1.length c4) l1 l2 _ _ _ (fun _ => True) (fun _ => False) rfl rfl ?aO ?aR (fun _ _ h => h) (fun _ h => h.elim) (fun _ _ => trivial) ?aB ?aS ?aL ?_; (case aB => exact HB5.out); (case aR => exact (Kd.R_reads' HO5.out).2.2); (case aO => exact HO4'.out); (case aS => exact below_size HB5.out); (case aL => have := LM.out; omega); intro v6 w6 ho hb hg hat; obtain ⟨A6, c6, e6⟩ := Kd.R_slice ho; subst e6; have HO6 := Aside0.mk ho; have HB6 := Aside0.mk hb; clear ho hb hg hat) | fail)
    go_ret2
    exact ⟨A6, c6, by first | rfl | (simp only [List.length_append]; rfl), HO6.out, HB6.out⟩
   ·rw [if_neg c4] at h
    cases h
theorem l28Whole_at (k g : Nat) (kp wt s0 s1 : ByteArray) (b : Bool) (w : World) (hk : w.cell? ⟨g, 5, none⟩ = some (.string kp)) (hw : w.cell? ⟨g, 6, none⟩ = some (.string wt)) (h : spec_l28Whole.f k kp wt = some (b, s0, s1)) :
  Calls Tryz.prog 55 #[.pointer (some ⟨g, 5, none⟩)] w fun e w' => e = .returned (.bool b) ∧ Below w.heap.size w w' := by
 unfold spec_l28Whole.f at h
 replace h := Option.bind_eq_some_iff.mp h
 obtain ⟨⟨l, n, t0, t1⟩, hu, h⟩ := h
 simp only [Option.some.injEq, Prod.mk.injEq] at h
 obtain ⟨rfl, rfl, rfl⟩ := h
 have I1 := Aside0.mk (l27All_at k g kp wt _ _ l n w hk hw hu)
 clear hu hk hw
 go_enter Tryz.func55, Tryz.ntmps55
 go_wp2_with (first | (go_at_call 34; (with_reducible refine I1.out.mono ?_); rintro e w3 ⟨A3, c3, rfl, -, hb⟩; have HB3 := Aside0.mk hb; clear hb) | fail)
 go_ret
 exact ⟨rfl, HB3.out⟩
def deskOkP (k : Nat) (d : Int) (X : RT) (cl : List S69) (kp wt : ByteArray) : Option Bool := if decide (0 ≤ d ∧ d ≤ 20000) = true then (if rigOkP X = true then (if coilsOkP cl = true then (spec_l28Whole.f k kp wt).bind fun t => some t.1 else some false) else some false) else some false
theorem l28Ok_at (k g : Nat) (d : Int) (A1 A2 A3 A4 : Option Addr) (c1 c2 c3 c4 : Nat) (X : RT) (cl : List S69) (kp wt : ByteArray) (b : Bool) (w : World) (hlen : X.2.2.length ≤ 1048576) (h0 : w.cell? ⟨g, 0, none⟩ = some (.int .i64 d)) (h1 : w.cell? ⟨g, 1, none⟩ = some (.slice A1 X.1.length c1)) (h2 : w.cell? ⟨g, 2, none⟩ = some (.slice A2 X.2.1.length c2)) (h3 : w.cell? ⟨g, 3, none⟩ = some (.slice A3 X.2.2.length c3)) (h4 : w.cell? ⟨g, 4, none⟩ = some (.slice A4 cl.length c4)) (h5 : w.cell? ⟨g, 5, none⟩ = some (.string kp)) (h6 : w.cell? ⟨g, 6, none⟩ = some (.string wt)) (r1 : Kd.C k97 w A1 X.1.length X.1) (r2 : Kd.C Kd.string w A2 X.2.1.length X.2.1) (r3 : Kd.C k101 w A3 X.2.2.length X.2.2) (r4 : Kd.C k69 w A4 cl.length cl) (h : deskOkP k d X cl kp wt = some b) :
  Calls Tryz.prog 20 #[.pointer (some ⟨g, 0, none⟩)] w fun e w' => e = .returned (.bool b) ∧ Below w.heap.size w w' := by
 have I1 := Aside0.mk (in_c d 0 20000)
 have I2 : Aside0 (∀ W, Below w.heap.size w W → Calls Tryz.prog 53 #[.pointer (some ⟨g, 1, none⟩)] W fun e w' => e = .returned (.bool (rigOkP X)) ∧ Below W.heap.size W w') := ⟨fun W hb => l19Ok_calls g A1 A2 A3 c1 c2 c3 X W (pw_cell_below hb h1) (pw_cell_below hb h2) (pw_cell_below hb h3) (Kd.C_below r1 hb) (Kd.C_below r2 hb) (Kd.C_below r3 hb) hlen⟩
 have I3 : Aside0 (∀ W, Below w.heap.size w W → Calls Tryz.prog 54 #[.slice A4 cl.length c4] W fun e w' => e = .returned (.bool (coilsOkP cl)) ∧ Below W.heap.size W w') := ⟨fun W hb => l23Ok_at A4 c4 cl W (Kd.C_below r4 hb)⟩
 have HC1 := Aside0.mk h1
 have HC4 := Aside0.mk h4
 have H5 := Aside0.mk h5
 have H6 := Aside0.mk h6
 unfold deskOkP at h
 clear h1 h2 h3 h4 h5 h6 r1 r2 r3 r4
 generalize decide (0 ≤ d ∧ d ≤ 20000) = b1 at *
 generalize rigOkP X = b2 at *
 generalize coilsOkP cl = b3 at *
 cases b1 with
 | false =>
  rw [if_neg (by simp)] at h
  obtain rfl := Option.some.inj h
  go_enter Tryz.func20, Tryz.ntmps20
  go_wp2_with (first | (go_at_call 52; (with_reducible refine (I1.out _).mono ?_); rintro e w1 ⟨rfl, hb⟩; have HB1 := Aside0.mk hb; have c11 := pw_cell_below hb HC1.out; have c14 := pw_cell_below hb HC4.out; clear hb) | fail)
  go_ret
  exact ⟨rfl, HB1.out⟩
 | true =>
  rw [if_pos rfl] at h
  cases b2 with
  | false =>
   rw [if_neg (by simp)] at h
   obtain rfl := Option.some.inj h
   go_enter Tryz.func20, Tryz.ntmps20
   go_wp2_with (first | (go_at_call 52; (with_reducible refine (I1.out _).mono ?_); rintro e w1 ⟨rfl, hb⟩; have HB1 := Aside0.mk hb; have c11 := pw_cell_below hb HC1.out; have c14 := pw_cell_below hb HC4.out; clear hb) | (go_at_call 53; (with_reducible refine (I2.out _ HB1.out).mono ?_); rintro e w2 ⟨rfl, hb⟩; have HB2 := Aside0.mk (below_step HB1.out hb); have c24 := pw_cell_below HB2.out HC4.out; clear hb) | fail)
   go_ret
   exact ⟨rfl, HB2.out⟩
  | true =>
   rw [if_pos rfl] at h
   cases b3 with
   | false =>
    rw [if_neg (by simp)] at h
    obtain rfl := Option.some.inj h
    go_enter Tryz.func20, Tryz.ntmps20
    go_wp2_with (first | (go_at_call 52; (with_reducible refine (I1.out _).mono ?_); rintro e w1 ⟨rfl, hb⟩; have HB1 := Aside0.mk hb; have c11 := pw_cell_below hb HC1.out; have c14 := pw_cell_below hb HC4.out; clear hb) | (go_at_call 53; (with_reducible refine (I2.out _ HB1.out).mono ?_); rintro e w2 ⟨rfl, hb⟩; have HB2 := Aside0.mk (below_step HB1.out hb); have c24 := pw_cell_below HB2.out HC4.out; clear hb) | (go_at_call 54; (with_reducible refine (I3.out _ HB2.out).mono ?_); rintro e w3 ⟨rfl, hb⟩; have HB3 := Aside0.mk (below_step HB2.out hb); clear hb) | fail)
    go_ret
    exact ⟨rfl, HB3.out⟩
   | true =>
    rw [if_pos rfl] at h
    replace h := Option.bind_eq_some_iff.mp h
    obtain ⟨⟨b4, s0, s1⟩, hu, h⟩ := h
    obtain rfl := Option.some.inj h
    have I4 : Aside0 (∀ W, Below w.heap.size w W → Calls Tryz.prog 55 #[.pointer (some ⟨g, 5, none⟩)] W fun e w' => e = .returned (.bool b4) ∧ Below W.heap.size W w') := ⟨fun W hb => l28Whole_at k g kp wt s0 s1 b4 W (pw_cell_below hb H5.out) (pw_cell_below hb H6.out) hu⟩
    clear hu h
    go_enter Tryz.func20, Tryz.ntmps20
    go_wp2_with (first | (go_at_call 52; (with_reducible refine (I1.out _).mono ?_); rintro e w1 ⟨rfl, hb⟩; have HB1 := Aside0.mk hb; have c11 := pw_cell_below hb HC1.out; have c14 := pw_cell_below hb HC4.out; clear hb) | (go_at_call 53; (with_reducible refine (I2.out _ HB1.out).mono ?_); rintro e w2 ⟨rfl, hb⟩; have HB2 := Aside0.mk (below_step HB1.out hb); have c24 := pw_cell_below HB2.out HC4.out; clear hb) | (go_at_call 54; (with_reducible refine (I3.out _ HB2.out).mono ?_); rintro e w3 ⟨rfl, hb⟩; have HB3 := Aside0.mk (below_step HB2.out hb); clear hb) | (go_at_call 55; (with_reducible refine (I4.out _ HB3.out).mono ?_); rintro e w4 ⟨rfl, hb⟩; have HB4 := Aside0.mk (below_step HB3.out hb); clear hb) | fail)
    go_ret
    exact ⟨rfl, HB4.out⟩
def spec_ValidDesk.f (k : Nat) (a0_0 : Int) (l0_1 : List (S97)) (l0_2 : List (ByteArray)) (l0_3 : List (S101)) (l0_4 : List (S69)) (a0_5 : ByteArray) (a0_6 : ByteArray) : Option (Bool) := if l0_3.length ≤ 1048576 then deskOkP k a0_0 (l0_1, l0_2, l0_3) l0_4 a0_5 a0_6 else none
theorem spec_ValidDesk.mono : ∀ a0 a1 a2 a3 a4 a5 a6 k, LeO (spec_ValidDesk.f k a0 a1 a2 a3 a4 a5 a6) (spec_ValidDesk.f (k + 1) a0 a1 a2 a3 a4 a5 a6) := by
 intro a0 a1 a2 a3 a4 a5 a6 k
 unfold spec_ValidDesk.f deskOkP
 repeat' first
   | (with_reducible exact spec_l28Whole.mono _ _ _)
   | (with_reducible exact LeO.refl _)
   | (with_reducible exact LeO.none _)
   | (with_reducible refine LeO.ite ?_ ?_)
   | (with_reducible refine LeO.bind ?_ (fun _ => ?_))
end
end Go.Proofs.YtkoeeajciciphaaGreatDoor.QFnExactStartAgain
