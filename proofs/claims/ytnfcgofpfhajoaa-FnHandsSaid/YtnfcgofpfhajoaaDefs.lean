/- Plain words of the hours' part: which texts are names, which hands are valid, sums of minutes, pay and streaks. No program in sight, no condition but what each states. -/
import Derived.Test.YtnfcgofpfhajoaaBase
import Derived.Test.YtnfcgofpfhajoaaWMore
namespace Go.Proofs.Ytnfcgofpfhajoaa.Base
open Go.RowKit Go.Proofs.YtnfcgofpfhajoaaW.PrintWords Go.Proofs.YtnfcgofpfhajoaaW.PrintLast

/-- A name: 1 to 12 letters, digits and '-', a letter first. -/
def nameByte (b : Int) : Bool := decide ((97 ≤ b ∧ b ≤ 122) ∨ (48 ≤ b ∧ b ≤ 57) ∨ b = 45)
def isNameB (s : ByteArray) : Bool := decide (0 < s.size ∧ s.size ≤ 12 ∧ 97 ≤ bt s 0 ∧ bt s 0 ≤ 122) && (List.range s.size).all fun i => nameByte (bt s i)
theorem size_toList (s : ByteArray) : s.toList.length = s.size := by rw [ByteArray.toList_eq, Array.length_toList]; rfl
def shiftOk (m : Int) : Bool := decide (0 ≤ m ∧ m ≤ 1440)
def handV (f0 : ByteArray) (f1 : List Int) (f2 : Int) : Bool := f1.all shiftOk && isNameB f0 && decide (f1.length ≤ 14) && decide (0 ≤ f2 ∧ f2 ≤ 100000)
theorem hand_no {f0 : ByteArray} {f1 : List Int} {f2 : Int} {i : Nat} (h : i < f1.length) (hf : shiftOk (rd f1 (i : Int)) = false) : handV f0 f1 f2 = false := by
  unfold handV
  have : f1.all shiftOk = false := by
    rw [List.all_eq_false]
    rw [rd_nat f1 i h] at hf
    exact ⟨f1[i], List.getElem_mem h, by simp [hf]⟩
  rw [this]; rfl
theorem hand_yes {f0 : ByteArray} {f1 : List Int} {f2 : Int} (h : ∀ j, j < f1.length → shiftOk (rd f1 (j : Int)) = true) : handV f0 f1 f2 = (isNameB f0 && decide (f1.length ≤ 14) && decide (0 ≤ f2 ∧ f2 ≤ 100000)) := by
  unfold handV
  have : f1.all shiftOk = true := by
    rw [List.all_eq_true]
    intro x hx
    obtain ⟨i, hi, rfl⟩ := List.getElem_of_mem hx
    rw [← rd_nat f1 i hi]
    exact h i hi
  rw [this]; rfl
def sumW (l : List Int) : Int := l.foldl (fun a m => wrap64 (a + m)) 0
def extraS (lim : Int) (l : List Int) : Int := l.foldl (fun a m => wrap64 (a + mx 0 (wrap64 (m - lim)))) 0
theorem extraS_succ (lim : Int) (l : List Int) (i : Nat) (h : i < l.length) : extraS lim (l.take (i + 1)) = wrap64 (extraS lim (l.take i) + mx 0 (wrap64 (rd l (i : Int) - lim))) := by
  unfold extraS
  rw [List.take_succ_eq_append_getElem h, List.foldl_append, rd_nat l i h]
  rfl
def payS (wage : Int) (l : List Int) (lim ex : Int) : Int := wrap64 (Int.tdiv (wrap64 (wrap64 (wrap64 (wage * sumW l) * 100) + wrap64 (wrap64 (wage * extraS lim l) * ex))) 6000)
def stk1 (s : Int × Int × Int) (x i : Int) : Int × Int × Int := if x = 0 then (s.1, s.2.1, 0) else if s.2.1 < s.2.2 + 1 then (i + 1 - (s.2.2 + 1), s.2.2 + 1, s.2.2 + 1) else (s.1, s.2.1, s.2.2 + 1)
def stkS (l : List Int) : Nat → Int × Int × Int
  | 0 => (0, 0, 0)
  | i + 1 => stk1 (stkS l i) (rd l (i : Int)) i
theorem stk_bd (l : List Int) : ∀ i : Nat, 0 ≤ (stkS l i).1 ∧ (stkS l i).1 ≤ i ∧ 0 ≤ (stkS l i).2.1 ∧ (stkS l i).2.1 ≤ i ∧ 0 ≤ (stkS l i).2.2 ∧ (stkS l i).2.2 ≤ i
  | 0 => by simp [stkS]
  | i + 1 => by
    have h := stk_bd l i
    simp only [stkS, stk1]
    generalize stkS l i = s at h ⊢
    split
    · simp only []; omega
    · split <;> (simp only []; omega)
theorem stk_zero {l : List Int} {i : Nat} {b m n : Int} (h : stkS l i = (b, m, n)) (hx : rd l (i : Int) = 0) : stkS l (i + 1) = (b, m, 0) := by simp only [stkS, stk1, h, if_pos hx]
theorem stk_more {l : List Int} {i : Nat} {b m n : Int} (h : stkS l i = (b, m, n)) (hx : ¬ rd l (i : Int) = 0) (hm : m < n + 1) : stkS l (i + 1) = (i + 1 - (n + 1), n + 1, n + 1) := by simp only [stkS, stk1, h, if_neg hx, if_pos hm]
theorem stk_same {l : List Int} {i : Nat} {b m n : Int} (h : stkS l i = (b, m, n)) (hx : ¬ rd l (i : Int) = 0) (hm : ¬ m < n + 1) : stkS l (i + 1) = (b, m, n + 1) := by simp only [stkS, stk1, h, if_neg hx, if_neg hm]
def stkAns (f1 : List Int) : Int × Int × Int := if (stkS f1 f1.length).2.1 = 0 then (0, 0, 3) else ((stkS f1 f1.length).1, (stkS f1 f1.length).2.1, 0)
theorem bytes_eq {a b : ByteArray} (h : (a.toList == b.toList) = true) : a = b := by
  have h2 : a.toList = b.toList := by simpa using h
  rw [ByteArray.toList_eq, ByteArray.toList_eq] at h2
  have h3 : a.data = b.data := Array.toList_inj.mp h2
  cases a; cases b; exact congrArg ByteArray.mk h3
theorem bytes_ne {a b : ByteArray} (h : (a.toList == b.toList) = false) : ¬ a = b := by
  intro e
  subst e
  simp at h
/-- A text of bytes from 32 to 126. -/
def plainB (s : ByteArray) : Bool := (List.range s.size).all fun i => decide (32 ≤ bt s i ∧ bt s i ≤ 126)
/-- Which entries are valid. -/
def entryV (f0 : Int) (f1 f2 : ByteArray) : Bool := decide (0 ≤ f0 ∧ f0 ≤ 20000) && (isNameB f1 && (plainB f2 && decide (f2.size ≤ 60)))
/-- Hands that are read at i: each is valid, and no two have one name. -/
def fitH (hd : Nat → ByteArray × List Int × Int) (i : Nat) : Bool := handV (hd i).1 (hd i).2.1 (hd i).2.2 && (List.range i).all fun k => !decide ((hd k).1 = (hd i).1)
def handsOk (hd : Nat → ByteArray × List Int × Int) (n : Nat) : Bool := (List.range n).all (fitH hd) && decide (n ≤ 10)
theorem handsOk_no {hd : Nat → ByteArray × List Int × Int} {n i : Nat} (h : i < n) (hf : fitH hd i = false) : handsOk hd n = false := by
  unfold handsOk
  have : (List.range n).all (fitH hd) = false := by
    rw [List.all_eq_false]; exact ⟨i, List.mem_range.2 h, by simp [hf]⟩
  rw [this]; rfl
theorem handsOk_yes {hd : Nat → ByteArray × List Int × Int} {n : Nat} (h : ∀ j, j < n → fitH hd j = true) : handsOk hd n = decide (n ≤ 10) := by
  unfold handsOk
  have : (List.range n).all (fitH hd) = true := by
    rw [List.all_eq_true]; intro x hx; exact h x (List.mem_range.1 hx)
  rw [this]; rfl
theorem fitH_bad {hd : Nat → ByteArray × List Int × Int} {i : Nat} (h : handV (hd i).1 (hd i).2.1 (hd i).2.2 = false) : fitH hd i = false := by unfold fitH; rw [h]; rfl
theorem fitH_twin {hd : Nat → ByteArray × List Int × Int} {i k : Nat} (hk : k < i) (h : (hd k).1 = (hd i).1) : fitH hd i = false := by
  unfold fitH
  have : ((List.range i).all fun k => !decide ((hd k).1 = (hd i).1)) = false := by
    rw [List.all_eq_false]; exact ⟨k, List.mem_range.2 hk, by simp [h]⟩
  rw [this, Bool.and_false]
theorem fitH_good {hd : Nat → ByteArray × List Int × Int} {i : Nat} (h : handV (hd i).1 (hd i).2.1 (hd i).2.2 = true) (g : ∀ k, k < i → ¬ (hd k).1 = (hd i).1) : fitH hd i = true := by
  unfold fitH
  rw [h, Bool.true_and, List.all_eq_true]
  intro k hk
  simp [g k (List.mem_range.1 hk)]

end Go.Proofs.Ytnfcgofpfhajoaa.Base
