/- Plain words of the hours' part: which texts are names, which hands are valid, sums of minutes, pay and streaks. No program in sight, no condition but what each states. -/
import Derived.Test.YtdamlohbplfdgaaDoorBase
import Derived.Test.YtdamlohbplfdgaaDoorWMore
namespace Go.Proofs.YtdamlohbplfdgaaDoor.Base
open Go.RowKit Go.Proofs.YtdamlohbplfdgaaDoorW.PrintWords Go.Proofs.YtdamlohbplfdgaaDoorW.PrintLast

/-- A name: 1 to 12 letters, digits and '-', a letter first. -/
def nameByte (b : Int) : Bool := decide ((97 ≤ b ∧ b ≤ 122) ∨ (48 ≤ b ∧ b ≤ 57) ∨ b = 45)
def isNameB (s : ByteArray) : Bool := decide (0 < s.size ∧ s.size ≤ 12 ∧ 97 ≤ bt s 0 ∧ bt s 0 ≤ 122) && (List.range s.size).all fun i => nameByte (bt s i)
theorem size_toList (s : ByteArray) : s.toList.length = s.size := by rw [ByteArray.toList_eq, Array.length_toList]; rfl
def shiftOk (m : Int) : Bool := decide (0 ≤ m ∧ m ≤ 1440)
def handV (f0 : ByteArray) (f1 : List Int) (f2 : Int) : Bool := f1.all shiftOk && isNameB f0 && decide (f1.length ≤ 14) && decide (0 ≤ f2 ∧ f2 ≤ 100000)
theorem hand_no {f0 : ByteArray} {f1 : List Int} {f2 : Int} {i : Nat} (h : i < f1.length) (hf : shiftOk (rd f1 (i : Int)) = false) : handV f0 f1 f2 = false := by
  unfold handV
  have : f1.all shiftOk = false := by
    rw [List.all_eq_false]
    rw [rd_nat f1 i h] at hf
    exact ⟨f1[i], List.getElem_mem h, by simp [hf]⟩
  rw [this]; rfl
theorem hand_yes {f0 : ByteArray} {f1 : List Int} {f2 : Int} (h : ∀ j, j < f1.length → shiftOk (rd f1 (j : Int)) = true) : handV f0 f1 f2 = (isNameB f0 && decide (f1.length ≤ 14) && decide (0 ≤ f2 ∧ f2 ≤ 100000)) := by
  unfold handV
  have : f1.all shiftOk = true := by
    rw [List.all_eq_true]
    intro x hx
    obtain ⟨i, hi, rfl⟩ := List.getElem_of_mem hx
    rw [← rd_nat f1 i hi]
    exact h i hi
  rw [this]; rfl
def sumW (l : List Int) : Int := l.foldl (fun a m => wrap64 (a + m)) 0
def extraS (lim : Int) (l : List Int) : Int := l.foldl (fun a m => wrap64 (a + mx 0 (wrap64 (m - lim)))) 0
theorem extraS_succ (lim : Int) (l : List Int) (i : Nat) (h : i < l.length) : extraS lim (l.take (i + 1)) = wrap64 (extraS lim (l.take i) + mx 0 (wrap64 (rd l (i : Int) - lim))) := by
  unfold extraS
  rw [List.take_succ_eq_append_getElem h, List.foldl_append, rd_nat l i h]
  rfl
def payS (wage : Int) (l : List Int) (lim ex : Int) : Int := wrap64 (Int.tdiv (wrap64 (wrap64 (wrap64 (wage * sumW l) * 100) + wrap64 (wrap64 (wage * extraS lim l) * ex))) 6000)
def stk1 (s : Int × Int × Int) (x i : Int) : Int × Int × Int := if x = 0 then (s.1, s.2.1, 0) else if s.2.1 < s.2.2 + 1 then (i + 1 - (s.2.2 + 1), s.2.2 + 1, s.2.2 + 1) else (s.1, s.2.1, s.2.2 + 1)
def stkS (l : List Int) : Nat → Int × Int × Int
  | 0 => (0, 0, 0)
  | i + 1 => stk1 (stkS l i) (rd l (i : Int)) i
theorem stk_bd (l : List Int) : ∀ i : Nat, 0 ≤ (stkS l i).1 ∧ (stkS l i).1 ≤ i ∧ 0 ≤ (stkS l i).2.1 ∧ (stkS l i).2.1 ≤ i ∧ 0 ≤ (stkS l i).2.2 ∧ (stkS l i).2.2 ≤ i
  | 0 => by simp [stkS]
  | i + 1 => by
    have h := stk_bd l i
    simp only [stkS, stk1]
    generalize stkS l i = s at h ⊢
    split
    · simp only []; omega
    · split <;> (simp only []; omega)
theorem stk_zero {l : List Int} {i : Nat} {b m n : Int} (h : stkS l i = (b, m, n)) (hx : rd l (i : Int) = 0) : stkS l (i + 1) = (b, m, 0) := by simp only [stkS, stk1, h, if_pos hx]
theorem stk_more {l : List Int} {i : Nat} {b m n : Int} (h : stkS l i = (b, m, n)) (hx : ¬ rd l (i : Int) = 0) (hm : m < n + 1) : stkS l (i + 1) = (i + 1 - (n + 1), n + 1, n + 1) := by simp only [stkS, stk1, h, if_neg hx, if_pos hm]
theorem stk_same {l : List Int} {i : Nat} {b m n : Int} (h : stkS l i = (b, m, n)) (hx : ¬ rd l (i : Int) = 0) (hm : ¬ m < n + 1) : stkS l (i + 1) = (b, m, n + 1) := by simp only [stkS, stk1, h, if_neg hx, if_neg hm]
def stkAns (f1 : List Int) : Int × Int × Int := if (stkS f1 f1.length).2.1 = 0 then (0, 0, 3) else ((stkS f1 f1.length).1, (stkS f1 f1.length).2.1, 0)
theorem bytes_eq {a b : ByteArray} (h : (a.toList == b.toList) = true) : a = b := by
  have h2 : a.toList = b.toList := by simpa using h
  rw [ByteArray.toList_eq, ByteArray.toList_eq] at h2
  have h3 : a.data = b.data := Array.toList_inj.mp h2
  cases a; cases b; exact congrArg ByteArray.mk h3
theorem bytes_ne {a b : ByteArray} (h : (a.toList == b.toList) = false) : ¬ a = b := by
  intro e
  subst e
  simp at h
/-- A text of bytes from 32 to 126. -/
def plainB (s : ByteArray) : Bool := (List.range s.size).all fun i => decide (32 ≤ bt s i ∧ bt s i ≤ 126)
/-- Which entries are valid. -/
def entryV (f0 : Int) (f1 f2 : ByteArray) : Bool := decide (0 ≤ f0 ∧ f0 ≤ 20000) && (isNameB f1 && (plainB f2 && decide (f2.size ≤ 60)))
/-- Hands that are read at i: each is valid, and no two have one name. -/
def fitH (hd : Nat → ByteArray × List Int × Int) (i : Nat) : Bool := handV (hd i).1 (hd i).2.1 (hd i).2.2 && (List.range i).all fun k => !decide ((hd k).1 = (hd i).1)
def handsOk (hd : Nat → ByteArray × List Int × Int) (n : Nat) : Bool := (List.range n).all (fitH hd) && decide (n ≤ 10)
theorem handsOk_no {hd : Nat → ByteArray × List Int × Int} {n i : Nat} (h : i < n) (hf : fitH hd i = false) : handsOk hd n = false := by
  unfold handsOk
  have : (List.range n).all (fitH hd) = false := by
    rw [List.all_eq_false]; exact ⟨i, List.mem_range.2 h, by simp [hf]⟩
  rw [this]; rfl
theorem handsOk_yes {hd : Nat → ByteArray × List Int × Int} {n : Nat} (h : ∀ j, j < n → fitH hd j = true) : handsOk hd n = decide (n ≤ 10) := by
  unfold handsOk
  have : (List.range n).all (fitH hd) = true := by
    rw [List.all_eq_true]; intro x hx; exact h x (List.mem_range.1 hx)
  rw [this]; rfl
theorem fitH_bad {hd : Nat → ByteArray × List Int × Int} {i : Nat} (h : handV (hd i).1 (hd i).2.1 (hd i).2.2 = false) : fitH hd i = false := by unfold fitH; rw [h]; rfl
theorem fitH_twin {hd : Nat → ByteArray × List Int × Int} {i k : Nat} (hk : k < i) (h : (hd k).1 = (hd i).1) : fitH hd i = false := by
  unfold fitH
  have : ((List.range i).all fun k => !decide ((hd k).1 = (hd i).1)) = false := by
    rw [List.all_eq_false]; exact ⟨k, List.mem_range.2 hk, by simp [h]⟩
  rw [this, Bool.and_false]
theorem fitH_good {hd : Nat → ByteArray × List Int × Int} {i : Nat} (h : handV (hd i).1 (hd i).2.1 (hd i).2.2 = true) (g : ∀ k, k < i → ¬ (hd k).1 = (hd i).1) : fitH hd i = true := by
  unfold fitH
  rw [h, Bool.true_and, List.all_eq_true]
  intro k hk
  simp [g k (List.mem_range.1 hk)]
theorem foldW_go : ∀ (l : List Int) (a : Int), (∀ x ∈ l, 0 ≤ x ∧ x ≤ 1440) → 0 ≤ a → a + 1440 * (l.length : Int) ≤ 1000000000000 → l.foldl (fun a m => wrap64 (a + m)) a = a + l.sum ∧ 0 ≤ l.sum ∧ l.sum ≤ 1440 * (l.length : Int)
  | [], a, _, _, _ => by simp
  | x :: r, a, h, h0, hb => by
    have hx := h x (by simp)
    rw [List.length_cons] at hb ⊢
    obtain ⟨e, e0, e1⟩ := foldW_go r (a + x) (fun y hy => h y (by simp [hy])) (by omega) (by omega)
    rw [List.foldl_cons, w64 (by omega) (by omega), e, List.sum_cons]
    refine ⟨by omega, by omega, ?_⟩
    rw [Int.natCast_add, Int.mul_add]
    omega
theorem sumW_rg {l : List Int} (h : ∀ x ∈ l, 0 ≤ x ∧ x ≤ 1440) (hl : l.length ≤ 14) : sumW l = l.sum ∧ 0 ≤ sumW l ∧ sumW l ≤ 20160 := by
  obtain ⟨e, e0, e1⟩ := foldW_go l 0 h (by omega) (by omega)
  have e2 : sumW l = l.sum := by unfold sumW; rw [e]; omega
  exact ⟨e2, by omega, by omega⟩
theorem payS_rg {l : List Int} {wage lim : Int} (h : ∀ x ∈ l, 0 ≤ x ∧ x ≤ 1440) (hl : l.length ≤ 14) (h0 : 0 ≤ wage) (h1 : wage ≤ 100000) : payS wage l lim 0 = wage * l.sum * 100 / 6000 ∧ 0 ≤ payS wage l lim 0 ∧ payS wage l lim 0 ≤ 33600000 := by
  obtain ⟨e, e0, e1⟩ := sumW_rg h hl
  unfold payS
  rw [e] at e0 e1 ⊢
  have hr := mul_range h0 h1 e0 e1
  generalize wage * l.sum = q at *
  rw [Int.mul_zero, w64 (x := 0) (by omega) (by omega), w64 (x := q) (by omega) (by omega), w64 (x := q * 100) (by omega) (by omega), Int.add_zero, w64 (x := q * 100) (by omega) (by omega), tdiv_nn (by omega), w64 (by omega) (by omega)]
  omega
/-- The cheapest hands: the best set so far and its pay (none: -1); all sets that begin with a set and go on with hands from n - d on, in order, as the program and as the reference go through them. -/
def bestS (need : Int) (set : List Int) (m p : Int) (s : List Int × Int) : List Int × Int := if need ≤ m ∧ (s.2 < 0 ∨ p < s.2) then (set, p) else s
def setsI (M P : Nat → Int) (need : Int) (n : Nat) : Nat → List Int → Int → Int → List Int × Int → List Int × Int
  | 0, _, _, _, s => s
  | d + 1, set, m, p, s => setsI M P need n d set m p (setsI M P need n d (set ++ [((n - (d + 1) : Nat) : Int)]) (m + M (n - (d + 1))) (p + P (n - (d + 1))) (bestS need (set ++ [((n - (d + 1) : Nat) : Int)]) (m + M (n - (d + 1))) (p + P (n - (d + 1))) s))
def setsS (M P : Nat → Int) (need : Int) (n : Nat) : Nat → List Int → Int → Int → List Int × Int → List Int × Int
  | 0, _, _, _, s => s
  | d + 1, set, m, p, s => setsS M P need n d set m p (if 0 ≤ s.2 ∧ s.2 ≤ p + P (n - (d + 1)) then s else if need ≤ m + M (n - (d + 1)) then (set ++ [((n - (d + 1) : Nat) : Int)], p + P (n - (d + 1))) else setsS M P need n d (set ++ [((n - (d + 1) : Nat) : Int)]) (m + M (n - (d + 1))) (p + P (n - (d + 1))) s)
def walkS (M P : Nat → Int) (need : Int) (n d : Nat) (set : List Int) (m p : Int) (s : List Int × Int) : List Int × Int := if 0 ≤ s.2 ∧ s.2 ≤ p then s else if need ≤ m then (set, p) else setsS M P need n d set m p s
theorem setsI_stays {M P : Nat → Int} {need : Int} {n : Nat} (hP : ∀ i, i < n → 0 ≤ P i) : ∀ (d : Nat) (set : List Int) (m p : Int) (s : List Int × Int), d ≤ n → 0 ≤ s.2 → s.2 ≤ p → setsI M P need n d set m p s = s
  | 0, _, _, _, _, _, _, _ => rfl
  | d + 1, set, m, p, s, hd, h0, h1 => by
    have hp := hP (n - (d + 1)) (by omega)
    have hb : bestS need (set ++ [((n - (d + 1) : Nat) : Int)]) (m + M (n - (d + 1))) (p + P (n - (d + 1))) s = s := if_neg (by omega)
    simp only [setsI]
    rw [hb, setsI_stays hP d _ _ _ s (by omega) h0 (by omega), setsI_stays hP d _ _ _ s (by omega) h0 h1]
/-- The program's way and the reference's, which leaves what can be no cheaper, come to the same. -/
theorem setsI_walk {M P : Nat → Int} {need : Int} {n : Nat} (hP : ∀ i, i < n → 0 ≤ P i) : ∀ (d : Nat) (set : List Int) (m p : Int) (s : List Int × Int), d ≤ n → 0 ≤ p → (setsI M P need n d set m p (bestS need set m p s) = walkS M P need n d set m p s) ∧ (m < need → setsI M P need n d set m p s = setsS M P need n d set m p s) := by
  intro d
  induction d with
  | zero =>
    intro set m p s _ _
    refine ⟨?_, fun _ => rfl⟩
    simp only [setsI, walkS, setsS, bestS]
    repeat' split
    all_goals first | rfl | (exfalso; omega)
  | succ d ih =>
    intro set m p s hd hp
    have hq := hP (n - (d + 1)) (by omega)
    have key : ∀ s : List Int × Int, m < need → setsI M P need n (d + 1) set m p s = setsS M P need n (d + 1) set m p s := by
      intro s hm
      simp only [setsI, setsS]
      rw [(ih _ _ _ s (by omega) (by omega)).1]
      unfold walkS
      exact (ih set m p _ (by omega) hp).2 hm
    refine ⟨?_, fun hm => key s hm⟩
    unfold walkS
    by_cases h1 : 0 ≤ s.2 ∧ s.2 ≤ p
    · rw [if_pos h1]
      have hb : bestS need set m p s = s := if_neg (by omega)
      rw [hb]
      exact setsI_stays hP (d + 1) set m p s hd h1.1 h1.2
    · rw [if_neg h1]
      by_cases h2 : need ≤ m
      · rw [if_pos h2]
        have hb : bestS need set m p s = (set, p) := if_pos (by omega)
        rw [hb]
        exact setsI_stays hP (d + 1) set m p _ hd hp (Int.le_refl _)
      · rw [if_neg h2]
        have hb : bestS need set m p s = s := if_neg (by omega)
        rw [hb]
        exact key s (by omega)
theorem handV_rg {f0 : ByteArray} {f1 : List Int} {f2 : Int} (h : handV f0 f1 f2 = true) : (∀ x ∈ f1, 0 ≤ x ∧ x ≤ 1440) ∧ f1.length ≤ 14 ∧ 0 ≤ f2 ∧ f2 ≤ 100000 := by
  unfold handV at h
  simp only [Bool.and_eq_true, decide_eq_true_eq, List.all_eq_true] at h
  obtain ⟨⟨⟨a, _⟩, b⟩, c⟩ := h
  exact ⟨fun x hx => of_decide_eq_true (a x hx), b, c⟩
theorem handsOk_at {hd : Nat → ByteArray × List Int × Int} {n : Nat} (h : handsOk hd n = true) : n ≤ 10 ∧ ∀ i, i < n → handV (hd i).1 (hd i).2.1 (hd i).2.2 = true := by
  unfold handsOk at h
  rw [Bool.and_eq_true, List.all_eq_true, decide_eq_true_eq] at h
  refine ⟨h.2, fun i hi => ?_⟩
  have hf := h.1 i (List.mem_range.2 hi)
  unfold fitH at hf
  rw [Bool.and_eq_true] at hf
  exact hf.1
/-- The answer: the set, its pay, the code. -/
def cheapAns (s : List Int × Int) : List Int × Int × Int := if s.2 < 0 then ([], 0, 3) else (s.1, s.2, 0)

end Go.Proofs.YtdamlohbplfdgaaDoor.Base
