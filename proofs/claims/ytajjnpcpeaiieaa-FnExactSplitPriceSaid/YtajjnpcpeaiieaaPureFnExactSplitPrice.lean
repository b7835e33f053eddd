/- For all whole numbers and all rows of at most 1,048,576 of them the program's SplitPrice and the reference's SplitPrice tell the same, no row is shared, no argument changed. -/
import Derived.Test.YtajjnpcpeaiieaaPFnExactSplitPricex5
import Derived.Test.YtajjnpcpeaiieaaBase
namespace Go.Proofs.Ytajjnpcpeaiieaa.Pure
open Go.RowKit Go.Proofs.Ytajjnpcpeaiieaa.PFnExactSplitPrice Go.Proofs.YtajjnpcpeaiieaaW.PrintWords Go.Proofs.YtajjnpcpeaiieaaW.PrintLast Go.Proofs.Ytajjnpcpeaiieaa.Base
set_option linter.unusedVariables false
set_option linter.unusedSimpArgs false

namespace FnExactSplitPrice_
theorem within_eq (a b c : Int) : impl_within.f a b c = some (decide (b ≤ a ∧ a ≤ c)) := by
  unfold impl_within.f
  by_cases h : a ≥ b
  · rw [if_pos h]; congr 1; apply Bool.eq_iff_iff.mpr; simp; omega
  · rw [if_neg h]; congr 1; apply Bool.eq_iff_iff.mpr; simp; omega
theorem in_eq (a b c : Int) : spec_l00In.f a b c = some (decide (b ≤ a ∧ a ≤ c)) := by
  unfold spec_l00In.f
  by_cases h : a ≥ b
  · rw [if_pos h]; congr 1; apply Bool.eq_iff_iff.mpr; simp; omega
  · rw [if_neg h]; congr 1; apply Bool.eq_iff_iff.mpr; simp; omega

theorem cents_eq (a : Int) : spec_l25Cents.f a = some (decide (0 ≤ a ∧ a ≤ 100000000)) := by
  unfold spec_l25Cents.f; rw [in_eq]; rfl

theorem areIn_ev (l : List Int) (a b : Int) (h : l.length ≤ 35184372088832) : Ev (fun k => impl_areIn.f k l l.length a b) (l.all fun x => decide (a ≤ x ∧ x ≤ b)) := by
  refine Ev.congr (f := fun k => impl_areIn.l0 k a b l l.length 0) (fun k => by unfold impl_areIn.f; rw [if_pos rfl]) ?_
  have := all_lt l.length (fun i => decide (a ≤ rd l i ∧ rd l i ≤ b)) (fun k i => impl_areIn.l0 k a b l l.length i) true false (fun i hi hp => ⟨0, fun k _ => ?_⟩) (fun i hi hp => Ev.const fun k => ?_) (fun _ => Ev.const fun k => ?_)
  · rw [all_range_list (p := fun x => decide (a ≤ x ∧ x ≤ b)) (fun i hi => by rw [rd_nat l i hi])] at this
    rw [ite_bool] at this
    exact this
  · simp only [impl_areIn.l0]
    rw [if_pos (by omega), if_pos (by omega), if_pos (by omega), within_eq, hp, w64 (by omega) (by omega)]
    rfl
  · simp only [impl_areIn.l0]
    rw [if_pos (by omega), if_pos (by omega), if_pos (by omega), within_eq, hp]
    rfl
  · simp only [impl_areIn.l0]
    rw [if_neg (by omega)]

/-- The first of the greatest, from place i on, against the one at b. -/
def am (r : List Int) : Nat → Nat → Nat → Nat
  | 0, _, b => b
  | d + 1, i, b => am r d (i + 1) (if rd r i > rd r b then i else b)
theorem am_lt (r : List Int) : ∀ d i b, i + d = r.length → b < r.length → am r d i b < r.length := by
  intro d
  induction d with
  | zero => intro i b _ hb; exact hb
  | succ d ih =>
    intro i b hi hb
    unfold am
    exact ih _ _ (by omega) (by split <;> omega)
/-- What is left goes, one by one, to the greatest rests. -/
def dist : Nat → List Int → List Int → List Int
  | 0, o, _ => o
  | n + 1, o, r => dist n (o.set (am r (r.length - 1) 1 0) (wrap64 (rd o (am r (r.length - 1) 1 0 : Nat) + 1))) (r.set (am r (r.length - 1) 1 0) (-1))
theorem dist_length : ∀ n o r, (dist n o r).length = o.length := by
  intro n
  induction n with
  | zero => intro o r; rfl
  | succ n ih => intro o r; unfold dist; rw [ih, List.length_set]
theorem spec_l3 (o r : List Int) (left : Int) (R : List Int × Int) (ho : o.length = r.length) (h0 : 0 < left) (h1 : left ≤ 1000000000000000) (hr : r.length ≤ 1000000000000) : ∀ d (i b : Nat), i + d = r.length → b < r.length →
    Ev (fun k => spec_SplitPrice.l2 k (o.set (am r d i b) (wrap64 (rd o (am r d i b : Nat) + 1))) (r.set (am r d i b) (-1)) (left - 1)) R → Ev (fun k => spec_SplitPrice.l3 k o r left b i) R := by
  intro d
  induction d with
  | zero =>
    intro i b hi hb h
    refine Ev.step (fun k => ?_) h
    simp only [spec_SplitPrice.l3, am]
    rw [if_neg (by omega), if_pos (by omega), if_pos (by omega), if_pos (by omega), w64 (x := left - 1) (by omega) (by omega), Int.toNat_natCast]
  | succ d ih =>
    intro i b hi hb h
    unfold am at h
    by_cases c : rd r i > rd r b
    · rw [if_pos c] at h
      refine Ev.step (fun k => ?_) (ih (i + 1) i (by omega) (by omega) h)
      simp only [spec_SplitPrice.l3]
      rw [if_pos (by omega), if_pos (by omega), if_pos (by omega), if_pos (by omega), if_pos c, w64 (x := (i : Int) + 1) (by omega) (by omega)]
      rfl
    · rw [if_neg c] at h
      refine Ev.step (fun k => ?_) (ih (i + 1) b (by omega) (by omega) h)
      simp only [spec_SplitPrice.l3]
      rw [if_pos (by omega), if_pos (by omega), if_pos (by omega), if_pos (by omega), if_neg c, w64 (x := (i : Int) + 1) (by omega) (by omega)]
      rfl
theorem spec_l2 : ∀ (n : Nat) (left : Int) (o r : List Int), left.toNat = n → left ≤ 1000000000000000 → o.length = r.length → 0 < r.length → r.length ≤ 1000000000000 → Ev (fun k => spec_SplitPrice.l2 k o r left) (dist n o r, 0) := by
  intro n
  induction n with
  | zero =>
    intro left o r hn h1 ho h0 hr
    refine Ev.const fun k => ?_
    simp only [spec_SplitPrice.l2]
    rw [if_neg (by omega)]
    rfl
  | succ n ih =>
    intro left o r hn h1 ho h0 hr
    refine Ev.step (f := fun k => spec_SplitPrice.l3 k o r left 0 1) (fun k => by simp only [spec_SplitPrice.l2]; rw [if_pos (by omega)]) ?_
    refine spec_l3 o r left _ ho (by omega) h1 hr (r.length - 1) 1 0 (by omega) h0 ?_
    have := ih (left - 1) (o.set (am r (r.length - 1) 1 0) (wrap64 (rd o (am r (r.length - 1) 1 0 : Nat) + 1))) (r.set (am r (r.length - 1) 1 0) (-1)) (by omega) (by omega) (by simpa using ho) (by simpa using h0) (by simpa using hr)
    unfold dist
    exact this
theorem impl_l3 (o r : List Int) (left : Int) (R : List Int × Int) (ho : o.length = r.length) (h0 : 0 < left) (h1 : left ≤ 1000000000000000) (hr : r.length ≤ 1000000000000) : ∀ d (i b : Nat), i + d = r.length → b < r.length →
    Ev (fun k => impl_SplitPrice.l2 k (o.set (am r d i b) (wrap64 (rd o (am r d i b : Nat) + 1))) (r.set (am r d i b) (-1)) (left - 1)) R → Ev (fun k => impl_SplitPrice.l3 k o r left b r.length i) R := by
  intro d
  induction d with
  | zero =>
    intro i b hi hb h
    refine Ev.step (fun k => ?_) h
    simp only [impl_SplitPrice.l3, am]
    rw [if_neg (by omega), if_pos (by omega), if_pos (by omega), if_pos (by omega), w64 (x := left - 1) (by omega) (by omega), Int.toNat_natCast]
  | succ d ih =>
    intro i b hi hb h
    unfold am at h
    by_cases c : rd r i > rd r b
    · rw [if_pos c] at h
      refine Ev.step (fun k => ?_) (ih (i + 1) i (by omega) (by omega) h)
      simp only [impl_SplitPrice.l3]
      rw [if_pos (by omega), if_pos (by omega), if_pos (by omega), if_pos (by omega), if_pos (by omega), if_pos c, w64 (x := (i : Int) + 1) (by omega) (by omega)]
      rfl
    · rw [if_neg c] at h
      refine Ev.step (fun k => ?_) (ih (i + 1) b (by omega) (by omega) h)
      simp only [impl_SplitPrice.l3]
      rw [if_pos (by omega), if_pos (by omega), if_pos (by omega), if_pos (by omega), if_pos (by omega), if_neg c, w64 (x := (i : Int) + 1) (by omega) (by omega)]
      rfl
theorem impl_l2 : ∀ (n : Nat) (left : Int) (o r : List Int), left.toNat = n → left ≤ 1000000000000000 → o.length = r.length → 0 < r.length → r.length ≤ 1000000000000 → Ev (fun k => impl_SplitPrice.l2 k o r left) (dist n o r, 0) := by
  intro n
  induction n with
  | zero =>
    intro left o r hn h1 ho h0 hr
    refine Ev.const fun k => ?_
    simp only [impl_SplitPrice.l2]
    rw [if_neg (by omega)]
    rfl
  | succ n ih =>
    intro left o r hn h1 ho h0 hr
    refine Ev.step (f := fun k => impl_SplitPrice.l3 k o r left 0 r.length 0) (fun k => by simp only [impl_SplitPrice.l2]; rw [if_pos (by omega)]) ?_
    refine impl_l3 o r left _ ho (by omega) h1 hr r.length 0 0 (by omega) h0 ?_
    have e : am r r.length 0 0 = am r (r.length - 1) 1 0 := by
      obtain ⟨m, hm⟩ : ∃ m, r.length = m + 1 := ⟨r.length - 1, by omega⟩
      rw [hm]
      show am r m (0 + 1) (if rd r (0 : Nat) > rd r (0 : Nat) then 0 else 0) = am r m 1 0
      rw [if_neg (by omega)]
    rw [e]
    have := ih (left - 1) (o.set (am r (r.length - 1) 1 0) (wrap64 (rd o (am r (r.length - 1) 1 0 : Nat) + 1))) (r.set (am r (r.length - 1) 1 0) (-1)) (by omega) (by omega) (by simpa using ho) (by simpa using h0) (by simpa using hr)
    unfold dist
    exact this
def shares (c S : Int) (ws : List Int) : List Int := ws.map fun w => c * w / S
def rests (c S : Int) (ws : List Int) : List Int := ws.map fun w => c * w % S
theorem set_fill (l : List Int) (i : Nat) (h : i < l.length) (z : Int) : (l.take i ++ List.replicate (l.length - i) z).set i l[i] = l.take (i + 1) ++ List.replicate (l.length - (i + 1)) z := by
  rw [List.set_append_right _ _ (by rw [List.length_take]; omega), List.length_take, Nat.min_eq_left (by omega), Nat.sub_self, show l.length - i = (l.length - (i + 1)) + 1 by omega, List.replicate_succ, List.set_cons_zero, List.take_succ_eq_append_getElem h, List.append_assoc]
  rfl
section
variable {c S : Int} {ws : List Int} (hc : 0 ≤ c ∧ c ≤ 100000000) (hS : 0 < S ∧ S ≤ 1000000000) (hw : ∀ x ∈ ws, 0 ≤ x ∧ x ≤ 10000) (hn : ws.length ≤ 12)
include hc hS hw in
theorem one_share (i : Nat) (h : i < ws.length) : wrap64 (Int.tdiv (wrap64 (c * rd ws i)) S) = c * ws[i] / S ∧ Int.tmod (wrap64 (c * rd ws i)) S = c * ws[i] % S ∧ 0 ≤ c * ws[i] / S ∧ c * ws[i] / S ≤ 1000000000000 := by
  have hx := hw _ (List.getElem_mem h)
  obtain ⟨p0, p1⟩ := mul_range hc.1 hc.2 hx.1 hx.2
  rw [rd_nat ws i h, w64 (x := c * ws[i]) (by omega) (by omega), tdiv_nn p0, tmod_nn p0]
  have q0 : 0 ≤ c * ws[i] / S := Int.ediv_nonneg p0 (by omega)
  have q1 : c * ws[i] / S ≤ c * ws[i] := Int.ediv_le_self _ p0
  exact ⟨w64 (by omega) (by omega), rfl, q0, by omega⟩
theorem shares_get (c S : Int) (ws : List Int) (i : Nat) (h : i < ws.length) : (shares c S ws)[i]'(by simpa [shares] using h) = c * ws[i] / S := by simp [shares]
theorem rests_get (c S : Int) (ws : List Int) (i : Nat) (h : i < ws.length) : (rests c S ws)[i]'(by simpa [rests] using h) = c * ws[i] % S := by simp [rests]
include hc hS hw in
theorem shares_bound : ∀ x ∈ shares c S ws, 0 ≤ x ∧ x ≤ 1000000000000 := by
  intro x hx
  obtain ⟨i, hi, rfl⟩ := List.getElem_of_mem hx
  have hi' : i < ws.length := by simpa [shares] using hi
  rw [shares_get c S ws i hi']
  exact (one_share hc hS hw i hi').2.2
include hc hS hw hn in
theorem spec_l1 (R : List Int × Int) (h : Ev (fun k => spec_SplitPrice.l2 k (shares c S ws) (rests c S ws) (c - (shares c S ws).sum)) R) : Ev (fun k => spec_SplitPrice.l1 k c ws S [] [] c 0) R := by
  have hsl : (shares c S ws).length = ws.length := by simp [shares]
  have hrl : (rests c S ws).length = ws.length := by simp [rests]
  have := for_to ws.length (fun k (s : List Int × List Int × Int) i => spec_SplitPrice.l1 k c ws S s.1 s.2.1 s.2.2 i) (fun i => ((shares c S ws).take i, (rests c S ws).take i, c - ((shares c S ws).take i).sum)) R (fun i hi => ⟨0, fun k _ => ?_⟩) ?_ ws.length 0 (by omega)
  · simpa using this
  · obtain ⟨e1, e2, e3, e4⟩ := one_share hc hS hw i hi
    have b := sum_take_bound (shares_bound hc hS hw) i (by omega)
    have hs : ((shares c S ws).take i).length = i := by rw [List.length_take]; omega
    have hr : ((rests c S ws).take i).length = i := by rw [List.length_take]; omega
    have t1 : (shares c S ws).take i ++ [c * ws[i] / S] = (shares c S ws).take (i + 1) := by rw [List.take_succ_eq_append_getElem (by omega), shares_get c S ws i hi]
    have t2 : (rests c S ws).take i ++ [c * ws[i] % S] = (rests c S ws).take (i + 1) := by rw [List.take_succ_eq_append_getElem (by omega), rests_get c S ws i hi]
    have t3 : rd ((shares c S ws).take (i + 1)) i = c * ws[i] / S := by rw [rd_nat _ i (by rw [List.length_take]; omega), List.getElem_take, shares_get c S ws i hi]
    simp only [spec_SplitPrice.l1]
    rw [if_pos (by omega), if_pos (by omega), if_neg (by omega), if_pos (by omega), e1, e2, t1, t2]
    simp only [Option.bind_some]
    rw [if_pos (by omega), if_pos (by rw [List.length_take]; omega), t3, w64 (by omega) (by omega), w64 (by omega) (by omega), sum_take_succ _ i (by omega), shares_get c S ws i hi]
    congr 1; omega
  · refine Ev.step (f := fun k => spec_SplitPrice.l2 k (shares c S ws) (rests c S ws) (c - (shares c S ws).sum)) (fun k => ?_) h
    simp only [spec_SplitPrice.l1]
    rw [if_neg (by omega), List.take_of_length_le (by omega), List.take_of_length_le (by omega)]
include hc hS hw hn in
theorem impl_l1 (R : List Int × Int) (h : Ev (fun k => impl_SplitPrice.l2 k (shares c S ws) (rests c S ws) (c - (shares c S ws).sum)) R) : Ev (fun k => impl_SplitPrice.l1 k c S (List.replicate ws.length 0) (List.replicate ws.length 0) c ws ws.length 0) R := by
  have hsl : (shares c S ws).length = ws.length := by simp [shares]
  have hrl : (rests c S ws).length = ws.length := by simp [rests]
  have := for_to ws.length (fun k (s : List Int × List Int × Int) i => impl_SplitPrice.l1 k c S s.1 s.2.1 s.2.2 ws ws.length i) (fun i => ((shares c S ws).take i ++ List.replicate ((shares c S ws).length - i) 0, (rests c S ws).take i ++ List.replicate ((rests c S ws).length - i) 0, c - ((shares c S ws).take i).sum)) R (fun i hi => ⟨0, fun k _ => ?_⟩) ?_ ws.length 0 (by omega)
  · simpa [hsl, hrl] using this
  · obtain ⟨e1, e2, e3, e4⟩ := one_share hc hS hw i hi
    have b := sum_take_bound (shares_bound hc hS hw) i (by omega)
    have l1 : ((shares c S ws).take i ++ List.replicate ((shares c S ws).length - i) 0).length = ws.length := by simp; omega
    have l2 : ((rests c S ws).take i ++ List.replicate ((rests c S ws).length - i) 0).length = ws.length := by simp; omega
    have s1 := set_fill (shares c S ws) i (by omega) 0
    have s2 := set_fill (rests c S ws) i (by omega) 0
    rw [shares_get c S ws i hi] at s1
    rw [rests_get c S ws i hi] at s2
    have t3 : rd ((shares c S ws).take (i + 1) ++ List.replicate ((shares c S ws).length - (i + 1)) 0) i = c * ws[i] / S := by
      rw [rd_nat _ i (by simp; omega), List.getElem_append_left (by rw [List.length_take]; omega), List.getElem_take, shares_get c S ws i hi]
    simp only [impl_SplitPrice.l1]
    rw [if_pos (by omega), if_pos (by omega), if_pos (by omega), if_neg (by omega), if_pos (by omega), e1, e2, Int.toNat_natCast, s1, s2]
    simp only [Option.bind_some]
    rw [if_pos (by omega), t3, w64 (by omega) (by omega), w64 (by omega) (by omega), sum_take_succ _ i (by omega), shares_get c S ws i hi]
    congr 1; omega
  · refine Ev.step (f := fun k => impl_SplitPrice.l2 k (shares c S ws) (rests c S ws) (c - (shares c S ws).sum)) (fun k => ?_) h
    simp only [impl_SplitPrice.l1]
    rw [if_neg (by omega), List.take_of_length_le (by omega), List.take_of_length_le (by omega), hsl, hrl]
    simp
end
theorem sum_ev (l : List Int) (A : Int) (hA : 0 ≤ A) (h : ∀ x ∈ l, 0 ≤ x ∧ x ≤ A) (hb : A * l.length ≤ 9223372036854775807) (hl : l.length ≤ 35184372088832) : Ev (fun k => spec_l00Sum.f k l) l.sum := by
  have := for_to l.length (fun k (s : Int) i => spec_l00Sum.l0 k l s i) (fun i => (l.take i).sum) l.sum (fun i hi => ⟨0, fun k _ => ?_⟩) (Ev.const fun k => ?_) l.length 0 (by omega)
  · exact this
  · have b1 := sum_take_bound h (i + 1) (by omega)
    have b2 : A * ((i + 1 : Nat) : Int) ≤ A * l.length := Int.mul_le_mul_of_nonneg_left (by omega) hA
    rw [sum_take_succ l i hi] at b1
    simp only [spec_l00Sum.l0]
    rw [if_pos (by omega), if_pos (by omega), rd_nat l i hi, w64 (x := (i : Int) + 1) (by omega) (by omega), w64 (by omega) (by omega), sum_take_succ l i hi]
  · simp only [spec_l00Sum.l0]
    rw [if_neg (by omega), List.take_of_length_le (by omega)]
/-- What SplitPrice answers. -/
def splitAns (c : Int) (ws : List Int) : List Int × Int :=
  if (ws.all fun x => decide (0 ≤ x ∧ x ≤ 10000)) = true then
    if (0 ≤ c ∧ c ≤ 100000000) ∧ 1 ≤ ws.length ∧ ws.length ≤ 12 then
      if ws.sum = 0 then ([], 6) else (dist (c - (shares c ws.sum ws).sum).toNat (shares c ws.sum ws) (rests c ws.sum ws), 0)
    else ([], 2)
  else ([], 2)
theorem split_spec (c : Int) (ws : List Int) (hl : ws.length ≤ 35184372088832) : Ev (fun k => spec_SplitPrice.f k c ws) (splitAns c ws) := by
  unfold splitAns spec_SplitPrice.f
  rw [← all_range_list (q := fun i => decide (0 ≤ rd ws i ∧ rd ws i ≤ 10000)) (p := fun x => decide (0 ≤ x ∧ x ≤ 10000)) (fun i hi => by rw [rd_nat ws i hi])]
  refine all_lt ws.length (fun i => decide (0 ≤ rd ws i ∧ rd ws i ≤ 10000)) (fun k i => spec_SplitPrice.l0 k c ws i) _ _ (fun i hi hp => ⟨0, fun k _ => ?_⟩) (fun i hi hp => Ev.const fun k => ?_) (fun hp => ?_)
  · simp only [spec_SplitPrice.l0]
    rw [if_pos (by omega), if_pos (by omega), in_eq, hp, w64 (by omega) (by omega)]
    rfl
  · simp only [spec_SplitPrice.l0]
    rw [if_pos (by omega), if_pos (by omega), in_eq, hp]
    rfl
  · have hw : ∀ x ∈ ws, 0 ≤ x ∧ x ≤ 10000 := by
      intro x hx
      obtain ⟨i, hi, rfl⟩ := List.getElem_of_mem hx
      have := of_decide_eq_true (hp i hi)
      rwa [rd_nat ws i hi] at this
    by_cases hc : 0 ≤ c ∧ c ≤ 100000000
    · by_cases hn : 1 ≤ ws.length ∧ ws.length ≤ 12
      · rw [if_pos ⟨hc, hn⟩]
        have hs := sum_bound 0 10000 ws hw
        obtain ⟨K, hK⟩ := sum_ev ws 10000 (by omega) hw (by omega) hl
        dsimp only at hK
        by_cases h0 : ws.sum = 0
        · rw [if_pos h0]
          refine ⟨K + 2, fun k hk => ?_⟩
          obtain ⟨m, rfl⟩ : ∃ m, k = m + 2 := ⟨k - 2, by omega⟩
          simp only [spec_SplitPrice.l0]
          rw [if_neg (by omega), cents_eq, in_eq]
          simp only [hc, and_self, decide_true, Option.bind_some, if_true, decide_eq_true (show 1 ≤ (ws.length : Int) ∧ (ws.length : Int) ≤ 12 by omega), Bool.not_true]
          simp only [spec_SplitPrice.j1, Bool.false_eq_true, if_false]
          rw [hK m (by omega)]
          simp only [Option.bind_some]
          rw [if_pos h0]
        · rw [if_neg h0]
          obtain ⟨J, hJ⟩ := spec_l1 hc (S := ws.sum) (by omega) hw hn.2 _ (spec_l2 _ (c - (shares c ws.sum ws).sum) (shares c ws.sum ws) (rests c ws.sum ws) rfl (by
            have := (sum_bound 0 1000000000000 _ (shares_bound hc (S := ws.sum) (by omega) hw)).1
            omega) (by simp [shares, rests]) (by simp [rests]; omega) (by simp [rests]; omega))
          dsimp only at hJ
          refine ⟨max K J + 2, fun k hk => ?_⟩
          obtain ⟨m, rfl⟩ : ∃ m, k = m + 2 := ⟨k - 2, by omega⟩
          simp only [spec_SplitPrice.l0]
          rw [if_neg (by omega), cents_eq, in_eq]
          simp only [hc, and_self, decide_true, Option.bind_some, if_true, decide_eq_true (show 1 ≤ (ws.length : Int) ∧ (ws.length : Int) ≤ 12 by omega), Bool.not_true]
          simp only [spec_SplitPrice.j1, Bool.false_eq_true, if_false]
          rw [hK m (by omega)]
          simp only [Option.bind_some]
          rw [if_neg h0, hJ m (by omega)]
      · rw [if_neg (fun h => hn h.2)]
        refine ⟨2, fun k hk => ?_⟩
        obtain ⟨m, rfl⟩ : ∃ m, k = m + 2 := ⟨k - 2, by omega⟩
        simp only [spec_SplitPrice.l0]
        rw [if_neg (by omega), cents_eq, in_eq]
        simp only [hc, and_self, decide_true, Option.bind_some, if_true, decide_eq_false (show ¬ (1 ≤ (ws.length : Int) ∧ (ws.length : Int) ≤ 12) by omega), Bool.not_false]
        simp only [spec_SplitPrice.j1, if_true]
    · rw [if_neg (fun h => hc h.1)]
      refine ⟨2, fun k hk => ?_⟩
      obtain ⟨m, rfl⟩ : ∃ m, k = m + 2 := ⟨k - 2, by omega⟩
      simp only [spec_SplitPrice.l0]
      rw [if_neg (by omega), cents_eq]
      simp only [hc, decide_false, Option.bind_some, Bool.false_eq_true, if_false]
      simp only [spec_SplitPrice.j1, if_true]
theorem split_j0 (c : Int) (ws : List Int) (k : Nat) : impl_SplitPrice.j0 (k + 1) c ws true = some ([], 2) := by simp only [impl_SplitPrice.j0, if_true]
theorem split_impl (c : Int) (ws : List Int) (hl : ws.length ≤ 35184372088832) : Ev (fun k => impl_SplitPrice.f k c ws) (splitAns c ws) := by
  unfold splitAns
  by_cases hc : 0 ≤ c ∧ c ≤ 100000000
  · by_cases hn : 1 ≤ ws.length ∧ ws.length ≤ 12
    · obtain ⟨K, hK⟩ := areIn_ev ws 0 10000 hl
      dsimp only at hK
      have start : ∀ k, K ≤ k → impl_SplitPrice.f k c ws = impl_SplitPrice.j0 k c ws (!(ws.all fun x => decide (0 ≤ x ∧ x ≤ 10000))) := by
        intro k hk
        unfold impl_SplitPrice.f
        rw [within_eq]
        simp only [hc, and_self, decide_true, Option.bind_some, if_true]
        rw [if_neg (by omega), if_neg (by omega), hK k hk]
        rfl
      by_cases ha : (ws.all fun x => decide (0 ≤ x ∧ x ≤ 10000)) = true
      · rw [if_pos ha, if_pos ⟨hc, hn⟩]
        have hw : ∀ x ∈ ws, 0 ≤ x ∧ x ≤ 10000 := fun x hx => by simpa using List.all_eq_true.1 ha x hx
        have hs := sum_bound 0 10000 ws hw
        have go : ∀ R, Ev (fun k => impl_SplitPrice.l0 (k + 1) c ws ws.sum ws ws.length ws.length) R → Ev (fun k => impl_SplitPrice.f k c ws) R := by
          intro R h
          have h1 := for_to ws.length (fun k (s : Int) i => impl_SplitPrice.l0 k c ws s ws ws.length i) (fun i => (ws.take i).sum) R (fun i hi => ⟨0, fun k _ => by
            have b1 := sum_take_bound hw (i + 1) (by omega)
            rw [sum_take_succ ws i hi] at b1
            simp only [impl_SplitPrice.l0]
            rw [if_pos (by omega), if_pos (by omega), if_pos (by omega), rd_nat ws i hi, w64 (x := (i : Int) + 1) (by omega) (by omega), w64 (by omega) (by omega), sum_take_succ ws i hi]⟩) (by
            rw [List.take_of_length_le (by omega)]
            exact Ev.succ h) ws.length 0 (by omega)
          obtain ⟨J, hJ⟩ := h1
          dsimp only at hJ
          refine ⟨max K J + 1, fun k hk => ?_⟩
          obtain ⟨m, rfl⟩ : ∃ m, k = m + 1 := ⟨k - 1, by omega⟩
          dsimp only
          rw [start _ (by omega), ha]
          simp only [impl_SplitPrice.j0, Bool.not_true, Bool.false_eq_true, if_false]
          exact hJ m (by omega)
        by_cases h0 : ws.sum = 0
        · rw [if_pos h0]
          refine go _ (Ev.all fun k => ?_)
          simp only [impl_SplitPrice.l0]
          rw [if_neg (by omega), if_pos h0]
        · rw [if_neg h0]
          refine go _ (Ev.congr (fun k => ?_) (impl_l1 hc (S := ws.sum) (by omega) hw hn.2 _ (impl_l2 _ (c - (shares c ws.sum ws).sum) (shares c ws.sum ws) (rests c ws.sum ws) rfl (by
            have := (sum_bound 0 1000000000000 _ (shares_bound hc (S := ws.sum) (by omega) hw)).1
            omega) (by simp [shares, rests]) (by simp [rests]; omega) (by simp [rests]; omega))))
          simp only [impl_SplitPrice.l0]
          rw [if_neg (by omega), if_neg h0, if_pos (by omega), if_pos (by omega), Int.toNat_natCast]
      · rw [if_neg ha]
        refine ⟨K + 1, fun k hk => ?_⟩
        obtain ⟨m, rfl⟩ : ∃ m, k = m + 1 := ⟨k - 1, by omega⟩
        dsimp only
        rw [start _ (by omega), Bool.eq_false_iff.mpr ha]
        exact split_j0 c ws m
    · have e : (if (ws.all fun x => decide (0 ≤ x ∧ x ≤ 10000)) = true then if (0 ≤ c ∧ c ≤ 100000000) ∧ 1 ≤ ws.length ∧ ws.length ≤ 12 then if ws.sum = 0 then (([], 6) : List Int × Int) else (dist (c - (shares c ws.sum ws).sum).toNat (shares c ws.sum ws) (rests c ws.sum ws), 0) else ([], 2) else ([], 2)) = ([], 2) := by
        rw [if_neg (c := (0 ≤ c ∧ c ≤ 100000000) ∧ 1 ≤ ws.length ∧ ws.length ≤ 12) (fun h => hn h.2), ite_self]
      rw [e]
      refine Ev.const fun k => ?_
      unfold impl_SplitPrice.f
      rw [within_eq]
      simp only [hc, and_self, decide_true, Option.bind_some, if_true]
      by_cases h1 : (ws.length : Int) < 1
      · rw [if_pos h1]; exact split_j0 c ws k
      · rw [if_neg h1, if_pos (by omega)]; exact split_j0 c ws k
  · have e : (if (ws.all fun x => decide (0 ≤ x ∧ x ≤ 10000)) = true then if (0 ≤ c ∧ c ≤ 100000000) ∧ 1 ≤ ws.length ∧ ws.length ≤ 12 then if ws.sum = 0 then (([], 6) : List Int × Int) else (dist (c - (shares c ws.sum ws).sum).toNat (shares c ws.sum ws) (rests c ws.sum ws), 0) else ([], 2) else ([], 2)) = ([], 2) := by
      rw [if_neg (c := (0 ≤ c ∧ c ≤ 100000000) ∧ 1 ≤ ws.length ∧ ws.length ≤ 12) (fun h => hc h.1), ite_self]
    rw [e]
    refine Ev.const fun k => ?_
    unfold impl_SplitPrice.f
    rw [within_eq]
    simp only [hc, decide_false, Option.bind_some, Bool.false_eq_true, if_false]
    exact split_j0 c ws k
theorem splitAns_length (c : Int) (ws : List Int) : (splitAns c ws).1.length ≤ 12 := by
  unfold splitAns
  split
  · split
    · rename_i h
      split
      · simp
      · show (dist _ _ _).length ≤ 12
        rw [dist_length]
        simp [shares]
        omega
    · simp
  · simp

theorem toInt64S_ev (l : List Int) (h : l.length ≤ 35184372088832) : Ev (fun k => laws_toInt64S.f k l) l := by
  have round : ∀ k acc (i : Nat) (h : i < l.length), acc.length = l.length → laws_toInt64S.l0 (k + 1) l acc (i : Int) = laws_toInt64S.l0 k l (acc.set i (id l[i])) ((i : Int) + 1) := by
    intro k acc i hi hl
    simp only [laws_toInt64S.l0]
    rw [if_pos (by omega), if_pos (by omega), if_pos (by omega), w64 (by omega) (by omega), rd_nat l i hi, Int.toNat_natCast]
    rfl
  have fin : ∀ k acc, laws_toInt64S.l0 (k + 1) l acc (l.length : Int) = some acc := by
    intro k acc
    simp only [laws_toInt64S.l0]
    rw [if_neg (by omega)]
  have := fill_to l id (fun k acc i => laws_toInt64S.l0 k l acc i) round fin (List.replicate l.length 0) (by simp)
  rw [List.map_id] at this
  refine Ev.congr (fun k => ?_) this
  unfold laws_toInt64S.f
  rw [if_pos (by omega), if_pos (by simpa using h), Int.toNat_natCast]
theorem eqInt64S_ev (l : List Int) (h : l.length ≤ 35184372088832) : Ev (fun k => laws_eqInt64S.f k l l) true := by
  refine Ev.congr (f := fun k => laws_eqInt64S.l0 k l l 0) (fun k => by unfold laws_eqInt64S.f; rw [if_pos rfl]) ?_
  refine go_to l.length (fun k i => laws_eqInt64S.l0 k l l i) true (fun i hi => ⟨0, fun k _ => ?_⟩) (Ev.const fun k => ?_)
  · simp only [laws_eqInt64S.l0, if_true]
    rw [if_pos (by omega), if_pos (by omega), if_pos (by omega), w64 (by omega) (by omega)]
  · simp only [laws_eqInt64S.l0]
    rw [if_neg (by omega)]
theorem markInt64S_ev (l : List Int) (h : l.length ≤ 35184372088832) : Ev (fun k => laws_markInt64S.f k l 1) (1 + 1 * (l.length : Int), (List.range l.length).map fun i : Nat => 1 + 1 * (i : Int)) := by
  refine mark_to l.length 1 1 (fun x => x) (fun k xs m i => laws_markInt64S.l0 k xs m i) (fun k xs i hi hl => ?_) (fun k xs hl => ?_) l rfl
  · simp only [laws_markInt64S.l0]
    rw [if_pos (by omega), if_pos (by omega), w64 (by omega) (by omega), w64 (by omega) (by omega), Int.toNat_natCast]
    congr 1 <;> omega
  · simp only [laws_markInt64S.l0]
    rw [if_neg (by omega)]
theorem heldInt64S_ev (n : Nat) (h : n ≤ 35184372088832) : Ev (fun k => laws_heldInt64S.f k ((List.range n).map fun i : Nat => 1 + 1 * (i : Int)) 1) (1 + 1 * (n : Int)) := by
  refine held_to n 1 1 (fun k m i => laws_heldInt64S.l0 k ((List.range n).map fun i : Nat => 1 + 1 * (i : Int)) m i) (fun k i hi => ?_) (fun k => ?_)
  · simp only [laws_heldInt64S.l0]
    rw [if_pos (by simp; omega), if_pos (by omega), rd_nat _ i (by simpa using hi), if_pos (by simp), w64 (by omega) (by omega), w64 (by omega) (by omega)]
    congr 1 <;> omega
  · simp only [laws_heldInt64S.l0]
    rw [if_neg (by simp)]

end FnExactSplitPrice_
open FnExactSplitPrice_ in
theorem FnExactSplitPrice : ∀ (c : Int) (ws : List Int), (Lit.int .i64 c).wf = true → (ws.length ≤ maxLen ∧ ∀ x ∈ ws, (Lit.int .i64 x).wf = true) → ∃ k, laws_FnExactSplitPrice.f k c ws = some true := by
  intro c ws hc hw
  by_cases h : (ws.length : Int) > 1048576
  · exact ⟨0, by unfold laws_FnExactSplitPrice.f; rw [if_pos h]⟩
  · have hl : ws.length ≤ 35184372088832 := by omega
    have h12 := splitAns_length c ws
    obtain ⟨K1, h1⟩ := toInt64S_ev ws hl
    obtain ⟨K2, h2⟩ := split_spec c ws hl
    obtain ⟨K3, h3⟩ := split_impl c ws hl
    obtain ⟨K4, h4⟩ := eqInt64S_ev (splitAns c ws).1 (by omega)
    obtain ⟨K5, h5⟩ := eqInt64S_ev ws hl
    obtain ⟨K6, h6⟩ := markInt64S_ev ws hl
    obtain ⟨K7, h7⟩ := markInt64S_ev (splitAns c ws).1 (by omega)
    obtain ⟨K8, h8⟩ := heldInt64S_ev (splitAns c ws).1.length (by omega)
    dsimp only at h1 h2 h3 h4 h5 h6 h7 h8
    refine ⟨K1 + K2 + K3 + K4 + K5 + K6 + K7 + K8 + 10, ?_⟩
    unfold laws_FnExactSplitPrice.f
    rw [if_neg h]
    simp (disch := omega) only [h1, h2, h3, h4, Option.bind_some, if_true, bne_self_eq_false, laws_FnExactSplitPrice.j0, Bool.false_eq_true, if_false, h5, h6, h7, h8]
    rw [if_neg (by omega)]
    simp (disch := omega) only [laws_FnExactSplitPrice.j1, h1, h2, h3, h4, Option.bind_some, if_true, bne_self_eq_false, Bool.false_eq_true, if_false, h5, h6, h7, h8]
    rw [if_neg (by omega)]
    simp (disch := omega) only [laws_FnExactSplitPrice.j2, h1, h2, h3, h4, Option.bind_some, if_true, bne_self_eq_false, Bool.false_eq_true, if_false, h5, h6, h7, h8]
    rw [if_neg (by omega)]

end Go.Proofs.Ytajjnpcpeaiieaa.Pure
