/- For all hands and all cents the program's ShareByHours and the reference's ShareByHours tell the same; no row is shared, the hands stay as they are. -/
import Derived.Test.YtnfcgofpfhajoaaQFnExactShareByHoursx10
import Derived.Test.YtnfcgofpfhajoaaBase
namespace Go.Proofs.Ytnfcgofpfhajoaa.Pure
open Go.RowKit Go.Proofs.Ytnfcgofpfhajoaa.QFnExactShareByHours Go.Proofs.YtnfcgofpfhajoaaW.PrintWords Go.Proofs.YtnfcgofpfhajoaaW.PrintLast Go.Proofs.Ytnfcgofpfhajoaa.Base
set_option linter.unusedVariables false
set_option linter.unusedSimpArgs false

namespace FnExactShareByHours_
def GS (x : S95) : Prop := x.f0.size ≤ maxLen ∧ (x.f1.length ≤ maxLen ∧ ∀ y ∈ x.f1, (Lit.int .i64 y).wf = true) ∧ (Lit.int .i64 x.f2).wf = true
theorem within_eq (a b c : Int) : impl_within.f a b c = some (decide (b ≤ a ∧ a ≤ c)) := by
  unfold impl_within.f
  by_cases h : a ≥ b
  · rw [if_pos h]; congr 1; apply Bool.eq_iff_iff.mpr; simp; omega
  · rw [if_neg h]; congr 1; apply Bool.eq_iff_iff.mpr; simp; omega
theorem in_eq (a b c : Int) : spec_l00In.f a b c = some (decide (b ≤ a ∧ a ≤ c)) := by
  unfold spec_l00In.f
  by_cases h : a ≥ b
  · rw [if_pos h]; congr 1; apply Bool.eq_iff_iff.mpr; simp; omega
  · rw [if_neg h]; congr 1; apply Bool.eq_iff_iff.mpr; simp; omega

theorem cents_eq (a : Int) : spec_l25Cents.f a = some (decide (0 ≤ a ∧ a ≤ 100000000)) := by
  unfold spec_l25Cents.f; rw [in_eq]; rfl

theorem areIn_ev (l : List Int) (a b : Int) (h : l.length ≤ 9223372036854775807) : Ev (fun k => impl_areIn.f k l l.length a b) (l.all fun x => decide (a ≤ x ∧ x ≤ b)) := by
  refine Ev.congr (f := fun k => impl_areIn.l0 k a b l l.length 0) (fun k => by unfold impl_areIn.f; rw [if_pos rfl]) ?_
  have := all_lt l.length (fun i => decide (a ≤ rd l i ∧ rd l i ≤ b)) (fun k i => impl_areIn.l0 k a b l l.length i) true false (fun i hi hp => ⟨0, fun k _ => ?_⟩) (fun i hi hp => Ev.const fun k => ?_) (fun _ => Ev.const fun k => ?_)
  · rw [all_range_list (p := fun x => decide (a ≤ x ∧ x ≤ b)) (fun i hi => by rw [rd_nat l i hi])] at this
    rw [ite_bool] at this
    exact this
  · simp only [impl_areIn.l0]
    rw [if_pos (by omega), if_pos (by omega), if_pos (by omega), within_eq, hp, w64 (by omega) (by omega)]
    rfl
  · simp only [impl_areIn.l0]
    rw [if_pos (by omega), if_pos (by omega), if_pos (by omega), within_eq, hp]
    rfl
  · simp only [impl_areIn.l0]
    rw [if_neg (by omega)]

/-- The first of the greatest, from place i on, against the one at b. -/
def am (r : List Int) : Nat → Nat → Nat → Nat
  | 0, _, b => b
  | d + 1, i, b => am r d (i + 1) (if rd r i > rd r b then i else b)
theorem am_lt (r : List Int) : ∀ d i b, i + d = r.length → b < r.length → am r d i b < r.length := by
  intro d
  induction d with
  | zero => intro i b _ hb; exact hb
  | succ d ih =>
    intro i b hi hb
    unfold am
    exact ih _ _ (by omega) (by split <;> omega)
/-- What is left goes, one by one, to the greatest rests. -/
def dist : Nat → List Int → List Int → List Int
  | 0, o, _ => o
  | n + 1, o, r => dist n (o.set (am r (r.length - 1) 1 0) (wrap64 (rd o (am r (r.length - 1) 1 0 : Nat) + 1))) (r.set (am r (r.length - 1) 1 0) (-1))
theorem dist_length : ∀ n o r, (dist n o r).length = o.length := by
  intro n
  induction n with
  | zero => intro o r; rfl
  | succ n ih => intro o r; unfold dist; rw [ih, List.length_set]
theorem spec_l3 (o r : List Int) (left : Int) (R : List Int × Int) (ho : o.length = r.length) (h0 : 0 < left) (h1 : left ≤ 1000000000000000) (hr : r.length ≤ 1000000000000) : ∀ d (i b : Nat), i + d = r.length → b < r.length →
    Ev (fun k => spec_SplitPrice.l2 k (o.set (am r d i b) (wrap64 (rd o (am r d i b : Nat) + 1))) (r.set (am r d i b) (-1)) (left - 1)) R → Ev (fun k => spec_SplitPrice.l3 k o r left b i) R := by
  intro d
  induction d with
  | zero =>
    intro i b hi hb h
    refine Ev.step (fun k => ?_) h
    simp only [spec_SplitPrice.l3, am]
    rw [if_neg (by omega), if_pos (by omega), if_pos (by omega), if_pos (by omega), w64 (x := left - 1) (by omega) (by omega), Int.toNat_natCast]
  | succ d ih =>
    intro i b hi hb h
    unfold am at h
    by_cases c : rd r i > rd r b
    · rw [if_pos c] at h
      refine Ev.step (fun k => ?_) (ih (i + 1) i (by omega) (by omega) h)
      simp only [spec_SplitPrice.l3]
      rw [if_pos (by omega), if_pos (by omega), if_pos (by omega), if_pos (by omega), if_pos c, w64 (x := (i : Int) + 1) (by omega) (by omega)]
      rfl
    · rw [if_neg c] at h
      refine Ev.step (fun k => ?_) (ih (i + 1) b (by omega) (by omega) h)
      simp only [spec_SplitPrice.l3]
      rw [if_pos (by omega), if_pos (by omega), if_pos (by omega), if_pos (by omega), if_neg c, w64 (x := (i : Int) + 1) (by omega) (by omega)]
      rfl
theorem spec_l2 : ∀ (n : Nat) (left : Int) (o r : List Int), left.toNat = n → left ≤ 1000000000000000 → o.length = r.length → 0 < r.length → r.length ≤ 1000000000000 → Ev (fun k => spec_SplitPrice.l2 k o r left) (dist n o r, 0) := by
  intro n
  induction n with
  | zero =>
    intro left o r hn h1 ho h0 hr
    refine Ev.const fun k => ?_
    simp only [spec_SplitPrice.l2]
    rw [if_neg (by omega)]
    rfl
  | succ n ih =>
    intro left o r hn h1 ho h0 hr
    refine Ev.step (f := fun k => spec_SplitPrice.l3 k o r left 0 1) (fun k => by simp only [spec_SplitPrice.l2]; rw [if_pos (by omega)]) ?_
    refine spec_l3 o r left _ ho (by omega) h1 hr (r.length - 1) 1 0 (by omega) h0 ?_
    have := ih (left - 1) (o.set (am r (r.length - 1) 1 0) (wrap64 (rd o (am r (r.length - 1) 1 0 : Nat) + 1))) (r.set (am r (r.length - 1) 1 0) (-1)) (by omega) (by omega) (by simpa using ho) (by simpa using h0) (by simpa using hr)
    unfold dist
    exact this
theorem impl_l3 (o r : List Int) (left : Int) (R : List Int × Int) (ho : o.length = r.length) (h0 : 0 < left) (h1 : left ≤ 1000000000000000) (hr : r.length ≤ 1000000000000) : ∀ d (i b : Nat), i + d = r.length → b < r.length →
    Ev (fun k => impl_SplitPrice.l2 k (o.set (am r d i b) (wrap64 (rd o (am r d i b : Nat) + 1))) (r.set (am r d i b) (-1)) (left - 1)) R → Ev (fun k => impl_SplitPrice.l3 k o r left b r.length i) R := by
  intro d
  induction d with
  | zero =>
    intro i b hi hb h
    refine Ev.step (fun k => ?_) h
    simp only [impl_SplitPrice.l3, am]
    rw [if_neg (by omega), if_pos (by omega), if_pos (by omega), if_pos (by omega), w64 (x := left - 1) (by omega) (by omega), Int.toNat_natCast]
  | succ d ih =>
    intro i b hi hb h
    unfold am at h
    by_cases c : rd r i > rd r b
    · rw [if_pos c] at h
      refine Ev.step (fun k => ?_) (ih (i + 1) i (by omega) (by omega) h)
      simp only [impl_SplitPrice.l3]
      rw [if_pos (by omega), if_pos (by omega), if_pos (by omega), if_pos (by omega), if_pos (by omega), if_pos c, w64 (x := (i : Int) + 1) (by omega) (by omega)]
      rfl
    · rw [if_neg c] at h
      refine Ev.step (fun k => ?_) (ih (i + 1) b (by omega) (by omega) h)
      simp only [impl_SplitPrice.l3]
      rw [if_pos (by omega), if_pos (by omega), if_pos (by omega), if_pos (by omega), if_pos (by omega), if_neg c, w64 (x := (i : Int) + 1) (by omega) (by omega)]
      rfl
theorem impl_l2 : ∀ (n : Nat) (left : Int) (o r : List Int), left.toNat = n → left ≤ 1000000000000000 → o.length = r.length → 0 < r.length → r.length ≤ 1000000000000 → Ev (fun k => impl_SplitPrice.l2 k o r left) (dist n o r, 0) := by
  intro n
  induction n with
  | zero =>
    intro left o r hn h1 ho h0 hr
    refine Ev.const fun k => ?_
    simp only [impl_SplitPrice.l2]
    rw [if_neg (by omega)]
    rfl
  | succ n ih =>
    intro left o r hn h1 ho h0 hr
    refine Ev.step (f := fun k => impl_SplitPrice.l3 k o r left 0 r.length 0) (fun k => by simp only [impl_SplitPrice.l2]; rw [if_pos (by omega)]) ?_
    refine impl_l3 o r left _ ho (by omega) h1 hr r.length 0 0 (by omega) h0 ?_
    have e : am r r.length 0 0 = am r (r.length - 1) 1 0 := by
      obtain ⟨m, hm⟩ : ∃ m, r.length = m + 1 := ⟨r.length - 1, by omega⟩
      rw [hm]
      show am r m (0 + 1) (if rd r (0 : Nat) > rd r (0 : Nat) then 0 else 0) = am r m 1 0
      rw [if_neg (by omega)]
    rw [e]
    have := ih (left - 1) (o.set (am r (r.length - 1) 1 0) (wrap64 (rd o (am r (r.length - 1) 1 0 : Nat) + 1))) (r.set (am r (r.length - 1) 1 0) (-1)) (by omega) (by omega) (by simpa using ho) (by simpa using h0) (by simpa using hr)
    unfold dist
    exact this
def shares (c S : Int) (ws : List Int) : List Int := ws.map fun w => c * w / S
def rests (c S : Int) (ws : List Int) : List Int := ws.map fun w => c * w % S
theorem set_fill (l : List Int) (i : Nat) (h : i < l.length) (z : Int) : (l.take i ++ List.replicate (l.length - i) z).set i l[i] = l.take (i + 1) ++ List.replicate (l.length - (i + 1)) z := by
  rw [List.set_append_right _ _ (by rw [List.length_take]; omega), List.length_take, Nat.min_eq_left (by omega), Nat.sub_self, show l.length - i = (l.length - (i + 1)) + 1 by omega, List.replicate_succ, List.set_cons_zero, List.take_succ_eq_append_getElem h, List.append_assoc]
  rfl
section
variable {c S : Int} {ws : List Int} (hc : 0 ≤ c ∧ c ≤ 100000000) (hS : 0 < S ∧ S ≤ 1000000000) (hw : ∀ x ∈ ws, 0 ≤ x ∧ x ≤ 10000) (hn : ws.length ≤ 12)
include hc hS hw in
theorem one_share (i : Nat) (h : i < ws.length) : wrap64 (Int.tdiv (wrap64 (c * rd ws i)) S) = c * ws[i] / S ∧ Int.tmod (wrap64 (c * rd ws i)) S = c * ws[i] % S ∧ 0 ≤ c * ws[i] / S ∧ c * ws[i] / S ≤ 1000000000000 := by
  have hx := hw _ (List.getElem_mem h)
  obtain ⟨p0, p1⟩ := mul_range hc.1 hc.2 hx.1 hx.2
  rw [rd_nat ws i h, w64 (x := c * ws[i]) (by omega) (by omega), tdiv_nn p0, tmod_nn p0]
  have q0 : 0 ≤ c * ws[i] / S := Int.ediv_nonneg p0 (by omega)
  have q1 : c * ws[i] / S ≤ c * ws[i] := Int.ediv_le_self _ p0
  exact ⟨w64 (by omega) (by omega), rfl, q0, by omega⟩
theorem shares_get (c S : Int) (ws : List Int) (i : Nat) (h : i < ws.length) : (shares c S ws)[i]'(by simpa [shares] using h) = c * ws[i] / S := by simp [shares]
theorem rests_get (c S : Int) (ws : List Int) (i : Nat) (h : i < ws.length) : (rests c S ws)[i]'(by simpa [rests] using h) = c * ws[i] % S := by simp [rests]
include hc hS hw in
theorem shares_bound : ∀ x ∈ shares c S ws, 0 ≤ x ∧ x ≤ 1000000000000 := by
  intro x hx
  obtain ⟨i, hi, rfl⟩ := List.getElem_of_mem hx
  have hi' : i < ws.length := by simpa [shares] using hi
  rw [shares_get c S ws i hi']
  exact (one_share hc hS hw i hi').2.2
include hc hS hw hn in
theorem spec_l1 (R : List Int × Int) (h : Ev (fun k => spec_SplitPrice.l2 k (shares c S ws) (rests c S ws) (c - (shares c S ws).sum)) R) : Ev (fun k => spec_SplitPrice.l1 k c ws S [] [] c 0) R := by
  have hsl : (shares c S ws).length = ws.length := by simp [shares]
  have hrl : (rests c S ws).length = ws.length := by simp [rests]
  have := for_to ws.length (fun k (s : List Int × List Int × Int) i => spec_SplitPrice.l1 k c ws S s.1 s.2.1 s.2.2 i) (fun i => ((shares c S ws).take i, (rests c S ws).take i, c - ((shares c S ws).take i).sum)) R (fun i hi => ⟨0, fun k _ => ?_⟩) ?_ ws.length 0 (by omega)
  · simpa using this
  · obtain ⟨e1, e2, e3, e4⟩ := one_share hc hS hw i hi
    have b := sum_take_bound (shares_bound hc hS hw) i (by omega)
    have hs : ((shares c S ws).take i).length = i := by rw [List.length_take]; omega
    have hr : ((rests c S ws).take i).length = i := by rw [List.length_take]; omega
    have t1 : (shares c S ws).take i ++ [c * ws[i] / S] = (shares c S ws).take (i + 1) := by rw [List.take_succ_eq_append_getElem (by omega), shares_get c S ws i hi]
    have t2 : (rests c S ws).take i ++ [c * ws[i] % S] = (rests c S ws).take (i + 1) := by rw [List.take_succ_eq_append_getElem (by omega), rests_get c S ws i hi]
    have t3 : rd ((shares c S ws).take (i + 1)) i = c * ws[i] / S := by rw [rd_nat _ i (by rw [List.length_take]; omega), List.getElem_take, shares_get c S ws i hi]
    simp only [spec_SplitPrice.l1]
    rw [if_pos (by omega), if_pos (by omega), if_neg (by omega), if_pos (by omega), e1, e2, t1, t2]
    simp only [Option.bind_some]
    rw [if_pos (by omega), if_pos (by rw [List.length_take]; omega), t3, w64 (by omega) (by omega), w64 (by omega) (by omega), sum_take_succ _ i (by omega), shares_get c S ws i hi]
    congr 1; omega
  · refine Ev.step (f := fun k => spec_SplitPrice.l2 k (shares c S ws) (rests c S ws) (c - (shares c S ws).sum)) (fun k => ?_) h
    simp only [spec_SplitPrice.l1]
    rw [if_neg (by omega), List.take_of_length_le (by omega), List.take_of_length_le (by omega)]
include hc hS hw hn in
theorem impl_l1 (R : List Int × Int) (h : Ev (fun k => impl_SplitPrice.l2 k (shares c S ws) (rests c S ws) (c - (shares c S ws).sum)) R) : Ev (fun k => impl_SplitPrice.l1 k c S (List.replicate ws.length 0) (List.replicate ws.length 0) c ws ws.length 0) R := by
  have hsl : (shares c S ws).length = ws.length := by simp [shares]
  have hrl : (rests c S ws).length = ws.length := by simp [rests]
  have := for_to ws.length (fun k (s : List Int × List Int × Int) i => impl_SplitPrice.l1 k c S s.1 s.2.1 s.2.2 ws ws.length i) (fun i => ((shares c S ws).take i ++ List.replicate ((shares c S ws).length - i) 0, (rests c S ws).take i ++ List.replicate ((rests c S ws).length - i) 0, c - ((shares c S ws).take i).sum)) R (fun i hi => ⟨0, fun k _ => ?_⟩) ?_ ws.length 0 (by omega)
  · simpa [hsl, hrl] using this
  · obtain ⟨e1, e2, e3, e4⟩ := one_share hc hS hw i hi
    have b := sum_take_bound (shares_bound hc hS hw) i (by omega)
    have l1 : ((shares c S ws).take i ++ List.replicate ((shares c S ws).length - i) 0).length = ws.length := by simp; omega
    have l2 : ((rests c S ws).take i ++ List.replicate ((rests c S ws).length - i) 0).length = ws.length := by simp; omega
    have s1 := set_fill (shares c S ws) i (by omega) 0
    have s2 := set_fill (rests c S ws) i (by omega) 0
    rw [shares_get c S ws i hi] at s1
    rw [rests_get c S ws i hi] at s2
    have t3 : rd ((shares c S ws).take (i + 1) ++ List.replicate ((shares c S ws).length - (i + 1)) 0) i = c * ws[i] / S := by
      rw [rd_nat _ i (by simp; omega), List.getElem_append_left (by rw [List.length_take]; omega), List.getElem_take, shares_get c S ws i hi]
    simp only [impl_SplitPrice.l1]
    rw [if_pos (by omega), if_pos (by omega), if_pos (by omega), if_neg (by omega), if_pos (by omega), e1, e2, Int.toNat_natCast, s1, s2]
    simp only [Option.bind_some]
    rw [if_pos (by omega), t3, w64 (by omega) (by omega), w64 (by omega) (by omega), sum_take_succ _ i (by omega), shares_get c S ws i hi]
    congr 1; omega
  · refine Ev.step (f := fun k => impl_SplitPrice.l2 k (shares c S ws) (rests c S ws) (c - (shares c S ws).sum)) (fun k => ?_) h
    simp only [impl_SplitPrice.l1]
    rw [if_neg (by omega), List.take_of_length_le (by omega), List.take_of_length_le (by omega), hsl, hrl]
    simp
end
theorem sum_ev (l : List Int) (A : Int) (hA : 0 ≤ A) (h : ∀ x ∈ l, 0 ≤ x ∧ x ≤ A) (hb : A * l.length ≤ 9223372036854775807) (hl : l.length ≤ 35184372088832) : Ev (fun k => spec_l00Sum.f k l) l.sum := by
  have := for_to l.length (fun k (s : Int) i => spec_l00Sum.l0 k l s i) (fun i => (l.take i).sum) l.sum (fun i hi => ⟨0, fun k _ => ?_⟩) (Ev.const fun k => ?_) l.length 0 (by omega)
  · exact this
  · have b1 := sum_take_bound h (i + 1) (by omega)
    have b2 : A * ((i + 1 : Nat) : Int) ≤ A * l.length := Int.mul_le_mul_of_nonneg_left (by omega) hA
    rw [sum_take_succ l i hi] at b1
    simp only [spec_l00Sum.l0]
    rw [if_pos (by omega), if_pos (by omega), rd_nat l i hi, w64 (x := (i : Int) + 1) (by omega) (by omega), w64 (by omega) (by omega), sum_take_succ l i hi]
  · simp only [spec_l00Sum.l0]
    rw [if_neg (by omega), List.take_of_length_le (by omega)]
/-- What SplitPrice answers. -/
def splitAns (c : Int) (ws : List Int) : List Int × Int :=
  if (ws.all fun x => decide (0 ≤ x ∧ x ≤ 10000)) = true then
    if (0 ≤ c ∧ c ≤ 100000000) ∧ 1 ≤ ws.length ∧ ws.length ≤ 12 then
      if ws.sum = 0 then ([], 6) else (dist (c - (shares c ws.sum ws).sum).toNat (shares c ws.sum ws) (rests c ws.sum ws), 0)
    else ([], 2)
  else ([], 2)
theorem split_spec (c : Int) (ws : List Int) (hl : ws.length ≤ 35184372088832) : Ev (fun k => spec_SplitPrice.f k c ws) (splitAns c ws) := by
  unfold splitAns spec_SplitPrice.f
  rw [← all_range_list (q := fun i => decide (0 ≤ rd ws i ∧ rd ws i ≤ 10000)) (p := fun x => decide (0 ≤ x ∧ x ≤ 10000)) (fun i hi => by rw [rd_nat ws i hi])]
  refine all_lt ws.length (fun i => decide (0 ≤ rd ws i ∧ rd ws i ≤ 10000)) (fun k i => spec_SplitPrice.l0 k c ws i) _ _ (fun i hi hp => ⟨0, fun k _ => ?_⟩) (fun i hi hp => Ev.const fun k => ?_) (fun hp => ?_)
  · simp only [spec_SplitPrice.l0]
    rw [if_pos (by omega), if_pos (by omega), in_eq, hp, w64 (by omega) (by omega)]
    rfl
  · simp only [spec_SplitPrice.l0]
    rw [if_pos (by omega), if_pos (by omega), in_eq, hp]
    rfl
  · have hw : ∀ x ∈ ws, 0 ≤ x ∧ x ≤ 10000 := by
      intro x hx
      obtain ⟨i, hi, rfl⟩ := List.getElem_of_mem hx
      have := of_decide_eq_true (hp i hi)
      rwa [rd_nat ws i hi] at this
    by_cases hc : 0 ≤ c ∧ c ≤ 100000000
    · by_cases hn : 1 ≤ ws.length ∧ ws.length ≤ 12
      · rw [if_pos ⟨hc, hn⟩]
        have hs := sum_bound 0 10000 ws hw
        obtain ⟨K, hK⟩ := sum_ev ws 10000 (by omega) hw (by omega) hl
        dsimp only at hK
        by_cases h0 : ws.sum = 0
        · rw [if_pos h0]
          refine ⟨K + 2, fun k hk => ?_⟩
          obtain ⟨m, rfl⟩ : ∃ m, k = m + 2 := ⟨k - 2, by omega⟩
          simp only [spec_SplitPrice.l0]
          rw [if_neg (by omega), cents_eq, in_eq]
          simp only [hc, and_self, decide_true, Option.bind_some, if_true, decide_eq_true (show 1 ≤ (ws.length : Int) ∧ (ws.length : Int) ≤ 12 by omega), Bool.not_true]
          simp only [spec_SplitPrice.j1, Bool.false_eq_true, if_false]
          rw [hK m (by omega)]
          simp only [Option.bind_some]
          rw [if_pos h0]
        · rw [if_neg h0]
          obtain ⟨J, hJ⟩ := spec_l1 hc (S := ws.sum) (by omega) hw hn.2 _ (spec_l2 _ (c - (shares c ws.sum ws).sum) (shares c ws.sum ws) (rests c ws.sum ws) rfl (by
            have := (sum_bound 0 1000000000000 _ (shares_bound hc (S := ws.sum) (by omega) hw)).1
            omega) (by simp [shares, rests]) (by simp [rests]; omega) (by simp [rests]; omega))
          dsimp only at hJ
          refine ⟨max K J + 2, fun k hk => ?_⟩
          obtain ⟨m, rfl⟩ : ∃ m, k = m + 2 := ⟨k - 2, by omega⟩
          simp only [spec_SplitPrice.l0]
          rw [if_neg (by omega), cents_eq, in_eq]
          simp only [hc, and_self, decide_true, Option.bind_some, if_true, decide_eq_true (show 1 ≤ (ws.length : Int) ∧ (ws.length : Int) ≤ 12 by omega), Bool.not_true]
          simp only [spec_SplitPrice.j1, Bool.false_eq_true, if_false]
          rw [hK m (by omega)]
          simp only [Option.bind_some]
          rw [if_neg h0, hJ m (by omega)]
      · rw [if_neg (fun h => hn h.2)]
        refine ⟨2, fun k hk => ?_⟩
        obtain ⟨m, rfl⟩ : ∃ m, k = m + 2 := ⟨k - 2, by omega⟩
        simp only [spec_SplitPrice.l0]
        rw [if_neg (by omega), cents_eq, in_eq]
        simp only [hc, and_self, decide_true, Option.bind_some, if_true, decide_eq_false (show ¬ (1 ≤ (ws.length : Int) ∧ (ws.length : Int) ≤ 12) by omega), Bool.not_false]
        simp only [spec_SplitPrice.j1, if_true]
    · rw [if_neg (fun h => hc h.1)]
      refine ⟨2, fun k hk => ?_⟩
      obtain ⟨m, rfl⟩ : ∃ m, k = m + 2 := ⟨k - 2, by omega⟩
      simp only [spec_SplitPrice.l0]
      rw [if_neg (by omega), cents_eq]
      simp only [hc, decide_false, Option.bind_some, Bool.false_eq_true, if_false]
      simp only [spec_SplitPrice.j1, if_true]
theorem split_j0 (c : Int) (ws : List Int) (k : Nat) : impl_SplitPrice.j0 (k + 1) c ws true = some ([], 2) := by simp only [impl_SplitPrice.j0, if_true]
theorem split_impl (c : Int) (ws : List Int) (hl : ws.length ≤ 35184372088832) : Ev (fun k => impl_SplitPrice.f k c ws) (splitAns c ws) := by
  unfold splitAns
  by_cases hc : 0 ≤ c ∧ c ≤ 100000000
  · by_cases hn : 1 ≤ ws.length ∧ ws.length ≤ 12
    · obtain ⟨K, hK⟩ := areIn_ev ws 0 10000 (by omega)
      dsimp only at hK
      have start : ∀ k, K ≤ k → impl_SplitPrice.f k c ws = impl_SplitPrice.j0 k c ws (!(ws.all fun x => decide (0 ≤ x ∧ x ≤ 10000))) := by
        intro k hk
        unfold impl_SplitPrice.f
        rw [within_eq]
        simp only [hc, and_self, decide_true, Option.bind_some, if_true]
        rw [if_neg (by omega), if_neg (by omega), hK k hk]
        rfl
      by_cases ha : (ws.all fun x => decide (0 ≤ x ∧ x ≤ 10000)) = true
      · rw [if_pos ha, if_pos ⟨hc, hn⟩]
        have hw : ∀ x ∈ ws, 0 ≤ x ∧ x ≤ 10000 := fun x hx => by simpa using List.all_eq_true.1 ha x hx
        have hs := sum_bound 0 10000 ws hw
        have go : ∀ R, Ev (fun k => impl_SplitPrice.l0 (k + 1) c ws ws.sum ws ws.length ws.length) R → Ev (fun k => impl_SplitPrice.f k c ws) R := by
          intro R h
          have h1 := for_to ws.length (fun k (s : Int) i => impl_SplitPrice.l0 k c ws s ws ws.length i) (fun i => (ws.take i).sum) R (fun i hi => ⟨0, fun k _ => by
            have b1 := sum_take_bound hw (i + 1) (by omega)
            rw [sum_take_succ ws i hi] at b1
            simp only [impl_SplitPrice.l0]
            rw [if_pos (by omega), if_pos (by omega), if_pos (by omega), rd_nat ws i hi, w64 (x := (i : Int) + 1) (by omega) (by omega), w64 (by omega) (by omega), sum_take_succ ws i hi]⟩) (by
            rw [List.take_of_length_le (by omega)]
            exact Ev.succ h) ws.length 0 (by omega)
          obtain ⟨J, hJ⟩ := h1
          dsimp only at hJ
          refine ⟨max K J + 1, fun k hk => ?_⟩
          obtain ⟨m, rfl⟩ : ∃ m, k = m + 1 := ⟨k - 1, by omega⟩
          dsimp only
          rw [start _ (by omega), ha]
          simp only [impl_SplitPrice.j0, Bool.not_true, Bool.false_eq_true, if_false]
          exact hJ m (by omega)
        by_cases h0 : ws.sum = 0
        · rw [if_pos h0]
          refine go _ (Ev.all fun k => ?_)
          simp only [impl_SplitPrice.l0]
          rw [if_neg (by omega), if_pos h0]
        · rw [if_neg h0]
          refine go _ (Ev.congr (fun k => ?_) (impl_l1 hc (S := ws.sum) (by omega) hw hn.2 _ (impl_l2 _ (c - (shares c ws.sum ws).sum) (shares c ws.sum ws) (rests c ws.sum ws) rfl (by
            have := (sum_bound 0 1000000000000 _ (shares_bound hc (S := ws.sum) (by omega) hw)).1
            omega) (by simp [shares, rests]) (by simp [rests]; omega) (by simp [rests]; omega))))
          simp only [impl_SplitPrice.l0]
          rw [if_neg (by omega), if_neg h0, if_pos (by omega), if_pos (by omega), Int.toNat_natCast]
      · rw [if_neg ha]
        refine ⟨K + 1, fun k hk => ?_⟩
        obtain ⟨m, rfl⟩ : ∃ m, k = m + 1 := ⟨k - 1, by omega⟩
        dsimp only
        rw [start _ (by omega), Bool.eq_false_iff.mpr ha]
        exact split_j0 c ws m
    · have e : (if (ws.all fun x => decide (0 ≤ x ∧ x ≤ 10000)) = true then if (0 ≤ c ∧ c ≤ 100000000) ∧ 1 ≤ ws.length ∧ ws.length ≤ 12 then if ws.sum = 0 then (([], 6) : List Int × Int) else (dist (c - (shares c ws.sum ws).sum).toNat (shares c ws.sum ws) (rests c ws.sum ws), 0) else ([], 2) else ([], 2)) = ([], 2) := by
        rw [if_neg (c := (0 ≤ c ∧ c ≤ 100000000) ∧ 1 ≤ ws.length ∧ ws.length ≤ 12) (fun h => hn h.2), ite_self]
      rw [e]
      refine Ev.const fun k => ?_
      unfold impl_SplitPrice.f
      rw [within_eq]
      simp only [hc, and_self, decide_true, Option.bind_some, if_true]
      by_cases h1 : (ws.length : Int) < 1
      · rw [if_pos h1]; exact split_j0 c ws k
      · rw [if_neg h1, if_pos (by omega)]; exact split_j0 c ws k
  · have e : (if (ws.all fun x => decide (0 ≤ x ∧ x ≤ 10000)) = true then if (0 ≤ c ∧ c ≤ 100000000) ∧ 1 ≤ ws.length ∧ ws.length ≤ 12 then if ws.sum = 0 then (([], 6) : List Int × Int) else (dist (c - (shares c ws.sum ws).sum).toNat (shares c ws.sum ws) (rests c ws.sum ws), 0) else ([], 2) else ([], 2)) = ([], 2) := by
      rw [if_neg (c := (0 ≤ c ∧ c ≤ 100000000) ∧ 1 ≤ ws.length ∧ ws.length ≤ 12) (fun h => hc h.1), ite_self]
    rw [e]
    refine Ev.const fun k => ?_
    unfold impl_SplitPrice.f
    rw [within_eq]
    simp only [hc, decide_false, Option.bind_some, Bool.false_eq_true, if_false]
    exact split_j0 c ws k
theorem splitAns_length (c : Int) (ws : List Int) : (splitAns c ws).1.length ≤ 12 := by
  unfold splitAns
  split
  · split
    · rename_i h
      split
      · simp
      · show (dist _ _ _).length ≤ 12
        rw [dist_length]
        simp [shares]
        omega
    · simp
  · simp

theorem toInt64S_ev (l : List Int) (h : l.length ≤ 35184372088832) : Ev (fun k => laws_toInt64S.f k l) l := by
  have round : ∀ k acc (i : Nat) (h : i < l.length), acc.length = l.length → laws_toInt64S.l0 (k + 1) l acc (i : Int) = laws_toInt64S.l0 k l (acc.set i (id l[i])) ((i : Int) + 1) := by
    intro k acc i hi hl
    simp only [laws_toInt64S.l0]
    rw [if_pos (by omega), if_pos (by omega), if_pos (by omega), w64 (by omega) (by omega), rd_nat l i hi, Int.toNat_natCast]
    rfl
  have fin : ∀ k acc, laws_toInt64S.l0 (k + 1) l acc (l.length : Int) = some acc := by
    intro k acc
    simp only [laws_toInt64S.l0]
    rw [if_neg (by omega)]
  have := fill_to l id (fun k acc i => laws_toInt64S.l0 k l acc i) round fin (List.replicate l.length 0) (by simp)
  rw [List.map_id] at this
  refine Ev.congr (fun k => ?_) this
  unfold laws_toInt64S.f
  rw [if_pos (by omega), if_pos (by simpa using h), Int.toNat_natCast]
theorem eqInt64S_ev (l : List Int) (h : l.length ≤ 35184372088832) : Ev (fun k => laws_eqInt64S.f k l l) true := by
  refine Ev.congr (f := fun k => laws_eqInt64S.l0 k l l 0) (fun k => by unfold laws_eqInt64S.f; rw [if_pos rfl]) ?_
  refine go_to l.length (fun k i => laws_eqInt64S.l0 k l l i) true (fun i hi => ⟨0, fun k _ => ?_⟩) (Ev.const fun k => ?_)
  · simp only [laws_eqInt64S.l0, if_true]
    rw [if_pos (by omega), if_pos (by omega), if_pos (by omega), w64 (by omega) (by omega)]
  · simp only [laws_eqInt64S.l0]
    rw [if_neg (by omega)]
theorem markInt64S_ev (l : List Int) (h : l.length ≤ 35184372088832) : Ev (fun k => laws_markInt64S.f k l 1) (1 + 1 * (l.length : Int), (List.range l.length).map fun i : Nat => 1 + 1 * (i : Int)) := by
  refine mark_to l.length 1 1 (fun x => x) (fun k xs m i => laws_markInt64S.l0 k xs m i) (fun xs i hi hl => ⟨0, fun k _ => ?_⟩) (fun k xs hl => ?_) l rfl
  · simp only [laws_markInt64S.l0]
    rw [if_pos (by omega), if_pos (by omega), w64 (by omega) (by omega), w64 (by omega) (by omega), Int.toNat_natCast]
    congr 1 <;> omega
  · simp only [laws_markInt64S.l0]
    rw [if_neg (by omega)]
theorem heldInt64S_ev (n : Nat) (h : n ≤ 35184372088832) : Ev (fun k => laws_heldInt64S.f k ((List.range n).map fun i : Nat => 1 + 1 * (i : Int)) 1) (1 + 1 * (n : Int)) := by
  refine held_to n 1 1 (fun k m i => laws_heldInt64S.l0 k ((List.range n).map fun i : Nat => 1 + 1 * (i : Int)) m i) (fun i hi => ⟨0, fun k _ => ?_⟩) (fun k => ?_)
  · simp only [laws_heldInt64S.l0]
    rw [if_pos (by simp; omega), if_pos (by omega), rd_nat _ i (by simpa using hi), if_pos (by simp), w64 (by omega) (by omega), w64 (by omega) (by omega)]
    congr 1 <;> omega
  · simp only [laws_heldInt64S.l0]
    rw [if_neg (by simp)]
theorem markI_ev (l : List Int) (m0 : Int) (h : l.length ≤ 2000000) (h0 : 0 ≤ m0) (h1 : m0 ≤ 1000000000) : Ev (fun k => laws_markInt64S.f k l m0) (m0 + 1 * (l.length : Int), (List.range l.length).map fun i : Nat => m0 + 1 * (i : Int)) := by
  refine mark_to l.length 1 m0 (fun x => x) (fun k xs m i => laws_markInt64S.l0 k xs m i) (fun xs i hi hl => ⟨0, fun k _ => ?_⟩) (fun k xs hl => ?_) l rfl
  · simp only [laws_markInt64S.l0]
    rw [if_pos (by omega), if_pos (by omega), w64 (by omega) (by omega), w64 (by omega) (by omega), Int.toNat_natCast]
    congr 1 <;> omega
  · simp only [laws_markInt64S.l0]
    rw [if_neg (by omega)]
theorem heldI_ev (n : Nat) (m0 : Int) (h : n ≤ 2000000) (h0 : 0 ≤ m0) (h1 : m0 ≤ 1000000000) : Ev (fun k => laws_heldInt64S.f k ((List.range n).map fun i : Nat => m0 + 1 * (i : Int)) m0) (m0 + 1 * (n : Int)) := by
  refine held_to n 1 m0 (fun k m i => laws_heldInt64S.l0 k ((List.range n).map fun i : Nat => m0 + 1 * (i : Int)) m i) (fun i hi => ⟨0, fun k _ => ?_⟩) (fun k => ?_)
  · simp only [laws_heldInt64S.l0]
    rw [if_pos (by simp; omega), if_pos (by omega), rd_nat _ i (by simpa using hi), if_pos (by simp), w64 (by omega) (by omega), w64 (by omega) (by omega)]
    congr 1 <;> omega
  · simp only [laws_heldInt64S.l0]
    rw [if_neg (by simp)]


/-- A loop of rounds that each go on, with rounds enough for the calls in them: it fills a row. -/
theorem fill_ev {α β : Type} (l : List α) (c : α → β) (loop : Nat → List β → Int → Option (List β))
    (round : ∀ (i : Nat) (h : i < l.length), ∃ K, ∀ k acc, K ≤ k → acc.length = l.length → loop (k + 1) acc (i : Int) = loop k (acc.set i (c l[i])) ((i : Int) + 1))
    (fin : ∀ k acc, loop (k + 1) acc (l.length : Int) = some acc) (acc : List β) (hl : acc.length = l.length) : Ev (fun k => loop k acc 0) (l.map c) := by
  have h := for_ev l.length loop (fun i a => a.length = l.length ∧ a.take i = (l.map c).take i) (fun r => r = l.map c) (fun i s hi hs => .inl ⟨s.set i (c l[i]), ⟨by rw [List.length_set]; exact hs.1, ?_⟩, (by
    obtain ⟨K, hK⟩ := round i hi
    exact ⟨K, fun k hk => hK k s hk hs.1⟩)⟩) (fun s hs => ?_) l.length 0 acc (by omega) ⟨hl, by simp⟩
  · obtain ⟨r, rfl, h⟩ := h
    exact h
  · apply List.ext_getElem?
    intro j
    rw [List.getElem?_take, List.getElem?_take]
    by_cases hj : j < i + 1
    · rw [if_pos hj, if_pos hj]
      by_cases hji : j = i
      · subst hji
        rw [List.getElem?_set_self (by omega), List.getElem?_map, List.getElem?_eq_getElem hi]; rfl
      · rw [List.getElem?_set_ne (by omega)]
        have := congrArg (fun x => x[j]?) hs.2
        simp only [List.getElem?_take] at this
        rw [if_pos (by omega), if_pos (by omega)] at this
        exact this
    · rw [if_neg hj, if_neg hj]
  · refine ⟨s, ?_, Ev.const (fun k => fin k s)⟩
    have h2 := hs.2
    rw [List.take_of_length_le (by omega), List.take_of_length_le (by simp)] at h2
    exact h2

abbrev LT := S95
abbrev IT := S29
def conv (x : LT) : IT := ⟨x.f0, x.f1, x.f2⟩
theorem rdL (xs : List LT) (i : Nat) (h : i < xs.length) : rd_T95 xs (i : Int) = xs[i] := by
  unfold rd_T95; rw [Int.toNat_natCast, List.getD_eq_getElem?_getD, List.getElem?_eq_getElem h]; rfl
theorem rdI (xs : List IT) (i : Nat) (h : i < xs.length) : rd_T29 xs (i : Int) = xs[i] := by
  unfold rd_T29; rw [Int.toNat_natCast, List.getD_eq_getElem?_getD, List.getElem?_eq_getElem h]; rfl
/-- Hands that are few, each with few days: what the law speaks of. -/
def Few (l : List IT) : Prop := l.length ≤ 2000000 ∧ ∀ x ∈ l, x.f1.length ≤ 2000000
theorem to_ev (l : List LT) (h : l.length ≤ 1048576) (hx : ∀ x ∈ l, x.f1.length ≤ 1048576) : Ev (fun k => laws_toHandS.f k l) (l.map conv) := by
  have round : ∀ (i : Nat) (h : i < l.length), ∃ K, ∀ k acc, K ≤ k → acc.length = l.length → laws_toHandS.l0 (k + 1) l acc (i : Int) = laws_toHandS.l0 k l (acc.set i (conv l[i])) ((i : Int) + 1) := by
    intro i hi
    have hxi := hx _ (List.getElem_mem hi)
    obtain ⟨K, hK⟩ := Ev.pick (toInt64S_ev l[i].f1 (by omega))
    refine ⟨K, fun k acc hk hl => ?_⟩
    simp only [laws_toHandS.l0, laws_toHand.f]
    rw [if_pos (by omega), if_pos (by omega), rdL l i hi, hK k hk]
    simp only [Option.bind_some]
    rw [if_pos (by omega), w64 (by omega) (by omega), Int.toNat_natCast]
    rfl
  have fin : ∀ k acc, laws_toHandS.l0 (k + 1) l acc (l.length : Int) = some acc := by
    intro k acc
    simp only [laws_toHandS.l0]
    rw [if_neg (by omega)]
  have := fill_ev l conv (fun k acc i => laws_toHandS.l0 k l acc i) round fin (List.replicate l.length z29) (by simp)
  refine Ev.congr (fun k => ?_) this
  unfold laws_toHandS.f
  rw [if_pos (by omega), if_pos (by rw [Int.toNat_natCast]; omega), Int.toNat_natCast]
theorem eq_ev (l : List IT) (h : Few l) : Ev (fun k => laws_eqHandS.f k l l) true := by
  have h0 := h.1
  refine Ev.congr (f := fun k => laws_eqHandS.l0 k l l 0) (fun k => by unfold laws_eqHandS.f; rw [if_pos rfl]) ?_
  refine go_to l.length (fun k i => laws_eqHandS.l0 k l l i) true (fun i hi => ?_) (Ev.const fun k => ?_)
  · have hxi := h.2 _ (List.getElem_mem hi)
    obtain ⟨K, hK⟩ := Ev.pick (eqInt64S_ev l[i].f1 (by omega))
    refine ⟨K, fun k hk => ?_⟩
    simp only [laws_eqHandS.l0, laws_eqHand.f, if_true]
    rw [if_pos (by omega), if_pos (by omega), if_pos (by omega), rdI l i hi, hK k hk]
    simp only [Option.bind_some, if_true]
    rw [w64 (by omega) (by omega)]
  · simp only [laws_eqHandS.l0]
    rw [if_neg (by omega)]
theorem sz_one (x : LT) (hx : GS x) (left : Int) (h0 : 0 ≤ left) (h1 : left ≤ 1048576) : ∃ t, laws_szHand.f x.f0 x.f1 x.f2 left = some t ∧ t ≤ 1048576 ∧ (t < 0 ∨ x.f1.length ≤ 1048576) := by
  unfold GS at hx
  unfold maxLen at hx
  unfold laws_szHand.f laws_szInt64S.f
  have a1 := hx.1
  have a2 := hx.2.1.1
  generalize x.f0.size = n0 at a1 ⊢
  generalize x.f1.length = n1 at a2 ⊢
  rw [w64 (x := left - n0) (by omega) (by omega)]
  split
  · exact ⟨-1, rfl, by omega, .inl (by omega)⟩
  · rw [w64 (x := left - n0 - n1) (by omega) (by omega)]
    split
    · exact ⟨-1, rfl, by omega, .inl (by omega)⟩
    · rename_i g2
      simp only [Option.bind_some]
      rw [if_neg g2]
      exact ⟨_, rfl, by omega, .inr (by omega)⟩
theorem sz_ev (l : List LT) (h : l.length ≤ maxLen) (hg : ∀ x ∈ l, GS x) : ∃ r, (r < 0 ∨ l.length ≤ 1048576 ∧ ∀ x ∈ l, x.f1.length ≤ 1048576) ∧ Ev (fun k => laws_szHandS.f k l 1048576) r := by
  unfold maxLen at h
  by_cases c : 1048576 < l.length
  · refine ⟨-1, .inl (by omega), Ev.all fun k => ?_⟩
    unfold laws_szHandS.f
    rw [w64 (by omega) (by omega), if_pos (by omega)]
  · have h3 := for_ev l.length (fun k (s : Int) i => laws_szHandS.l0 k l s i) (fun i s => (0 ≤ s ∧ s ≤ 1048576) ∧ ∀ j (hj : j < l.length), j < i → l[j].f1.length ≤ 1048576) (fun r => r < 0 ∨ ∀ x ∈ l, x.f1.length ≤ 1048576) (fun i s hi hs => ?_) (fun s hs => ⟨s, .inr fun x hx => ?_, Ev.const fun k => ?_⟩) l.length 0 (1048576 - (l.length : Int)) (by omega) ⟨by omega, fun j _ hj => absurd hj (Nat.not_lt_zero _)⟩
    · obtain ⟨r, hr, h2⟩ := h3
      refine ⟨r, ?_, Ev.congr (fun k => ?_) h2⟩
      · rcases hr with hr | hr
        · exact .inl hr
        · exact .inr ⟨by omega, hr⟩
      · unfold laws_szHandS.f
        rw [w64 (by omega) (by omega), if_neg (by omega)]
        rfl
    · obtain ⟨t, ht, ht1, ht2⟩ := sz_one l[i] (hg _ (List.getElem_mem hi)) s hs.1.1 hs.1.2
      by_cases c2 : t < 0
      · refine .inr ⟨-1, .inl (by omega), Ev.const fun k => ?_⟩
        simp only [laws_szHandS.l0]
        rw [if_pos (by omega), if_pos (by omega), rdL l i hi, ht]
        simp only [Option.bind_some]
        rw [if_pos c2]
      · refine .inl ⟨t, ⟨by omega, fun j hj hji => ?_⟩, 0, fun k _ => ?_⟩
        · by_cases e : j = i
          · subst e; omega
          · exact hs.2 j hj (by omega)
        · simp only [laws_szHandS.l0]
          rw [if_pos (by omega), if_pos (by omega), rdL l i hi, ht]
          simp only [Option.bind_some]
          rw [if_neg c2, w64 (by omega) (by omega)]
    · obtain ⟨j, hj, rfl⟩ := List.getElem_of_mem hx
      exact hs.2 j hj hj
    · simp only [laws_szHandS.l0]
      rw [if_neg (by omega)]
theorem few_map {l : List LT} (h : l.length ≤ 1048576) (hx : ∀ x ∈ l, x.f1.length ≤ 1048576) : Few (l.map conv) := by
  refine ⟨by rw [List.length_map]; omega, fun x hx2 => ?_⟩
  obtain ⟨y, hy, rfl⟩ := List.mem_map.1 hx2
  have := hx y hy
  exact Nat.le_trans this (by omega)

def extraW (lim : Int) (l : List Int) : Int := l.foldl (fun a m => wrap64 (a + mx 0 (wrap64 (m - lim)))) 0
theorem extra_impl (f0 : ByteArray) (l : List Int) (f2 lim : Int) (h : l.length ≤ 35184372088832) : Ev (fun k => impl_extraMinutes.f k f0 l f2 lim) (extraW lim l) := by
  have := for_to l.length (fun k (s : Int) i => impl_extraMinutes.l0 k lim s l l.length i) (fun i => extraW lim (l.take i)) (extraW lim l) (fun i hi => ⟨0, fun k _ => ?_⟩) (Ev.const fun k => ?_) l.length 0 (by omega)
  · exact this
  · simp only [impl_extraMinutes.l0]
    rw [if_pos (by omega), if_pos (by omega), if_pos (by omega), rd_nat l i hi, List.take_succ_eq_append_getElem hi, w64 (x := (i : Int) + 1) (by omega) (by omega)]
    unfold extraW
    rw [List.foldl_append]
    rfl
  · simp only [impl_extraMinutes.l0]
    rw [if_neg (by omega), List.take_of_length_le (Nat.le_refl _)]
theorem mx_zero {x : Int} (h : 0 ≤ x) : mx 0 x = x := by unfold mx; split <;> omega
theorem extra_zero : ∀ (l : List Int) (a : Int), (∀ x ∈ l, 0 ≤ x ∧ x ≤ 1440) → l.foldl (fun a m => wrap64 (a + mx 0 (wrap64 (m - 0)))) a = l.foldl (fun a m => wrap64 (a + m)) a
  | [], _, _ => rfl
  | x :: xs, a, h => by
    have hx := h x (by simp)
    rw [List.foldl_cons, List.foldl_cons, Int.sub_zero, w64 (x := x) (by omega) (by omega), mx_zero hx.1]
    exact extra_zero xs _ (fun y hy => h y (by simp [hy]))

def sumW (l : List Int) : Int := l.foldl (fun a m => wrap64 (a + m)) 0
theorem sumW_ev (l : List Int) (h : l.length ≤ 9223372036854775807) : Ev (fun k => spec_l00Sum.f k l) (sumW l) := by
  have := for_to l.length (fun k (s : Int) i => spec_l00Sum.l0 k l s i) (fun i => (l.take i).foldl (fun a m => wrap64 (a + m)) 0) (sumW l) (fun i hi => ⟨0, fun k _ => ?_⟩) (Ev.const fun k => ?_) l.length 0 (by omega)
  · exact this
  · simp only [spec_l00Sum.l0]
    rw [if_pos (by omega), if_pos (by omega), rd_nat l i hi, List.take_succ_eq_append_getElem hi, List.foldl_append, w64 (x := (i : Int) + 1) (by omega) (by omega)]
    rfl
  · simp only [spec_l00Sum.l0]
    rw [if_neg (by omega), List.take_of_length_le (Nat.le_refl _)]
    rfl

theorem mtxt_loop2 : ∀ (d : Nat) (n : Int) (s : ByteArray), n < 10 ^ d → s.size + d ≤ 2000000000 → ∃ t, Ev (fun k => laws_markText.l0 k n s) t := by
  intro d
  induction d with
  | zero =>
    intro n s hn hs
    refine ⟨(⟨#[109]⟩ : ByteArray) ++ s, Ev.const fun k => ?_⟩
    simp only [laws_markText.l0]
    rw [if_neg (by omega), if_pos (by omega)]
  | succ d ih =>
    intro n s hn hs
    by_cases h : n > 0
    · have hd : wrap64 (Int.tdiv n 10) < 10 ^ d ∨ wrap64 (Int.tdiv n 10) ≤ 0 := by
        rw [tdiv_nn (by omega)]
        have h2 : n / 10 < 10 ^ d := by
          rw [Int.pow_succ] at hn
          exact Int.ediv_lt_of_lt_mul (by omega) hn
        generalize (10 : Int) ^ d = p at h2
        unfold wrap64
        omega
      have hsz : (strOfNums [(wrap64 (48 + (Int.tmod n 10))) % 256] ++ s).size + d ≤ 2000000000 := by
        have h1 : (strOfNums [(wrap64 (48 + (Int.tmod n 10))) % 256]).size = 1 := rfl
        rw [ByteArray.size_append, h1]; omega
      have hp : (0 : Int) < 10 ^ d := Int.pow_pos (by omega)
      obtain ⟨t, ht⟩ := ih (wrap64 (Int.tdiv n 10)) (strOfNums [(wrap64 (48 + (Int.tmod n 10))) % 256] ++ s) (by rcases hd with hd | hd; exact hd; exact Int.lt_of_le_of_lt hd hp) hsz
      refine ⟨t, Ev.step (fun k => ?_) ht⟩
      have h1 : (strOfNums [(wrap64 (48 + (Int.tmod n 10))) % 256]).size = 1 := rfl
      simp only [laws_markText.l0]
      rw [if_pos h]
      simp only [Option.bind_some]
      rw [if_pos (by rw [h1]; omega)]
    · refine ⟨(⟨#[109]⟩ : ByteArray) ++ s, Ev.const fun k => ?_⟩
      simp only [laws_markText.l0]
      rw [if_neg h, if_pos (by omega)]
theorem mtxt_big (n : Int) (h : n ≤ 1000000000000000) : ∃ t, Ev (fun k => laws_markText.f k n) t := by
  by_cases c : n ≤ 0
  · exact ⟨_, Ev.all fun k => by unfold laws_markText.f; rw [if_pos c]⟩
  · obtain ⟨t, ht⟩ := mtxt_loop2 16 n (⟨#[]⟩ : ByteArray) (by omega) (by decide)
    exact ⟨t, Ev.congr (fun k => by unfold laws_markText.f; rw [if_neg c]) ht⟩
theorem markI_big (l : List Int) (m0 : Int) (h : l.length ≤ 2000000) (h0 : 0 ≤ m0) (h1 : m0 ≤ 1000000000000000) : Ev (fun k => laws_markInt64S.f k l m0) (m0 + 1 * (l.length : Int), (List.range l.length).map fun i : Nat => m0 + 1 * (i : Int)) := by
  refine mark_to l.length 1 m0 (fun x => x) (fun k xs m i => laws_markInt64S.l0 k xs m i) (fun xs i hi hl => ⟨0, fun k _ => ?_⟩) (fun k xs hl => ?_) l rfl
  · simp only [laws_markInt64S.l0]
    rw [if_pos (by omega), if_pos (by omega), w64 (by omega) (by omega), w64 (by omega) (by omega), Int.toNat_natCast]
    congr 1 <;> omega
  · simp only [laws_markInt64S.l0]
    rw [if_neg (by omega)]
theorem rdSetH (xs : List IT) (i : Nat) (h : i < xs.length) (v : IT) : rd_T29 (xs.set i v) (i : Int) = v := by
  rw [rdI _ i (by simpa using h), List.getElem_set_self]
theorem markH_ev (l : List IT) (h : Few l) : ∃ r : Int, 0 ≤ r ∧ Ev (fun k => laws_markHandS.f k l 1) r := by
  have h3 := for_ev l.length (fun k (s : List IT × Int) i => laws_markHandS.l0 k s.1 s.2 i) (fun i s => s.1.length = l.length ∧ (∀ x ∈ s.1, x.f1.length ≤ 2000000) ∧ 0 < s.2 ∧ s.2 ≤ 1 + 3000000 * (i : Int)) (fun r => 0 ≤ r) (fun i s hi hs => .inl ?_) (fun s hs => ⟨s.2, by omega, Ev.const fun k => ?_⟩) l.length 0 (l, 1) (by omega) ⟨rfl, h.2, by omega, by omega⟩
  · obtain ⟨r, hr, h4⟩ := h3
    exact ⟨r, hr, h4⟩
  · obtain ⟨xs, m⟩ := s
    obtain ⟨hl, hx, h0, h1⟩ := hs
    simp only at hl hx h0 h1
    have hn := h.1
    obtain ⟨t, ht⟩ := mtxt_big m (by omega)
    obtain ⟨K1, g1⟩ := Ev.pick ht
    have hi2 : i < xs.length := by omega
    have hf : (xs[i]).f1.length ≤ 2000000 := hx _ (List.getElem_mem hi2)
    obtain ⟨K2, g2⟩ := Ev.pick (markI_big (xs[i]).f1 (m + 1) hf (by omega) (by omega))
    refine ⟨(xs.set i ⟨t, (List.range (xs[i]).f1.length).map (fun j : Nat => (m + 1) + 1 * (j : Int)), m + 1 + 1 * ((xs[i]).f1.length : Int)⟩, m + 1 + 1 * ((xs[i]).f1.length : Int) + 1), ⟨by rw [List.length_set]; exact hl, fun x hxm => ?_, by simp only; omega, by simp only; omega⟩, K1 + K2, fun k hk => ?_⟩
    · rcases List.mem_or_eq_of_mem_set hxm with hxm | rfl
      · exact hx x hxm
      · simp only [List.length_map, List.length_range]; exact hf
    · simp only [laws_markHandS.l0]
      rw [if_pos (by omega), if_pos (by omega), g1 k (by omega)]
      simp only [Option.bind_some, Int.toNat_natCast]
      rw [rdSetH xs i hi2, rdI xs i hi2]
      simp only
      rw [w64 (x := m + 1) (by omega) (by omega), g2 k (by omega)]
      simp only [Option.bind_some, List.set_set]
      rw [rdSetH xs i hi2]
      simp only
      rw [w64 (x := (i : Int) + 1) (by omega) (by omega), w64 (x := m + 1 + 1 * ((xs[i]).f1.length : Int) + 1) (by omega) (by omega)]
  · simp only [laws_markHandS.l0]
    rw [if_neg (by omega)]

theorem w_each {l : List IT} (h : handsOk (hdI l) l.length = true) : l.length ≤ 10 ∧ ∀ (i : Nat) (hi : i < l.length), (l[i]).f1.length ≤ 14 ∧ ∀ x ∈ (l[i]).f1, 0 ≤ x ∧ x ≤ 1440 := by
  unfold handsOk at h
  rw [Bool.and_eq_true, List.all_eq_true] at h
  refine ⟨of_decide_eq_true h.2, fun i hi => ?_⟩
  have := h.1 i (List.mem_range.2 hi)
  unfold fitH at this
  rw [Bool.and_eq_true] at this
  have h2 := handV_shift this.1
  have e : rd_T29 l (i : Int) = l[i] := rdI l i hi
  unfold hdI at h2
  rw [e] at h2
  exact ⟨h2.2.1, h2.1⟩
def wts (l : List IT) : List Int := l.map fun h => h.f1.sum
theorem wts_len (l : List IT) : (wts l).length = l.length := by unfold wts; rw [List.length_map]
theorem sum_bd : ∀ (l : List Int), (∀ x ∈ l, 0 ≤ x ∧ x ≤ 1440) → 0 ≤ l.sum ∧ l.sum ≤ 1440 * (l.length : Int)
  | [], _ => by simp
  | x :: r, h => by
    have h1 := h x (by simp)
    have h2 := sum_bd r (fun y hy => h y (by simp [hy]))
    rw [List.sum_cons, List.length_cons]
    omega
theorem wts_bd {l : List IT} (h : handsOk (hdI l) l.length = true) : ∀ x ∈ wts l, 0 ≤ x ∧ x ≤ 20160 := by
  intro x hx
  unfold wts at hx
  obtain ⟨y, hy, rfl⟩ := List.mem_map.1 hx
  obtain ⟨i, hi, rfl⟩ := List.getElem_of_mem hy
  have he := (w_each h).2 i hi
  have := sum_bd _ he.2
  omega
theorem wts_take (l : List IT) (i : Nat) (hi : i < l.length) : wts (l.take (i + 1)) = wts (l.take i) ++ [(l[i]).f1.sum] := by
  unfold wts
  rw [List.take_succ_eq_append_getElem hi, List.map_append]
  rfl
def shareAns (l : List IT) (c : Int) : List Int × Int :=
  if handsOk (hdI l) l.length = true then
    if 0 ≤ c ∧ c ≤ 100000000 then
      if (wts l).sum = 0 then ([], 6)
      else if (wts l).all (fun x => decide (x ≤ 10000)) = true then splitAns c (wts l) else ([], 5)
    else ([], 2)
  else ([], 1)
theorem share_length (l : List IT) (c : Int) : (shareAns l c).1.length ≤ 12 := by
  unfold shareAns
  have := splitAns_length c (wts l)
  repeat' split
  all_goals first | exact this | simp
theorem sum_mem_ev {l : List IT} (h : handsOk (hdI l) l.length = true) (i : Nat) (hi : i < l.length) : Ev (fun k => spec_l00Sum.f k (l[i]).f1) (l[i]).f1.sum := by
  have he := (w_each h).2 i hi
  exact sum_ev _ 1440 (by omega) he.2 (by omega) (by omega)
theorem share_spec (l : List IT) (c : Int) : Ev (fun k => spec_ShareByHours.f k l c) (shareAns l c) := by
  have h4 : handsOk (hdS l) l.length = handsOk (hdI l) l.length := rfl
  unfold shareAns spec_ShareByHours.f spec_l26Ok.f
  rw [h4]
  by_cases hv : handsOk (hdI l) l.length = true
  · rw [if_pos hv]
    simp only [Option.bind_some, if_pos hv, cents_eq]
    by_cases hc : 0 ≤ c ∧ c ≤ 100000000
    · rw [if_pos hc]
      simp only [decide_eq_true hc, if_true]
      have hl := (w_each hv).1
      have hwl := wts_len l
      have hwb := wts_bd hv
      refine for_to l.length (fun k (s : List Int) i => spec_ShareByHours.l0 k l c s i) (fun i => wts (l.take i)) _ (fun i hi => ?_) ?_ l.length 0 (by omega)
      · obtain ⟨K, g⟩ := Ev.pick (sum_mem_ev hv i hi)
        refine ⟨K, fun k hk => ?_⟩
        have hlen : (wts (l.take i)).length ≤ 10 := by rw [wts_len, List.length_take]; omega
        simp only [spec_ShareByHours.l0]
        rw [if_pos (by omega), if_pos (by omega), rdI l i hi, g k hk]
        simp only [Option.bind_some]
        rw [if_pos (by omega), w64 (by omega) (by omega), wts_take l i hi]
      · rw [List.take_of_length_le (Nat.le_refl _)]
        obtain ⟨K1, g1⟩ := Ev.pick (sum_ev (wts l) 20160 (by omega) hwb (by omega) (by omega))
        by_cases h0 : (wts l).sum = 0
        · rw [if_pos h0]
          refine Ev.intro (K1 + 1) fun k hk => ?_
          obtain ⟨m, rfl⟩ : ∃ m, k = m + 1 := ⟨k - 1, by omega⟩
          simp only [spec_ShareByHours.l0]
          rw [if_neg (by omega), g1 m (by omega)]
          simp only [Option.bind_some, if_pos h0]
        · rw [if_neg h0]
          obtain ⟨K3, g3⟩ := Ev.pick (split_spec c (wts l) (by omega))
          have hq := all_lt (wts l).length (fun i => decide (rd (wts l) i ≤ 10000)) (fun k i => spec_ShareByHours.l1 k c (wts l) i) (splitAns c (wts l)) ([], 5) (fun i hi hp => ⟨0, fun k _ => ?_⟩) (fun i hi hp => Ev.const fun k => ?_) (fun _ => Ev.intro (K3 + 1) fun k hk => ?_)
          · rw [all_range_list (p := fun x => decide (x ≤ 10000)) (fun i hi => by rw [rd_nat _ i hi])] at hq
            obtain ⟨K2, g2⟩ := Ev.pick hq
            refine Ev.intro (K1 + K2 + 1) fun k hk => ?_
            obtain ⟨m, rfl⟩ : ∃ m, k = m + 1 := ⟨k - 1, by omega⟩
            simp only [spec_ShareByHours.l0]
            rw [if_neg (by omega), g1 m (by omega)]
            simp only [Option.bind_some, if_neg h0]
            exact g2 m (by omega)
          · have := of_decide_eq_true hp
            simp only [spec_ShareByHours.l1]
            rw [if_pos (by omega), if_pos (by omega), if_neg (by omega), w64 (by omega) (by omega)]
          · have := of_decide_eq_false hp
            simp only [spec_ShareByHours.l1]
            rw [if_pos (by omega), if_pos (by omega), if_pos (by omega)]
          · obtain ⟨m, rfl⟩ : ∃ m, k = m + 1 := ⟨k - 1, by omega⟩
            simp only [spec_ShareByHours.l1]
            rw [if_neg (by omega), g3 m (by omega)]
            rfl
    · rw [if_neg hc]
      simp only [decide_eq_false hc, Bool.false_eq_true, if_false]
      exact Ev.all fun k => rfl
  · rw [if_neg hv]
    simp only [Option.bind_some, if_neg hv]
    exact Ev.all fun k => rfl
theorem max_fold : ∀ (l : List Int) (a : Int), a ≤ l.foldl max a ∧ (∀ x ∈ l, x ≤ l.foldl max a) ∧ (l.foldl max a = a ∨ l.foldl max a ∈ l)
  | [], a => ⟨Int.le_refl _, by simp, .inl rfl⟩
  | y :: r, a => by
    obtain ⟨h1, h2, h3⟩ := max_fold r (max a y)
    rw [List.foldl_cons]
    refine ⟨by omega, fun x hx => ?_, ?_⟩
    · rcases List.mem_cons.1 hx with rfl | hx
      · omega
      · exact h2 x hx
    · rcases h3 with h3 | h3
      · rw [h3]
        by_cases c : a ≤ y
        · right; rw [Int.max_eq_right c]; simp
        · left; exact Int.max_eq_left (by omega)
      · right; exact List.mem_cons_of_mem _ h3
theorem max_of {l : List Int} (h : 0 < l.length) : (∀ x ∈ l, x ≤ Lib.maxOf l) ∧ Lib.maxOf l ∈ l := by
  obtain ⟨y, r, rfl⟩ : ∃ y r, l = y :: r := by cases l with | nil => simp at h | cons y r => exact ⟨y, r, rfl⟩
  obtain ⟨h1, h2, h3⟩ := max_fold (y :: r) y
  refine ⟨h2, ?_⟩
  rcases h3 with h3 | h3
  · show (y :: r).foldl max y ∈ _
    rw [h3]; simp
  · exact h3
theorem sum_zero : ∀ (l : List Int), (∀ x ∈ l, 0 ≤ x) → 0 ≤ l.sum ∧ (l.sum = 0 ↔ ∀ x ∈ l, x = 0)
  | [], _ => by simp
  | y :: r, h => by
    have h1 := h y (by simp)
    obtain ⟨h2, h3⟩ := sum_zero r (fun x hx => h x (by simp [hx]))
    rw [List.sum_cons]
    refine ⟨by omega, fun he x hx => ?_, fun he => ?_⟩
    · have h4 : r.sum = 0 := by omega
      rcases List.mem_cons.1 hx with rfl | hx
      · omega
      · exact h3.1 h4 x hx
    · have h4 := h3.2 (fun x hx => he x (by simp [hx]))
      have h5 := he y (by simp)
      omega
theorem max_zero {l : List Int} (h : 0 < l.length) (hb : ∀ x ∈ l, 0 ≤ x) : Lib.maxOf l = 0 ↔ l.sum = 0 := by
  obtain ⟨h1, h2⟩ := max_of h
  rw [(sum_zero l hb).2]
  constructor
  · intro he x hx
    have := h1 x hx
    have := hb x hx
    omega
  · intro he
    exact he _ h2
theorem max_big {l : List Int} (h : 0 < l.length) : Lib.maxOf l > 10000 ↔ ¬ l.all (fun x => decide (x ≤ 10000)) = true := by
  obtain ⟨h1, h2⟩ := max_of h
  rw [List.all_eq_true]
  constructor
  · intro he hall
    have := of_decide_eq_true (hall _ h2)
    omega
  · intro he
    by_cases c : Lib.maxOf l > 10000
    · exact c
    · exact absurd (fun x hx => decide_eq_true (by have := h1 x hx; omega)) he
theorem share_impl (l : List IT) (c : Int) : Ev (fun k => impl_ShareByHours.f k l c) (shareAns l c) := by
  unfold shareAns impl_ShareByHours.f impl_ValidHands.f
  by_cases hv : handsOk (hdI l) l.length = true
  · rw [if_pos hv]
    simp only [Option.bind_some, if_pos hv, within_eq]
    by_cases hc : 0 ≤ c ∧ c ≤ 100000000
    · rw [if_pos hc]
      simp only [decide_eq_true hc, if_true]
      have hl := (w_each hv).1
      have hwl := wts_len l
      have hwb := wts_bd hv
      refine for_to l.length (fun k (s : List Int) i => impl_ShareByHours.l0 k c s l l.length i) (fun i => wts (l.take i)) _ (fun i hi => ?_) ?_ l.length 0 (by omega)
      · have he := (w_each hv).2 i hi
        have hx := extra_impl (l[i]).f0 (l[i]).f1 (l[i]).f2 0 (by omega)
        have e : extraW 0 (l[i]).f1 = (l[i]).f1.sum := (extra_zero (l[i]).f1 0 he.2).trans (Ev.one (sumW_ev (l[i]).f1 (by omega)) (sum_mem_ev hv i hi))
        rw [e] at hx
        obtain ⟨K, g⟩ := Ev.pick hx
        refine ⟨K, fun k hk => ?_⟩
        have hlen : (wts (l.take i)).length ≤ 10 := by rw [wts_len, List.length_take]; omega
        simp only [impl_ShareByHours.l0]
        rw [if_pos (by omega), if_pos (by omega), if_pos (by omega), rdI l i hi, g k hk]
        simp only [Option.bind_some]
        rw [if_pos (by omega), w64 (by omega) (by omega), wts_take l i hi]
      · rw [List.take_of_length_le (Nat.le_refl _)]
        by_cases hz : (wts l).length = 0
        · have hnil : wts l = [] := List.eq_nil_of_length_eq_zero hz
          rw [hnil, if_pos (by simp)]
          refine Ev.intro 2 fun k hk => ?_
          obtain ⟨m, rfl⟩ : ∃ m, k = m + 2 := ⟨k - 2, by omega⟩
          simp only [impl_ShareByHours.l0]
          rw [if_neg (by omega), if_pos (by simp)]
          simp only [impl_ShareByHours.j1, if_true]
        · have hpos : 0 < (wts l).length := by omega
          have e1 : slices_Max.f (wts l) = some (Lib.maxOf (wts l)) := by unfold slices_Max.f; rw [if_pos hpos]
          have m0 := max_zero hpos (fun x hx => (hwb x hx).1)
          have m1 := max_big hpos
          by_cases h0 : (wts l).sum = 0
          · rw [if_pos h0]
            refine Ev.intro 2 fun k hk => ?_
            obtain ⟨m, rfl⟩ : ∃ m, k = m + 2 := ⟨k - 2, by omega⟩
            simp only [impl_ShareByHours.l0]
            rw [if_neg (by omega), if_neg (by omega), e1]
            simp only [Option.bind_some, m0.2 h0, beq_self_eq_true, impl_ShareByHours.j1, if_true]
          · rw [if_neg h0]
            have hne : (Lib.maxOf (wts l) == 0) = false := beq_eq_false_iff_ne.2 (fun he => h0 (m0.1 he))
            obtain ⟨K3, g3⟩ := Ev.pick (split_impl c (wts l) (by omega))
            refine Ev.intro (K3 + 2) fun k hk => ?_
            obtain ⟨m, rfl⟩ : ∃ m, k = m + 2 := ⟨k - 2, by omega⟩
            simp only [impl_ShareByHours.l0]
            rw [if_neg (by omega), if_neg (by omega), e1]
            simp only [Option.bind_some, hne, impl_ShareByHours.j1, Bool.false_eq_true, if_false, e1]
            by_cases ha : (wts l).all (fun x => decide (x ≤ 10000)) = true
            · rw [if_neg (fun he => m1.1 he ha), if_pos ha, g3 m (by omega)]
              rfl
            · rw [if_pos (m1.2 ha), if_neg ha]
    · rw [if_neg hc]
      simp only [decide_eq_false hc, Bool.false_eq_true, if_false]
      exact Ev.all fun k => rfl
  · rw [if_neg hv]
    simp only [if_neg hv, Option.bind_some]
    exact Ev.all fun k => rfl

end FnExactShareByHours_
def G95 (z : S95) : Prop := z.f0.size ≤ maxLen ∧ (z.f1.length ≤ maxLen ∧ ∀ x ∈ z.f1, (Lit.int .i64 x).wf = true) ∧ (Lit.int .i64 z.f2).wf = true
open FnExactShareByHours_ in
theorem FnExactShareByHours : ∀ (l0 : List S95) (a1 : Int), (l0.length ≤ maxLen ∧ ∀ x ∈ l0, G95 x) → (Lit.int .i64 a1).wf = true → ∃ k, laws_FnExactShareByHours.f k l0 a1 = some true := by
  intro l0 a1 hl _
  obtain ⟨r, hr, hsz⟩ := sz_ev l0 hl.1 hl.2
  obtain ⟨K0, h0⟩ := Ev.pick hsz
  by_cases c : r < 0
  · refine ⟨K0, ?_⟩
    unfold laws_FnExactShareByHours.f
    rw [h0 K0 (Nat.le_refl _)]
    simp only [Option.bind_some]
    rw [if_pos c]
  · obtain ⟨hn, hx⟩ : l0.length ≤ 1048576 ∧ ∀ x ∈ l0, x.f1.length ≤ 1048576 := hr.resolve_left c
    have hm := few_map hn hx
    have h12 := share_length (l0.map conv) a1
    obtain ⟨K1, h1⟩ := Ev.pick (to_ev l0 hn hx)
    obtain ⟨K2, h2⟩ := Ev.pick (share_spec (l0.map conv) a1)
    obtain ⟨K3, h3⟩ := Ev.pick (share_impl (l0.map conv) a1)
    obtain ⟨K4, h4⟩ := Ev.pick (eq_ev (l0.map conv) hm)
    obtain ⟨mm, hmm, hme⟩ := markH_ev (l0.map conv) hm
    obtain ⟨K5, h5⟩ := Ev.pick hme
    generalize shareAns (l0.map conv) a1 = a at h2 h3 h12
    obtain ⟨K6, h6⟩ := Ev.pick (eqInt64S_ev a.1 (by omega))
    obtain ⟨K7, h7⟩ := Ev.pick (markInt64S_ev a.1 (by omega))
    obtain ⟨K8, h8⟩ := Ev.pick (heldInt64S_ev a.1.length (by omega))
    have n1 : ¬ mm < 0 := by omega
    have n2 : ¬ (1 + 1 * (a.1.length : Int) < 0) := by omega
    obtain ⟨M, hM⟩ : ∃ M, M = K0 + K1 + K2 + K3 + K4 + K5 + K6 + K7 + K8 := ⟨_, rfl⟩
    refine ⟨M + 3, ?_⟩
    unfold laws_FnExactShareByHours.f
    simp (disch := omega) only [h0, h1, h2, h3, h6, c, Option.bind_some, if_true, if_false, bne_self_eq_false]
    rw [laws_FnExactShareByHours.j0]
    simp (disch := omega) only [h1, h4, h5, h6, n1, Option.bind_some, if_true, if_false, bne_self_eq_false, Bool.false_eq_true]
    rw [laws_FnExactShareByHours.j1]
    simp (disch := omega) only [h1, h3, h6, h7, h8, n2, Option.bind_some, if_true, if_false, bne_self_eq_false, Bool.false_eq_true]
    rw [laws_FnExactShareByHours.j2]
    simp (disch := omega) only [h8, n2, Option.bind_some, if_true, if_false, Bool.false_eq_true]

end Go.Proofs.Ytnfcgofpfhajoaa.Pure
