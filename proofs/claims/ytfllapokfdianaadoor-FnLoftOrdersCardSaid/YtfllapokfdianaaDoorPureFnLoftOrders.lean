/- For all bytes: orders are taken into their places, work lessens the hours that are left, orders that are done are handed over. -/
import Derived.Test.YtfllapokfdianaaDoorQFnLoftOrdersx10
import Derived.Test.YtfllapokfdianaaDoorQFnLoftOrdersx9
import Derived.Test.YtfllapokfdianaaDoorQFnLoftOrdersx8
import Derived.Test.YtfllapokfdianaaDoorQFnLoftOrdersx7
import Derived.Test.YtfllapokfdianaaDoorQFnLoftOrdersx6
import Derived.Test.YtfllapokfdianaaDoorQFnLoftOrdersx5
import Derived.Test.YtfllapokfdianaaDoorQFnLoftOrdersx4
import Derived.Test.YtfllapokfdianaaDoorQFnLoftOrdersx3
import Derived.Test.YtfllapokfdianaaDoorBase
import Derived.Lib.ItoaLen
namespace Go.Proofs.YtfllapokfdianaaDoor.Pure
open Go.RowKit Go.Proofs.YtfllapokfdianaaDoor.QFnLoftOrders Go.Proofs.YtfllapokfdianaaDoorW.PrintWords Go.Proofs.YtfllapokfdianaaDoorW.PrintLast Go.Proofs.YtfllapokfdianaaDoor.Base
set_option linter.unusedVariables false
set_option linter.unusedSimpArgs false
namespace FnLoftOrders_
abbrev IT := S29
theorem rdI (xs : List IT) (i : Nat) (h : i < xs.length) : rd_T29 xs (i : Int) = xs[i] := by
  unfold rd_T29; rw [Int.toNat_natCast, List.getD_eq_getElem?_getD, List.getElem?_eq_getElem h]; rfl
theorem within_eq (a b c : Int) : impl_within.f a b c = some (decide (b ≤ a ∧ a ≤ c)) := by
  unfold impl_within.f
  by_cases h : a ≥ b
  · rw [if_pos h]; congr 1; apply Bool.eq_iff_iff.mpr; simp; omega
  · rw [if_neg h]; congr 1; apply Bool.eq_iff_iff.mpr; simp; omega
theorem name_loop_impl (s : ByteArray) (h : s.size ≤ 12) : Ev (fun k => impl_IsName.l0 k s 0) ((List.range s.size).all fun i => nameByte (bt s i)) := by
  have := all_lt s.size (fun i => nameByte (bt s i)) (fun k i => impl_IsName.l0 k s i) true false (fun i hi hp => ⟨0, fun k _ => ?_⟩) (fun i hi hp => Ev.const fun k => ?_) (fun _ => Ev.const fun k => ?_)
  · rw [ite_bool] at this
    exact this
  · have hp := of_decide_eq_true hp
    simp only [impl_IsName.l0]
    rw [if_pos (by omega), if_pos (by omega), w64 (by omega) (by omega)]
    repeat' split
    all_goals first | rfl | (exfalso; omega)
  · have hp := of_decide_eq_false hp
    simp only [impl_IsName.l0]
    rw [if_pos (by omega), if_pos (by omega)]
    repeat' split
    all_goals first | rfl | (exfalso; omega)
  · simp only [impl_IsName.l0]
    rw [if_neg (by omega)]
theorem name_impl (s : ByteArray) : Ev (fun k => impl_IsName.f k s) (isNameB s) := by
  unfold isNameB
  by_cases h0 : s.size < 1
  · rw [decide_eq_false (by omega), Bool.false_and]
    refine Ev.const fun k => ?_
    unfold impl_IsName.f
    rw [if_pos (by omega)]
    simp only [impl_IsName.j0, if_true]
  · by_cases h12 : s.size ≤ 12
    · by_cases hs : 97 ≤ bt s 0 ∧ bt s 0 ≤ 122
      · rw [decide_eq_true ⟨by omega, h12, hs⟩, Bool.true_and]
        refine Ev.step (f := fun k => impl_IsName.l0 k s 0) (fun k => ?_) (name_loop_impl s h12)
        simp only [impl_IsName.f]
        rw [if_neg (by omega), if_neg (by omega), if_pos (by omega), if_neg (by omega), decide_eq_false (by omega)]
        simp only [impl_IsName.j0, Bool.false_eq_true, if_false]
      · rw [decide_eq_false (fun h => hs h.2.2), Bool.false_and]
        refine Ev.const fun k => ?_
        simp only [impl_IsName.f]
        rw [if_neg (by omega), if_neg (by omega), if_pos (by omega)]
        by_cases h1 : bt s 0 < 97
        · rw [if_pos h1]
          simp only [impl_IsName.j0, if_true]
        · rw [if_neg h1, decide_eq_true (by omega)]
          simp only [impl_IsName.j0, if_true]
    · rw [decide_eq_false (by omega), Bool.false_and]
      refine Ev.const fun k => ?_
      unfold impl_IsName.f
      rw [if_neg (by omega), if_pos (by omega)]
      simp only [impl_IsName.j0, if_true]
theorem valid_impl (f0 : Int) (f1 : ByteArray) (f2 f3 f4 : Int) : Ev (fun k => impl_validOrder.f k f0 f1 f2 f3 f4) (spec_l24One.v f0 f1 f2 f3 f4) := by
  obtain ⟨K, hK⟩ := Ev.pick (name_impl f1)
  refine Ev.intro K fun k hk => ?_
  unfold impl_validOrder.f spec_l24One.v
  rw [within_eq, within_eq, within_eq, within_eq, hK k hk]
  simp only [Option.bind_some]
  cases decide (1 ≤ f0 ∧ f0 ≤ 9999) <;> cases isNameB f1 <;> cases decide (1 ≤ f2 ∧ f2 ≤ 500) <;> cases decide (0 ≤ f3 ∧ f3 ≤ f2) <;> rfl
theorem ok_impl (l : List IT) (h : l.length ≤ 2000000) : Ev (fun k => impl_ValidOrders.f k l) (ordersOk l) := by
  by_cases h20 : l.length ≤ 20
  · have := all_lt l.length (fits l) (fun k i => impl_ValidOrders.l0 k l l l.length i) true false (fun i hi hp => ?_) (fun i hi hp => ?_) (fun hp => Ev.const fun k => ?_)
    · rw [ite_bool] at this
      unfold ordersOk
      rw [decide_eq_true h20, Bool.and_true]
      refine Ev.congr (fun k => ?_) this
      unfold impl_ValidOrders.f
      rw [if_neg (by omega)]
    · unfold fits at hp
      rw [Bool.and_eq_true] at hp
      obtain ⟨K, hK⟩ := Ev.pick (valid_impl (rd_T29 l i).f0 (rd_T29 l i).f1 (rd_T29 l i).f2 (rd_T29 l i).f3 (rd_T29 l i).f4)
      refine ⟨K, fun k hk => ?_⟩
      simp only [impl_ValidOrders.l0]
      rw [if_pos (by omega), if_pos (by omega), if_pos (by omega), hK k hk, hp.1, w64 (x := (i : Int) + 1) (by omega) (by omega)]
      simp only [Option.bind_some, if_true]
      by_cases h0 : 0 < i
      · have h2 := hp.2
        rw [Bool.or_eq_true] at h2
        have h3 : (rd_T29 l ((i : Int) - 1)).f0 < (rd_T29 l i).f0 := by
          rcases h2 with h2 | h2
          · have := beq_iff_eq.1 h2; omega
          · exact of_decide_eq_true h2
        rw [if_pos (by omega), w64 (x := (i : Int) - 1) (by omega) (by omega), if_pos (by omega), if_pos (by omega), if_neg (by omega)]
      · rw [if_neg (by omega)]
    · unfold fits at hp
      obtain ⟨K, hK⟩ := Ev.pick (valid_impl (rd_T29 l i).f0 (rd_T29 l i).f1 (rd_T29 l i).f2 (rd_T29 l i).f3 (rd_T29 l i).f4)
      refine Ev.intro (K + 1) fun k hk => ?_
      obtain ⟨m, rfl⟩ : ∃ m, k = m + 1 := ⟨k - 1, by omega⟩
      simp only [impl_ValidOrders.l0]
      rw [if_pos (by omega), if_pos (by omega), if_pos (by omega), hK m (by omega)]
      simp only [Option.bind_some]
      cases hv : spec_l24One.v (rd_T29 l i).f0 (rd_T29 l i).f1 (rd_T29 l i).f2 (rd_T29 l i).f3 (rd_T29 l i).f4 with
      | false => simp only [Bool.false_eq_true, if_false]
      | true =>
        rw [hv, Bool.true_and, Bool.or_eq_false_iff] at hp
        have h0 : 0 < i := by
          have := hp.1
          have h4 : i ≠ 0 := by simpa using this
          omega
        have h3 : ¬ (rd_T29 l ((i : Int) - 1)).f0 < (rd_T29 l i).f0 := of_decide_eq_false hp.2
        simp only [if_true]
        rw [if_pos (by omega), w64 (x := (i : Int) - 1) (by omega) (by omega), if_pos (by omega), if_pos (by omega), if_pos (by omega)]
    · simp only [impl_ValidOrders.l0]
      rw [if_neg (by omega)]
  · unfold ordersOk
    rw [decide_eq_false h20, Bool.and_false]
    refine Ev.all fun k => ?_
    unfold impl_ValidOrders.f
    rw [if_pos (by omega)]
theorem ok_one {l : List IT} (h : ordersOk l = true) (i : Nat) (hi : i < l.length) : isNameB l[i].f1 = true ∧ (1 ≤ l[i].f0 ∧ l[i].f0 ≤ 9999) ∧ (1 ≤ l[i].f2 ∧ l[i].f2 ≤ 500) ∧ (0 ≤ l[i].f3 ∧ l[i].f3 ≤ l[i].f2) ∧ (0 ≤ l[i].f4 ∧ l[i].f4 ≤ 2000) := by
  unfold ordersOk at h
  rw [Bool.and_eq_true] at h
  have h2 := all_range.1 h.1 i hi
  unfold fits spec_l24One.v at h2
  rw [rdI l i hi] at h2
  simp only [Bool.and_eq_true, decide_eq_true_eq] at h2
  obtain ⟨⟨⟨⟨⟨a, b⟩, c⟩, d⟩, e⟩, _⟩ := h2
  exact ⟨b, a, c, d, e⟩
theorem ok_len {l : List IT} (h : ordersOk l = true) : l.length ≤ 20 := by
  unfold ordersOk at h
  rw [Bool.and_eq_true] at h
  exact of_decide_eq_true h.2
theorem ok_step {l : List IT} (h : ordersOk l = true) (i : Nat) (hi : i + 1 < l.length) : l[i].f0 < l[i + 1].f0 := by
  unfold ordersOk at h
  rw [Bool.and_eq_true] at h
  have h2 := all_range.1 h.1 (i + 1) hi
  unfold fits at h2
  rw [Bool.and_eq_true, Bool.or_eq_true] at h2
  have h3 := h2.2
  rcases h3 with h3 | h3
  · have := beq_iff_eq.1 h3; omega
  · have h4 := of_decide_eq_true h3
    rw [rdI l (i + 1) hi, show ((i + 1 : Nat) : Int) - 1 = (i : Int) by omega, rdI l i (by omega)] at h4
    exact h4
theorem ok_lt {l : List IT} (h : ordersOk l = true) (i : Nat) : ∀ (d : Nat) (hd : i + 1 + d < l.length), l[i].f0 < l[i + 1 + d].f0
  | 0, hd => ok_step h i hd
  | d + 1, hd => by
    have h1 := ok_lt h i d (by omega)
    have h2 := ok_step h (i + 1 + d) (by omega)
    have h3 : l[i + 1 + d].f0 < l[i + 1 + (d + 1)].f0 := h2
    omega
theorem ok_pw {l : List IT} (h : ordersOk l = true) : l.Pairwise (fun a b => a.f0 < b.f0) := by
  rw [List.pairwise_iff_getElem]
  intro i j hi hj hij
  have h1 := ok_lt h i (j - i - 1) (by omega)
  have e : i + 1 + (j - i - 1) = j := by omega
  simp only [e] at h1
  exact h1
def takeAns (l : List IT) (f0 : Int) (f1 : ByteArray) (f2 f3 f4 : Int) : List IT × Int :=
  if ordersOk l = true then
    if spec_l24One.v f0 f1 f2 f3 f4 = true then
      if orderIdx l f0 ≥ 0 then ([], 4)
      else if (l.length : Int) = 20 then ([], 5)
      else (insO ⟨f0, f1, f2, f3, f4⟩ l, 0)
    else ([], 2)
  else ([], 1)
theorem idx_none {l : List IT} {id : Int} (h : ¬ orderIdx l id ≥ 0) (j : Nat) (hj : j < l.length) : (l[j].f0 == id) = false := by
  unfold orderIdx at h
  split at h
  · omega
  · rename_i hn
    exact List.findIdx?_eq_none_iff.1 hn _ (List.getElem_mem hj)
theorem take_length (l : List IT) (f0 : Int) (f1 : ByteArray) (f2 f3 f4 : Int) : (takeAns l f0 f1 f2 f3 f4).1.length ≤ 21 := by
  unfold takeAns
  repeat' split
  all_goals first
    | (simp; done)
    | (rename_i h _ _ _
       have h1 := ok_len h
       show (insO _ l).length ≤ 21
       rw [(insO_perm _ l).length_eq]
       simp only [List.length_cons]
       omega)
theorem take_srt (l : List IT) (x : IT) (h : ordersOk l = true) (hne : ∀ (j : Nat) (hj : j < l.length), (l[j].f0 == x.f0) = false) : impl_TakeOrder.srt (l ++ [x]) = some (insO x l) := by
  have hp := ok_pw h
  have hd : distO (l ++ [x]) = true := by
    refine decide_eq_true ?_
    rw [List.pairwise_append]
    refine ⟨hp.imp (fun h => by omega), List.pairwise_singleton _ _, fun a ha b hb => ?_⟩
    obtain ⟨j, hj, rfl⟩ := List.getElem_of_mem ha
    rw [List.mem_singleton] at hb
    subst hb
    have := hne j hj
    simpa using this
  unfold impl_TakeOrder.srt
  rw [if_pos hd]
  congr 1
  exact (srt_unique (l ++ [x]) (insO x l) ((insO_perm x l).trans (List.perm_append_singleton x l).symm) (insO_pw x l (hp.imp (fun h => by omega))) hd).symm
theorem take_impl (l : List IT) (f0 : Int) (f1 : ByteArray) (f2 f3 f4 : Int) (h : l.length ≤ 2000000) : Ev (fun k => impl_TakeOrder.f k l f0 f1 f2 f3 f4) (takeAns l f0 f1 f2 f3 f4) := by
  obtain ⟨K1, g1⟩ := Ev.pick (ok_impl l h)
  obtain ⟨K2, g2⟩ := Ev.pick (valid_impl f0 f1 f2 f3 f4)
  refine Ev.intro (K1 + K2) fun k hk => ?_
  unfold takeAns impl_TakeOrder.f impl_orderOf.f
  rw [g1 k (by omega), g2 k (by omega)]
  simp only [Option.bind_some]
  by_cases h1 : ordersOk l = true
  · rw [if_pos h1, if_pos h1]
    by_cases h2 : spec_l24One.v f0 f1 f2 f3 f4 = true
    · rw [if_pos h2, if_pos h2]
      by_cases h3 : orderIdx l f0 ≥ 0
      · rw [if_pos h3, if_pos h3]
      · rw [if_neg h3, if_neg h3]
        by_cases h4 : (l.length : Int) = 20
        · rw [if_pos h4, if_pos h4]
        · rw [if_neg h4, if_neg h4, if_pos (by simp only [List.length_nil]; omega)]
          simp only [List.nil_append, List.length_cons, List.length_nil]
          rw [if_pos (by omega), take_srt l ⟨f0, f1, f2, f3, f4⟩ h1 (idx_none h3)]
          rfl
    · rw [if_neg h2, if_neg h2]
  · rw [if_neg h1, if_neg h1]
theorem ok_iff (l : List IT) : ordersOk l = true ↔ (l.Pairwise (fun a b => a.f0 < b.f0) ∧ (∀ x ∈ l, spec_l24One.v x.f0 x.f1 x.f2 x.f3 x.f4 = true) ∧ l.length ≤ 20) := by
  constructor
  · intro h
    refine ⟨ok_pw h, fun x hx => ?_, ok_len h⟩
    obtain ⟨i, hi, rfl⟩ := List.getElem_of_mem hx
    unfold ordersOk at h
    rw [Bool.and_eq_true] at h
    have h2 := all_range.1 h.1 i hi
    unfold fits at h2
    rw [rdI l i hi, Bool.and_eq_true] at h2
    exact h2.1
  · intro ⟨h1, h2, h3⟩
    unfold ordersOk
    rw [Bool.and_eq_true, decide_eq_true_eq]
    refine ⟨List.all_eq_true.2 fun i hi => ?_, h3⟩
    have hi := List.mem_range.1 hi
    unfold fits
    rw [rdI l i hi, h2 _ (List.getElem_mem hi), Bool.true_and, Bool.or_eq_true, beq_iff_eq, decide_eq_true_eq]
    by_cases h0 : i = 0
    · exact .inl h0
    · obtain ⟨j, rfl⟩ : ∃ j, i = j + 1 := ⟨i - 1, by omega⟩
      refine .inr ?_
      rw [show ((j + 1 : Nat) : Int) - 1 = (j : Int) by omega, rdI l j (by omega)]
      exact List.pairwise_iff_getElem.1 h1 j (j + 1) (by omega) hi (by omega)
theorem ok_sub {l m : List IT} (h : ordersOk l = true) (hs : m.Sublist l) : ordersOk m = true := by
  obtain ⟨h1, h2, h3⟩ := (ok_iff l).1 h
  exact (ok_iff m).2 ⟨h1.sublist hs, fun x hx => h2 x (hs.subset hx), by have := hs.length_le; omega⟩
theorem ins_front (x : IT) (l : List IT) (h : ∀ y ∈ l, x.f0 < y.f0) : insO x l = x :: l := by
  cases l with
  | nil => rfl
  | cons y r =>
    unfold insO
    rw [if_pos (h y (by simp))]
theorem take_rest {l : List IT} (h : ordersOk l = true) (h6 : l.length ≤ 6) (i : Nat) (hi : i < l.length) : takeAns (l.drop (i + 1)) (l[i]).f0 (l[i]).f1 (l[i]).f2 (l[i]).f3 (l[i]).f4 = (l.drop i, 0) := by
  obtain ⟨h1, h2, h3⟩ := (ok_iff l).1 h
  have hlt : ∀ y ∈ l.drop (i + 1), (l[i]).f0 < y.f0 := by
    intro y hy
    obtain ⟨j, hj, rfl⟩ := List.getElem_of_mem hy
    rw [List.length_drop] at hj
    rw [List.getElem_drop]
    exact List.pairwise_iff_getElem.1 h1 i (i + 1 + j) hi (by omega) (by omega)
  have hm : orderIdx (l.drop (i + 1)) (l[i]).f0 = -1 := orderIdx_miss (fun j hj => by
    have := hlt _ (List.getElem_mem hj)
    exact beq_eq_false_iff_ne.2 (by omega))
  have hlen : (l.drop (i + 1)).length = l.length - (i + 1) := List.length_drop
  unfold takeAns
  rw [if_pos (ok_sub h (List.drop_sublist _ _)), if_pos (h2 _ (List.getElem_mem hi)), hm, if_neg (by omega), if_neg (by omega), ins_front _ _ hlt, List.drop_eq_getElem_cons hi]
theorem take_again {l : List IT} (h : ordersOk l = true) (i : Nat) (hi : i < l.length) : takeAns l (l[i]).f0 (l[i]).f1 (l[i]).f2 (l[i]).f3 (l[i]).f4 = ([], 4) := by
  obtain ⟨h1, h2, h3⟩ := (ok_iff l).1 h
  have hm : orderIdx l (l[i]).f0 ≥ 0 := by
    unfold orderIdx
    split
    · omega
    · rename_i hn
      have := List.findIdx?_eq_none_iff.1 hn _ (List.getElem_mem hi)
      simp at this
  unfold takeAns
  rw [if_pos h, if_pos (h2 _ (List.getElem_mem hi)), if_pos hm]
theorem same_spec (l : List IT) (h : l.length ≤ 2000000) : Ev (fun k => spec_SameOrders.f k l l) true := by
  refine Ev.congr (f := fun k => spec_SameOrders.l0 k l l 0) (fun k => by unfold spec_SameOrders.f; rw [if_pos rfl]) ?_
  refine go_to l.length (fun k i => spec_SameOrders.l0 k l l i) true (fun i hi => ⟨0, fun k _ => ?_⟩) (Ev.const fun k => ?_)
  · simp only [spec_SameOrders.l0, beq_self_eq_true, Bool.not_true, Bool.or_self, Bool.false_eq_true, if_false]
    rw [if_pos (by omega), if_pos (by omega), if_pos (by omega), w64 (by omega) (by omega)]
  · simp only [spec_SameOrders.l0]
    rw [if_neg (by omega)]
def hoursOf (l : List IT) : List Int := l.map fun x => x.f2 - x.f3
def leftAns (l : List IT) : Int × Int := if ordersOk l = true then ((hoursOf l).sum, 0) else (0, 1)
theorem hours_bound {l : List IT} (h : ordersOk l = true) : ∀ x ∈ hoursOf l, 0 ≤ x ∧ x ≤ 500 := by
  intro x hx
  obtain ⟨i, hi, rfl⟩ := List.getElem_of_mem hx
  have hi' : i < l.length := by simpa [hoursOf] using hi
  obtain ⟨_, _, a, b, _⟩ := ok_one h i hi'
  simp only [hoursOf, List.getElem_map]
  omega
theorem hours_get (l : List IT) (i : Nat) (h : i < l.length) : (hoursOf l)[i]'(by simpa [hoursOf] using h) = l[i].f2 - l[i].f3 := by simp [hoursOf]
theorem left_impl (l : List IT) (hl : l.length ≤ 2000000) : Ev (fun k => impl_HoursLeft.f k l) (leftAns l) := by
  obtain ⟨K, hK⟩ := Ev.pick (ok_impl l hl)
  unfold leftAns
  cases hok : ordersOk l with
  | false =>
    refine Ev.intro K fun k hk => ?_
    unfold impl_HoursLeft.f
    rw [hK k hk, hok]
    rfl
  | true =>
    simp only [if_true]
    have hlen : (hoursOf l).length = l.length := by simp [hoursOf]
    have h20 := ok_len hok
    have := for_to l.length (fun k (s : Int) i => impl_HoursLeft.l0 k s l l.length i) (fun i => ((hoursOf l).take i).sum) ((hoursOf l).sum, 0) (fun i hi => ⟨0, fun k _ => ?_⟩) (Ev.const fun k => ?_) l.length 0 (by omega)
    · obtain ⟨J, hJ⟩ := Ev.pick this
      refine Ev.intro (K + J) fun k hk => ?_
      unfold impl_HoursLeft.f
      rw [hK k (by omega), hok]
      simp only [Option.bind_some, if_true]
      exact hJ k (by omega)
    · have b1 := sum_take_bound (hours_bound hok) i (by omega)
      obtain ⟨_, _, a, b, _⟩ := ok_one hok i hi
      simp only [impl_HoursLeft.l0, impl_hoursLeft.f, Option.bind_some]
      rw [if_pos (by omega), if_pos (by omega), if_pos (by omega), rdI l i hi, w64 (x := (i : Int) + 1) (by omega) (by omega), w64 (x := l[i].f2 - l[i].f3) (by omega) (by omega), w64 (by omega) (by omega), sum_take_succ _ i (by omega), hours_get l i hi]
    · simp only [impl_HoursLeft.l0]
      rw [if_neg (by omega), List.take_of_length_le (by omega)]
def stays (x : IT) : Bool := !(x.f3 == x.f2)
def goes (x : IT) : Bool := x.f3 == x.f2
def overAns (l : List IT) : List IT × List Int × Int := if ordersOk l = true then (l.filter stays, (l.filter goes).map (fun x => x.f0), 0) else ([], [], 1)
theorem filter_take (p : IT → Bool) (l : List IT) (i : Nat) (h : i < l.length) : (l.take (i + 1)).filter p = (l.take i).filter p ++ if p l[i] = true then [l[i]] else [] := by
  rw [List.take_succ_eq_append_getElem h, List.filter_append, List.filter_cons]
  rfl
theorem filter_take_len (p : IT → Bool) (l : List IT) (i : Nat) : ((l.take i).filter p).length ≤ l.length := by
  have h1 := List.length_filter_le p (l.take i)
  rw [List.length_take] at h1
  omega
theorem over_impl (l : List IT) (hl : l.length ≤ 2000000) : Ev (fun k => impl_HandOver.f k l) (overAns l) := by
  obtain ⟨K, hK⟩ := Ev.pick (ok_impl l hl)
  unfold overAns
  cases hok : ordersOk l with
  | false =>
    refine Ev.intro K fun k hk => ?_
    unfold impl_HandOver.f
    rw [hK k hk, hok]
    rfl
  | true =>
    simp only [if_true]
    have := for_to l.length (fun k (s : List IT × List Int) i => impl_HandOver.l0 k s.1 s.2 l l.length i) (fun i => ((l.take i).filter stays, ((l.take i).filter goes).map (fun x => x.f0))) (l.filter stays, (l.filter goes).map (fun x => x.f0), 0) (fun i hi => ⟨0, fun k _ => ?_⟩) (Ev.const fun k => ?_) l.length 0 (by omega)
    · obtain ⟨J, hJ⟩ := Ev.pick this
      refine Ev.intro (K + J) fun k hk => ?_
      unfold impl_HandOver.f
      rw [hK k (by omega), hok]
      simp only [Option.bind_some, if_true]
      exact hJ k (by omega)
    · have b1 := filter_take_len stays l i
      have b2 := filter_take_len goes l i
      obtain ⟨_, _, a, b, _⟩ := ok_one hok i hi
      simp only [impl_HandOver.l0, impl_hoursLeft.f, Option.bind_some]
      rw [if_pos (by omega), if_pos (by omega), if_pos (by omega), rdI l i hi, w64 (x := (i : Int) + 1) (by omega) (by omega), w64 (x := l[i].f2 - l[i].f3) (by omega) (by omega), filter_take stays l i hi, filter_take goes l i hi]
      by_cases c : l[i].f3 = l[i].f2
      · rw [if_neg (by omega), if_pos (by rw [List.length_map]; omega)]
        simp [stays, goes, c]
      · rw [if_pos (by omega), if_pos (by omega)]
        simp [stays, goes, c]
    · simp only [impl_HandOver.l0]
      rw [if_neg (by omega), List.take_of_length_le (by omega)]
theorem idx_bound (l : List IT) (id : Int) : orderIdx l id < l.length ∧ -1 ≤ orderIdx l id := by
  unfold orderIdx
  split
  · rename_i i hi
    have := (List.findIdx?_eq_some_iff_getElem.1 hi).1
    omega
  · omega
def workAns (l : List IT) (id h : Int) : List IT × Int :=
  if ordersOk l = true then
    if (1 ≤ id ∧ id ≤ 9999) ∧ (1 ≤ h ∧ h ≤ 500) then
      if orderIdx l id < 0 then ([], 3)
      else if (rd_T29 l (orderIdx l id)).f2 < (rd_T29 l (orderIdx l id)).f3 + h then ([], 5)
      else (l.set (orderIdx l id).toNat ⟨(rd_T29 l (orderIdx l id)).f0, (rd_T29 l (orderIdx l id)).f1, (rd_T29 l (orderIdx l id)).f2, wrap64 ((rd_T29 l (orderIdx l id)).f3 + h), (rd_T29 l (orderIdx l id)).f4⟩, 0)
    else ([], 2)
  else ([], 1)
theorem ok_rd {l : List IT} (h : ordersOk l = true) {i : Int} (h0 : 0 ≤ i) (h1 : i < l.length) : (1 ≤ (rd_T29 l i).f2 ∧ (rd_T29 l i).f2 ≤ 500) ∧ (0 ≤ (rd_T29 l i).f3 ∧ (rd_T29 l i).f3 ≤ (rd_T29 l i).f2) := by
  obtain ⟨n, rfl⟩ := Int.eq_ofNat_of_zero_le h0
  rw [rdI l n (by omega)]
  obtain ⟨_, _, a, b, _⟩ := ok_one h n (by omega)
  exact ⟨a, b⟩
theorem work_impl (l : List IT) (id h : Int) (hl : l.length ≤ 2000000) : Ev (fun k => impl_WorkOrder.f k l id h) (workAns l id h) := by
  obtain ⟨K, hK⟩ := Ev.pick (ok_impl l hl)
  refine Ev.intro (K + 1) fun k hk => ?_
  obtain ⟨m, rfl⟩ : ∃ m, k = m + 1 := ⟨k - 1, by omega⟩
  unfold impl_WorkOrder.f
  rw [within_eq, within_eq, hK (m + 1) (by omega)]
  simp only [Option.bind_some]
  cases hok : ordersOk l with
  | false => simp [workAns, hok]
  | true =>
    simp only [if_true]
    by_cases h1 : 1 ≤ id ∧ id ≤ 9999
    · by_cases h2 : 1 ≤ h ∧ h ≤ 500
      · rw [decide_eq_true h1, decide_eq_true h2]
        simp only [if_true, Bool.not_true, impl_WorkOrder.j0, Bool.false_eq_true, if_false, impl_orderOf.f, Option.bind_some, impl_hoursLeft.f]
        have hb := idx_bound l id
        by_cases h3 : orderIdx l id < 0
        · rw [if_pos h3]
          simp [workAns, hok, h1, h2, h3]
        · have hr := ok_rd hok (i := orderIdx l id) (by omega) hb.1
          rw [if_neg h3, if_pos (by omega), if_pos hb.1, w64 (x := (rd_T29 l (orderIdx l id)).f2 - (rd_T29 l (orderIdx l id)).f3) (by omega) (by omega)]
          by_cases h4 : (rd_T29 l (orderIdx l id)).f2 < (rd_T29 l (orderIdx l id)).f3 + h
          · rw [if_pos (by omega)]
            simp [workAns, hok, h1, h2, h3, h4]
          · rw [if_neg (by omega), List.nil_append, if_pos (by rw [List.length_nil]; omega)]
            rw [if_pos hb.1]
            simp [workAns, hok, h1, h2, h3, h4]
      · rw [decide_eq_true h1, decide_eq_false h2]
        simp [impl_WorkOrder.j0, workAns, hok, h2]
    · rw [decide_eq_false h1]
      simp [impl_WorkOrder.j0, workAns, hok, h1]
theorem rest_sum : ∀ (l : List IT), (hoursOf (l.filter stays)).sum = (hoursOf l).sum
  | [] => rfl
  | x :: r => by
    have ih := rest_sum r
    unfold hoursOf at ih ⊢
    rw [List.map_cons, List.sum_cons]
    cases hs : stays x with
    | true => rw [List.filter_cons_of_pos hs, List.map_cons, List.sum_cons, ih]
    | false =>
      rw [List.filter_cons_of_neg (by simp [hs]), ih]
      unfold stays at hs
      have : x.f3 = x.f2 := by simpa using hs
      omega
theorem rest_len : ∀ (l : List IT), (l.filter stays).length + ((l.filter goes).map (fun x => x.f0)).length = l.length
  | [] => rfl
  | x :: r => by
    have ih := rest_len r
    rw [List.length_map] at ih ⊢
    unfold stays goes at ih ⊢
    cases hs : (x.f3 == x.f2) with
    | true =>
      rw [List.filter_cons_of_neg (p := fun x : IT => !(x.f3 == x.f2)) (by simp [hs]), List.filter_cons_of_pos (p := fun x : IT => x.f3 == x.f2) hs, List.length_cons, List.length_cons]
      omega
    | false =>
      rw [List.filter_cons_of_pos (p := fun x : IT => !(x.f3 == x.f2)) (by simp [hs]), List.filter_cons_of_neg (p := fun x : IT => x.f3 == x.f2) (by simp [hs]), List.length_cons, List.length_cons]
      omega
theorem ok_set {l : List IT} (h : ordersOk l = true) (i : Nat) (hi : i < l.length) (x : IT) (h0 : x.f0 = l[i].f0) (hv : spec_l24One.v x.f0 x.f1 x.f2 x.f3 x.f4 = true) : ordersOk (l.set i x) = true := by
  obtain ⟨h1, h2, h3⟩ := (ok_iff l).1 h
  refine (ok_iff _).2 ⟨?_, fun y hy => ?_, by rw [List.length_set]; exact h3⟩
  · rw [List.pairwise_iff_getElem] at h1 ⊢
    intro a b ha hb hab
    rw [List.length_set] at ha hb
    have key : ∀ (j : Nat) (hj : j < l.length), ((l.set i x)[j]'(by rw [List.length_set]; exact hj)).f0 = l[j].f0 := by
      intro j hj
      rw [List.getElem_set]
      split
      · rename_i e; subst e; exact h0
      · rfl
    rw [key a ha, key b hb]
    exact h1 a b ha hb hab
  · rcases List.mem_or_eq_of_mem_set hy with hy | rfl
    · exact h2 y hy
    · exact hv
theorem set_sum : ∀ (l : List IT) (i : Nat) (hi : i < l.length) (x : IT), (hoursOf (l.set i x)).sum = (hoursOf l).sum - (l[i].f2 - l[i].f3) + (x.f2 - x.f3)
  | y :: r, 0, _, x => by
    unfold hoursOf
    simp only [List.set_cons_zero, List.map_cons, List.sum_cons, List.getElem_cons_zero]
    omega
  | y :: r, i + 1, hi, x => by
    have ih := set_sum r i (by simpa using hi) x
    unfold hoursOf at ih ⊢
    simp only [List.set_cons_succ, List.map_cons, List.sum_cons, List.getElem_cons_succ]
    rw [ih]
    omega
theorem one_bd {x : IT} (h : spec_l24One.v x.f0 x.f1 x.f2 x.f3 x.f4 = true) : (1 ≤ x.f0 ∧ x.f0 ≤ 9999) ∧ (1 ≤ x.f2 ∧ x.f2 ≤ 500) ∧ (0 ≤ x.f3 ∧ x.f3 ≤ x.f2) ∧ (0 ≤ x.f4 ∧ x.f4 ≤ 2000) := by
  unfold spec_l24One.v at h
  simp only [Bool.and_eq_true, decide_eq_true_eq] at h
  obtain ⟨⟨⟨⟨a, b⟩, c⟩, d⟩, e⟩ := h
  exact ⟨a, c, d, e⟩
theorem idx_at {l : List IT} (h : ordersOk l = true) (i : Nat) (hi : i < l.length) : orderIdx l l[i].f0 = i := by
  obtain ⟨h1, _, _⟩ := (ok_iff l).1 h
  rw [List.pairwise_iff_getElem] at h1
  exact orderIdx_hit hi (by simp) (fun j hj => by
    have := h1 j i (by omega) hi hj
    exact beq_eq_false_iff_ne.2 (by omega))
theorem and255 (x : Int) : 0 ≤ Go.bits .and .u64 x 255 ∧ Go.bits .and .u64 x 255 ≤ 255 := by
  unfold Go.bits
  have h : (BitVec.ofInt 64 x &&& BitVec.ofInt 64 255).toNat ≤ 255 := by
    rw [BitVec.toNat_and]
    exact Nat.and_le_right
  have e : IntKind.u64.wrap (((BitVec.ofInt 64 x &&& BitVec.ofInt 64 255).toNat : Nat) : Int) = (((BitVec.ofInt 64 x &&& BitVec.ofInt 64 255).toNat : Nat) : Int) := by
    simp only [IntKind.wrap, IntKind.bits, IntKind.signed, Bool.false_and, Bool.false_eq_true, if_false]
    omega
  show 0 ≤ IntKind.u64.wrap (((BitVec.ofInt 64 x &&& BitVec.ofInt 64 255).toNat : Nat) : Int) ∧ IntKind.u64.wrap (((BitVec.ofInt 64 x &&& BitVec.ofInt 64 255).toNat : Nat) : Int) ≤ 255
  rw [e]
  omega
def Bytes (l : List Int) : Prop := ∀ x ∈ l, 0 ≤ x ∧ x ≤ 255
theorem bytes_wf {l : List Int} (h : ∀ x ∈ l, (Lit.int .u8 x).wf = true) : Bytes l := by
  intro x hx
  have := h x hx
  simp only [Lit.wf, IntKind.min, IntKind.max, IntKind.signed, IntKind.bits, Bool.and_eq_true, decide_eq_true_eq, Bool.false_eq_true, if_false] at this
  omega
theorem bytes_rd {l : List Int} (h : Bytes l) {i : Int} (h0 : 0 ≤ i) (h1 : i < l.length) : 0 ≤ rd l i ∧ rd l i ≤ 255 := by
  obtain ⟨n, rfl⟩ := Int.eq_ofNat_of_zero_le h0
  rw [rd_nat l n (by omega)]
  exact h _ (List.getElem_mem _)
theorem next_ok {l : List Int} (h : Bytes l) (hl : l.length ≤ 3000) (p s : Int) (h0 : 0 ≤ p) (h1 : p ≤ 1000000) : ∃ v s', spec_l00Src_next.f l p s = some (v, p + 1, s') ∧ 0 ≤ v ∧ v ≤ 255 := by
  unfold spec_l00Src_next.f
  rw [w64 (x := p + 1) (by omega) (by omega)]
  by_cases c : p < (l.length : Int)
  · have hb := bytes_rd h h0 c
    rw [if_pos c, if_pos h0, if_pos (by omega)]
    exact ⟨_, _, rfl, by rw [w64 (by omega) (by omega)]; exact hb⟩
  · rw [if_neg c, if_neg (by omega)]
    refine ⟨_, _, rfl, ?_⟩
    have := and255 (IntKind.u64.wrap (IntKind.u64.wrap (IntKind.u64.wrap (s * 6364136223846793005) + 0) + 1442695040888963407) / 1099511627776)
    rw [w64 (by omega) (by omega)]
    exact this
theorem tmod_range {a n : Int} (h0 : 0 ≤ a) (hn : 1 ≤ n) : 0 ≤ Int.tmod a n ∧ Int.tmod a n < n := by
  rw [tmod_nn h0]
  exact ⟨Int.emod_nonneg _ (by omega), Int.emod_lt_of_pos _ (by omega)⟩
theorem pick_ok {l : List Int} (h : Bytes l) (hl : l.length ≤ 3000) (p s n : Int) (h0 : 0 ≤ p) (h1 : p ≤ 999999) (hn : 1 ≤ n) : ∃ r p' s', spec_l00Src_pick.f l p s n = some (r, p', s') ∧ (0 ≤ r ∧ r < n) ∧ p ≤ p' ∧ p' ≤ p + 2 := by
  unfold spec_l00Src_pick.f
  by_cases c : n ≤ 1
  · rw [if_pos c]
    exact ⟨_, _, _, rfl, by omega, by omega, by omega⟩
  · obtain ⟨v, s1, e1, v0, v1⟩ := next_ok h hl p s h0 (by omega)
    rw [if_neg c, e1]
    simp only [Option.bind_some]
    by_cases c2 : n > 200
    · obtain ⟨u, s2, e2, u0, u1⟩ := next_ok h hl (p + 1) s1 (by omega) (by omega)
      rw [if_pos c2, e2]
      simp only [Option.bind_some]
      rw [if_neg (by omega), w64 (x := v * 256) (by omega) (by omega), w64 (x := v * 256 + u) (by omega) (by omega)]
      exact ⟨_, _, _, rfl, tmod_range (by omega) hn, by omega, by omega⟩
    · rw [if_neg c2, if_neg (by omega)]
      exact ⟨_, _, _, rfl, tmod_range v0 hn, by omega, by omega⟩
theorem at_ok {l : List Int} (h : Bytes l) (i n : Int) (h0 : 0 ≤ i) (hn : 1 ≤ n) : ∃ r, laws_a2At.f l i n = some r ∧ 0 ≤ r ∧ r < n := by
  unfold laws_a2At.f
  by_cases c : i ≥ (l.length : Int)
  · rw [if_pos c]
    exact ⟨0, rfl, by omega, by omega⟩
  · have hb := bytes_rd h h0 (show i < l.length by omega)
    rw [if_neg c, if_neg (by omega), if_pos h0, if_pos (by omega), if_neg (by omega), w64 (by omega) (by omega)]
    exact ⟨_, rfl, tmod_range hb.1 hn⟩
theorem nameN0 : isNameB (⟨#[97, 110, 110, 105, 101]⟩ : ByteArray) = true := by decide
theorem nameN1 : isNameB (⟨#[98, 114, 105, 103, 45, 50]⟩ : ByteArray) = true := by decide
theorem nameN2 : isNameB (⟨#[112, 105, 108, 111, 116]⟩ : ByteArray) = true := by decide
theorem text_ok {b : List Int} (hb : Bytes b) (hl : b.length ≤ 3000) (p s : Int) (h0 : 0 ≤ p) (h1 : p ≤ 999999) (ts : List ByteArray) (hn : 1 ≤ ts.length) : ∃ x p' s', spec_l00Src_text.f b p s ts = some (x, p', s') ∧ x ∈ ts ∧ p ≤ p' ∧ p' ≤ p + 2 := by
  obtain ⟨r, p1, s1, e, hr, hp⟩ := pick_ok hb hl p s ts.length h0 h1 (by omega)
  unfold spec_l00Src_text.f
  rw [e]
  simp only [Option.bind_some]
  rw [if_pos hr.1, if_pos hr.2]
  refine ⟨_, _, _, rfl, ?_, hp.1, hp.2⟩
  obtain ⟨n, rfl⟩ := Int.eq_ofNat_of_zero_le hr.1
  unfold rdOf
  rw [Int.toNat_natCast, List.getD_eq_getElem?_getD, List.getElem?_eq_getElem (by omega)]
  exact List.getElem_mem _
def goodO (x : IT) (lo hi : Int) : Prop := (lo ≤ x.f0 ∧ x.f0 ≤ hi) ∧ isNameB x.f1 = true ∧ (1 ≤ x.f2 ∧ x.f2 ≤ 500) ∧ (0 ≤ x.f3 ∧ x.f3 ≤ x.f2) ∧ (0 ≤ x.f4 ∧ x.f4 ≤ 2000)
theorem new_ok {b : List Int} (hb : Bytes b) (hl : b.length ≤ 3000) (p s id : Int) (h0 : 0 ≤ p) (h1 : p ≤ 900000) (i0 : 1 ≤ id) : ∃ n h d u p' s', spec_l24New.f b p s id = some (id, n, h, d, u, p', s') ∧ goodO ⟨id, n, h, d, u⟩ id id ∧ p ≤ p' ∧ p' ≤ p + 10 := by
  obtain ⟨n, p1, s1, e1, hn, hp1⟩ := text_ok hb hl p s h0 (by omega) [(⟨#[97, 110, 110, 105, 101]⟩ : ByteArray), (⟨#[98, 114, 105, 103, 45, 50]⟩ : ByteArray), (⟨#[112, 105, 108, 111, 116]⟩ : ByteArray)] (by simp)
  obtain ⟨r2, p2, s2, e2, hr2, hp2⟩ := pick_ok hb hl p1 s1 40 (by omega) (by omega) (by omega)
  obtain ⟨r3, p3, s3, e3, hr3, hp3⟩ := pick_ok hb hl p2 s2 2 (by omega) (by omega) (by omega)
  have hname : isNameB n = true := by
    simp only [List.mem_cons, List.mem_nil_iff, or_false] at hn
    rcases hn with rfl | rfl | rfl
    · exact nameN0
    · exact nameN1
    · exact nameN2
  unfold spec_l24New.f spec_l00Src_one.f
  rw [e1]
  simp only [Option.bind_some]
  rw [e2]
  simp only [Option.bind_some]
  rw [e3]
  simp only [Option.bind_some]
  rw [w64 (x := 1 + r2) (by omega) (by omega), w64 (x := 1 + r2 + 1) (by omega) (by omega)]
  cases hc : (r3 == 0) with
  | true =>
    obtain ⟨r4, p4, s4, e4, hr4, hp4⟩ := pick_ok hb hl p3 s3 (1 + r2 + 1) (by omega) (by omega) (by omega)
    obtain ⟨r5, p5, s5, e5, hr5, hp5⟩ := pick_ok hb hl p4 s4 30 (by omega) (by omega) (by omega)
    simp only [if_true]
    rw [e4]
    simp only [Option.bind_some]
    rw [e5]
    simp only [Option.bind_some]
    exact ⟨_, _, _, _, _, _, rfl, ⟨⟨Int.le_refl _, Int.le_refl _⟩, hname, ⟨by show 1 ≤ 1 + r2; omega, by show 1 + r2 ≤ 500; omega⟩, ⟨hr4.1, by show r4 ≤ 1 + r2; omega⟩, ⟨hr5.1, by show r5 ≤ 2000; omega⟩⟩, by omega, by omega⟩
  | false =>
    obtain ⟨r5, p5, s5, e5, hr5, hp5⟩ := pick_ok hb hl p3 s3 30 (by omega) (by omega) (by omega)
    simp only [Bool.false_eq_true, if_false]
    rw [e5]
    simp only [Option.bind_some]
    exact ⟨_, _, _, _, _, _, rfl, ⟨⟨Int.le_refl _, Int.le_refl _⟩, hname, ⟨by show 1 ≤ 1 + r2; omega, by show 1 + r2 ≤ 500; omega⟩, ⟨Int.le_refl 0, by show 0 ≤ 1 + r2; omega⟩, ⟨hr5.1, by show r5 ≤ 2000; omega⟩⟩, by omega, by omega⟩
def goodOs (l : List IT) (hi : Int) : Prop := l.Pairwise (fun a b => a.f0 < b.f0) ∧ ∀ x ∈ l, goodO x 1 hi
theorem orders_ok {l : List IT} (h : goodOs l 9999) (hn : l.length ≤ 20) : ordersOk l = true := by
  unfold ordersOk
  rw [Bool.and_eq_true, decide_eq_true_eq]
  refine ⟨List.all_eq_true.2 fun i hi => ?_, hn⟩
  have hi := List.mem_range.1 hi
  obtain ⟨a, b, c, d, e⟩ := h.2 _ (List.getElem_mem hi)
  unfold fits spec_l24One.v
  rw [rdI l i hi, b, decide_eq_true a, decide_eq_true c, decide_eq_true d, decide_eq_true e]
  simp only [Bool.true_and, Bool.or_eq_true, beq_iff_eq, decide_eq_true_eq]
  by_cases h0 : i = 0
  · exact .inl h0
  · obtain ⟨j, rfl⟩ : ∃ j, i = j + 1 := ⟨i - 1, by omega⟩
    refine .inr ?_
    rw [show ((j + 1 : Nat) : Int) - 1 = (j : Int) by omega, rdI l j (by omega)]
    exact List.pairwise_iff_getElem.1 h.1 j (j + 1) (by omega) hi (by omega)
theorem draw_orders {b : List Int} (hb : Bytes b) (hl : b.length ≤ 3000) : ∀ (n : Nat) (xs : List IT) (id p s : Int), n ≤ 6 → xs.length + n ≤ 6 → goodOs xs (id - 1) → 1 ≤ id → id + 3 * n ≤ 1000 → 0 ≤ p → p + 20 * n ≤ 1000 →
    ∃ r p' s', (goodOs r 9999 ∧ r.length ≤ 6) ∧ Ev (fun k => spec_l24Draw.l0 k xs id (n : Int) b p s) (r, p', s') := by
  intro n
  induction n with
  | zero =>
    intro xs id p s _ hx hg h1 h2 h3 h4
    refine ⟨xs, p, s, ⟨⟨hg.1, fun x hx => ?_⟩, by omega⟩, Ev.const fun k => ?_⟩
    · obtain ⟨a, r⟩ := hg.2 x hx
      exact ⟨by omega, r⟩
    · simp only [spec_l24Draw.l0]
      rw [if_neg (by omega)]
  | succ n ih =>
    intro xs id p s hn hx hg h1 h2 h3 h4
    obtain ⟨nm, h, d, u, p1, s1, e1, hgo, hp1⟩ := new_ok hb hl p s id h3 (by omega) h1
    obtain ⟨r2, p2, s2, e2, hr2, hp2⟩ := pick_ok hb hl p1 s1 3 (by omega) (by omega) (by omega)
    have hg2 : goodOs (xs ++ [(⟨id, nm, h, d, u⟩ : IT)]) (id + (1 + r2) - 1) := by
      refine ⟨List.pairwise_append.2 ⟨hg.1, List.pairwise_singleton _ _, fun a ha c hc => ?_⟩, fun x hx => ?_⟩
      · rw [List.mem_singleton.1 hc]
        have := (hg.2 a ha).1
        show a.f0 < id
        omega
      · rcases List.mem_append.1 hx with hh | hh
        · obtain ⟨a, r⟩ := hg.2 x hh
          exact ⟨by omega, r⟩
        · rw [List.mem_singleton.1 hh]
          obtain ⟨a, r⟩ := hgo
          exact ⟨⟨h1, by show id ≤ _; omega⟩, r⟩
    obtain ⟨r, p', s', hr, hE⟩ := ih (xs ++ [(⟨id, nm, h, d, u⟩ : IT)]) (id + (1 + r2)) p2 s2 (by omega) (by simp; omega) hg2 (by omega) (by omega) (by omega) (by omega)
    obtain ⟨K, hK⟩ := Ev.pick hE
    refine ⟨r, p', s', hr, Ev.intro (K + 1) fun k hk => ?_⟩
    obtain ⟨m, rfl⟩ : ∃ m, k = m + 1 := ⟨k - 1, by omega⟩
    have := hK m (by omega)
    simp only [spec_l24Draw.l0]
    rw [if_pos (by omega), e1]
    simp only [Option.bind_some]
    rw [if_pos (by omega), e2]
    simp only [Option.bind_some]
    rw [w64 (x := 1 + r2) (by omega) (by omega), w64 (x := id + _) (by omega) (by omega), show wrap64 (((n + 1 : Nat) : Int) - 1) = (n : Int) by rw [w64 (by omega) (by omega)]; omega]
    exact this
theorem orders_draw {b : List Int} (hb : Bytes b) (hl : b.length ≤ 3000) : ∃ r, (goodOs r 9999 ∧ r.length ≤ 6) ∧ Ev (fun k => spec_A2Orders.f k b) r := by
  obtain ⟨r1, p1, s1, e1, hr1, hp1⟩ := pick_ok hb hl 0 0 3 (by omega) (by omega) (by omega)
  obtain ⟨r2, p2, s2, e2, hr2, hp2⟩ := pick_ok hb hl p1 s1 7 (by omega) (by omega) (by omega)
  obtain ⟨n, rfl⟩ := Int.eq_ofNat_of_zero_le hr2.1
  obtain ⟨r, p', s', hr, h⟩ := draw_orders hb hl n [] (1 + r1) p2 s2 (by omega) (by simp; omega) ⟨List.Pairwise.nil, by simp⟩ (by omega) (by omega) (by omega) (by omega)
  obtain ⟨K, hK⟩ := Ev.pick h
  refine ⟨r, hr, Ev.intro K fun k hk => ?_⟩
  unfold spec_A2Orders.f spec_l00From.f spec_l24Draw.f
  simp only [Option.bind_some]
  rw [e1]
  simp only [Option.bind_some]
  rw [e2]
  simp only [Option.bind_some]
  rw [w64 (x := 1 + r1) (by omega) (by omega), hK k hk]
  rfl
theorem mod256 {x : Int} (h0 : 0 ≤ x) (h1 : x < 256) : x % 256 = x := Int.emod_eq_of_lt h0 h1
def dec (n : Int) : ByteArray := ⟨(Lib.itoa n).toArray⟩
theorem dec_size (n : Int) (h0 : -9223372036854775808 ≤ n) (h1 : n ≤ 9223372036854775807) : (dec n).size ≤ 21 := by
  have := Lib.itoa_length_le n h0 h1
  show (Lib.itoa n).toArray.size ≤ 21
  rw [List.size_toArray]
  exact this
theorem dec_impl (n : Int) (h0 : -9223372036854775808 ≤ n) (h1 : n ≤ 9223372036854775807) : impl_Decimal.f n = some (dec n) := by
  unfold impl_Decimal.f strconv_FormatInt.f
  rw [if_pos ⟨rfl, h0, h1⟩]
  rfl
theorem bt_list (s : ByteArray) (i : Nat) (h : i < s.data.toList.length) : bt s (i : Int) = ((s.data.toList[i]).toNat : Int) := by
  unfold bt
  have h2 : i < s.size := by simpa using h
  rw [dif_pos (by simpa using h2)]
  rfl
theorem size_list (s : ByteArray) : s.size = s.data.toList.length := by rw [Array.length_toList]; rfl
theorem bytes_ext {a b : ByteArray} (h : a.data.toList = b.data.toList) : a = b := by
  have h3 : a.data = b.data := Array.toList_inj.mp h
  cases a; cases b; exact congrArg ByteArray.mk h3
theorem toList_iff {a b : ByteArray} : a.toList = b.toList ↔ a = b := by
  constructor
  · intro h
    rw [ByteArray.toList_eq, ByteArray.toList_eq] at h
    exact bytes_ext h
  · intro h; rw [h]
def valL (l : List UInt8) : Int := l.foldl (fun a b => 10 * a + ((b.toNat : Int) - 48)) 0
theorem valL_snoc (l : List UInt8) (b : UInt8) : valL (l ++ [b]) = 10 * valL l + ((b.toNat : Int) - 48) := by unfold valL; rw [List.foldl_append]; rfl
def valD (t : ByteArray) (i : Nat) : Int := valL (t.data.toList.take i)
theorem valD_succ (t : ByteArray) (i : Nat) (h : i < t.size) : valD t (i + 1) = 10 * valD t i + (bt t (i : Int) - 48) := by
  have h2 : i < t.data.toList.length := by rw [← size_list]; exact h
  unfold valD
  rw [List.take_succ_eq_append_getElem h2, valL_snoc, bt_list t i h2]
def digitB (b : Int) : Bool := decide (48 ≤ b ∧ b ≤ 57)
def allD (t : ByteArray) : Bool := (List.range t.size).all fun i => digitB (bt t (i : Int))
theorem valD_bd (t : ByteArray) : ∀ (i : Nat), i ≤ t.size → (∀ j, j < i → digitB (bt t (j : Int)) = true) → 0 ≤ valD t i ∧ valD t i < (10 ^ i : Nat)
  | 0, _, _ => by simp [valD, valL]
  | i + 1, hi, hd => by
    have ih := valD_bd t i (by omega) (fun j hj => hd j (by omega))
    have h := of_decide_eq_true (hd i (by omega))
    rw [valD_succ t i (by omega), Nat.pow_succ]
    omega
theorem pow_le18 {i : Nat} (h : i ≤ 18) : 10 ^ i ≤ 1000000000000000000 := by
  have := Nat.pow_le_pow_right (n := 10) (by omega) h
  simpa using this
def bare (s : ByteArray) : ByteArray := if 0 < s.size ∧ bt s 0 = 45 then s.extract 1 s.size else s
theorem bare_size (s : ByteArray) : (bare s).size ≤ s.size := by
  unfold bare
  split
  · rw [ByteArray.size_extract]; omega
  · exact Nat.le_refl _
def numAt (s : ByteArray) (n : Int) : Int × Bool := if dec n = s then (n, true) else (0, false)
def numEnd (s t : ByteArray) : Int × Bool := numAt s (if t.size < s.size then -valD t t.size else valD t t.size)
def numV (s : ByteArray) : Int × Bool := if (bare s).size < 1 ∨ 18 < (bare s).size then (0, false) else if allD (bare s) = true then numEnd s (bare s) else (0, false)
theorem dec_digits {u : Nat} : ∀ b ∈ Lib.decDigits u, 48 ≤ b.toNat ∧ b.toNat ≤ 57 := by
  induction u using Nat.strongRecOn with
  | _ u ih =>
    intro b hb
    rw [Lib.decDigits] at hb
    split at hb
    · rename_i h10
      rw [List.mem_singleton] at hb
      subst hb
      rw [UInt8.toNat_ofNat']
      omega
    · rename_i h10
      rw [List.mem_append] at hb
      rcases hb with hb | hb
      · exact ih (u / 10) (by omega) b hb
      · rw [List.mem_singleton] at hb
        subst hb
        rw [UInt8.toNat_ofNat']
        omega
theorem dec_val (u : Nat) : valL (Lib.decDigits u) = u := by
  induction u using Nat.strongRecOn with
  | _ u ih =>
    rw [Lib.decDigits]
    split
    · rename_i h10
      show 10 * 0 + (((UInt8.ofNat (48 + u)).toNat : Int) - 48) = u
      rw [UInt8.toNat_ofNat']
      omega
    · rename_i h10
      rw [valL_snoc, ih (u / 10) (by omega), UInt8.toNat_ofNat']
      omega
theorem nDigits_le : ∀ (m u : Nat), u < 10 ^ (m + 1) → Lib.nDigits u ≤ m + 1
  | 0, u, h => by rw [Lib.nDigits_small (by simpa using h)]; omega
  | m + 1, u, h => by
    by_cases h10 : u < 10
    · rw [Lib.nDigits_small h10]; omega
    · rw [Lib.nDigits_big h10]
      rw [Nat.pow_succ] at h
      have := nDigits_le m (u / 10) (by omega)
      omega
theorem numV_dec (n : Nat) (h : n < 1000000000000000000) : numV (dec (n : Int)) = ((n : Int), true) := by
  have hl : (dec (n : Int)).data.toList = Lib.decDigits n := by
    show (Lib.itoa (n : Int)).toArray.toList = _
    rw [Lib.itoa_nonneg]
  have hsz : (dec (n : Int)).size = Lib.nDigits n := by rw [size_list, hl, Lib.decDigits_length]
  have hn18 := nDigits_le 17 n (by omega)
  have hn1 := Lib.nDigits_pos n
  have hd : ∀ j, j < (dec (n : Int)).size → digitB (bt (dec (n : Int)) (j : Int)) = true := by
    intro j hj
    have hj2 : j < (dec (n : Int)).data.toList.length := by rw [← size_list]; exact hj
    rw [bt_list _ j hj2]
    have := dec_digits (u := n) ((dec (n : Int)).data.toList[j]) (by rw [← hl]; exact List.getElem_mem hj2)
    exact decide_eq_true (by omega)
  have hb : bare (dec (n : Int)) = dec (n : Int) := by
    unfold bare
    rw [if_neg]
    rintro ⟨g0, g1⟩
    have := of_decide_eq_true (hd 0 g0)
    rw [show ((0 : Nat) : Int) = 0 from rfl] at this
    omega
  have hv : valD (dec (n : Int)) (dec (n : Int)).size = n := by
    unfold valD
    rw [size_list, List.take_length, hl, dec_val]
  unfold numV
  rw [hb, if_neg (by omega), if_pos (show allD (dec (n : Int)) = true from List.all_eq_true.2 fun j hj => hd j (List.mem_range.1 hj))]
  unfold numEnd numAt
  rw [if_neg (Nat.lt_irrefl _), hv, if_pos rfl]
theorem num_loop_impl (s t : ByteArray) (h18 : t.size ≤ 18) (hts : t.size ≤ s.size) : Ev (fun k => impl_ReadDecimal.l0 k s t 0 0) (if allD t = true then numEnd s t else (0, false)) := by
  have key : ∀ (d i : Nat), i + d = t.size → (∀ j, j < i → digitB (bt t (j : Int)) = true) → Ev (fun k => impl_ReadDecimal.l0 k s t (valD t i) i) (if allD t = true then numEnd s t else (0, false)) := by
    intro d
    induction d with
    | zero =>
      intro i hi hd
      obtain rfl : i = t.size := by omega
      have ha : allD t = true := List.all_eq_true.2 fun j hj => hd j (List.mem_range.1 hj)
      have hb := valD_bd t t.size (Nat.le_refl _) hd
      have hp := pow_le18 h18
      rw [if_pos ha]
      unfold numEnd numAt
      by_cases c : t.size < s.size
      · rw [if_pos c]
        refine Ev.const fun k => ?_
        simp only [impl_ReadDecimal.l0]
        rw [if_neg (by omega), if_pos (by omega), w64 (x := -valD t t.size) (by omega) (by omega), dec_impl (-valD t t.size) (by omega) (by omega)]
        simp only [Option.bind_some, toList_iff]
        split <;> rfl
      · rw [if_neg c]
        refine Ev.const fun k => ?_
        simp only [impl_ReadDecimal.l0]
        rw [if_neg (by omega), if_neg (by omega), dec_impl (valD t t.size) (by omega) (by omega)]
        simp only [Option.bind_some, toList_iff]
        split <;> rfl
    | succ d ih =>
      intro i hi hd
      have hb := valD_bd t i (by omega) hd
      have hp := pow_le18 (i := i) (by omega)
      have hr := bt_range t (i : Int)
      cases hdi : digitB (bt t (i : Int)) with
      | true =>
        have hdig := of_decide_eq_true hdi
        have ih2 := ih (i + 1) (by omega) (fun j hj => by
          by_cases e : j = i
          · subst e; exact hdi
          · exact hd j (by omega))
        refine Ev.step (fun k => ?_) ih2
        simp only [impl_ReadDecimal.l0]
        rw [if_pos (by omega), if_pos (by omega), if_neg (by omega), if_neg (by omega)]
        have hps : (10 ^ i : Nat) ≤ 100000000000000000 := by
          have := Nat.pow_le_pow_right (n := 10) (by omega) (show i ≤ 17 by omega)
          simpa using this
        rw [valD_succ t i (by omega), mod256 (by omega) (by omega), w64 (x := 10 * valD t i) (by omega) (by omega), w64 (x := 10 * valD t i + _) (by omega) (by omega), w64 (x := (i : Int) + 1) (by omega) (by omega)]
        rfl
      | false =>
        have ha : ¬ allD t = true := fun g => by
          have := List.all_eq_true.1 g i (List.mem_range.2 (by omega))
          rw [hdi] at this
          cases this
        rw [if_neg ha]
        have hdig := of_decide_eq_false hdi
        refine Ev.const fun k => ?_
        simp only [impl_ReadDecimal.l0]
        rw [if_pos (by omega), if_pos (by omega)]
        by_cases c : bt t (i : Int) < 48
        · rw [if_pos c]
        · rw [if_neg c, if_pos (by omega)]
  exact key t.size 0 (by omega) (fun j hj => absurd hj (Nat.not_lt_zero _))
theorem prefix_one (s : ByteArray) : strings_TrimPrefix.f s (⟨#[45]⟩ : ByteArray) = some (bare s) := by
  unfold strings_TrimPrefix.f stringslite_TrimPrefix.f stringslite_HasPrefix.f
  have z : (⟨#[45]⟩ : ByteArray).size = 1 := rfl
  rw [z]
  by_cases h0 : s.size = 0
  · rw [if_neg (by omega)]
    simp only [Option.bind_some, Bool.false_eq_true, if_false]
    unfold bare
    rw [if_neg (by omega)]
  · rw [if_pos (by omega), if_pos (by omega), if_pos (by omega)]
    simp only [Option.bind_some]
    have e1 : ((1 : Nat) : Int).toNat = 1 := rfl
    rw [e1]
    have hl : 0 < s.data.toList.length := by rw [← size_list]; omega
    have hb0 := bt_list s 0 hl
    have key : (((s.extract 0 1).toList == (⟨#[45]⟩ : ByteArray).toList) = true) ↔ bt s 0 = 45 := by
      rw [beq_iff_eq, toList_iff]
      have hx : (s.extract 0 1).data.toList = [s.data.toList[0]] := by
        rw [Lib.extract_data]
        rw [List.drop_zero, Nat.sub_zero, List.take_succ_eq_append_getElem hl, List.take_zero]
        rfl
      rw [show (0 : Int) = ((0 : Nat) : Int) from rfl, hb0]
      constructor
      · intro g
        rw [g] at hx
        have h2 : [(45 : UInt8)] = [s.data.toList[0]] := hx
        have h3 : (45 : UInt8) = s.data.toList[0] := by simpa using h2
        rw [← h3]; rfl
      · intro g
        apply bytes_ext
        rw [hx]
        show [s.data.toList[0]] = [(45 : UInt8)]
        have h3 : s.data.toList[0] = 45 := UInt8.toNat_inj.mp (by
          have : (s.data.toList[0]).toNat = 45 := by omega
          rw [this]; rfl)
        rw [h3]
    unfold bare
    by_cases h45 : bt s 0 = 45
    · have hb := key.mpr h45
      rw [hb]
      simp only [if_true]
      rw [if_pos (by omega), if_pos (by omega), if_pos ⟨by omega, h45⟩]
      rfl
    · have hb : ((s.extract 0 1).toList == (⟨#[45]⟩ : ByteArray).toList) = false := Bool.eq_false_iff.mpr fun g => h45 (key.mp g)
      rw [hb]
      simp only [Bool.false_eq_true, if_false]
      rw [if_neg (fun g => h45 g.2)]
      rfl
theorem num_impl (s : ByteArray) (hs : s.size ≤ 140737488351232) : Ev (fun k => impl_ReadDecimal.f k s) (numV s) := by
  have ht := bare_size s
  unfold numV
  have h1 : ∀ k, impl_ReadDecimal.f k s = if ((bare s).size : Int) < 1 then impl_ReadDecimal.j0 k s (bare s) true else impl_ReadDecimal.j0 k s (bare s) (decide (((bare s).size : Int) > 18)) := by
    intro k
    unfold impl_ReadDecimal.f
    rw [prefix_one]
    rfl
  generalize bare s = t at *
  by_cases c1 : t.size < 1
  · rw [if_pos (.inl c1)]
    refine Ev.const fun k => ?_
    rw [h1, if_pos (by omega)]
    simp only [impl_ReadDecimal.j0, if_true]
  · by_cases c2 : 18 < t.size
    · rw [if_pos (.inr c2)]
      refine Ev.const fun k => ?_
      rw [h1, if_neg (by omega), decide_eq_true (by omega)]
      simp only [impl_ReadDecimal.j0, if_true]
    · rw [if_neg (by omega)]
      refine Ev.step (fun k => ?_) (num_loop_impl s t (by omega) ht)
      rw [h1, if_neg (by omega), decide_eq_false (by omega)]
      simp only [impl_ReadDecimal.j0, Bool.false_eq_true, if_false]
def S1 (c : UInt8) (s : ByteArray) : List ByteArray := Lib.splitB (⟨#[c]⟩ : ByteArray) 0 (Lib.countB s (⟨#[c]⟩ : ByteArray)) s
theorem bt_get {s : ByteArray} {c : UInt8} {i : Nat} (hi : i < s.size) : s.data.toList[i]? = some c ↔ bt s (i : Int) = (c.toNat : Int) := by
  have h2 : i < s.data.toList.length := by rw [← size_list]; exact hi
  rw [List.getElem?_eq_getElem h2, bt_list s i h2]
  constructor
  · intro h
    injection h with h
    rw [h]
  · intro h
    congr 1
    apply UInt8.toNat_inj.mp
    omega
theorem S1_none {c : UInt8} {s : ByteArray} (h : ∀ i : Nat, i < s.size → ¬ bt s (i : Int) = (c.toNat : Int)) : S1 c s = [s] := by
  rcases Lib.indexB_cases s (⟨#[c]⟩ : ByteArray) with e | ⟨i, e, hr⟩
  · exact Lib.splitB_miss _ _ _ _ e
  · exfalso
    have hi : i < s.size := by have : (⟨#[c]⟩ : ByteArray).size = 1 := rfl; omega
    have e2 : Lib.indexByte s.data.toList c = (i : Int) := by rw [← Lib.index_one]; exact e
    exact h i hi ((bt_get hi).mp (Lib.indexByte_some e2).1)
theorem S1_hit {c : UInt8} {s : ByteArray} {i : Nat} (hi : i < s.size) (hc : bt s (i : Int) = (c.toNat : Int)) (h : ∀ j : Nat, j < i → ¬ bt s (j : Int) = (c.toNat : Int)) : S1 c s = s.extract 0 i :: S1 c (s.extract (i + 1) s.size) := by
  rcases Lib.indexB_cases s (⟨#[c]⟩ : ByteArray) with e | ⟨o, e, hr⟩
  · exfalso
    have e2 : Lib.indexByte s.data.toList c = -1 := by rw [← Lib.index_one]; exact e
    exact Lib.indexByte_none e2 i ((bt_get hi).mpr hc)
  · have e2 : Lib.indexByte s.data.toList c = (o : Int) := by rw [← Lib.index_one]; exact e
    obtain ⟨p1, p2⟩ := Lib.indexByte_some e2
    have ho : o < s.size := by have : (⟨#[c]⟩ : ByteArray).size = 1 := rfl; omega
    have hoi : o = i := by
      rcases Nat.lt_trichotomy o i with l | l | l
      · exact absurd ((bt_get ho).mp p1) (h o l)
      · exact l
      · exact absurd ((bt_get hi).mpr hc) (p2 i l)
    subst hoi
    unfold S1
    rw [Lib.countB_hit s (⟨#[c]⟩ : ByteArray) o (Nat.le_refl 1) e, Nat.add_comm 1, Lib.splitB_hit _ _ _ _ o e]
    rfl
theorem split_impl (s : ByteArray) (c : UInt8) (hs : s.size ≤ 1048576) : strings_Split.f s (⟨#[c]⟩ : ByteArray) = some (S1 c s) := by
  unfold strings_Split.f
  rw [if_pos ⟨by omega, Nat.le_refl 1⟩]
  rfl
def outR (ok : Bool) (f0 : Int) (f1 : ByteArray) (f2 f3 f4 : Int) : Int × ByteArray × Int × Int × Int × Bool := if ok = true then (f0, f1, f2, f3, f4, true) else (0, (⟨#[]⟩ : ByteArray), 0, 0, 0, false)
theorem order_impl (W : List ByteArray) (w0 w1 w2 w4 p l r : ByteArray) (hp fd : Bool) (hl : (W.length : Int) = 5) (e0 : rdOf ByteArray.empty W 0 = w0) (e1 : rdOf ByteArray.empty W 1 = w1) (e2 : rdOf ByteArray.empty W 2 = w2) (e4 : rdOf ByteArray.empty W 4 = w4)
    (hP : strings_CutPrefix.f w0 (⟨#[35]⟩ : ByteArray) = some (p, hp)) (hC : strings_Cut.f w2 (⟨#[47]⟩ : ByteArray) = some (l, r, fd)) (sp : p.size ≤ 1048576) (sl : l.size ≤ 1048576) (sr : r.size ≤ 1048576) (s4 : w4.size ≤ 1048576) :
    Ev (fun k => impl_ReadOrder.j0 k W false) (outR (hp && fd && (numV p).2 && (numV l).2 && (numV r).2 && (numV w4).2 && spec_l24One.v (numV p).1 w1 (numV r).1 (numV l).1 (numV w4).1) (numV p).1 w1 (numV r).1 (numV l).1 (numV w4).1) := by
  obtain ⟨K1, g1⟩ := Ev.pick (num_impl p (by omega))
  obtain ⟨K2, g2⟩ := Ev.pick (num_impl l (by omega))
  obtain ⟨K3, g3⟩ := Ev.pick (num_impl r (by omega))
  obtain ⟨K4, g4⟩ := Ev.pick (num_impl w4 (by omega))
  obtain ⟨K5, g5⟩ := Ev.pick (valid_impl (numV p).1 w1 (numV r).1 (numV l).1 (numV w4).1)
  refine Ev.intro (K1 + K2 + K3 + K4 + K5 + 1) fun k hk => ?_
  obtain ⟨m, rfl⟩ : ∃ m, k = m + 1 := ⟨k - 1, by omega⟩
  have h1 := g1 m (by omega)
  have h2 := g2 m (by omega)
  have h3 := g3 m (by omega)
  have h4 := g4 m (by omega)
  have h5 := g5 m (by omega)
  clear g1 g2 g3 g4 g5
  have c0 : 0 < (W.length : Int) := by omega
  have c1 : 1 < (W.length : Int) := by omega
  have c2 : 2 < (W.length : Int) := by omega
  have c4 : 4 < (W.length : Int) := by omega
  generalize spec_l24One.v (numV p).1 w1 (numV r).1 (numV l).1 (numV w4).1 = v at h5 ⊢
  generalize numV p = n1 at h1 h5 ⊢
  generalize numV l = n2 at h2 h5 ⊢
  generalize numV r = n3 at h3 h5 ⊢
  generalize numV w4 = n4 at h4 h5 ⊢
  obtain ⟨x1, b1⟩ := n1
  obtain ⟨x2, b2⟩ := n2
  obtain ⟨x3, b3⟩ := n3
  obtain ⟨x4, b4⟩ := n4
  simp only [] at h5
  simp only [impl_ReadOrder.j0, Bool.false_eq_true, if_false, c0, c1, c2, c4, if_true, e0, e1, e2, e4, hP, hC, h1, h2, h3, h4, h5, Option.bind_some]
  cases hp
  · simp [outR]
  cases fd
  · simp [outR]
  cases b1
  · simp [outR]
  cases b2
  · simp [outR]
  cases b3
  · simp [outR]
  cases b4
  · simp [outR]
  cases v <;> simp [outR]
theorem index_at (D R : List UInt8) (c : UInt8) (h : ∀ b ∈ D, ¬ b = c) : Lib.index (D ++ c :: R) [c] = (D.length : Int) := by
  induction D with
  | nil => simp [Lib.index]
  | cons b D ih =>
    have hb : ¬ b = c := h b List.mem_cons_self
    have ih := ih (fun x hx => h x (List.mem_cons_of_mem _ hx))
    rw [List.cons_append, Lib.index]
    have hp : [c].isPrefixOf (b :: (D ++ c :: R)) = false := by
      simp only [List.isPrefixOf, Bool.and_true]
      exact beq_eq_false_iff_ne.mpr fun e => hb e.symm
    rw [hp, ih]
    have h1 : (((D.length : Int)) == -1) = false := by
      apply beq_eq_false_iff_ne.mpr
      omega
    rw [h1]
    simp
theorem cut_hit (D R : List UInt8) (c : UInt8) (h : ∀ b ∈ D, ¬ b = c) : Lib.cut (D ++ c :: R) [c] = (D, R, true) := by
  unfold Lib.cut
  rw [index_at D R c h, if_pos (by omega)]
  rw [Int.toNat_natCast, List.take_left]
  rw [show D ++ c :: R = (D ++ [c]) ++ R by simp, show D.length + [c].length = (D ++ [c]).length by simp, List.drop_left]
theorem cut_f (s : ByteArray) (l r : List UInt8) (b : Bool) (hs : s.size ≤ 1048576) (h : Lib.cut s.data.toList [47] = (l, r, b)) : strings_Cut.f s (⟨#[47]⟩ : ByteArray) = some ((⟨l.toArray⟩ : ByteArray), (⟨r.toArray⟩ : ByteArray), b) := by
  unfold strings_Cut.f
  rw [if_pos (by omega), show (⟨#[47]⟩ : ByteArray).data.toList = [47] from rfl, h]
theorem app_l (a b : ByteArray) : (a ++ b).data.toList = a.data.toList ++ b.data.toList := by rw [ByteArray.data_append, Array.toList_append]
theorem S1_of (c : UInt8) (s D R : ByteArray) (hl : s.data.toList = D.data.toList ++ c :: R.data.toList) (h : ∀ b ∈ D.data.toList, ¬ b = c) : S1 c s = D :: S1 c R := by
  have hD := size_list D
  have hR := size_list R
  have hs : s.size = D.size + 1 + R.size := by
    have h1 := size_list s
    rw [hl, List.length_append, List.length_cons] at h1
    omega
  have at_ : ∀ j : Nat, j < D.size → ¬ bt s (j : Int) = (c.toNat : Int) := by
    intro j hj he
    have h1 := (bt_get (c := c) (by omega)).2 he
    rw [hl, List.getElem?_append_left (by omega), List.getElem?_eq_getElem (by omega)] at h1
    exact h _ (List.getElem_mem (by omega : j < D.data.toList.length)) (Option.some.inj h1)
  have hit : bt s (D.size : Int) = (c.toNat : Int) := by
    refine (bt_get (c := c) (by omega)).1 ?_
    rw [hl, hD, List.getElem?_append_right (Nat.le_refl _), Nat.sub_self]
    rfl
  have e1 : s.extract 0 D.size = D := by
    apply bytes_ext
    rw [Lib.extract_data, hl, hD, List.drop_zero, Nat.sub_zero, List.take_left]
  have e2 : s.extract (D.size + 1) s.size = R := by
    apply bytes_ext
    have e : (D.data.toList ++ c :: R.data.toList).drop (D.size + 1) = R.data.toList := by
      rw [hD, show D.data.toList ++ c :: R.data.toList = (D.data.toList ++ [c]) ++ R.data.toList by rw [List.append_assoc]; rfl]
      exact List.drop_left' (by rw [List.length_append]; rfl)
    rw [Lib.extract_data, hl, e, List.take_of_length_le (by omega)]
  rw [S1_hit (i := D.size) (by omega) hit at_, e1, e2]
theorem dec_l (n : Nat) : (dec (n : Int)).data.toList = Lib.decDigits n := by
  unfold dec Lib.itoa
  simp
theorem dec_ne {n : Nat} {c : UInt8} (hc : c.toNat < 48 ∨ 57 < c.toNat) : ∀ b ∈ (dec (n : Int)).data.toList, ¬ b = c := by
  intro b hb he
  rw [dec_l] at hb
  have := dec_digits b hb
  subst he
  omega
theorem name_ne {s : ByteArray} (h : isNameB s = true) : ∀ b ∈ s.data.toList, ¬ b = 32 := by
  intro b hb he
  unfold isNameB at h
  rw [Bool.and_eq_true, List.all_eq_true] at h
  obtain ⟨i, hi, rfl⟩ := List.getElem_of_mem hb
  have hs := size_list s
  have := h.2 i (List.mem_range.2 (by omega))
  rw [bt_list s i hi, he] at this
  exact absurd this (by decide)
theorem read_back {f0 f2 f3 f4 : Int} {f1 : ByteArray} (hv : spec_l24One.v f0 f1 f2 f3 f4 = true) (T : ByteArray) (hT : T.data.toList = 35 :: ((dec f0).data.toList ++ 32 :: (f1.data.toList ++ 32 :: (((dec f3).data.toList ++ 47 :: (dec f2).data.toList) ++ 32 :: (98 :: 121 :: 32 :: (dec f4).data.toList))))) : Ev (fun k => impl_ReadOrder.f k T) (f0, f1, f2, f3, f4, true) := by
  have hv2 := hv
  unfold spec_l24One.v at hv2
  simp only [Bool.and_eq_true, decide_eq_true_eq] at hv2
  obtain ⟨⟨⟨⟨b0, b1⟩, b2⟩, b3⟩, b4⟩ := hv2
  have hn := name_ne b1
  have hn12 : f1.size ≤ 12 := by
    unfold isNameB at b1
    rw [Bool.and_eq_true, decide_eq_true_eq] at b1
    exact b1.1.2.1
  have z0 := dec_size f0 (by omega) (by omega)
  have z2 := dec_size f2 (by omega) (by omega)
  have z3 := dec_size f3 (by omega) (by omega)
  have z4 := dec_size f4 (by omega) (by omega)
  obtain ⟨n0, rfl⟩ := Int.eq_ofNat_of_zero_le (show 0 ≤ f0 by omega)
  obtain ⟨n2, rfl⟩ := Int.eq_ofNat_of_zero_le (show 0 ≤ f2 by omega)
  obtain ⟨n3, rfl⟩ := Int.eq_ofNat_of_zero_le (show 0 ≤ f3 by omega)
  obtain ⟨n4, rfl⟩ := Int.eq_ofNat_of_zero_le (show 0 ≤ f4 by omega)
  have v0 := numV_dec n0 (by omega)
  have v2 := numV_dec n2 (by omega)
  have v3 := numV_dec n3 (by omega)
  have v4 := numV_dec n4 (by omega)
  have d0 := dec_ne (n := n0) (c := 32) (.inl (by decide))
  have d2 := dec_ne (n := n2) (c := 32) (.inl (by decide))
  have d3 := dec_ne (n := n3) (c := 32) (.inl (by decide))
  have d37 := dec_ne (n := n3) (c := 47) (.inl (by decide))
  have d4 := dec_ne (n := n4) (c := 32) (.inl (by decide))
  generalize dec (n0 : Int) = t0 at *
  generalize dec (n2 : Int) = t2 at *
  generalize dec (n3 : Int) = t3 at *
  generalize dec (n4 : Int) = t4 at *
  have s0 := size_list t0
  have s1 := size_list f1
  have s2 := size_list t2
  have s3 := size_list t3
  have s4 := size_list t4
  have sT : T.size ≤ 1048576 := by
    have h := size_list T
    rw [hT] at h
    simp only [List.length_cons, List.length_append] at h
    omega
  obtain ⟨w0, hw0⟩ : ∃ w : ByteArray, w.data.toList = 35 :: t0.data.toList := ⟨⟨(35 :: t0.data.toList).toArray⟩, rfl⟩
  obtain ⟨w2, hw2⟩ : ∃ w : ByteArray, w.data.toList = t3.data.toList ++ 47 :: t2.data.toList := ⟨⟨(t3.data.toList ++ 47 :: t2.data.toList).toArray⟩, rfl⟩
  obtain ⟨r2, hr2⟩ : ∃ w : ByteArray, w.data.toList = 98 :: 121 :: 32 :: t4.data.toList := ⟨⟨(98 :: 121 :: 32 :: t4.data.toList).toArray⟩, rfl⟩
  obtain ⟨r1, hr1⟩ : ∃ w : ByteArray, w.data.toList = w2.data.toList ++ 32 :: r2.data.toList := ⟨⟨(w2.data.toList ++ 32 :: r2.data.toList).toArray⟩, rfl⟩
  obtain ⟨r0, hr0⟩ : ∃ w : ByteArray, w.data.toList = f1.data.toList ++ 32 :: r1.data.toList := ⟨⟨(f1.data.toList ++ 32 :: r1.data.toList).toArray⟩, rfl⟩
  have e0 := S1_of 32 T w0 r0 (by rw [hT, hw0, hr0, hr1, hw2, hr2]; simp) (by
    intro b hb
    rw [hw0] at hb
    rcases List.mem_cons.1 hb with rfl | hb
    · decide
    · exact d0 b hb)
  have e1 := S1_of 32 r0 f1 r1 hr0 hn
  have e2 := S1_of 32 r1 w2 r2 hr1 (by
    intro b hb
    rw [hw2] at hb
    rcases List.mem_append.1 hb with hb | hb
    · exact d3 b hb
    · rcases List.mem_cons.1 hb with rfl | hb
      · decide
      · exact d2 b hb)
  have e3 := S1_of 32 r2 (⟨#[98, 121]⟩ : ByteArray) t4 (by rw [hr2]; rfl) (by
    intro b hb
    simp only [List.mem_cons, List.not_mem_nil, or_false] at hb
    rcases hb with rfl | rfl <;> decide)
  have e4 := S1_none (c := 32) (s := t4) (fun i hi he => by
    have h := (bt_get (c := 32) hi).2 he
    obtain ⟨hj, hx⟩ := List.getElem?_eq_some_iff.1 h
    exact d4 _ (List.getElem_mem hj) hx)
  have hW : S1 32 T = [w0, f1, w2, (⟨#[98, 121]⟩ : ByteArray), t4] := by rw [e0, e1, e2, e3, e4]
  have hP : strings_CutPrefix.f w0 (⟨#[35]⟩ : ByteArray) = some (t0, true) := by
    unfold strings_CutPrefix.f
    rw [hw0]
    have h1 : Lib.trimPrefix (35 :: t0.data.toList) ((⟨#[35]⟩ : ByteArray).data.toList) = t0.data.toList := by
      show Lib.trimPrefix (35 :: t0.data.toList) [35] = _
      simp [Lib.trimPrefix, Lib.hasPrefix]
    have h2 : Lib.hasPrefix (35 :: t0.data.toList) ((⟨#[35]⟩ : ByteArray).data.toList) = true := by
      show Lib.hasPrefix (35 :: t0.data.toList) [35] = true
      simp [Lib.hasPrefix]
    rw [h1, h2]
  have sw2 : w2.size ≤ 1048576 := by
    have h := size_list w2
    rw [hw2] at h
    simp only [List.length_cons, List.length_append] at h
    omega
  have hC : strings_Cut.f w2 (⟨#[47]⟩ : ByteArray) = some (t3, t2, true) := by
    have h := cut_hit t3.data.toList t2.data.toList 47 d37
    rw [← hw2] at h
    exact cut_f w2 _ _ _ sw2 h
  obtain ⟨K, g⟩ := Ev.pick (order_impl (S1 32 T) w0 f1 w2 t4 t0 t3 t2 true true (by rw [hW]; rfl) (by rw [hW]; rfl) (by rw [hW]; rfl) (by rw [hW]; rfl) (by rw [hW]; rfl) hP hC (by omega) (by omega) (by omega) (by omega))
  refine Ev.intro K fun k hk => ?_
  unfold impl_ReadOrder.f
  rw [split_impl T 32 sT, Option.bind_some, hW]
  rw [if_pos (by rfl), if_pos (by simp)]
  have hby : ((rdOf ByteArray.empty [w0, f1, w2, (⟨#[98, 121]⟩ : ByteArray), t4] 3).toList != ([98, 121] : List UInt8)) = false := by
    show ((⟨#[98, 121]⟩ : ByteArray).toList != ([98, 121] : List UInt8)) = false
    rw [ByteArray.toList_eq]
    decide
  rw [hby, ← hW, g k hk, v0, v2, v3, v4]
  simp only [Bool.and_self, hv, outR, if_true]
def orderTxt (t0 f1 t3 t2 t4 : ByteArray) : ByteArray := (((((((((⟨#[35]⟩ : ByteArray) ++ t0) ++ (⟨#[32]⟩ : ByteArray)) ++ f1) ++ (⟨#[32]⟩ : ByteArray)) ++ t3) ++ (⟨#[47]⟩ : ByteArray)) ++ t2) ++ (⟨#[32, 98, 121, 32]⟩ : ByteArray)) ++ t4
def ordV (f0 : Int) (f1 : ByteArray) (f2 f3 f4 : Int) : ByteArray := orderTxt (dec f0) f1 (dec f3) (dec f2) (dec f4)
theorem ord_bd {f0 : Int} {f1 : ByteArray} {f2 f3 f4 : Int} (hv : spec_l24One.v f0 f1 f2 f3 f4 = true) : (1 ≤ f0 ∧ f0 ≤ 9999) ∧ isNameB f1 = true ∧ (1 ≤ f2 ∧ f2 ≤ 500) ∧ (0 ≤ f3 ∧ f3 ≤ f2) ∧ (0 ≤ f4 ∧ f4 ≤ 2000) := by
  unfold spec_l24One.v at hv
  simp only [Bool.and_eq_true, decide_eq_true_eq] at hv
  exact ⟨hv.1.1.1.1, hv.1.1.1.2, hv.1.1.2, hv.1.2, hv.2⟩
theorem ord_impl {f0 : Int} {f1 : ByteArray} {f2 f3 f4 : Int} (hv : spec_l24One.v f0 f1 f2 f3 f4 = true) (h1 : f1.size ≤ 1000000000) : Ev (fun k => impl_OrderText.f k f0 f1 f2 f3 f4) (ordV f0 f1 f2 f3 f4) := by
  obtain ⟨b0, -, b2, b3, b4⟩ := ord_bd hv
  obtain ⟨K, g⟩ := Ev.pick (valid_impl f0 f1 f2 f3 f4)
  rw [hv] at g
  have z0 := dec_size f0 (by omega) (by omega)
  have z3 := dec_size f3 (by omega) (by omega)
  have z2 := dec_size f2 (by omega) (by omega)
  have z4 := dec_size f4 (by omega) (by omega)
  have s1 : (⟨#[35]⟩ : ByteArray).size = 1 := rfl
  have s2 : (⟨#[32]⟩ : ByteArray).size = 1 := rfl
  have s3 : (⟨#[47]⟩ : ByteArray).size = 1 := rfl
  have s4 : (⟨#[32, 98, 121, 32]⟩ : ByteArray).size = 4 := rfl
  refine Ev.intro K fun k hk => ?_
  unfold impl_OrderText.f
  rw [g k hk, dec_impl f0 (by omega) (by omega), dec_impl f3 (by omega) (by omega), dec_impl f2 (by omega) (by omega), dec_impl f4 (by omega) (by omega)]
  simp only [Option.bind_some, if_true, ByteArray.size_append, s1, s2, s3, s4]
  rw [if_pos (by omega), if_pos (by omega), if_pos (by omega), if_pos (by omega), if_pos (by omega), if_pos (by omega), if_pos (by omega), if_pos (by omega), if_pos (by omega)]
  rfl
theorem same_impl (l : List IT) (h : l.length ≤ 2000000) : Ev (fun k => impl_SameOrders.f k l l) true := by
  have h1 : Ev (fun k => impl_Order_30.f k l l) true := by
    refine Ev.congr (f := fun k => impl_Order_30.l0 k l l l.length 0) (fun k => by unfold impl_Order_30.f; rw [if_pos rfl]) ?_
    refine go_to l.length (fun k i => impl_Order_30.l0 k l l l.length i) true (fun i hi => ⟨0, fun k _ => ?_⟩) (Ev.const fun k => ?_)
    · simp only [impl_Order_30.l0, beq_self_eq_true, Bool.not_true, Bool.or_self, Bool.false_eq_true, if_false]
      rw [if_pos (by omega), if_pos (by omega), if_pos (by omega), w64 (by omega) (by omega), if_pos (by omega)]
    · simp only [impl_Order_30.l0]
      rw [if_neg (by omega)]
  obtain ⟨K, g⟩ := Ev.pick h1
  refine Ev.intro K fun k hk => ?_
  unfold impl_SameOrders.f
  rw [g k hk]
  rfl
theorem j2_ev {b : List Int} (hb : Bytes b) {l : List IT} (h : ordersOk l = true) (hs : ∀ x ∈ l, stays x = true) : Ev (fun k => laws_FnLoftOrders.j2 k b (hoursOf l).sum l false) true := by
  have hl := ok_len h
  by_cases c : l.length = 0
  · have e := List.eq_nil_of_length_eq_zero c
    subst e
    exact Ev.const fun k => rfl
  · obtain ⟨t, et, ht0, ht1⟩ := at_ok hb 0 (l.length : Int) (by omega) (by omega)
    obtain ⟨i, rfl⟩ := Int.eq_ofNat_of_zero_le ht0
    have hi : i < l.length := by omega
    have hv := ((ok_iff l).1 h).2.1 _ (List.getElem_mem hi)
    have hx := one_bd hv
    have hst := hs _ (List.getElem_mem hi)
    have hne : l[i].f3 ≠ l[i].f2 := by
      unfold stays at hst
      simpa using hst
    have hrd := rdI l i hi
    obtain ⟨u, eu, hu0, hu1⟩ := at_ok hb 1 (l[i].f2 - l[i].f3) (by omega) (by omega)
    have wn : wrap64 (l[i].f2 - l[i].f3) = l[i].f2 - l[i].f3 := w64 (by omega) (by omega)
    have w1 : wrap64 (1 + u) = 1 + u := w64 (by omega) (by omega)
    have w2 : wrap64 (l[i].f2 - l[i].f3 + 1) = l[i].f2 - l[i].f3 + 1 := w64 (by omega) (by omega)
    have w3 : wrap64 (l[i].f3 + (1 + u)) = l[i].f3 + (1 + u) := w64 (by omega) (by omega)
    have hidx := idx_at h i hi
    have hb2 := sum_take_bound (A := 0) (B := 500) (hours_bound h) (hoursOf l).length (Nat.le_refl _)
    rw [List.take_of_length_le (Nat.le_refl _)] at hb2
    have hhl : (hoursOf l).length = l.length := by unfold hoursOf; rw [List.length_map]
    have a1 : workAns l l[i].f0 (1 + u) = (l.set i ⟨l[i].f0, l[i].f1, l[i].f2, l[i].f3 + (1 + u), l[i].f4⟩, 0) := by
      unfold workAns
      rw [if_pos h, if_pos ⟨hx.1, by omega⟩, hidx, if_neg (by omega), hrd, if_neg (by omega), w3, Int.toNat_natCast]
    have hv2 : spec_l24One.v l[i].f0 l[i].f1 l[i].f2 (l[i].f3 + (1 + u)) l[i].f4 = true := by
      unfold spec_l24One.v at hv ⊢
      simp only [Bool.and_eq_true, decide_eq_true_eq] at hv ⊢
      obtain ⟨⟨⟨⟨a, b⟩, c⟩, d⟩, e⟩ := hv
      exact ⟨⟨⟨⟨a, b⟩, c⟩, by omega⟩, e⟩
    have ok2 := ok_set h i hi ⟨l[i].f0, l[i].f1, l[i].f2, l[i].f3 + (1 + u), l[i].f4⟩ rfl hv2
    have a2 : leftAns (l.set i ⟨l[i].f0, l[i].f1, l[i].f2, l[i].f3 + (1 + u), l[i].f4⟩) = ((hoursOf l).sum - (1 + u), 0) := by
      unfold leftAns
      rw [if_pos ok2, set_sum l i hi]
      congr 1
      simp only
      omega
    have a3 : (workAns l l[i].f0 (l[i].f2 - l[i].f3 + 1)).2 = 5 ∨ (workAns l l[i].f0 (l[i].f2 - l[i].f3 + 1)).2 = 2 := by
      unfold workAns
      rw [if_pos h]
      by_cases c5 : 1 ≤ l[i].f2 - l[i].f3 + 1 ∧ l[i].f2 - l[i].f3 + 1 ≤ 500
      · rw [if_pos ⟨hx.1, c5⟩, hidx, if_neg (by omega), hrd, if_pos (by omega)]
        exact .inl rfl
      · rw [if_neg (fun hh => c5 hh.2)]
        exact .inr rfl
    obtain ⟨K1, g1⟩ := Ev.pick (work_impl l l[i].f0 (1 + u) (by omega))
    obtain ⟨K2, g2⟩ := Ev.pick (left_impl (l.set i ⟨l[i].f0, l[i].f1, l[i].f2, l[i].f3 + (1 + u), l[i].f4⟩) (by rw [List.length_set]; omega))
    obtain ⟨K3, g3⟩ := Ev.pick (work_impl l l[i].f0 (l[i].f2 - l[i].f3 + 1) (by omega))
    refine Ev.intro (K1 + K2 + K3 + 1) fun k hk => ?_
    obtain ⟨m, rfl⟩ : ∃ m, k = m + 1 := ⟨k - 1, by omega⟩
    have w4 : wrap64 ((hoursOf l).sum - (1 + u)) = (hoursOf l).sum - (1 + u) := w64 (by omega) (by omega)
    simp only [laws_FnLoftOrders.j2, Bool.false_eq_true, if_false]
    rw [if_neg (by omega), et]
    simp only [Option.bind_some]
    rw [if_pos (by omega), if_pos (by omega), hrd, wn, eu]
    simp only [Option.bind_some]
    rw [w1, g1 m (by omega), a1]
    simp only [Option.bind_some]
    rw [g2 m (by omega), a2]
    simp only [Option.bind_some]
    rw [w2, g3 m (by omega)]
    simp only [Option.bind_some, if_true, w4]
    rcases a3 with a3 | a3
    · rw [if_pos a3]
    · rw [a3]; rfl
theorem j1_ev {b : List Int} (hb : Bytes b) {l : List IT} (h : ordersOk l = true) : Ev (fun k => laws_FnLoftOrders.j1 k b l false) true := by
  have hl := ok_len h
  have hr := ok_sub h (List.filter_sublist (l := l) (p := stays))
  have hrl := ok_len hr
  have hj := j2_ev hb hr (fun x hx => (List.mem_filter.1 hx).2)
  have hlen := rest_len l
  have hb2 := sum_take_bound (A := 0) (B := 500) (hours_bound h) (hoursOf l).length (Nat.le_refl _)
  rw [List.take_of_length_le (Nat.le_refl _)] at hb2
  have e1 : leftAns l = ((hoursOf l).sum, 0) := by unfold leftAns; rw [if_pos h]
  have e2 : overAns l = (l.filter stays, (l.filter goes).map (fun x => x.f0), 0) := by unfold overAns; rw [if_pos h]
  have e3 : leftAns (l.filter stays) = ((hoursOf l).sum, 0) := by unfold leftAns; rw [if_pos hr, rest_sum]
  rw [rest_sum] at hj
  obtain ⟨K1, g1⟩ := Ev.pick (left_impl l (by omega))
  obtain ⟨K2, g2⟩ := Ev.pick (over_impl l (by omega))
  obtain ⟨K3, g3⟩ := Ev.pick (left_impl (l.filter stays) (by omega))
  obtain ⟨K4, g4⟩ := Ev.pick hj
  refine Ev.intro (K1 + K2 + K3 + K4 + 1) fun k hk => ?_
  obtain ⟨m, rfl⟩ : ∃ m, k = m + 1 := ⟨k - 1, by omega⟩
  simp only [laws_FnLoftOrders.j1, Bool.false_eq_true, if_false]
  rw [g1 m (by omega), e1]
  simp only [Option.bind_some]
  rw [g2 m (by omega), e2]
  simp only [Option.bind_some]
  rw [g3 m (by omega), e3]
  simp only [Option.bind_some, if_true]
  rw [if_neg (by omega), w64 (by omega) (by omega), if_pos (by omega), bne_self_eq_false]
  exact g4 m (by omega)
theorem ord_list (f0 : Int) (f1 : ByteArray) (f2 f3 f4 : Int) : (ordV f0 f1 f2 f3 f4).data.toList = 35 :: ((dec f0).data.toList ++ 32 :: (f1.data.toList ++ 32 :: (((dec f3).data.toList ++ 47 :: (dec f2).data.toList) ++ 32 :: (98 :: 121 :: 32 :: (dec f4).data.toList)))) := by
  unfold ordV orderTxt
  generalize dec f0 = t0, dec f2 = t2, dec f3 = t3, dec f4 = t4
  rw [app_l, app_l, app_l, app_l, app_l, app_l, app_l, app_l, app_l]
  simp only [List.append_assoc]
  rfl
theorem l0_step {b : List Int} {l d e q : List IT} {i m : Nat} {f0 f2 f3 f4 : Int} {f1 T : ByteArray} (hil : i < l.length) (hrd : rd_T29 l (i : Int) = ⟨f0, f1, f2, f3, f4⟩) (hde : e.length = d.length + 1) (he : e.length ≤ 10) (g1 : impl_TakeOrder.f m d f0 f1 f2 f3 f4 = some (e, 0)) (g2 : impl_TakeOrder.f m l f0 f1 f2 f3 f4 = some (q, 4)) (g3 : impl_OrderText.f m f0 f1 f2 f3 f4 = some T) (g4 : impl_ReadOrder.f m T = some (f0, f1, f2, f3, f4, true)) (hok : spec_ValidOrders.f e = some true) (hl : l.length ≤ 10) (g5 : laws_FnLoftOrders.l0 m b l e ((i : Int) - 1) = some true) : laws_FnLoftOrders.l0 (m + 1) b l d (i : Int) = some true := by
  have hw : wrap64 ((d.length : Int) + 1) = (e.length : Int) := by rw [w64 (by omega) (by omega)]; omega
  have hv : wrap64 ((i : Int) - 1) = (i : Int) - 1 := w64 (by omega) (by omega)
  unfold laws_FnLoftOrders.l0
  rw [if_pos (by omega), if_pos (by omega), if_pos (by omega), hrd]
  simp only
  rw [g1]
  simp only [Option.bind_some]
  rw [g2]
  simp only [Option.bind_some]
  rw [g3]
  simp only [Option.bind_some]
  rw [g4]
  rw [Option.bind_some]
  rw [if_pos trivial, hw, if_pos rfl, hok, Option.bind_some, if_pos rfl, if_pos trivial, if_pos rfl]
  rw [beq_self_eq_true, beq_self_eq_true, beq_self_eq_true, beq_self_eq_true, beq_self_eq_true]
  rw [if_neg (by decide), hv]
  exact g5
theorem name_12 {f0 f2 f3 f4 : Int} {f1 : ByteArray} (hv : spec_l24One.v f0 f1 f2 f3 f4 = true) : f1.size ≤ 1000000000 := by
  unfold spec_l24One.v at hv
  simp only [Bool.and_eq_true] at hv
  have b1 := hv.1.1.1.2
  unfold isNameB at b1
  rw [Bool.and_eq_true, decide_eq_true_eq] at b1
  have := b1.1.2.1
  omega
theorem texts_ev {f0 f2 f3 f4 : Int} {f1 : ByteArray} (hv : spec_l24One.v f0 f1 f2 f3 f4 = true) : ∃ T, Ev (fun k => impl_OrderText.f k f0 f1 f2 f3 f4) T ∧ Ev (fun k => impl_ReadOrder.f k T) (f0, f1, f2, f3, f4, true) :=
  ⟨_, ord_impl hv (name_12 hv), read_back hv _ (ord_list f0 f1 f2 f3 f4)⟩
theorem valid_of {l : List IT} (h : ordersOk l = true) : spec_ValidOrders.f l = some true := by
  unfold spec_ValidOrders.f spec_l24Ok.f
  simp only [Option.bind_some, h]
theorem l0_zero {b : List Int} (hb : Bytes b) {l : List IT} (h : ordersOk l = true) (h6 : l.length ≤ 6) : Ev (fun k => laws_FnLoftOrders.l0 k b l l (-1)) true := by
  obtain ⟨K1, g1⟩ := Ev.pick (same_spec l (by omega))
  obtain ⟨K2, g2⟩ := Ev.pick (same_impl l (by omega))
  obtain ⟨K3, g3⟩ := Ev.pick (j1_ev hb h)
  refine Ev.intro (K1 + K2 + K3 + 1) fun k hk => ?_
  obtain ⟨m, rfl⟩ : ∃ m, k = m + 1 := ⟨k - 1, by omega⟩
  unfold laws_FnLoftOrders.l0
  rw [if_neg (by omega), g1 m (by omega)]
  simp only [Option.bind_some, if_true]
  rw [g2 m (by omega)]
  exact g3 m (by omega)
theorem l0_succ {b : List Int} {l : List IT} (h : ordersOk l = true) (h6 : l.length ≤ 6) (i : Nat) (hil : i < l.length) (ih : Ev (fun k => laws_FnLoftOrders.l0 k b l (l.drop i) ((i : Int) - 1)) true) : Ev (fun k => laws_FnLoftOrders.l0 k b l (l.drop (i + 1)) (i : Int)) true := by
  have t1 := take_rest h h6 i hil
  have t2 := take_again h i hil
  have hv := ((ok_iff l).1 h).2.1 _ (List.getElem_mem hil)
  have hrd := rdI l i hil
  revert t1 t2 hv hrd
  generalize l[i] = x
  obtain ⟨f0, f1, f2, f3, f4⟩ := x
  intro t1 t2 hv hrd
  have hd6 : (l.drop (i + 1)).length = l.length - (i + 1) := List.length_drop
  have hdi : (l.drop i).length = l.length - i := List.length_drop
  have hok := valid_of (ok_sub h (List.drop_sublist i l))
  obtain ⟨T, h3, h4⟩ := texts_ev hv
  have h1 := take_impl (l.drop (i + 1)) f0 f1 f2 f3 f4 (by omega)
  have h2 := take_impl l f0 f1 f2 f3 f4 (by omega)
  rw [t1] at h1
  rw [t2] at h2
  revert ih h1 h2 hok hd6 hdi
  clear t1 t2
  generalize l.drop (i + 1) = d, l.drop i = e
  intro ih hd6 hdi hok h1 h2
  obtain ⟨K1, g1⟩ := Ev.pick h1
  obtain ⟨K2, g2⟩ := Ev.pick h2
  obtain ⟨K3, g3⟩ := Ev.pick h3
  obtain ⟨K4, g4⟩ := Ev.pick h4
  obtain ⟨K5, g5⟩ := Ev.pick ih
  refine Ev.intro (K1 + K2 + K3 + K4 + K5 + 1) fun k hk => ?_
  obtain ⟨m, rfl⟩ : ∃ m, k = m + 1 := ⟨k - 1, by omega⟩
  exact l0_step hil hrd (by omega) (by omega) (g1 m (by omega)) (g2 m (by omega)) (g3 m (by omega)) (g4 m (by omega)) hok (by omega) (g5 m (by omega))
theorem l0_ev {b : List Int} (hb : Bytes b) {l : List IT} (h : ordersOk l = true) (h6 : l.length ≤ 6) : ∀ n : Nat, n ≤ l.length → Ev (fun k => laws_FnLoftOrders.l0 k b l (l.drop n) ((n : Int) - 1)) true := by
  intro n
  induction n with
  | zero => exact fun _ => l0_zero hb h h6
  | succ i ih =>
    intro hi
    have := l0_succ h h6 i (by omega) (ih (by omega))
    rw [show (((i + 1 : Nat) : Int) - 1) = (i : Int) by omega]
    exact this
end FnLoftOrders_
open FnLoftOrders_ in
theorem FnLoftOrders : ∀ (l0 : List Int) (l1 : List Int), (l0.length ≤ maxLen ∧ ∀ x ∈ l0, (Lit.int .u8 x).wf = true) → (l1.length ≤ maxLen ∧ ∀ x ∈ l1, (Lit.int .u8 x).wf = true) → ∃ k, laws_FnLoftOrders.f k l0 l1 = some true := by
  intro l0 l1 ⟨_, hb0⟩ ⟨_, hb1⟩
  by_cases c : laws_a2Long.f l0 l1 = some true
  · refine ⟨0, ?_⟩
    unfold laws_FnLoftOrders.f
    rw [c]
    rfl
  · obtain ⟨hlong, hl0⟩ : laws_a2Long.f l0 l1 = some false ∧ l0.length ≤ 3000 := by
      unfold laws_a2Long.f at c ⊢
      by_cases h1 : (l0.length : Int) > 3000
      · rw [if_pos h1] at c; exact absurd rfl c
      · rw [if_neg h1] at c ⊢
        by_cases h2 : (l1.length : Int) > 3000
        · rw [decide_eq_true h2] at c; exact absurd rfl c
        · rw [decide_eq_false h2]; exact ⟨rfl, by omega⟩
    have B0 := bytes_wf hb0
    have B1 := bytes_wf hb1
    obtain ⟨l, ⟨hg, hd6⟩, hd⟩ := orders_draw B0 hl0
    have hok := orders_ok hg (by omega)
    have ho := l0_ev B1 hok hd6 l.length (Nat.le_refl _)
    rw [List.drop_length] at ho
    have hw : wrap64 ((l.length : Int) - 1) = (l.length : Int) - 1 := w64 (by omega) (by omega)
    obtain ⟨K1, g1⟩ := Ev.pick hd
    obtain ⟨K2, g2⟩ := Ev.pick ho
    refine ⟨K1 + K2, ?_⟩
    unfold laws_FnLoftOrders.f
    rw [hlong]
    simp only [Option.bind_some, Bool.false_eq_true, if_false]
    rw [g1 _ (by omega)]
    simp only [Option.bind_some]
    rw [hw]
    exact g2 _ (by omega)
end Go.Proofs.YtfllapokfdianaaDoor.Pure
