/- For all orders the program's HoursLeft and the reference's HoursLeft tell the same; the orders stay as they are. -/
import Derived.Test.YtedidhfmknhlkaaQFnExactHoursLeftx5
import Derived.Test.YtedidhfmknhlkaaBase
namespace Go.Proofs.Ytedidhfmknhlkaa.Pure
open Go.RowKit Go.Proofs.Ytedidhfmknhlkaa.QFnExactHoursLeft Go.Proofs.YtedidhfmknhlkaaW.PrintWords Go.Proofs.YtedidhfmknhlkaaW.PrintLast Go.Proofs.Ytedidhfmknhlkaa.Base
set_option linter.unusedVariables false
set_option linter.unusedSimpArgs false

namespace FnExactHoursLeft_
def GS (x : S50) : Prop := (Lit.int .i64 x.f0).wf = true ∧ x.f1.size ≤ maxLen ∧ (Lit.int .i64 x.f2).wf = true ∧ (Lit.int .i64 x.f3).wf = true ∧ (Lit.int .i64 x.f4).wf = true
abbrev LT := S50
abbrev IT := S49
def conv (x : LT) : IT := ⟨x.f0, x.f1, x.f2, x.f3, x.f4⟩
theorem rdL (xs : List LT) (i : Nat) (h : i < xs.length) : rd_T50 xs (i : Int) = xs[i] := by
  unfold rd_T50; rw [Int.toNat_natCast, List.getD_eq_getElem?_getD, List.getElem?_eq_getElem h]; rfl
theorem rdI (xs : List IT) (i : Nat) (h : i < xs.length) : rd_T49 xs (i : Int) = xs[i] := by
  unfold rd_T49; rw [Int.toNat_natCast, List.getD_eq_getElem?_getD, List.getElem?_eq_getElem h]; rfl
theorem rdSet (xs : List IT) (i : Nat) (h : i < xs.length) (v : IT) : rd_T49 (xs.set i v) (i : Int) = v := by
  rw [rdI _ i (by simpa using h), List.getElem_set_self]
theorem to_ev (l : List LT) (h : l.length ≤ 1048576) : Ev (fun k => laws_toOrderS.f k l) (l.map conv) := by
  have round : ∀ k acc (i : Nat) (h : i < l.length), acc.length = l.length → laws_toOrderS.l0 (k + 1) l acc (i : Int) = laws_toOrderS.l0 k l (acc.set i (conv l[i])) ((i : Int) + 1) := by
    intro k acc i hi hl
    simp only [laws_toOrderS.l0, laws_toOrder.f, Option.bind_some]
    rw [if_pos (by omega), if_pos (by omega), if_pos (by omega), w64 (by omega) (by omega), rdL l i hi, Int.toNat_natCast]
    rfl
  have fin : ∀ k acc, laws_toOrderS.l0 (k + 1) l acc (l.length : Int) = some acc := by
    intro k acc
    simp only [laws_toOrderS.l0]
    rw [if_neg (by omega)]
  have := fill_to l conv (fun k acc i => laws_toOrderS.l0 k l acc i) round fin (List.replicate l.length z49) (by simp)
  refine Ev.congr (fun k => ?_) this
  unfold laws_toOrderS.f
  rw [if_pos (by omega), if_pos (by rw [Int.toNat_natCast]; omega), Int.toNat_natCast]
theorem eq_ev (l : List IT) (h : l.length ≤ 2000000) : Ev (fun k => laws_eqOrderS.f k l l) true := by
  refine Ev.congr (f := fun k => laws_eqOrderS.l0 k l l 0) (fun k => by unfold laws_eqOrderS.f; rw [if_pos rfl]) ?_
  refine go_to l.length (fun k i => laws_eqOrderS.l0 k l l i) true (fun i hi => ⟨0, fun k _ => ?_⟩) (Ev.const fun k => ?_)
  · simp only [laws_eqOrderS.l0, laws_eqOrder.f, if_true, Option.bind_some]
    rw [if_pos (by omega), if_pos (by omega), if_pos (by omega), w64 (by omega) (by omega)]
  · simp only [laws_eqOrderS.l0]
    rw [if_neg (by omega)]
theorem sz_one (x : LT) (hx : GS x) (left : Int) (h0 : 0 ≤ left) (h1 : left ≤ 1048576) : ∃ t, laws_szOrder.f x.f0 x.f1 x.f2 x.f3 x.f4 left = some t ∧ t ≤ 1048576 := by
  unfold GS at hx
  unfold maxLen at hx
  unfold laws_szOrder.f wrap64
  repeat' split
  all_goals exact ⟨_, rfl, by omega⟩
theorem sz_ev (l : List LT) (h : l.length ≤ maxLen) (hg : ∀ x ∈ l, GS x) : ∃ r, (r < 0 ∨ l.length ≤ 1048576) ∧ Ev (fun k => laws_szOrderS.f k l 1048576) r := by
  unfold maxLen at h
  by_cases c : 1048576 < l.length
  · refine ⟨-1, .inl (by omega), Ev.all fun k => ?_⟩
    unfold laws_szOrderS.f
    rw [w64 (by omega) (by omega), if_pos (by omega)]
  · have h3 := for_ev l.length (fun k (s : Int) i => laws_szOrderS.l0 k l s i) (fun _ s => 0 ≤ s ∧ s ≤ 1048576) (fun _ => True) (fun i s hi hs => ?_) (fun s hs => ⟨s, trivial, Ev.const fun k => ?_⟩) l.length 0 (1048576 - (l.length : Int)) (by omega) (by omega)
    · obtain ⟨r, hr, h2⟩ := h3
      refine ⟨r, .inr (by omega), Ev.congr (fun k => ?_) h2⟩
      unfold laws_szOrderS.f
      rw [w64 (by omega) (by omega), if_neg (by omega)]
      rfl
    · obtain ⟨t, ht, ht1⟩ := sz_one l[i] (hg _ (List.getElem_mem hi)) s hs.1 hs.2
      by_cases c2 : t < 0
      · refine .inr ⟨-1, trivial, Ev.const fun k => ?_⟩
        simp only [laws_szOrderS.l0]
        rw [if_pos (by omega), if_pos (by omega), rdL l i hi, ht]
        simp only [Option.bind_some]
        rw [if_pos c2]
      · refine .inl ⟨t, by omega, 0, fun k _ => ?_⟩
        simp only [laws_szOrderS.l0]
        rw [if_pos (by omega), if_pos (by omega), rdL l i hi, ht]
        simp only [Option.bind_some]
        rw [if_neg c2, w64 (by omega) (by omega)]
    · simp only [laws_szOrderS.l0]
      rw [if_neg (by omega)]

theorem within_eq (a b c : Int) : impl_within.f a b c = some (decide (b ≤ a ∧ a ≤ c)) := by
  unfold impl_within.f
  by_cases h : a ≥ b
  · rw [if_pos h]; congr 1; apply Bool.eq_iff_iff.mpr; simp; omega
  · rw [if_neg h]; congr 1; apply Bool.eq_iff_iff.mpr; simp; omega

theorem name_loop_impl (s : ByteArray) (h : s.size ≤ 12) : Ev (fun k => impl_IsName.l0 k s 0) ((List.range s.size).all fun i => nameByte (bt s i)) := by
  have := all_lt s.size (fun i => nameByte (bt s i)) (fun k i => impl_IsName.l0 k s i) true false (fun i hi hp => ⟨0, fun k _ => ?_⟩) (fun i hi hp => Ev.const fun k => ?_) (fun _ => Ev.const fun k => ?_)
  · rw [ite_bool] at this
    exact this
  · have hp := of_decide_eq_true hp
    simp only [impl_IsName.l0]
    rw [if_pos (by omega), if_pos (by omega), w64 (by omega) (by omega)]
    repeat' split
    all_goals first | rfl | (exfalso; omega)
  · have hp := of_decide_eq_false hp
    simp only [impl_IsName.l0]
    rw [if_pos (by omega), if_pos (by omega)]
    repeat' split
    all_goals first | rfl | (exfalso; omega)
  · simp only [impl_IsName.l0]
    rw [if_neg (by omega)]
theorem name_impl (s : ByteArray) : Ev (fun k => impl_IsName.f k s) (isNameB s) := by
  unfold isNameB
  by_cases h0 : s.size < 1
  · rw [decide_eq_false (by omega), Bool.false_and]
    refine Ev.const fun k => ?_
    unfold impl_IsName.f
    rw [if_pos (by omega)]
    simp only [impl_IsName.j0, if_true]
  · by_cases h12 : s.size ≤ 12
    · by_cases hs : 97 ≤ bt s 0 ∧ bt s 0 ≤ 122
      · rw [decide_eq_true ⟨by omega, h12, hs⟩, Bool.true_and]
        refine Ev.step (f := fun k => impl_IsName.l0 k s 0) (fun k => ?_) (name_loop_impl s h12)
        simp only [impl_IsName.f]
        rw [if_neg (by omega), if_neg (by omega), if_pos (by omega), if_neg (by omega), decide_eq_false (by omega)]
        simp only [impl_IsName.j0, Bool.false_eq_true, if_false]
      · rw [decide_eq_false (fun h => hs h.2.2), Bool.false_and]
        refine Ev.const fun k => ?_
        simp only [impl_IsName.f]
        rw [if_neg (by omega), if_neg (by omega), if_pos (by omega)]
        by_cases h1 : bt s 0 < 97
        · rw [if_pos h1]
          simp only [impl_IsName.j0, if_true]
        · rw [if_neg h1, decide_eq_true (by omega)]
          simp only [impl_IsName.j0, if_true]
    · rw [decide_eq_false (by omega), Bool.false_and]
      refine Ev.const fun k => ?_
      unfold impl_IsName.f
      rw [if_neg (by omega), if_pos (by omega)]
      simp only [impl_IsName.j0, if_true]

theorem valid_impl (f0 : Int) (f1 : ByteArray) (f2 f3 f4 : Int) : Ev (fun k => impl_validOrder.f k f0 f1 f2 f3 f4) (spec_l24One.v f0 f1 f2 f3 f4) := by
  obtain ⟨K, hK⟩ := Ev.pick (name_impl f1)
  refine Ev.intro K fun k hk => ?_
  unfold impl_validOrder.f spec_l24One.v
  rw [within_eq, within_eq, within_eq, within_eq, hK k hk]
  simp only [Option.bind_some]
  cases decide (1 ≤ f0 ∧ f0 ≤ 9999) <;> cases isNameB f1 <;> cases decide (1 ≤ f2 ∧ f2 ≤ 500) <;> cases decide (0 ≤ f3 ∧ f3 ≤ f2) <;> rfl
theorem ok_impl (l : List IT) (h : l.length ≤ 2000000) : Ev (fun k => impl_ValidOrders.f k l) (ordersOk l) := by
  by_cases h20 : l.length ≤ 20
  · have := all_lt l.length (fits l) (fun k i => impl_ValidOrders.l0 k l l l.length i) true false (fun i hi hp => ?_) (fun i hi hp => ?_) (fun hp => Ev.const fun k => ?_)
    · rw [ite_bool] at this
      unfold ordersOk
      rw [decide_eq_true h20, Bool.and_true]
      refine Ev.congr (fun k => ?_) this
      unfold impl_ValidOrders.f
      rw [if_neg (by omega)]
    · unfold fits at hp
      rw [Bool.and_eq_true] at hp
      obtain ⟨K, hK⟩ := Ev.pick (valid_impl (rd_T49 l i).f0 (rd_T49 l i).f1 (rd_T49 l i).f2 (rd_T49 l i).f3 (rd_T49 l i).f4)
      refine ⟨K, fun k hk => ?_⟩
      simp only [impl_ValidOrders.l0]
      rw [if_pos (by omega), if_pos (by omega), if_pos (by omega), hK k hk, hp.1, w64 (x := (i : Int) + 1) (by omega) (by omega)]
      simp only [Option.bind_some, if_true]
      by_cases h0 : 0 < i
      · have h2 := hp.2
        rw [Bool.or_eq_true] at h2
        have h3 : (rd_T49 l ((i : Int) - 1)).f0 < (rd_T49 l i).f0 := by
          rcases h2 with h2 | h2
          · have := beq_iff_eq.1 h2; omega
          · exact of_decide_eq_true h2
        rw [if_pos (by omega), w64 (x := (i : Int) - 1) (by omega) (by omega), if_pos (by omega), if_pos (by omega), if_neg (by omega)]
      · rw [if_neg (by omega)]
    · unfold fits at hp
      obtain ⟨K, hK⟩ := Ev.pick (valid_impl (rd_T49 l i).f0 (rd_T49 l i).f1 (rd_T49 l i).f2 (rd_T49 l i).f3 (rd_T49 l i).f4)
      refine Ev.intro (K + 1) fun k hk => ?_
      obtain ⟨m, rfl⟩ : ∃ m, k = m + 1 := ⟨k - 1, by omega⟩
      simp only [impl_ValidOrders.l0]
      rw [if_pos (by omega), if_pos (by omega), if_pos (by omega), hK m (by omega)]
      simp only [Option.bind_some]
      cases hv : spec_l24One.v (rd_T49 l i).f0 (rd_T49 l i).f1 (rd_T49 l i).f2 (rd_T49 l i).f3 (rd_T49 l i).f4 with
      | false => simp only [Bool.false_eq_true, if_false]
      | true =>
        rw [hv, Bool.true_and, Bool.or_eq_false_iff] at hp
        have h0 : 0 < i := by
          have := hp.1
          have h4 : i ≠ 0 := by simpa using this
          omega
        have h3 : ¬ (rd_T49 l ((i : Int) - 1)).f0 < (rd_T49 l i).f0 := of_decide_eq_false hp.2
        simp only [if_true]
        rw [if_pos (by omega), w64 (x := (i : Int) - 1) (by omega) (by omega), if_pos (by omega), if_pos (by omega), if_pos (by omega)]
    · simp only [impl_ValidOrders.l0]
      rw [if_neg (by omega)]
  · unfold ordersOk
    rw [decide_eq_false h20, Bool.and_false]
    refine Ev.all fun k => ?_
    unfold impl_ValidOrders.f
    rw [if_pos (by omega)]
theorem ok_one {l : List IT} (h : ordersOk l = true) (i : Nat) (hi : i < l.length) : isNameB l[i].f1 = true ∧ (1 ≤ l[i].f0 ∧ l[i].f0 ≤ 9999) ∧ (1 ≤ l[i].f2 ∧ l[i].f2 ≤ 500) ∧ (0 ≤ l[i].f3 ∧ l[i].f3 ≤ l[i].f2) ∧ (0 ≤ l[i].f4 ∧ l[i].f4 ≤ 2000) := by
  unfold ordersOk at h
  rw [Bool.and_eq_true] at h
  have h2 := all_range.1 h.1 i hi
  unfold fits spec_l24One.v at h2
  rw [rdI l i hi] at h2
  simp only [Bool.and_eq_true, decide_eq_true_eq] at h2
  obtain ⟨⟨⟨⟨⟨a, b⟩, c⟩, d⟩, e⟩, _⟩ := h2
  exact ⟨b, a, c, d, e⟩
theorem ok_len {l : List IT} (h : ordersOk l = true) : l.length ≤ 20 := by
  unfold ordersOk at h
  rw [Bool.and_eq_true] at h
  exact of_decide_eq_true h.2

def hoursOf (l : List IT) : List Int := l.map fun x => x.f2 - x.f3
def leftAns (l : List IT) : Int × Int := if ordersOk l = true then ((hoursOf l).sum, 0) else (0, 1)
theorem hours_bound {l : List IT} (h : ordersOk l = true) : ∀ x ∈ hoursOf l, 0 ≤ x ∧ x ≤ 500 := by
  intro x hx
  obtain ⟨i, hi, rfl⟩ := List.getElem_of_mem hx
  have hi' : i < l.length := by simpa [hoursOf] using hi
  obtain ⟨_, _, a, b, _⟩ := ok_one h i hi'
  simp only [hoursOf, List.getElem_map]
  omega
theorem hours_get (l : List IT) (i : Nat) (h : i < l.length) : (hoursOf l)[i]'(by simpa [hoursOf] using h) = l[i].f2 - l[i].f3 := by simp [hoursOf]
theorem left_spec (l : List IT) (hl : l.length ≤ 2000000) : Ev (fun k => spec_HoursLeft.f k l) (leftAns l) := by
  unfold leftAns spec_HoursLeft.f spec_l24Ok.f
  simp only [Option.bind_some]
  cases hok : ordersOk l with
  | false => exact Ev.all fun _ => rfl
  | true =>
    simp only [if_true]
    have hlen : (hoursOf l).length = l.length := by simp [hoursOf]
    have h20 := ok_len hok
    have := for_to l.length (fun k (s : Int) i => spec_HoursLeft.l0 k l s i) (fun i => ((hoursOf l).take i).sum) ((hoursOf l).sum, 0) (fun i hi => ⟨0, fun k _ => ?_⟩) (Ev.const fun k => ?_) l.length 0 (by omega)
    · exact this
    · have b1 := sum_take_bound (hours_bound hok) i (by omega)
      obtain ⟨_, _, a, b, _⟩ := ok_one hok i hi
      simp only [spec_HoursLeft.l0]
      rw [if_pos (by omega), if_pos (by omega), rdI l i hi, w64 (x := (i : Int) + 1) (by omega) (by omega), w64 (x := l[i].f2 - l[i].f3) (by omega) (by omega), w64 (by omega) (by omega), sum_take_succ _ i (by omega), hours_get l i hi]
    · simp only [spec_HoursLeft.l0]
      rw [if_neg (by omega), List.take_of_length_le (by omega)]
theorem left_impl (l : List IT) (hl : l.length ≤ 2000000) : Ev (fun k => impl_HoursLeft.f k l) (leftAns l) := by
  obtain ⟨K, hK⟩ := Ev.pick (ok_impl l hl)
  unfold leftAns
  cases hok : ordersOk l with
  | false =>
    refine Ev.intro K fun k hk => ?_
    unfold impl_HoursLeft.f
    rw [hK k hk, hok]
    rfl
  | true =>
    simp only [if_true]
    have hlen : (hoursOf l).length = l.length := by simp [hoursOf]
    have h20 := ok_len hok
    have := for_to l.length (fun k (s : Int) i => impl_HoursLeft.l0 k s l l.length i) (fun i => ((hoursOf l).take i).sum) ((hoursOf l).sum, 0) (fun i hi => ⟨0, fun k _ => ?_⟩) (Ev.const fun k => ?_) l.length 0 (by omega)
    · obtain ⟨J, hJ⟩ := Ev.pick this
      refine Ev.intro (K + J) fun k hk => ?_
      unfold impl_HoursLeft.f
      rw [hK k (by omega), hok]
      simp only [Option.bind_some, if_true]
      exact hJ k (by omega)
    · have b1 := sum_take_bound (hours_bound hok) i (by omega)
      obtain ⟨_, _, a, b, _⟩ := ok_one hok i hi
      simp only [impl_HoursLeft.l0, impl_hoursLeft.f, Option.bind_some]
      rw [if_pos (by omega), if_pos (by omega), if_pos (by omega), rdI l i hi, w64 (x := (i : Int) + 1) (by omega) (by omega), w64 (x := l[i].f2 - l[i].f3) (by omega) (by omega), w64 (by omega) (by omega), sum_take_succ _ i (by omega), hours_get l i hi]
    · simp only [impl_HoursLeft.l0]
      rw [if_neg (by omega), List.take_of_length_le (by omega)]

end FnExactHoursLeft_
def G50 (x : S50) : Prop := (Lit.int .i64 x.f0).wf = true ∧ x.f1.size ≤ maxLen ∧ (Lit.int .i64 x.f2).wf = true ∧ (Lit.int .i64 x.f3).wf = true ∧ (Lit.int .i64 x.f4).wf = true
open FnExactHoursLeft_ in
theorem FnExactHoursLeft : ∀ (l0 : List S50), (l0.length ≤ maxLen ∧ ∀ x ∈ l0, G50 x) → ∃ k, laws_FnExactHoursLeft.f k l0 = some true := by
  intro l0 hl
  obtain ⟨r, hr, hsz⟩ := sz_ev l0 hl.1 hl.2
  obtain ⟨K0, h0⟩ := Ev.pick hsz
  by_cases c : r < 0
  · refine ⟨K0, ?_⟩
    unfold laws_FnExactHoursLeft.f
    rw [h0 K0 (Nat.le_refl _)]
    simp only [Option.bind_some]
    rw [if_pos c]
  · have hn : l0.length ≤ 1048576 := by omega
    have hm : (l0.map conv).length ≤ 2000000 := by rw [List.length_map]; omega
    obtain ⟨K1, h1⟩ := Ev.pick (to_ev l0 hn)
    obtain ⟨K2, h2⟩ := Ev.pick (left_spec (l0.map conv) hm)
    obtain ⟨K3, h3⟩ := Ev.pick (left_impl (l0.map conv) hm)
    obtain ⟨K4, h4⟩ := Ev.pick (eq_ev (l0.map conv) hm)
    refine ⟨K0 + K1 + K2 + K3 + K4 + 1, ?_⟩
    unfold laws_FnExactHoursLeft.f
    simp (disch := omega) only [h0, h1, h2, h3, h4, c, laws_FnExactHoursLeft.j0, Option.bind_some, if_true, if_false, bne_self_eq_false, Bool.false_eq_true]

end Go.Proofs.Ytedidhfmknhlkaa.Pure
