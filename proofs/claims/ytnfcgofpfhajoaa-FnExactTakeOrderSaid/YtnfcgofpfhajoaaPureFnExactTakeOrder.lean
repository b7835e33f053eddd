/- For all orders and any one order the program's TakeOrder and the reference's TakeOrder tell the same; no row is shared, no argument changed. -/
import Derived.Test.YtnfcgofpfhajoaaQFnExactTakeOrderx8
import Derived.Test.YtnfcgofpfhajoaaBase
namespace Go.Proofs.Ytnfcgofpfhajoaa.Pure
open Go.RowKit Go.Proofs.Ytnfcgofpfhajoaa.QFnExactTakeOrder Go.Proofs.YtnfcgofpfhajoaaW.PrintWords Go.Proofs.YtnfcgofpfhajoaaW.PrintLast Go.Proofs.Ytnfcgofpfhajoaa.Base
set_option linter.unusedVariables false
set_option linter.unusedSimpArgs false

namespace FnExactTakeOrder_
def GS (x : S51) : Prop := (Lit.int .i64 x.f0).wf = true ∧ x.f1.size ≤ maxLen ∧ (Lit.int .i64 x.f2).wf = true ∧ (Lit.int .i64 x.f3).wf = true ∧ (Lit.int .i64 x.f4).wf = true
abbrev LT := S51
abbrev IT := S58
def conv (x : LT) : IT := ⟨x.f0, x.f1, x.f2, x.f3, x.f4⟩
theorem rdL (xs : List LT) (i : Nat) (h : i < xs.length) : rd_T51 xs (i : Int) = xs[i] := by
  unfold rd_T51; rw [Int.toNat_natCast, List.getD_eq_getElem?_getD, List.getElem?_eq_getElem h]; rfl
theorem rdI (xs : List IT) (i : Nat) (h : i < xs.length) : rd_T58 xs (i : Int) = xs[i] := by
  unfold rd_T58; rw [Int.toNat_natCast, List.getD_eq_getElem?_getD, List.getElem?_eq_getElem h]; rfl
theorem rdSet (xs : List IT) (i : Nat) (h : i < xs.length) (v : IT) : rd_T58 (xs.set i v) (i : Int) = v := by
  rw [rdI _ i (by simpa using h), List.getElem_set_self]
theorem to_ev (l : List LT) (h : l.length ≤ 1048576) : Ev (fun k => laws_toOrderS.f k l) (l.map conv) := by
  have round : ∀ k acc (i : Nat) (h : i < l.length), acc.length = l.length → laws_toOrderS.l0 (k + 1) l acc (i : Int) = laws_toOrderS.l0 k l (acc.set i (conv l[i])) ((i : Int) + 1) := by
    intro k acc i hi hl
    simp only [laws_toOrderS.l0, laws_toOrder.f, Option.bind_some]
    rw [if_pos (by omega), if_pos (by omega), if_pos (by omega), w64 (by omega) (by omega), rdL l i hi, Int.toNat_natCast]
    rfl
  have fin : ∀ k acc, laws_toOrderS.l0 (k + 1) l acc (l.length : Int) = some acc := by
    intro k acc
    simp only [laws_toOrderS.l0]
    rw [if_neg (by omega)]
  have := fill_to l conv (fun k acc i => laws_toOrderS.l0 k l acc i) round fin (List.replicate l.length z58) (by simp)
  refine Ev.congr (fun k => ?_) this
  unfold laws_toOrderS.f
  rw [if_pos (by omega), if_pos (by rw [Int.toNat_natCast]; omega), Int.toNat_natCast]
theorem eq_ev (l : List IT) (h : l.length ≤ 2000000) : Ev (fun k => laws_eqOrderS.f k l l) true := by
  refine Ev.congr (f := fun k => laws_eqOrderS.l0 k l l 0) (fun k => by unfold laws_eqOrderS.f; rw [if_pos rfl]) ?_
  refine go_to l.length (fun k i => laws_eqOrderS.l0 k l l i) true (fun i hi => ⟨0, fun k _ => ?_⟩) (Ev.const fun k => ?_)
  · simp only [laws_eqOrderS.l0, laws_eqOrder.f, if_true, Option.bind_some]
    rw [if_pos (by omega), if_pos (by omega), if_pos (by omega), w64 (by omega) (by omega)]
  · simp only [laws_eqOrderS.l0]
    rw [if_neg (by omega)]
theorem sz_one (x : LT) (hx : GS x) (left : Int) (h0 : 0 ≤ left) (h1 : left ≤ 1048576) : ∃ t, laws_szOrder.f x.f0 x.f1 x.f2 x.f3 x.f4 left = some t ∧ t ≤ 1048576 := by
  unfold GS at hx
  unfold maxLen at hx
  unfold laws_szOrder.f wrap64
  repeat' split
  all_goals exact ⟨_, rfl, by omega⟩
theorem sz_ev (l : List LT) (h : l.length ≤ maxLen) (hg : ∀ x ∈ l, GS x) : ∃ r, (r < 0 ∨ l.length ≤ 1048576) ∧ Ev (fun k => laws_szOrderS.f k l 1048576) r := by
  unfold maxLen at h
  by_cases c : 1048576 < l.length
  · refine ⟨-1, .inl (by omega), Ev.all fun k => ?_⟩
    unfold laws_szOrderS.f
    rw [w64 (by omega) (by omega), if_pos (by omega)]
  · have h3 := for_ev l.length (fun k (s : Int) i => laws_szOrderS.l0 k l s i) (fun _ s => 0 ≤ s ∧ s ≤ 1048576) (fun _ => True) (fun i s hi hs => ?_) (fun s hs => ⟨s, trivial, Ev.const fun k => ?_⟩) l.length 0 (1048576 - (l.length : Int)) (by omega) (by omega)
    · obtain ⟨r, hr, h2⟩ := h3
      refine ⟨r, .inr (by omega), Ev.congr (fun k => ?_) h2⟩
      unfold laws_szOrderS.f
      rw [w64 (by omega) (by omega), if_neg (by omega)]
      rfl
    · obtain ⟨t, ht, ht1⟩ := sz_one l[i] (hg _ (List.getElem_mem hi)) s hs.1 hs.2
      by_cases c2 : t < 0
      · refine .inr ⟨-1, trivial, Ev.const fun k => ?_⟩
        simp only [laws_szOrderS.l0]
        rw [if_pos (by omega), if_pos (by omega), rdL l i hi, ht]
        simp only [Option.bind_some]
        rw [if_pos c2]
      · refine .inl ⟨t, by omega, 0, fun k _ => ?_⟩
        simp only [laws_szOrderS.l0]
        rw [if_pos (by omega), if_pos (by omega), rdL l i hi, ht]
        simp only [Option.bind_some]
        rw [if_neg c2, w64 (by omega) (by omega)]
    · simp only [laws_szOrderS.l0]
      rw [if_neg (by omega)]

theorem str_one (b : Int) : (strOfNums [b]).size = 1 := rfl
theorem mtxt_loop : ∀ (d : Nat) (n : Int) (s : ByteArray), n.toNat ≤ d → s.size + d ≤ 2000000000 → ∃ t, Ev (fun k => laws_markText.l0 k n s) t := by
  intro d
  induction d with
  | zero =>
    intro n s hn hs
    refine ⟨(⟨#[109]⟩ : ByteArray) ++ s, Ev.const fun k => ?_⟩
    simp only [laws_markText.l0]
    rw [if_neg (by omega), if_pos (by omega)]
  | succ d ih =>
    intro n s hn hs
    by_cases h : n > 0
    · have e : wrap64 (Int.tdiv n 10) = n / 10 ∨ True := .inr trivial
      have hd : (wrap64 (Int.tdiv n 10)).toNat ≤ d := by
        rw [tdiv_nn (by omega)]
        unfold wrap64
        omega
      obtain ⟨t, ht⟩ := ih (wrap64 (Int.tdiv n 10)) (strOfNums [(wrap64 (48 + (Int.tmod n 10))) % 256] ++ s) hd (by
        rw [ByteArray.size_append, str_one]; omega)
      refine ⟨t, Ev.step (fun k => ?_) ht⟩
      simp only [laws_markText.l0]
      rw [if_pos h]
      simp only [Option.bind_some]
      rw [if_pos (by rw [str_one]; omega)]
    · refine ⟨(⟨#[109]⟩ : ByteArray) ++ s, Ev.const fun k => ?_⟩
      simp only [laws_markText.l0]
      rw [if_neg h, if_pos (by omega)]
theorem mtxt_ends (n : Int) (h : n ≤ 1500000000) : ∃ t, Ev (fun k => laws_markText.f k n) t := by
  by_cases c : n ≤ 0
  · exact ⟨_, Ev.all fun k => by unfold laws_markText.f; rw [if_pos c]⟩
  · obtain ⟨t, ht⟩ := mtxt_loop n.toNat n (⟨#[]⟩ : ByteArray) (Nat.le_refl _) (by show 0 + n.toNat ≤ _; omega)
    exact ⟨t, Ev.congr (fun k => by unfold laws_markText.f; rw [if_neg c]) ht⟩
open Classical in
noncomputable def mtxt (n : Int) : ByteArray := if h : n ≤ 1500000000 then Classical.choose (mtxt_ends n h) else ⟨#[]⟩
theorem mtxt_ev (n : Int) (h0 : 0 < n) (h : n ≤ 1500000000) : Ev (fun k => laws_markText.f k n) (mtxt n) := by
  unfold mtxt
  rw [dif_pos h]
  exact Classical.choose_spec (mtxt_ends n h)


noncomputable def mk (m : Int) : IT := ⟨m, mtxt (m + 1), m + 1 + 1, m + 1 + 1 + 1, m + 1 + 1 + 1 + 1⟩
theorem mark_round (xs : List IT) (i : Nat) (hi : i < xs.length) (hl : xs.length ≤ 2000000) (m : Int) (h0 : 0 < m) (h1 : m ≤ 1000000000) : ∃ K, ∀ k, K ≤ k → laws_markOrderS.l0 (k + 1) xs m i = laws_markOrderS.l0 k (xs.set i (mk m)) (m + 1 + 1 + 1 + 1 + 1) ((i : Int) + 1) := by
  have e1 : wrap64 (m + 1) = m + 1 := w64 (by omega) (by omega)
  have e2 : wrap64 (m + 1 + 1) = m + 1 + 1 := w64 (by omega) (by omega)
  have e3 : wrap64 (m + 1 + 1 + 1) = m + 1 + 1 + 1 := w64 (by omega) (by omega)
  have e4 : wrap64 (m + 1 + 1 + 1 + 1) = m + 1 + 1 + 1 + 1 := w64 (by omega) (by omega)
  have e5 : wrap64 (m + 1 + 1 + 1 + 1 + 1) = m + 1 + 1 + 1 + 1 + 1 := w64 (by omega) (by omega)
  obtain ⟨K1, hK1⟩ := Ev.pick (mtxt_ev (m + 1) (by omega) (by omega))
  refine ⟨K1, fun k hk => ?_⟩
  simp only [laws_markOrderS.l0]
  rw [if_pos (by omega), if_pos (by omega), w64 (x := (i : Int) + 1) (by omega) (by omega)]
  simp only [Option.bind_some, Int.toNat_natCast, rdSet xs i hi, List.set_set, e1, e2, e3, e4, e5, hK1 k (by omega)]
  rfl
theorem mark_ev (l : List IT) (h : l.length ≤ 2000000) : Ev (fun k => laws_markOrderS.f k l 1) (1 + 5 * (l.length : Int), (List.range l.length).map fun i : Nat => mk (1 + 5 * (i : Int))) := by
  refine mark_to l.length 5 1 mk (fun k xs m i => laws_markOrderS.l0 k xs m i) (fun xs i hi hl => ?_) (fun k xs hl => ?_) l rfl
  · obtain ⟨K, hK⟩ := mark_round xs i (by omega) (by omega) (1 + 5 * (i : Int)) (by omega) (by omega)
    refine ⟨K, fun k hk => (hK k hk).trans ?_⟩
    rw [show 1 + 5 * (i : Int) + 1 + 1 + 1 + 1 + 1 = 1 + 5 * ((i + 1 : Nat) : Int) by omega]
  · simp only [laws_markOrderS.l0]
    rw [if_neg (by omega)]
theorem held_ev (n : Nat) (h : n ≤ 2000000) : Ev (fun k => laws_heldOrderS.f k ((List.range n).map fun i : Nat => mk (1 + 5 * (i : Int))) 1) (1 + 5 * (n : Int)) := by
  refine held_to n 5 1 (fun k m i => laws_heldOrderS.l0 k ((List.range n).map fun i : Nat => mk (1 + 5 * (i : Int))) m i) (fun i hi => ?_) (fun k => ?_)
  · have hr : rd_T58 ((List.range n).map fun i : Nat => mk (1 + 5 * (i : Int))) (i : Int) = mk (1 + 5 * (i : Int)) := by
      rw [rdI _ i (by simpa using hi)]
      simp
    have hb : ((i : Nat) : Int) < (((List.range n).map fun i : Nat => mk (1 + 5 * (i : Int))).length : Int) := by simp; omega
    revert hr hb
    generalize (List.range n).map (fun i : Nat => mk (1 + 5 * (i : Int))) = xs
    intro hr hb
    have hm : (1 + 5 * ((i + 1 : Nat) : Int)) = 1 + 5 * (i : Int) + 1 + 1 + 1 + 1 + 1 := by omega
    rw [hm]
    obtain ⟨m, hmm⟩ : ∃ m : Int, 1 + 5 * (i : Int) = m := ⟨_, rfl⟩
    rw [hmm] at hr ⊢
    have h0 : 0 < m := by omega
    have h1 : m ≤ 1000000000 := by omega
    have e1 : wrap64 (m + 1) = m + 1 := w64 (by omega) (by omega)
    have e2 : wrap64 (m + 1 + 1) = m + 1 + 1 := w64 (by omega) (by omega)
    have e3 : wrap64 (m + 1 + 1 + 1) = m + 1 + 1 + 1 := w64 (by omega) (by omega)
    have e4 : wrap64 (m + 1 + 1 + 1 + 1) = m + 1 + 1 + 1 + 1 := w64 (by omega) (by omega)
    have e5 : wrap64 (m + 1 + 1 + 1 + 1 + 1) = m + 1 + 1 + 1 + 1 + 1 := w64 (by omega) (by omega)
    obtain ⟨K1, hK1⟩ := Ev.pick (mtxt_ev (m + 1) (by omega) (by omega))
    refine ⟨K1, fun k hk => ?_⟩
    simp only [laws_heldOrderS.l0]
    rw [if_pos hb, if_pos (by omega), w64 (x := (i : Int) + 1) (by omega) (by omega)]
    simp only [hr, mk, Option.bind_some, e1, e2, e3, e4, e5, hK1 k (by omega), if_true]
  · simp only [laws_heldOrderS.l0]
    rw [if_neg (by simp)]

theorem within_eq (a b c : Int) : impl_within.f a b c = some (decide (b ≤ a ∧ a ≤ c)) := by
  unfold impl_within.f
  by_cases h : a ≥ b
  · rw [if_pos h]; congr 1; apply Bool.eq_iff_iff.mpr; simp; omega
  · rw [if_neg h]; congr 1; apply Bool.eq_iff_iff.mpr; simp; omega

theorem name_loop_impl (s : ByteArray) (h : s.size ≤ 12) : Ev (fun k => impl_IsName.l0 k s 0) ((List.range s.size).all fun i => nameByte (bt s i)) := by
  have := all_lt s.size (fun i => nameByte (bt s i)) (fun k i => impl_IsName.l0 k s i) true false (fun i hi hp => ⟨0, fun k _ => ?_⟩) (fun i hi hp => Ev.const fun k => ?_) (fun _ => Ev.const fun k => ?_)
  · rw [ite_bool] at this
    exact this
  · have hp := of_decide_eq_true hp
    simp only [impl_IsName.l0]
    rw [if_pos (by omega), if_pos (by omega), w64 (by omega) (by omega)]
    repeat' split
    all_goals first | rfl | (exfalso; omega)
  · have hp := of_decide_eq_false hp
    simp only [impl_IsName.l0]
    rw [if_pos (by omega), if_pos (by omega)]
    repeat' split
    all_goals first | rfl | (exfalso; omega)
  · simp only [impl_IsName.l0]
    rw [if_neg (by omega)]
theorem name_impl (s : ByteArray) : Ev (fun k => impl_IsName.f k s) (isNameB s) := by
  unfold isNameB
  by_cases h0 : s.size < 1
  · rw [decide_eq_false (by omega), Bool.false_and]
    refine Ev.const fun k => ?_
    unfold impl_IsName.f
    rw [if_pos (by omega)]
    simp only [impl_IsName.j0, if_true]
  · by_cases h12 : s.size ≤ 12
    · by_cases hs : 97 ≤ bt s 0 ∧ bt s 0 ≤ 122
      · rw [decide_eq_true ⟨by omega, h12, hs⟩, Bool.true_and]
        refine Ev.step (f := fun k => impl_IsName.l0 k s 0) (fun k => ?_) (name_loop_impl s h12)
        simp only [impl_IsName.f]
        rw [if_neg (by omega), if_neg (by omega), if_pos (by omega), if_neg (by omega), decide_eq_false (by omega)]
        simp only [impl_IsName.j0, Bool.false_eq_true, if_false]
      · rw [decide_eq_false (fun h => hs h.2.2), Bool.false_and]
        refine Ev.const fun k => ?_
        simp only [impl_IsName.f]
        rw [if_neg (by omega), if_neg (by omega), if_pos (by omega)]
        by_cases h1 : bt s 0 < 97
        · rw [if_pos h1]
          simp only [impl_IsName.j0, if_true]
        · rw [if_neg h1, decide_eq_true (by omega)]
          simp only [impl_IsName.j0, if_true]
    · rw [decide_eq_false (by omega), Bool.false_and]
      refine Ev.const fun k => ?_
      unfold impl_IsName.f
      rw [if_neg (by omega), if_pos (by omega)]
      simp only [impl_IsName.j0, if_true]

theorem valid_impl (f0 : Int) (f1 : ByteArray) (f2 f3 f4 : Int) : Ev (fun k => impl_validOrder.f k f0 f1 f2 f3 f4) (spec_l24One.v f0 f1 f2 f3 f4) := by
  obtain ⟨K, hK⟩ := Ev.pick (name_impl f1)
  refine Ev.intro K fun k hk => ?_
  unfold impl_validOrder.f spec_l24One.v
  rw [within_eq, within_eq, within_eq, within_eq, hK k hk]
  simp only [Option.bind_some]
  cases decide (1 ≤ f0 ∧ f0 ≤ 9999) <;> cases isNameB f1 <;> cases decide (1 ≤ f2 ∧ f2 ≤ 500) <;> cases decide (0 ≤ f3 ∧ f3 ≤ f2) <;> rfl
theorem ok_impl (l : List IT) (h : l.length ≤ 2000000) : Ev (fun k => impl_ValidOrders.f k l) (ordersOk l) := by
  by_cases h20 : l.length ≤ 20
  · have := all_lt l.length (fits l) (fun k i => impl_ValidOrders.l0 k l l l.length i) true false (fun i hi hp => ?_) (fun i hi hp => ?_) (fun hp => Ev.const fun k => ?_)
    · rw [ite_bool] at this
      unfold ordersOk
      rw [decide_eq_true h20, Bool.and_true]
      refine Ev.congr (fun k => ?_) this
      unfold impl_ValidOrders.f
      rw [if_neg (by omega)]
    · unfold fits at hp
      rw [Bool.and_eq_true] at hp
      obtain ⟨K, hK⟩ := Ev.pick (valid_impl (rd_T58 l i).f0 (rd_T58 l i).f1 (rd_T58 l i).f2 (rd_T58 l i).f3 (rd_T58 l i).f4)
      refine ⟨K, fun k hk => ?_⟩
      simp only [impl_ValidOrders.l0]
      rw [if_pos (by omega), if_pos (by omega), if_pos (by omega), hK k hk, hp.1, w64 (x := (i : Int) + 1) (by omega) (by omega)]
      simp only [Option.bind_some, if_true]
      by_cases h0 : 0 < i
      · have h2 := hp.2
        rw [Bool.or_eq_true] at h2
        have h3 : (rd_T58 l ((i : Int) - 1)).f0 < (rd_T58 l i).f0 := by
          rcases h2 with h2 | h2
          · have := beq_iff_eq.1 h2; omega
          · exact of_decide_eq_true h2
        rw [if_pos (by omega), w64 (x := (i : Int) - 1) (by omega) (by omega), if_pos (by omega), if_pos (by omega), if_neg (by omega)]
      · rw [if_neg (by omega)]
    · unfold fits at hp
      obtain ⟨K, hK⟩ := Ev.pick (valid_impl (rd_T58 l i).f0 (rd_T58 l i).f1 (rd_T58 l i).f2 (rd_T58 l i).f3 (rd_T58 l i).f4)
      refine Ev.intro (K + 1) fun k hk => ?_
      obtain ⟨m, rfl⟩ : ∃ m, k = m + 1 := ⟨k - 1, by omega⟩
      simp only [impl_ValidOrders.l0]
      rw [if_pos (by omega), if_pos (by omega), if_pos (by omega), hK m (by omega)]
      simp only [Option.bind_some]
      cases hv : spec_l24One.v (rd_T58 l i).f0 (rd_T58 l i).f1 (rd_T58 l i).f2 (rd_T58 l i).f3 (rd_T58 l i).f4 with
      | false => simp only [Bool.false_eq_true, if_false]
      | true =>
        rw [hv, Bool.true_and, Bool.or_eq_false_iff] at hp
        have h0 : 0 < i := by
          have := hp.1
          have h4 : i ≠ 0 := by simpa using this
          omega
        have h3 : ¬ (rd_T58 l ((i : Int) - 1)).f0 < (rd_T58 l i).f0 := of_decide_eq_false hp.2
        simp only [if_true]
        rw [if_pos (by omega), w64 (x := (i : Int) - 1) (by omega) (by omega), if_pos (by omega), if_pos (by omega), if_pos (by omega)]
    · simp only [impl_ValidOrders.l0]
      rw [if_neg (by omega)]
  · unfold ordersOk
    rw [decide_eq_false h20, Bool.and_false]
    refine Ev.all fun k => ?_
    unfold impl_ValidOrders.f
    rw [if_pos (by omega)]
theorem ok_one {l : List IT} (h : ordersOk l = true) (i : Nat) (hi : i < l.length) : isNameB l[i].f1 = true ∧ (1 ≤ l[i].f0 ∧ l[i].f0 ≤ 9999) ∧ (1 ≤ l[i].f2 ∧ l[i].f2 ≤ 500) ∧ (0 ≤ l[i].f3 ∧ l[i].f3 ≤ l[i].f2) ∧ (0 ≤ l[i].f4 ∧ l[i].f4 ≤ 2000) := by
  unfold ordersOk at h
  rw [Bool.and_eq_true] at h
  have h2 := all_range.1 h.1 i hi
  unfold fits spec_l24One.v at h2
  rw [rdI l i hi] at h2
  simp only [Bool.and_eq_true, decide_eq_true_eq] at h2
  obtain ⟨⟨⟨⟨⟨a, b⟩, c⟩, d⟩, e⟩, _⟩ := h2
  exact ⟨b, a, c, d, e⟩
theorem ok_len {l : List IT} (h : ordersOk l = true) : l.length ≤ 20 := by
  unfold ordersOk at h
  rw [Bool.and_eq_true] at h
  exact of_decide_eq_true h.2

theorem find_spec (l : List IT) (id : Int) (h : l.length ≤ 2000000) : Ev (fun k => spec_l24Find.f k l id) (orderIdx l id) := by
  have h3 := for_ev l.length (fun k (_ : Unit) i => spec_l24Find.l0 k l id i) (fun i _ => ∀ j (hj : j < l.length), j < i → (l[j].f0 == id) = false) (fun r => r = orderIdx l id) (fun i s hi hs => ?_) (fun s hs => ?_) l.length 0 () (by omega) (fun j _ hj => absurd hj (Nat.not_lt_zero _))
  · obtain ⟨r, rfl, h4⟩ := h3
    exact h4
  · cases hc : l[i].f0 == id with
    | true =>
      refine .inr ⟨_, rfl, Ev.const fun k => ?_⟩
      rw [orderIdx_hit hi hc (fun j hj => hs j (by omega) hj)]
      simp only [spec_l24Find.l0]
      rw [if_pos (by omega), if_pos (by omega), rdI l i hi, if_pos (beq_iff_eq.1 hc)]
    | false =>
      refine .inl ⟨(), fun j hj hji => ?_, 0, fun k _ => ?_⟩
      · by_cases e : j = i
        · subst e; exact hc
        · exact hs j hj (by omega)
      · simp only [spec_l24Find.l0]
        rw [if_pos (by omega), if_pos (by omega), rdI l i hi, if_neg (by simpa using hc), w64 (by omega) (by omega)]
  · refine ⟨_, rfl, Ev.const fun k => ?_⟩
    rw [orderIdx_miss (fun j hj => hs j hj hj)]
    simp only [spec_l24Find.l0]
    rw [if_neg (by omega)]

theorem ok_step {l : List IT} (h : ordersOk l = true) (i : Nat) (hi : i + 1 < l.length) : l[i].f0 < l[i + 1].f0 := by
  unfold ordersOk at h
  rw [Bool.and_eq_true] at h
  have h2 := all_range.1 h.1 (i + 1) hi
  unfold fits at h2
  rw [Bool.and_eq_true, Bool.or_eq_true] at h2
  have h3 := h2.2
  rcases h3 with h3 | h3
  · have := beq_iff_eq.1 h3; omega
  · have h4 := of_decide_eq_true h3
    rw [rdI l (i + 1) hi, show ((i + 1 : Nat) : Int) - 1 = (i : Int) by omega, rdI l i (by omega)] at h4
    exact h4
theorem ok_lt {l : List IT} (h : ordersOk l = true) (i : Nat) : ∀ (d : Nat) (hd : i + 1 + d < l.length), l[i].f0 < l[i + 1 + d].f0
  | 0, hd => ok_step h i hd
  | d + 1, hd => by
    have h1 := ok_lt h i d (by omega)
    have h2 := ok_step h (i + 1 + d) (by omega)
    have h3 : l[i + 1 + d].f0 < l[i + 1 + (d + 1)].f0 := h2
    omega
theorem ok_pw {l : List IT} (h : ordersOk l = true) : l.Pairwise (fun a b => a.f0 < b.f0) := by
  rw [List.pairwise_iff_getElem]
  intro i j hi hj hij
  have h1 := ok_lt h i (j - i - 1) (by omega)
  have e : i + 1 + (j - i - 1) = j := by omega
  simp only [e] at h1
  exact h1
theorem ins_at (x : IT) : ∀ (l : List IT) (i : Nat) (_ : i ≤ l.length) (_ : ∀ (j : Nat) (hj : j < l.length), j < i → l[j].f0 < x.f0) (_ : ∀ h : i < l.length, x.f0 < l[i].f0), insO x l = l.take i ++ x :: l.drop i
  | [], i, hi, _, _ => by
    have : i = 0 := by simpa using hi
    subst this; rfl
  | y :: r, 0, _, _, h2 => by
    have h := h2 (by simp)
    simp only [List.getElem_cons_zero] at h
    unfold insO
    rw [if_pos h]
    rfl
  | y :: r, i + 1, hi, h1, h2 => by
    have h := h1 0 (by simp) (by omega)
    simp only [List.getElem_cons_zero] at h
    have hr := ins_at x r i (by simpa using hi) (fun j hj hji => by
      have := h1 (j + 1) (by simpa using hj) (by omega)
      simpa using this) (fun hh => by
      have := h2 (by simpa using hh)
      simpa using this)
    unfold insO
    rw [if_neg (by omega), hr]
    rfl
theorem take_loop (l : List IT) (f0 : Int) (f1 : ByteArray) (f2 f3 f4 : Int) (h : l.length ≤ 2000000) (hne : ∀ (j : Nat) (hj : j < l.length), (l[j].f0 == f0) = false) : Ev (fun k => spec_TakeOrder.l0 k l 0 f0 f1 f2 f3 f4) (insO ⟨f0, f1, f2, f3, f4⟩ l, 0) := by
  have h3 := for_ev l.length (fun k (_ : Unit) i => spec_TakeOrder.l0 k l i f0 f1 f2 f3 f4) (fun i _ => ∀ (j : Nat) (hj : j < l.length), j < i → l[j].f0 < f0) (fun r => r = (insO ⟨f0, f1, f2, f3, f4⟩ l, 0)) (fun i s hi hs => ?_) (fun s hs => ?_) l.length 0 () (by omega) (fun j _ hj => absurd hj (Nat.not_lt_zero _))
  · obtain ⟨r, rfl, h4⟩ := h3
    exact h4
  · by_cases c : l[i].f0 < f0
    · refine .inl ⟨(), fun j hj hji => ?_, 0, fun k _ => ?_⟩
      · by_cases e : j = i
        · subst e; exact c
        · exact hs j hj (by omega)
      · simp only [spec_TakeOrder.l0]
        rw [if_pos (by omega), if_pos (by omega), rdI l i hi, if_pos c, w64 (by omega) (by omega)]
    · refine .inr ⟨_, rfl, Ev.const fun k => ?_⟩
      have hlt : f0 < l[i].f0 := by
        have := hne i hi
        have h5 : l[i].f0 ≠ f0 := by simpa using this
        omega
      rw [ins_at ⟨f0, f1, f2, f3, f4⟩ l i (by omega) hs (fun _ => hlt)]
      simp only [spec_TakeOrder.l0]
      rw [if_pos (by omega), if_pos (by omega), rdI l i hi, if_neg c]
      simp only [Option.bind_some, List.nil_append, List.length_nil, List.length_append, List.length_take, List.length_cons, List.length_drop, Int.toNat_natCast]
      rw [if_pos (by omega), if_pos (by omega), if_pos (by omega), if_pos (by omega), List.append_assoc]
      rfl
  · refine ⟨_, rfl, Ev.const fun k => ?_⟩
    rw [ins_at ⟨f0, f1, f2, f3, f4⟩ l l.length (by omega) hs (fun hh => absurd hh (by omega))]
    simp only [spec_TakeOrder.l0]
    rw [if_neg (by omega)]
    simp only [Option.bind_some, List.nil_append, List.length_nil, List.length_append, List.length_take, List.length_cons, List.length_drop, Int.toNat_natCast]
    rw [if_pos (by omega), if_pos (by omega), if_pos (by omega), if_pos (by omega), if_pos (by omega), List.append_assoc]
    rfl
def takeAns (l : List IT) (f0 : Int) (f1 : ByteArray) (f2 f3 f4 : Int) : List IT × Int :=
  if ordersOk l = true then
    if spec_l24One.v f0 f1 f2 f3 f4 = true then
      if orderIdx l f0 ≥ 0 then ([], 4)
      else if (l.length : Int) = 20 then ([], 5)
      else (insO ⟨f0, f1, f2, f3, f4⟩ l, 0)
    else ([], 2)
  else ([], 1)
theorem idx_none {l : List IT} {id : Int} (h : ¬ orderIdx l id ≥ 0) (j : Nat) (hj : j < l.length) : (l[j].f0 == id) = false := by
  unfold orderIdx at h
  split at h
  · omega
  · rename_i hn
    exact List.findIdx?_eq_none_iff.1 hn _ (List.getElem_mem hj)
theorem take_length (l : List IT) (f0 : Int) (f1 : ByteArray) (f2 f3 f4 : Int) : (takeAns l f0 f1 f2 f3 f4).1.length ≤ 21 := by
  unfold takeAns
  repeat' split
  all_goals first
    | (simp; done)
    | (rename_i h _ _ _
       have h1 := ok_len h
       show (insO _ l).length ≤ 21
       rw [(insO_perm _ l).length_eq]
       simp only [List.length_cons]
       omega)
theorem take_spec (l : List IT) (f0 : Int) (f1 : ByteArray) (f2 f3 f4 : Int) (h : l.length ≤ 2000000) : Ev (fun k => spec_TakeOrder.f k l f0 f1 f2 f3 f4) (takeAns l f0 f1 f2 f3 f4) := by
  unfold takeAns
  by_cases h1 : ordersOk l = true
  · rw [if_pos h1]
    by_cases h2 : spec_l24One.v f0 f1 f2 f3 f4 = true
    · rw [if_pos h2]
      obtain ⟨K1, g1⟩ := Ev.pick (find_spec l f0 h)
      have hl := ok_len h1
      by_cases h3 : orderIdx l f0 ≥ 0
      · rw [if_pos h3]
        refine Ev.intro K1 fun k hk => ?_
        simp only [spec_TakeOrder.f, spec_l24Ok.f, spec_l24One.f, Option.bind_some, g1 k hk, if_pos h1, if_pos h2, if_pos h3]
      · rw [if_neg h3]
        by_cases h4 : (l.length : Int) = 20
        · rw [if_pos h4]
          refine Ev.intro K1 fun k hk => ?_
          have h5 : (l.length : Int) ≥ 20 := by omega
          simp only [spec_TakeOrder.f, spec_l24Ok.f, spec_l24One.f, Option.bind_some, g1 k hk, if_pos h1, if_pos h2, if_neg h3, if_pos h5]
        · rw [if_neg h4]
          have h5 : ¬ (l.length : Int) ≥ 20 := by omega
          obtain ⟨K2, g2⟩ := Ev.pick (take_loop l f0 f1 f2 f3 f4 h (idx_none h3))
          refine Ev.intro (K1 + K2) fun k hk => ?_
          simp only [spec_TakeOrder.f, spec_l24Ok.f, spec_l24One.f, Option.bind_some, g1 k (by omega), if_pos h1, if_pos h2, if_neg h3, if_neg h5]
          exact g2 k (by omega)
    · rw [if_neg h2]
      refine Ev.all fun k => ?_
      simp only [spec_TakeOrder.f, spec_l24Ok.f, spec_l24One.f, Option.bind_some, if_pos h1, if_neg h2]
  · rw [if_neg h1]
    refine Ev.all fun k => ?_
    simp only [spec_TakeOrder.f, spec_l24Ok.f, Option.bind_some, if_neg h1]
theorem take_srt (l : List IT) (x : IT) (h : ordersOk l = true) (hne : ∀ (j : Nat) (hj : j < l.length), (l[j].f0 == x.f0) = false) : impl_TakeOrder.srt (l ++ [x]) = some (insO x l) := by
  have hp := ok_pw h
  have hd : distO (l ++ [x]) = true := by
    refine decide_eq_true ?_
    rw [List.pairwise_append]
    refine ⟨hp.imp (fun h => by omega), List.pairwise_singleton _ _, fun a ha b hb => ?_⟩
    obtain ⟨j, hj, rfl⟩ := List.getElem_of_mem ha
    rw [List.mem_singleton] at hb
    subst hb
    have := hne j hj
    simpa using this
  unfold impl_TakeOrder.srt
  rw [if_pos hd]
  congr 1
  exact (srt_unique (l ++ [x]) (insO x l) ((insO_perm x l).trans (List.perm_append_singleton x l).symm) (insO_pw x l (hp.imp (fun h => by omega))) hd).symm
theorem take_impl (l : List IT) (f0 : Int) (f1 : ByteArray) (f2 f3 f4 : Int) (h : l.length ≤ 2000000) : Ev (fun k => impl_TakeOrder.f k l f0 f1 f2 f3 f4) (takeAns l f0 f1 f2 f3 f4) := by
  obtain ⟨K1, g1⟩ := Ev.pick (ok_impl l h)
  obtain ⟨K2, g2⟩ := Ev.pick (valid_impl f0 f1 f2 f3 f4)
  refine Ev.intro (K1 + K2) fun k hk => ?_
  unfold takeAns impl_TakeOrder.f impl_orderOf.f
  rw [g1 k (by omega), g2 k (by omega)]
  simp only [Option.bind_some]
  by_cases h1 : ordersOk l = true
  · rw [if_pos h1, if_pos h1]
    by_cases h2 : spec_l24One.v f0 f1 f2 f3 f4 = true
    · rw [if_pos h2, if_pos h2]
      by_cases h3 : orderIdx l f0 ≥ 0
      · rw [if_pos h3, if_pos h3]
      · rw [if_neg h3, if_neg h3]
        by_cases h4 : (l.length : Int) = 20
        · rw [if_pos h4, if_pos h4]
        · rw [if_neg h4, if_neg h4, if_pos (by simp only [List.length_nil]; omega)]
          simp only [List.nil_append, List.length_cons, List.length_nil]
          rw [if_pos (by omega), take_srt l ⟨f0, f1, f2, f3, f4⟩ h1 (idx_none h3)]
          rfl
    · rw [if_neg h2, if_neg h2]
  · rw [if_neg h1, if_neg h1]

end FnExactTakeOrder_
def G51 (x : S51) : Prop := (Lit.int .i64 x.f0).wf = true ∧ x.f1.size ≤ maxLen ∧ (Lit.int .i64 x.f2).wf = true ∧ (Lit.int .i64 x.f3).wf = true ∧ (Lit.int .i64 x.f4).wf = true
theorem sz_any (f0 : Int) (f1 : ByteArray) (f2 f3 f4 left : Int) : ∃ t, laws_szOrder.f f0 f1 f2 f3 f4 left = some t := by
  unfold laws_szOrder.f
  split <;> exact ⟨_, rfl⟩
open FnExactTakeOrder_ in
theorem FnExactTakeOrder : ∀ (l0 : List S51) (s1 : S51), (l0.length ≤ maxLen ∧ ∀ x ∈ l0, G51 x) → G51 s1 → ∃ k, laws_FnExactTakeOrder.f k l0 s1.f0 s1.f1 s1.f2 s1.f3 s1.f4 = some true := by
  intro l0 s1 hl _
  generalize s1.f0 = f0, s1.f1 = f1, s1.f2 = f2, s1.f3 = f3, s1.f4 = f4
  obtain ⟨r, hr, hsz⟩ := sz_ev l0 hl.1 hl.2
  obtain ⟨K0, h0⟩ := Ev.pick hsz
  obtain ⟨t, ht⟩ := sz_any f0 f1 f2 f3 f4 r
  by_cases c : r < 0
  · refine ⟨K0, ?_⟩
    unfold laws_FnExactTakeOrder.f
    rw [h0 K0 (Nat.le_refl _)]
    simp only [Option.bind_some]
    rw [if_pos c]
  by_cases c2 : t < 0
  · refine ⟨K0, ?_⟩
    unfold laws_FnExactTakeOrder.f
    rw [h0 K0 (Nat.le_refl _)]
    simp only [Option.bind_some]
    rw [if_neg c, ht, Option.bind_some, if_pos c2]
  · have hn : l0.length ≤ 1048576 := by omega
    have hm : (l0.map conv).length ≤ 2000000 := by rw [List.length_map]; omega
    have h20 := take_length (l0.map conv) f0 f1 f2 f3 f4
    obtain ⟨K1, h1⟩ := Ev.pick (to_ev l0 hn)
    obtain ⟨K2, h2⟩ := Ev.pick (take_spec (l0.map conv) f0 f1 f2 f3 f4 hm)
    obtain ⟨K3, h3⟩ := Ev.pick (take_impl (l0.map conv) f0 f1 f2 f3 f4 hm)
    generalize takeAns (l0.map conv) f0 f1 f2 f3 f4 = a at h2 h3 h20
    obtain ⟨K4, h4⟩ := Ev.pick (eq_ev a.1 (by omega))
    obtain ⟨K5, h5⟩ := Ev.pick (eq_ev (l0.map conv) hm)
    obtain ⟨K6, h6⟩ := Ev.pick (mark_ev (l0.map conv) hm)
    obtain ⟨K7, h7⟩ := Ev.pick (mark_ev a.1 (by omega))
    obtain ⟨K8, h8⟩ := Ev.pick (held_ev a.1.length (by omega))
    have n1 : ¬ (1 + 5 * ((l0.map conv).length : Int) < 0) := by omega
    have n2 : ¬ (1 + 5 * (a.1.length : Int) < 0) := by omega
    obtain ⟨M, hM⟩ : ∃ M, M = K0 + K1 + K2 + K3 + K4 + K5 + K6 + K7 + K8 := ⟨_, rfl⟩
    refine ⟨M + 3, ?_⟩
    unfold laws_FnExactTakeOrder.f
    simp (disch := omega) only [h0, h1, h2, h3, h4, ht, c, c2, laws_toOrder.f, Option.bind_some, if_true, if_false, bne_self_eq_false]
    rw [laws_FnExactTakeOrder.j0]
    simp (disch := omega) only [h1, h4, h5, h6, n1, Option.bind_some, if_true, if_false, bne_self_eq_false, Bool.false_eq_true]
    rw [laws_FnExactTakeOrder.j1]
    simp (disch := omega) only [h1, h3, h4, h7, h8, n2, laws_toOrder.f, Option.bind_some, if_true, if_false, bne_self_eq_false, Bool.false_eq_true]
    rw [laws_FnExactTakeOrder.j2]
    simp (disch := omega) only [h8, n2, Option.bind_some, if_true, if_false, Bool.false_eq_true]

end Go.Proofs.Ytnfcgofpfhajoaa.Pure
