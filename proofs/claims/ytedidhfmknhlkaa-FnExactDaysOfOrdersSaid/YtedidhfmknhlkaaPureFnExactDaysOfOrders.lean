/- For all orders and numbers the program's DaysOfOrders and the reference's DaysOfOrders tell the same; the orders stay as they are, no row is shared. -/
import Derived.Test.YtedidhfmknhlkaaQFnExactDaysOfOrdersx9
import Derived.Test.YtedidhfmknhlkaaBase
namespace Go.Proofs.Ytedidhfmknhlkaa.Pure
open Go.RowKit Go.Proofs.Ytedidhfmknhlkaa.QFnExactDaysOfOrders Go.Proofs.YtedidhfmknhlkaaW.PrintWords Go.Proofs.YtedidhfmknhlkaaW.PrintLast Go.Proofs.Ytedidhfmknhlkaa.Base
set_option linter.unusedVariables false
set_option linter.unusedSimpArgs false

namespace FnExactDaysOfOrders_
def GS (x : S50) : Prop := (Lit.int .i64 x.f0).wf = true ∧ x.f1.size ≤ maxLen ∧ (Lit.int .i64 x.f2).wf = true ∧ (Lit.int .i64 x.f3).wf = true ∧ (Lit.int .i64 x.f4).wf = true
abbrev LT := S50
abbrev IT := S49
def conv (x : LT) : IT := ⟨x.f0, x.f1, x.f2, x.f3, x.f4⟩
theorem rdL (xs : List LT) (i : Nat) (h : i < xs.length) : rd_T50 xs (i : Int) = xs[i] := by
  unfold rd_T50; rw [Int.toNat_natCast, List.getD_eq_getElem?_getD, List.getElem?_eq_getElem h]; rfl
theorem rdI (xs : List IT) (i : Nat) (h : i < xs.length) : rd_T49 xs (i : Int) = xs[i] := by
  unfold rd_T49; rw [Int.toNat_natCast, List.getD_eq_getElem?_getD, List.getElem?_eq_getElem h]; rfl
theorem rdSet (xs : List IT) (i : Nat) (h : i < xs.length) (v : IT) : rd_T49 (xs.set i v) (i : Int) = v := by
  rw [rdI _ i (by simpa using h), List.getElem_set_self]
theorem to_ev (l : List LT) (h : l.length ≤ 1048576) : Ev (fun k => laws_toOrderS.f k l) (l.map conv) := by
  have round : ∀ k acc (i : Nat) (h : i < l.length), acc.length = l.length → laws_toOrderS.l0 (k + 1) l acc (i : Int) = laws_toOrderS.l0 k l (acc.set i (conv l[i])) ((i : Int) + 1) := by
    intro k acc i hi hl
    simp only [laws_toOrderS.l0, laws_toOrder.f, Option.bind_some]
    rw [if_pos (by omega), if_pos (by omega), if_pos (by omega), w64 (by omega) (by omega), rdL l i hi, Int.toNat_natCast]
    rfl
  have fin : ∀ k acc, laws_toOrderS.l0 (k + 1) l acc (l.length : Int) = some acc := by
    intro k acc
    simp only [laws_toOrderS.l0]
    rw [if_neg (by omega)]
  have := fill_to l conv (fun k acc i => laws_toOrderS.l0 k l acc i) round fin (List.replicate l.length z49) (by simp)
  refine Ev.congr (fun k => ?_) this
  unfold laws_toOrderS.f
  rw [if_pos (by omega), if_pos (by rw [Int.toNat_natCast]; omega), Int.toNat_natCast]
theorem eq_ev (l : List IT) (h : l.length ≤ 2000000) : Ev (fun k => laws_eqOrderS.f k l l) true := by
  refine Ev.congr (f := fun k => laws_eqOrderS.l0 k l l 0) (fun k => by unfold laws_eqOrderS.f; rw [if_pos rfl]) ?_
  refine go_to l.length (fun k i => laws_eqOrderS.l0 k l l i) true (fun i hi => ⟨0, fun k _ => ?_⟩) (Ev.const fun k => ?_)
  · simp only [laws_eqOrderS.l0, laws_eqOrder.f, if_true, Option.bind_some]
    rw [if_pos (by omega), if_pos (by omega), if_pos (by omega), w64 (by omega) (by omega)]
  · simp only [laws_eqOrderS.l0]
    rw [if_neg (by omega)]
theorem sz_one (x : LT) (hx : GS x) (left : Int) (h0 : 0 ≤ left) (h1 : left ≤ 1048576) : ∃ t, laws_szOrder.f x.f0 x.f1 x.f2 x.f3 x.f4 left = some t ∧ t ≤ 1048576 := by
  unfold GS at hx
  unfold maxLen at hx
  unfold laws_szOrder.f wrap64
  repeat' split
  all_goals exact ⟨_, rfl, by omega⟩
theorem sz_ev (l : List LT) (h : l.length ≤ maxLen) (hg : ∀ x ∈ l, GS x) : ∃ r, (r < 0 ∨ l.length ≤ 1048576) ∧ Ev (fun k => laws_szOrderS.f k l 1048576) r := by
  unfold maxLen at h
  by_cases c : 1048576 < l.length
  · refine ⟨-1, .inl (by omega), Ev.all fun k => ?_⟩
    unfold laws_szOrderS.f
    rw [w64 (by omega) (by omega), if_pos (by omega)]
  · have h3 := for_ev l.length (fun k (s : Int) i => laws_szOrderS.l0 k l s i) (fun _ s => 0 ≤ s ∧ s ≤ 1048576) (fun _ => True) (fun i s hi hs => ?_) (fun s hs => ⟨s, trivial, Ev.const fun k => ?_⟩) l.length 0 (1048576 - (l.length : Int)) (by omega) (by omega)
    · obtain ⟨r, hr, h2⟩ := h3
      refine ⟨r, .inr (by omega), Ev.congr (fun k => ?_) h2⟩
      unfold laws_szOrderS.f
      rw [w64 (by omega) (by omega), if_neg (by omega)]
      rfl
    · obtain ⟨t, ht, ht1⟩ := sz_one l[i] (hg _ (List.getElem_mem hi)) s hs.1 hs.2
      by_cases c2 : t < 0
      · refine .inr ⟨-1, trivial, Ev.const fun k => ?_⟩
        simp only [laws_szOrderS.l0]
        rw [if_pos (by omega), if_pos (by omega), rdL l i hi, ht]
        simp only [Option.bind_some]
        rw [if_pos c2]
      · refine .inl ⟨t, by omega, 0, fun k _ => ?_⟩
        simp only [laws_szOrderS.l0]
        rw [if_pos (by omega), if_pos (by omega), rdL l i hi, ht]
        simp only [Option.bind_some]
        rw [if_neg c2, w64 (by omega) (by omega)]
    · simp only [laws_szOrderS.l0]
      rw [if_neg (by omega)]

theorem str_one (b : Int) : (strOfNums [b]).size = 1 := rfl
theorem mtxt_loop : ∀ (d : Nat) (n : Int) (s : ByteArray), n.toNat ≤ d → s.size + d ≤ 2000000000 → ∃ t, Ev (fun k => laws_markText.l0 k n s) t := by
  intro d
  induction d with
  | zero =>
    intro n s hn hs
    refine ⟨(⟨#[109]⟩ : ByteArray) ++ s, Ev.const fun k => ?_⟩
    simp only [laws_markText.l0]
    rw [if_neg (by omega), if_pos (by omega)]
  | succ d ih =>
    intro n s hn hs
    by_cases h : n > 0
    · have e : wrap64 (Int.tdiv n 10) = n / 10 ∨ True := .inr trivial
      have hd : (wrap64 (Int.tdiv n 10)).toNat ≤ d := by
        rw [tdiv_nn (by omega)]
        unfold wrap64
        omega
      obtain ⟨t, ht⟩ := ih (wrap64 (Int.tdiv n 10)) (strOfNums [(wrap64 (48 + (Int.tmod n 10))) % 256] ++ s) hd (by
        rw [ByteArray.size_append, str_one]; omega)
      refine ⟨t, Ev.step (fun k => ?_) ht⟩
      simp only [laws_markText.l0]
      rw [if_pos h]
      simp only [Option.bind_some]
      rw [if_pos (by rw [str_one]; omega)]
    · refine ⟨(⟨#[109]⟩ : ByteArray) ++ s, Ev.const fun k => ?_⟩
      simp only [laws_markText.l0]
      rw [if_neg h, if_pos (by omega)]
theorem mtxt_ends (n : Int) (h : n ≤ 1500000000) : ∃ t, Ev (fun k => laws_markText.f k n) t := by
  by_cases c : n ≤ 0
  · exact ⟨_, Ev.all fun k => by unfold laws_markText.f; rw [if_pos c]⟩
  · obtain ⟨t, ht⟩ := mtxt_loop n.toNat n (⟨#[]⟩ : ByteArray) (Nat.le_refl _) (by show 0 + n.toNat ≤ _; omega)
    exact ⟨t, Ev.congr (fun k => by unfold laws_markText.f; rw [if_neg c]) ht⟩
open Classical in
noncomputable def mtxt (n : Int) : ByteArray := if h : n ≤ 1500000000 then Classical.choose (mtxt_ends n h) else ⟨#[]⟩
theorem mtxt_ev (n : Int) (h0 : 0 < n) (h : n ≤ 1500000000) : Ev (fun k => laws_markText.f k n) (mtxt n) := by
  unfold mtxt
  rw [dif_pos h]
  exact Classical.choose_spec (mtxt_ends n h)


noncomputable def mk (m : Int) : IT := ⟨m, mtxt (m + 1), m + 1 + 1, m + 1 + 1 + 1, m + 1 + 1 + 1 + 1⟩
theorem mark_round (xs : List IT) (i : Nat) (hi : i < xs.length) (hl : xs.length ≤ 2000000) (m : Int) (h0 : 0 < m) (h1 : m ≤ 1000000000) : ∃ K, ∀ k, K ≤ k → laws_markOrderS.l0 (k + 1) xs m i = laws_markOrderS.l0 k (xs.set i (mk m)) (m + 1 + 1 + 1 + 1 + 1) ((i : Int) + 1) := by
  have e1 : wrap64 (m + 1) = m + 1 := w64 (by omega) (by omega)
  have e2 : wrap64 (m + 1 + 1) = m + 1 + 1 := w64 (by omega) (by omega)
  have e3 : wrap64 (m + 1 + 1 + 1) = m + 1 + 1 + 1 := w64 (by omega) (by omega)
  have e4 : wrap64 (m + 1 + 1 + 1 + 1) = m + 1 + 1 + 1 + 1 := w64 (by omega) (by omega)
  have e5 : wrap64 (m + 1 + 1 + 1 + 1 + 1) = m + 1 + 1 + 1 + 1 + 1 := w64 (by omega) (by omega)
  obtain ⟨K1, hK1⟩ := Ev.pick (mtxt_ev (m + 1) (by omega) (by omega))
  refine ⟨K1, fun k hk => ?_⟩
  simp only [laws_markOrderS.l0]
  rw [if_pos (by omega), if_pos (by omega), w64 (x := (i : Int) + 1) (by omega) (by omega)]
  simp only [Option.bind_some, Int.toNat_natCast, rdSet xs i hi, List.set_set, e1, e2, e3, e4, e5, hK1 k (by omega)]
  rfl
theorem mark_ev (l : List IT) (h : l.length ≤ 2000000) : Ev (fun k => laws_markOrderS.f k l 1) (1 + 5 * (l.length : Int), (List.range l.length).map fun i : Nat => mk (1 + 5 * (i : Int))) := by
  refine mark_to l.length 5 1 mk (fun k xs m i => laws_markOrderS.l0 k xs m i) (fun xs i hi hl => ?_) (fun k xs hl => ?_) l rfl
  · obtain ⟨K, hK⟩ := mark_round xs i (by omega) (by omega) (1 + 5 * (i : Int)) (by omega) (by omega)
    refine ⟨K, fun k hk => (hK k hk).trans ?_⟩
    rw [show 1 + 5 * (i : Int) + 1 + 1 + 1 + 1 + 1 = 1 + 5 * ((i + 1 : Nat) : Int) by omega]
  · simp only [laws_markOrderS.l0]
    rw [if_neg (by omega)]

theorem eqInt64S_ev (l : List Int) (h : l.length ≤ 35184372088832) : Ev (fun k => laws_eqInt64S.f k l l) true := by
  refine Ev.congr (f := fun k => laws_eqInt64S.l0 k l l 0) (fun k => by unfold laws_eqInt64S.f; rw [if_pos rfl]) ?_
  refine go_to l.length (fun k i => laws_eqInt64S.l0 k l l i) true (fun i hi => ⟨0, fun k _ => ?_⟩) (Ev.const fun k => ?_)
  · simp only [laws_eqInt64S.l0, if_true]
    rw [if_pos (by omega), if_pos (by omega), if_pos (by omega), w64 (by omega) (by omega)]
  · simp only [laws_eqInt64S.l0]
    rw [if_neg (by omega)]
theorem markInt64S_ev (l : List Int) (h : l.length ≤ 35184372088832) : Ev (fun k => laws_markInt64S.f k l 1) (1 + 1 * (l.length : Int), (List.range l.length).map fun i : Nat => 1 + 1 * (i : Int)) := by
  refine mark_to l.length 1 1 (fun x => x) (fun k xs m i => laws_markInt64S.l0 k xs m i) (fun xs i hi hl => ⟨0, fun k _ => ?_⟩) (fun k xs hl => ?_) l rfl
  · simp only [laws_markInt64S.l0]
    rw [if_pos (by omega), if_pos (by omega), w64 (by omega) (by omega), w64 (by omega) (by omega), Int.toNat_natCast]
    congr 1 <;> omega
  · simp only [laws_markInt64S.l0]
    rw [if_neg (by omega)]
theorem heldInt64S_ev (n : Nat) (h : n ≤ 35184372088832) : Ev (fun k => laws_heldInt64S.f k ((List.range n).map fun i : Nat => 1 + 1 * (i : Int)) 1) (1 + 1 * (n : Int)) := by
  refine held_to n 1 1 (fun k m i => laws_heldInt64S.l0 k ((List.range n).map fun i : Nat => 1 + 1 * (i : Int)) m i) (fun i hi => ⟨0, fun k _ => ?_⟩) (fun k => ?_)
  · simp only [laws_heldInt64S.l0]
    rw [if_pos (by simp; omega), if_pos (by omega), rd_nat _ i (by simpa using hi), if_pos (by simp), w64 (by omega) (by omega), w64 (by omega) (by omega)]
    congr 1 <;> omega
  · simp only [laws_heldInt64S.l0]
    rw [if_neg (by simp)]
theorem markI_ev (l : List Int) (m0 : Int) (h : l.length ≤ 2000000) (h0 : 0 ≤ m0) (h1 : m0 ≤ 1000000000) : Ev (fun k => laws_markInt64S.f k l m0) (m0 + 1 * (l.length : Int), (List.range l.length).map fun i : Nat => m0 + 1 * (i : Int)) := by
  refine mark_to l.length 1 m0 (fun x => x) (fun k xs m i => laws_markInt64S.l0 k xs m i) (fun xs i hi hl => ⟨0, fun k _ => ?_⟩) (fun k xs hl => ?_) l rfl
  · simp only [laws_markInt64S.l0]
    rw [if_pos (by omega), if_pos (by omega), w64 (by omega) (by omega), w64 (by omega) (by omega), Int.toNat_natCast]
    congr 1 <;> omega
  · simp only [laws_markInt64S.l0]
    rw [if_neg (by omega)]
theorem heldI_ev (n : Nat) (m0 : Int) (h : n ≤ 2000000) (h0 : 0 ≤ m0) (h1 : m0 ≤ 1000000000) : Ev (fun k => laws_heldInt64S.f k ((List.range n).map fun i : Nat => m0 + 1 * (i : Int)) m0) (m0 + 1 * (n : Int)) := by
  refine held_to n 1 m0 (fun k m i => laws_heldInt64S.l0 k ((List.range n).map fun i : Nat => m0 + 1 * (i : Int)) m i) (fun i hi => ⟨0, fun k _ => ?_⟩) (fun k => ?_)
  · simp only [laws_heldInt64S.l0]
    rw [if_pos (by simp; omega), if_pos (by omega), rd_nat _ i (by simpa using hi), if_pos (by simp), w64 (by omega) (by omega), w64 (by omega) (by omega)]
    congr 1 <;> omega
  · simp only [laws_heldInt64S.l0]
    rw [if_neg (by simp)]

theorem within_eq (a b c : Int) : impl_within.f a b c = some (decide (b ≤ a ∧ a ≤ c)) := by
  unfold impl_within.f
  by_cases h : a ≥ b
  · rw [if_pos h]; congr 1; apply Bool.eq_iff_iff.mpr; simp; omega
  · rw [if_neg h]; congr 1; apply Bool.eq_iff_iff.mpr; simp; omega

theorem name_loop_impl (s : ByteArray) (h : s.size ≤ 12) : Ev (fun k => impl_IsName.l0 k s 0) ((List.range s.size).all fun i => nameByte (bt s i)) := by
  have := all_lt s.size (fun i => nameByte (bt s i)) (fun k i => impl_IsName.l0 k s i) true false (fun i hi hp => ⟨0, fun k _ => ?_⟩) (fun i hi hp => Ev.const fun k => ?_) (fun _ => Ev.const fun k => ?_)
  · rw [ite_bool] at this
    exact this
  · have hp := of_decide_eq_true hp
    simp only [impl_IsName.l0]
    rw [if_pos (by omega), if_pos (by omega), w64 (by omega) (by omega)]
    repeat' split
    all_goals first | rfl | (exfalso; omega)
  · have hp := of_decide_eq_false hp
    simp only [impl_IsName.l0]
    rw [if_pos (by omega), if_pos (by omega)]
    repeat' split
    all_goals first | rfl | (exfalso; omega)
  · simp only [impl_IsName.l0]
    rw [if_neg (by omega)]
theorem name_impl (s : ByteArray) : Ev (fun k => impl_IsName.f k s) (isNameB s) := by
  unfold isNameB
  by_cases h0 : s.size < 1
  · rw [decide_eq_false (by omega), Bool.false_and]
    refine Ev.const fun k => ?_
    unfold impl_IsName.f
    rw [if_pos (by omega)]
    simp only [impl_IsName.j0, if_true]
  · by_cases h12 : s.size ≤ 12
    · by_cases hs : 97 ≤ bt s 0 ∧ bt s 0 ≤ 122
      · rw [decide_eq_true ⟨by omega, h12, hs⟩, Bool.true_and]
        refine Ev.step (f := fun k => impl_IsName.l0 k s 0) (fun k => ?_) (name_loop_impl s h12)
        simp only [impl_IsName.f]
        rw [if_neg (by omega), if_neg (by omega), if_pos (by omega), if_neg (by omega), decide_eq_false (by omega)]
        simp only [impl_IsName.j0, Bool.false_eq_true, if_false]
      · rw [decide_eq_false (fun h => hs h.2.2), Bool.false_and]
        refine Ev.const fun k => ?_
        simp only [impl_IsName.f]
        rw [if_neg (by omega), if_neg (by omega), if_pos (by omega)]
        by_cases h1 : bt s 0 < 97
        · rw [if_pos h1]
          simp only [impl_IsName.j0, if_true]
        · rw [if_neg h1, decide_eq_true (by omega)]
          simp only [impl_IsName.j0, if_true]
    · rw [decide_eq_false (by omega), Bool.false_and]
      refine Ev.const fun k => ?_
      unfold impl_IsName.f
      rw [if_neg (by omega), if_pos (by omega)]
      simp only [impl_IsName.j0, if_true]

theorem valid_impl (f0 : Int) (f1 : ByteArray) (f2 f3 f4 : Int) : Ev (fun k => impl_validOrder.f k f0 f1 f2 f3 f4) (spec_l24One.v f0 f1 f2 f3 f4) := by
  obtain ⟨K, hK⟩ := Ev.pick (name_impl f1)
  refine Ev.intro K fun k hk => ?_
  unfold impl_validOrder.f spec_l24One.v
  rw [within_eq, within_eq, within_eq, within_eq, hK k hk]
  simp only [Option.bind_some]
  cases decide (1 ≤ f0 ∧ f0 ≤ 9999) <;> cases isNameB f1 <;> cases decide (1 ≤ f2 ∧ f2 ≤ 500) <;> cases decide (0 ≤ f3 ∧ f3 ≤ f2) <;> rfl
theorem ok_impl (l : List IT) (h : l.length ≤ 2000000) : Ev (fun k => impl_ValidOrders.f k l) (ordersOk l) := by
  by_cases h20 : l.length ≤ 20
  · have := all_lt l.length (fits l) (fun k i => impl_ValidOrders.l0 k l l l.length i) true false (fun i hi hp => ?_) (fun i hi hp => ?_) (fun hp => Ev.const fun k => ?_)
    · rw [ite_bool] at this
      unfold ordersOk
      rw [decide_eq_true h20, Bool.and_true]
      refine Ev.congr (fun k => ?_) this
      unfold impl_ValidOrders.f
      rw [if_neg (by omega)]
    · unfold fits at hp
      rw [Bool.and_eq_true] at hp
      obtain ⟨K, hK⟩ := Ev.pick (valid_impl (rd_T49 l i).f0 (rd_T49 l i).f1 (rd_T49 l i).f2 (rd_T49 l i).f3 (rd_T49 l i).f4)
      refine ⟨K, fun k hk => ?_⟩
      simp only [impl_ValidOrders.l0]
      rw [if_pos (by omega), if_pos (by omega), if_pos (by omega), hK k hk, hp.1, w64 (x := (i : Int) + 1) (by omega) (by omega)]
      simp only [Option.bind_some, if_true]
      by_cases h0 : 0 < i
      · have h2 := hp.2
        rw [Bool.or_eq_true] at h2
        have h3 : (rd_T49 l ((i : Int) - 1)).f0 < (rd_T49 l i).f0 := by
          rcases h2 with h2 | h2
          · have := beq_iff_eq.1 h2; omega
          · exact of_decide_eq_true h2
        rw [if_pos (by omega), w64 (x := (i : Int) - 1) (by omega) (by omega), if_pos (by omega), if_pos (by omega), if_neg (by omega)]
      · rw [if_neg (by omega)]
    · unfold fits at hp
      obtain ⟨K, hK⟩ := Ev.pick (valid_impl (rd_T49 l i).f0 (rd_T49 l i).f1 (rd_T49 l i).f2 (rd_T49 l i).f3 (rd_T49 l i).f4)
      refine Ev.intro (K + 1) fun k hk => ?_
      obtain ⟨m, rfl⟩ : ∃ m, k = m + 1 := ⟨k - 1, by omega⟩
      simp only [impl_ValidOrders.l0]
      rw [if_pos (by omega), if_pos (by omega), if_pos (by omega), hK m (by omega)]
      simp only [Option.bind_some]
      cases hv : spec_l24One.v (rd_T49 l i).f0 (rd_T49 l i).f1 (rd_T49 l i).f2 (rd_T49 l i).f3 (rd_T49 l i).f4 with
      | false => simp only [Bool.false_eq_true, if_false]
      | true =>
        rw [hv, Bool.true_and, Bool.or_eq_false_iff] at hp
        have h0 : 0 < i := by
          have := hp.1
          have h4 : i ≠ 0 := by simpa using this
          omega
        have h3 : ¬ (rd_T49 l ((i : Int) - 1)).f0 < (rd_T49 l i).f0 := of_decide_eq_false hp.2
        simp only [if_true]
        rw [if_pos (by omega), w64 (x := (i : Int) - 1) (by omega) (by omega), if_pos (by omega), if_pos (by omega), if_pos (by omega)]
    · simp only [impl_ValidOrders.l0]
      rw [if_neg (by omega)]
  · unfold ordersOk
    rw [decide_eq_false h20, Bool.and_false]
    refine Ev.all fun k => ?_
    unfold impl_ValidOrders.f
    rw [if_pos (by omega)]
theorem ok_one {l : List IT} (h : ordersOk l = true) (i : Nat) (hi : i < l.length) : isNameB l[i].f1 = true ∧ (1 ≤ l[i].f0 ∧ l[i].f0 ≤ 9999) ∧ (1 ≤ l[i].f2 ∧ l[i].f2 ≤ 500) ∧ (0 ≤ l[i].f3 ∧ l[i].f3 ≤ l[i].f2) ∧ (0 ≤ l[i].f4 ∧ l[i].f4 ≤ 2000) := by
  unfold ordersOk at h
  rw [Bool.and_eq_true] at h
  have h2 := all_range.1 h.1 i hi
  unfold fits spec_l24One.v at h2
  rw [rdI l i hi] at h2
  simp only [Bool.and_eq_true, decide_eq_true_eq] at h2
  obtain ⟨⟨⟨⟨⟨a, b⟩, c⟩, d⟩, e⟩, _⟩ := h2
  exact ⟨b, a, c, d, e⟩
theorem ok_len {l : List IT} (h : ordersOk l = true) : l.length ≤ 20 := by
  unfold ordersOk at h
  rw [Bool.and_eq_true] at h
  exact of_decide_eq_true h.2

theorem ok_rd {l : List IT} (h : ordersOk l = true) {i : Int} (h0 : 0 ≤ i) (h1 : i < l.length) : (1 ≤ (rd_T49 l i).f2 ∧ (rd_T49 l i).f2 ≤ 500) ∧ (0 ≤ (rd_T49 l i).f3 ∧ (rd_T49 l i).f3 ≤ (rd_T49 l i).f2) ∧ (0 ≤ (rd_T49 l i).f4 ∧ (rd_T49 l i).f4 ≤ 2000) := by
  obtain ⟨n, rfl⟩ := Int.eq_ofNat_of_zero_le h0
  rw [rdI l n (by omega)]
  obtain ⟨_, _, a, b, c⟩ := ok_one h n (by omega)
  exact ⟨a, b, c⟩

theorem in_eq (a b c : Int) : spec_l00In.f a b c = some (decide (b ≤ a ∧ a ≤ c)) := by
  unfold spec_l00In.f
  by_cases h : a ≥ b
  · rw [if_pos h]; congr 1; apply Bool.eq_iff_iff.mpr; simp; omega
  · rw [if_neg h]; congr 1; apply Bool.eq_iff_iff.mpr; simp; omega

def insR {α : Type} (key : α → Int) (x : α) : List α → List α
  | [] => [x]
  | y :: ys => if key x < key y then y :: insR key x ys else x :: y :: ys
theorem insR_mem {α : Type} (key : α → Int) (x z : α) : ∀ P : List α, z ∈ insR key x P ↔ z = x ∨ z ∈ P
  | [] => by simp [insR]
  | y :: ys => by
    unfold insR
    split
    · rw [List.mem_cons, insR_mem key x z ys, List.mem_cons]
      constructor
      · rintro (h | h | h)
        · exact .inr (.inl h)
        · exact .inl h
        · exact .inr (.inr h)
      · rintro (h | h | h)
        · exact .inr (.inl h)
        · exact .inl h
        · exact .inr (.inr h)
    · exact List.mem_cons
theorem insR_length {α : Type} (key : α → Int) (x : α) : ∀ P : List α, (insR key x P).length = P.length + 1
  | [] => rfl
  | y :: ys => by
    unfold insR
    split
    · simp [insR_length key x ys]
    · rfl
theorem insR_map {α β : Type} (f : α → β) (key : α → Int) (key' : β → Int) (h : ∀ x, key' (f x) = key x) (x : α) : ∀ P : List α, (insR key x P).map f = insR key' (f x) (P.map f)
  | [] => rfl
  | y :: ys => by
    simp only [insR, List.map_cons, h]
    split
    · rw [List.map_cons, insR_map f key key' h x ys]
    · rfl
def keyI (l : List IT) (x : Int) : Int := (rd_T49 l x).f4
def sortI (l : List IT) : Nat → List Int
  | 0 => []
  | i + 1 => insR (keyI l) (i : Int) (sortI l i)
theorem sortI_length (l : List IT) : ∀ i, (sortI l i).length = i
  | 0 => rfl
  | i + 1 => by rw [sortI, insR_length, sortI_length l i]
theorem sortI_mem (l : List IT) : ∀ (i : Nat) z, z ∈ sortI l i → 0 ≤ z ∧ z < i
  | 0, z, h => by simp [sortI] at h
  | i + 1, z, h => by
    rw [sortI, insR_mem] at h
    rcases h with rfl | h
    · omega
    · have := sortI_mem l i z h; omega
def ordI (l : List IT) : List Int := (sortI l l.length).reverse
theorem ordI_length (l : List IT) : (ordI l).length = l.length := by rw [ordI, List.length_reverse, sortI_length]
theorem ordI_get (l : List IT) (i : Nat) (h : i < l.length) : 0 ≤ rd (ordI l) i ∧ rd (ordI l) i < l.length := by
  rw [rd_nat _ i (by rw [ordI_length]; exact h)]
  exact sortI_mem l l.length _ (List.mem_reverse.1 (List.getElem_mem _))
theorem own_eq (xs : List Int) (h : xs.length ≤ 2000000) : spec_l00Own.f xs = some xs := by
  unfold spec_l00Own.f
  simp only [Option.bind_some, List.nil_append]
  rw [if_pos (by rw [List.length_nil]; omega)]
theorem sorted_in (l : List IT) (i : Nat) (hi : i < l.length) (hl : l.length ≤ 100000) (r : List Int) : ∀ (A B : List Int), (∀ y ∈ A, 0 ≤ y ∧ y < l.length) → A.length + B.length ≤ 1000000 →
    Ev (fun k => spec_l24Sorted.l0 k l ((insR (keyI l) (i : Int) A).reverse ++ B) ((i : Int) + 1)) r → Ev (fun k => spec_l24Sorted.l1 k l (A.reverse ++ B) i (A.length : Int)) r := by
  intro A
  induction A with
  | nil =>
    intro B _ hb h
    obtain ⟨K, hK⟩ := Ev.pick h
    refine Ev.intro (K + 1) fun k hk => ?_
    obtain ⟨m, rfl⟩ : ∃ m, k = m + 1 := ⟨k - 1, by omega⟩
    rw [List.length_nil] at hb
    have hh := hK m (by omega)
    simp only [insR, List.reverse_cons, List.reverse_nil, List.nil_append] at hh
    have ht : (([] : List Int).reverse ++ B).take ((([] : List Int).length : Int)).toNat = [] := by simp
    have hd : (([] : List Int).reverse ++ B).drop ((([] : List Int).length : Int)).toNat = B := by simp
    simp only [spec_l24Sorted.l1]
    rw [ht, hd, if_neg (by simp), if_pos (by simp), if_pos (by simp), own_eq [] (by simp)]
    simp only [Option.bind_some]
    rw [if_pos (by simp), if_pos (by simp; omega), w64 (by omega) (by omega)]
    exact hh
  | cons y ys ih =>
    intro B hA hb h
    have hy := hA y (by simp)
    rw [List.length_cons] at hb
    have hlen : ((y :: ys).reverse ++ B).length = ys.length + 1 + B.length := by simp; omega
    have e1 : wrap64 (((y :: ys).length : Int) - 1) = (ys.length : Int) := by rw [List.length_cons, w64 (by omega) (by omega)]; omega
    have hr : rd ((y :: ys).reverse ++ B) (ys.length : Int) = y := by
      rw [rd_nat _ _ (by rw [hlen]; omega)]
      simp
    by_cases c : keyI l i < keyI l y
    · have h2 : Ev (fun k => spec_l24Sorted.l0 k l ((insR (keyI l) (i : Int) ys).reverse ++ (y :: B)) ((i : Int) + 1)) r := by
        simp only [insR, if_pos c, List.reverse_cons, List.append_assoc, List.singleton_append] at h
        exact h
      obtain ⟨K, hK⟩ := Ev.pick (ih (y :: B) (fun z hz => hA z (by simp [hz])) (by rw [List.length_cons]; omega) h2)
      refine Ev.intro (K + 1) fun k hk => ?_
      obtain ⟨m, rfl⟩ : ∃ m, k = m + 1 := ⟨k - 1, by omega⟩
      simp only [spec_l24Sorted.l1]
      rw [e1, hlen, hr, if_pos (by rw [List.length_cons]; omega), if_pos (by omega), if_pos (by omega), if_pos hy.1, if_pos hy.2, if_pos (by omega), if_pos (by omega), if_pos (show (rd_T49 l y).f4 > (rd_T49 l (i : Int)).f4 from c)]
      have := hK m (by omega)
      rw [List.reverse_cons, List.append_assoc, List.singleton_append]
      exact this
    · obtain ⟨K, hK⟩ := Ev.pick h
      refine Ev.intro (K + 1) fun k hk => ?_
      obtain ⟨m, rfl⟩ : ∃ m, k = m + 1 := ⟨k - 1, by omega⟩
      simp only [spec_l24Sorted.l1]
      rw [e1, hlen, hr, if_pos (by rw [List.length_cons]; omega), if_pos (by omega), if_pos (by omega), if_pos hy.1, if_pos hy.2, if_pos (by omega), if_pos (by omega), if_neg (show ¬ (rd_T49 l y).f4 > (rd_T49 l (i : Int)).f4 from c)]
      have ht : ((y :: ys).reverse ++ B).take (((y :: ys).length : Int)).toNat = (y :: ys).reverse := by
        rw [Int.toNat_natCast]
        exact List.take_left' (by simp)
      have hd : ((y :: ys).reverse ++ B).drop (((y :: ys).length : Int)).toNat = B := by
        rw [Int.toNat_natCast]
        exact List.drop_left' (by simp)
      rw [ht, hd, if_pos (by omega), if_pos (by rw [List.length_cons]; omega), own_eq _ (by simp; omega)]
      simp only [Option.bind_some]
      rw [if_pos (by simp; omega), if_pos (by simp; omega), w64 (by omega) (by omega)]
      have := hK m (by omega)
      simp only [insR, if_neg c] at this
      rw [List.reverse_cons (a := (i : Int))] at this
      exact this
theorem sorted_spec (l : List IT) (hl : l.length ≤ 100000) : Ev (fun k => spec_l24Sorted.f k l) (ordI l) := by
  unfold spec_l24Sorted.f
  have key : ∀ (d i : Nat), i + d = l.length → Ev (fun k => spec_l24Sorted.l0 k l (sortI l i).reverse (i : Int)) (ordI l) := by
    intro d
    induction d with
    | zero =>
      intro i hi
      obtain rfl : i = l.length := by omega
      refine Ev.const fun k => ?_
      simp only [spec_l24Sorted.l0]
      rw [if_neg (by omega)]
      rfl
    | succ d ih =>
      intro i hi
      have h1 := ih (i + 1) (by omega)
      rw [sortI] at h1
      have h2 : Ev (fun k => spec_l24Sorted.l0 k l ((insR (keyI l) (i : Int) (sortI l i)).reverse ++ []) ((i : Int) + 1)) (ordI l) := by
        rw [List.append_nil]
        exact h1
      obtain ⟨K, hK⟩ := Ev.pick (sorted_in l i (by omega) hl (ordI l) (sortI l i) [] (fun y hy => by have := sortI_mem l i y hy; omega) (by rw [sortI_length, List.length_nil]; omega) h2)
      refine Ev.intro (K + 1) fun k hk => ?_
      obtain ⟨m, rfl⟩ : ∃ m, k = m + 1 := ⟨k - 1, by omega⟩
      simp only [spec_l24Sorted.l0]
      rw [if_pos (by omega), List.length_reverse]
      have := hK m (by omega)
      rw [List.append_nil] at this
      exact this
  exact key l.length 0 (by omega)
open Go.Sort Go.Proofs in
theorem inner_eq {α : Type} [Inhabited α] (key : α → Int) (lt : α → α → Bool) (hlt : ∀ x y, lt x y = decide (key x < key y)) (x : α) : ∀ (P R : List α) (D : Array α), D = (P.reverse ++ x :: R).toArray → insInner lt 0 P.length D = ((insR key x P).reverse ++ R).toArray := by
  intro P
  induction P with
  | nil =>
    intro R D hD
    subst hD
    rfl
  | cons y ys ih =>
    intro R D hD
    have hD2 : D = (ys.reverse ++ y :: x :: R).toArray := by
      rw [hD, List.reverse_cons, List.append_assoc]
      rfl
    have g1 : D[ys.length + 1]! = x := by
      rw [hD2]
      simp [List.getElem_append]
    have g0 : D[ys.length]! = y := by
      rw [hD2]
      simp [List.getElem_append]
    rw [List.length_cons, insInner, g1, g0, hlt]
    by_cases c : key x < key y
    · rw [decide_eq_true c]
      simp only [Nat.zero_lt_succ, gt_iff_lt, decide_true, Bool.and_self, if_true]
      have hs : swp D (ys.length + 1) ys.length = (ys.reverse ++ x :: (y :: R)).toArray := by
        unfold swp
        rw [g0, g1, hD2]
        simp [List.set_append]
      rw [ih (y :: R) _ hs, insR, if_pos c, List.reverse_cons, List.append_assoc]
      rfl
    · rw [decide_eq_false c, Bool.and_false, insR, if_neg c, hD2]
      simp
open Go.Sort Go.Proofs in
theorem sorted_impl (l : List IT) : sortedIdx l = ordI l := by
  unfold sortedIdx
  by_cases h : 0 < l.length
  · rw [dif_pos h]
    have hk : ∀ x y : Fin l.length, ltOf (idxCmp l) x y = decide (keyI l (x.val : Int) < keyI l (y.val : Int)) := by
      intro x y
      unfold ltOf idxCmp cmpI keyI
      by_cases c1 : (rd_T49 l ((x.val : Nat) : Int)).f4 < (rd_T49 l ((y.val : Nat) : Int)).f4
      · rw [if_pos c1, decide_eq_true c1]; rfl
      · rw [if_neg c1, decide_eq_false c1]
        split <;> rfl
    have key : ∀ (d i : Nat) (D : Array (Fin l.length)), i + d = l.length → D.toList.map (fun i => (i.val : Int)) = (sortI l i).reverse ++ (List.range' i d).map (fun j : Nat => (j : Int)) →
        (@insOuter (Fin l.length) ⟨⟨0, h⟩⟩ (ltOf (idxCmp l)) 0 l.length i D).toList.map (fun i => (i.val : Int)) = ordI l := by
      intro d
      induction d with
      | zero =>
        intro i D hi hD
        obtain rfl : i = l.length := by omega
        unfold insOuter
        rw [if_neg (by omega), hD]
        simp [ordI]
      | succ d ih =>
        intro i D hi hD
        have hlen : D.toList.length = i + 1 + d := by
          have := congrArg List.length hD
          rw [List.length_map, List.length_append, List.length_reverse, sortI_length, List.length_map, List.length_range'] at this
          omega
        have hi2 : i < D.toList.length := by omega
        have hsplit : D.toList = (D.toList.take i) ++ D.toList[i] :: D.toList.drop (i + 1) := by
          rw [List.getElem_cons_drop, List.take_append_drop]
        have hP : (D.toList.take i).map (fun i => (i.val : Int)) = (sortI l i).reverse := by
          rw [List.map_take, hD]
          exact List.take_left' (by rw [List.length_reverse, sortI_length])
        have hR : (D.toList.drop i).map (fun i => (i.val : Int)) = (List.range' i (d + 1)).map (fun j : Nat => (j : Int)) := by
          rw [List.map_drop, hD]
          exact List.drop_left' (by rw [List.length_reverse, sortI_length])
        rw [List.range'_succ, ← List.getElem_cons_drop hi2, List.map_cons, List.map_cons] at hR
        injection hR with hx hR2
        unfold insOuter
        rw [if_pos (by omega)]
        have hin := @inner_eq (Fin l.length) ⟨⟨0, h⟩⟩ (fun x => keyI l (x.val : Int)) (ltOf (idxCmp l)) hk D.toList[i] (D.toList.take i).reverse (D.toList.drop (i + 1)) D (by rw [List.reverse_reverse, ← hsplit])
        have hpl : (D.toList.take i).reverse.length = i := by
          rw [List.length_reverse, List.length_take]; omega
        rw [hpl] at hin
        rw [hin]
        refine ih (i + 1) _ (by omega) ?_
        rw [List.toList_toArray, List.map_append, hR2, List.map_reverse, insR_map (fun i : Fin l.length => (i.val : Int)) _ (keyI l) (fun _ => rfl), List.map_reverse, hP, List.reverse_reverse, hx, sortI]
    unfold Sort.insertionSort
    refine key (l.length - 1) 1 _ (by omega) ?_
    have e : (Array.ofFn fun i : Fin l.length => i).toList.map (fun i => (i.val : Int)) = (List.range l.length).map (fun j : Nat => (j : Int)) := by
      rw [Array.toList_ofFn, List.map_ofFn]
      apply List.ext_getElem
      · simp
      · intro i h1 h2
        simp
    rw [e, List.range_eq_range']
    obtain ⟨n, hn⟩ : ∃ n, l.length = n + 1 := ⟨l.length - 1, by omega⟩
    rw [hn, List.range'_succ]
    simp [sortI, insR]
  · rw [dif_neg h]
    have : l.length = 0 := by omega
    rw [ordI, this]
    rfl
theorem work_order (l : List IT) (h : l.length ≤ 20) : impl_workOrder.f l = some (ordI l) := by
  unfold impl_workOrder.f
  rw [if_pos h, sorted_impl]

theorem ordI_mem {l : List IT} {x : Int} (h : x ∈ ordI l) : 0 ≤ x ∧ x < l.length := sortI_mem l l.length x (List.mem_reverse.1 h)

def codeOf (l : List IT) (t p : Int) : Int := if ordersOk l = true then (if 0 ≤ t ∧ t ≤ 2000 then (if 1 ≤ p ∧ p ≤ 500 then 0 else 2) else 2) else 1
theorem codeOf_zero {l : List IT} {t p : Int} (h : codeOf l t p = 0) : ordersOk l = true ∧ (0 ≤ t ∧ t ≤ 2000) ∧ (1 ≤ p ∧ p ≤ 500) := by
  unfold codeOf at h
  split at h
  · split at h
    · split at h
      · exact ⟨by assumption, by assumption, by assumption⟩
      · simp at h
    · simp at h
  · simp at h
theorem code_spec (l : List IT) (t p : Int) : spec_l24Code.f l t p = some (codeOf l t p) := by
  unfold spec_l24Code.f spec_l24Ok.f spec_l24Hours.f codeOf
  rw [in_eq, in_eq]
  simp only [Option.bind_some]
  cases ordersOk l with
  | false => simp
  | true =>
    simp only [if_true]
    by_cases h1 : 0 ≤ t ∧ t ≤ 2000
    · by_cases h2 : 1 ≤ p ∧ p ≤ 500
      · rw [decide_eq_true h1, decide_eq_true h2]; simp [h1, h2]
      · rw [decide_eq_true h1, decide_eq_false h2]; simp [h1, h2]
    · rw [decide_eq_false h1]; simp [h1]
theorem code_impl (l : List IT) (t p : Int) (hl : l.length ≤ 2000000) : Ev (fun k => impl_loftCode.f k l t p) (codeOf l t p) := by
  obtain ⟨K, hK⟩ := Ev.pick (ok_impl l hl)
  refine Ev.intro K fun k hk => ?_
  unfold impl_loftCode.f codeOf
  rw [hK k hk, within_eq, within_eq]
  simp only [Option.bind_some]
  cases ordersOk l with
  | false => simp
  | true =>
    simp only [if_true]
    by_cases h1 : 0 ≤ t ∧ t ≤ 2000
    · by_cases h2 : 1 ≤ p ∧ p ≤ 500
      · rw [decide_eq_true h1, decide_eq_true h2]; simp [h1, h2]
      · rw [decide_eq_true h1, decide_eq_false h2]; simp [h1, h2]
    · rw [decide_eq_false h1]; simp [h1]

def leftI (l : List IT) (i : Int) : Int := (rd_T49 l i).f2 - (rd_T49 l i).f3
def dayStep (l : List IT) (t p : Int) (s : List Int × Int) (i : Int) : List Int × Int :=
  if leftI l i > 0 then ((s.1.set i.toNat t).set i.toNat (t + (s.2 + leftI l i - 1) / p), s.2 + leftI l i) else (s.1.set i.toNat t, s.2)
def daySt (l : List IT) (t p : Int) (i : Nat) : List Int × Int := ((ordI l).take i).foldl (dayStep l t p) (List.replicate l.length 0, 0)
def daysOf (l : List IT) (t p : Int) : List Int := (daySt l t p l.length).1
theorem daySt_succ (l : List IT) (t p : Int) (i : Nat) (h : i < l.length) : daySt l t p (i + 1) = dayStep l t p (daySt l t p i) ((ordI l)[i]'(by rw [ordI_length]; exact h)) := by
  unfold daySt
  rw [List.take_succ_eq_append_getElem (by rw [ordI_length]; exact h), List.foldl_append]
  rfl
theorem daySt_length (l : List IT) (t p : Int) (i : Nat) (h : i ≤ l.length) : (daySt l t p i).1.length = l.length := by
  induction i with
  | zero => simp [daySt]
  | succ i ih =>
    rw [daySt_succ l t p i (by omega)]
    unfold dayStep
    split <;> simp [ih (by omega)]
theorem daysOf_length (l : List IT) (t p : Int) : (daysOf l t p).length = l.length := daySt_length l t p l.length (Nat.le_refl _)
theorem left_bound {l : List IT} (hok : ordersOk l = true) {i : Int} (h0 : 0 ≤ i) (h1 : i < l.length) : 0 ≤ leftI l i ∧ leftI l i ≤ 500 := by
  have := ok_rd hok h0 h1
  unfold leftI
  omega
theorem daySt_bound {l : List IT} (hok : ordersOk l = true) (t p : Int) (i : Nat) (h : i ≤ l.length) : 0 ≤ (daySt l t p i).2 ∧ (daySt l t p i).2 ≤ 500 * i := by
  induction i with
  | zero => simp [daySt]
  | succ i ih =>
    have hm := ordI_mem (List.getElem_mem (l := ordI l) (n := i) (by rw [ordI_length]; omega))
    have hb := left_bound hok hm.1 hm.2
    have := ih (by omega)
    rw [daySt_succ l t p i (by omega)]
    unfold dayStep
    split
    · show 0 ≤ _ + _ ∧ _ + _ ≤ _
      omega
    · show 0 ≤ (daySt l t p i).2 ∧ (daySt l t p i).2 ≤ _
      omega
theorem div_small {a p : Int} (h0 : 0 ≤ a) (h1 : a ≤ 1000000) (hp : 1 ≤ p) : 0 ≤ a / p ∧ a / p ≤ 1000000 := by
  refine ⟨Int.ediv_nonneg h0 (by omega), Int.le_trans (Int.ediv_le_self p h0) h1⟩
theorem days_spec (l : List IT) (t p : Int) (hok : ordersOk l = true) (ht : 0 ≤ t ∧ t ≤ 2000) (hp : 1 ≤ p ∧ p ≤ 500) : Ev (fun k => spec_l24Days.f k l t p) (daysOf l t p) := by
  have h20 := ok_len hok
  have hn := ordI_length l
  have hlen : (((ordI l).length : Nat) : Int) = (l.length : Int) := by rw [hn]
  obtain ⟨J, hJ⟩ := Ev.pick (sorted_spec l (by omega))
  have := for_to l.length (fun k (s : List Int × Int) i => spec_l24Days.l0 k l t p s.1 (ordI l) s.2 i) (daySt l t p) (daysOf l t p) (fun i hi => ⟨0, fun k _ => ?_⟩) (Ev.const fun k => ?_) l.length 0 (by omega)
  · obtain ⟨K, hK⟩ := Ev.pick this
    refine Ev.intro (J + K) fun k hk => ?_
    unfold spec_l24Days.f
    rw [if_pos (by omega), if_pos (by omega), hJ k (by omega)]
    simp only [Option.bind_some]
    rw [Int.toNat_natCast]
    exact hK k (by omega)
  · have hi' : i < (ordI l).length := by omega
    have hm := ordI_mem (List.getElem_mem hi')
    have hb := left_bound hok hm.1 hm.2
    have hd := daySt_bound hok t p i (by omega)
    have hL := daySt_length l t p i (by omega)
    rw [daySt_succ l t p i hi]
    have e1 : wrap64 ((rd_T49 l (ordI l)[i]).f2 - (rd_T49 l (ordI l)[i]).f3) = leftI l (ordI l)[i] := by
      unfold leftI at hb
      rw [w64 (by omega) (by omega)]
      rfl
    have e2 : wrap64 ((daySt l t p i).2 + leftI l (ordI l)[i]) = (daySt l t p i).2 + leftI l (ordI l)[i] := w64 (by omega) (by omega)
    simp only [spec_l24Days.l0]
    rw [if_pos (by omega), if_pos (by omega), rd_nat _ i hi', if_pos hm.1, if_pos hm.2, if_pos (by rw [hL]; exact hm.2)]
    simp only [Option.bind_some]
    rw [e1, e2, w64 (x := (i : Int) + 1) (by omega) (by omega)]
    unfold dayStep
    by_cases c : leftI l (ordI l)[i] > 0
    · have hq := div_small (a := (daySt l t p i).2 + leftI l (ordI l)[i] - 1) (p := p) (by omega) (by omega) hp.1
      rw [if_pos c, if_pos c, if_neg (by omega), w64 (x := (daySt l t p i).2 + leftI l (ordI l)[i] - 1) (by omega) (by omega), tdiv_nn (by omega), w64 (x := _ / p) (by omega) (by omega), w64 (x := t + _) (by omega) (by omega)]
    · have hz : leftI l (ordI l)[i] = 0 := by omega
      rw [if_neg c, if_neg c, hz, Int.add_zero]
  · simp only [spec_l24Days.l0]
    rw [if_neg (by omega)]
    rfl
theorem days_impl (l : List IT) (t p : Int) (hok : ordersOk l = true) (ht : 0 ≤ t ∧ t ≤ 2000) (hp : 1 ≤ p ∧ p ≤ 500) : Ev (fun k => impl_daysOfOrders.f k l t p) (daysOf l t p) := by
  have h20 := ok_len hok
  have hn := ordI_length l
  have hlen : (((ordI l).length : Nat) : Int) = (l.length : Int) := by rw [hn]
  have := for_to l.length (fun k (s : List Int × Int) i => impl_daysOfOrders.l0 k l t p s.1 s.2 (ordI l) ((ordI l).length : Int) i) (daySt l t p) (daysOf l t p) (fun i hi => ⟨0, fun k _ => ?_⟩) (Ev.const fun k => ?_) l.length 0 (by omega)
  · obtain ⟨K, hK⟩ := Ev.pick this
    refine Ev.intro K fun k hk => ?_
    unfold impl_daysOfOrders.f
    rw [if_pos (by omega), if_pos (by omega), work_order l h20]
    simp only [Option.bind_some]
    rw [Int.toNat_natCast]
    exact hK k (by omega)
  · have hi' : i < (ordI l).length := by omega
    have hm := ordI_mem (List.getElem_mem hi')
    have hb := left_bound hok hm.1 hm.2
    have hd := daySt_bound hok t p i (by omega)
    have hL := daySt_length l t p i (by omega)
    rw [daySt_succ l t p i hi]
    have e1 : wrap64 ((rd_T49 l (ordI l)[i]).f2 - (rd_T49 l (ordI l)[i]).f3) = leftI l (ordI l)[i] := by
      unfold leftI at hb
      rw [w64 (by omega) (by omega)]
      rfl
    have e2 : wrap64 ((daySt l t p i).2 + leftI l (ordI l)[i]) = (daySt l t p i).2 + leftI l (ordI l)[i] := w64 (by omega) (by omega)
    simp only [impl_daysOfOrders.l0, impl_hoursLeft.f]
    rw [if_pos (by omega), if_pos (by omega), if_pos (by omega), rd_nat _ i hi', if_pos hm.1, if_pos (by rw [hL]; exact hm.2)]
    simp only [Option.bind_some]
    rw [if_pos hm.2, e1, e2, w64 (x := (i : Int) + 1) (by omega) (by omega)]
    unfold dayStep
    by_cases c : leftI l (ordI l)[i] > 0
    · have hq := div_small (a := (daySt l t p i).2 + leftI l (ordI l)[i] - 1) (p := p) (by omega) (by omega) hp.1
      rw [if_pos c, if_pos c, if_neg (by omega), w64 (x := (daySt l t p i).2 + leftI l (ordI l)[i] - 1) (by omega) (by omega), tdiv_nn (by omega), w64 (x := _ / p) (by omega) (by omega), w64 (x := t + _) (by omega) (by omega)]
    · rw [if_neg c, if_neg c]
  · simp only [impl_daysOfOrders.l0]
    rw [if_neg (by omega)]
    rfl

def daysAns (l : List IT) (t p : Int) : List Int × Int := if codeOf l t p = 0 then (daysOf l t p, 0) else ([], codeOf l t p)
theorem daysAns_length (l : List IT) (t p : Int) : (daysAns l t p).1.length ≤ 20 := by
  unfold daysAns
  split
  · rename_i c
    have := ok_len (codeOf_zero c).1
    show (daysOf l t p).length ≤ 20
    rw [daysOf_length]; exact this
  · simp
theorem daysall_spec (l : List IT) (t p : Int) : Ev (fun k => spec_DaysOfOrders.f k l t p) (daysAns l t p) := by
  unfold spec_DaysOfOrders.f daysAns
  rw [code_spec]
  simp only [Option.bind_some]
  by_cases c : codeOf l t p = 0
  · simp only [if_pos c]
    obtain ⟨hok, ht, hp⟩ := codeOf_zero c
    obtain ⟨J, hJ⟩ := Ev.pick (days_spec l t p hok ht hp)
    exact Ev.intro J fun k hk => by rw [hJ k hk]; rfl
  · simp only [if_neg c]
    exact Ev.all fun _ => rfl
theorem daysall_impl (l : List IT) (t p : Int) (hl : l.length ≤ 2000000) : Ev (fun k => impl_DaysOfOrders.f k l t p) (daysAns l t p) := by
  obtain ⟨K, hK⟩ := Ev.pick (code_impl l t p hl)
  unfold daysAns
  by_cases c : codeOf l t p = 0
  · obtain ⟨hok, ht, hp⟩ := codeOf_zero c
    obtain ⟨J, hJ⟩ := Ev.pick (days_impl l t p hok ht hp)
    rw [if_pos c]
    refine Ev.intro (K + J) fun k hk => ?_
    unfold impl_DaysOfOrders.f
    rw [hK k (by omega)]
    simp only [Option.bind_some]
    rw [if_pos c, hJ k (by omega)]
    rfl
  · rw [if_neg c]
    refine Ev.intro K fun k hk => ?_
    unfold impl_DaysOfOrders.f
    rw [hK k (by omega)]
    simp only [Option.bind_some]
    rw [if_neg c]

end FnExactDaysOfOrders_
def G50 (x : S50) : Prop := (Lit.int .i64 x.f0).wf = true ∧ x.f1.size ≤ maxLen ∧ (Lit.int .i64 x.f2).wf = true ∧ (Lit.int .i64 x.f3).wf = true ∧ (Lit.int .i64 x.f4).wf = true
open FnExactDaysOfOrders_ in
theorem FnExactDaysOfOrders : ∀ (l0 : List S50) (a1 : Int) (a2 : Int), (l0.length ≤ maxLen ∧ ∀ x ∈ l0, G50 x) → (Lit.int .i64 a1).wf = true → (Lit.int .i64 a2).wf = true → ∃ k, laws_FnExactDaysOfOrders.f k l0 a1 a2 = some true := by
  intro l0 a1 a2 hl _ _
  obtain ⟨r, hr, hsz⟩ := sz_ev l0 hl.1 hl.2
  obtain ⟨K0, h0⟩ := Ev.pick hsz
  by_cases c : r < 0
  · refine ⟨K0, ?_⟩
    unfold laws_FnExactDaysOfOrders.f
    rw [h0 K0 (Nat.le_refl _)]
    simp only [Option.bind_some]
    rw [if_pos c]
  · have hn : l0.length ≤ 1048576 := by omega
    have hm : (l0.map conv).length ≤ 2000000 := by rw [List.length_map]; omega
    obtain ⟨K1, h1⟩ := Ev.pick (to_ev l0 hn)
    have h20 := daysAns_length (l0.map conv) a1 a2
    obtain ⟨K2, h2⟩ := Ev.pick (daysall_spec (l0.map conv) a1 a2)
    obtain ⟨K3, h3⟩ := Ev.pick (daysall_impl (l0.map conv) a1 a2 hm)
    obtain ⟨K4, h4⟩ := Ev.pick (eqInt64S_ev (daysAns (l0.map conv) a1 a2).1 (by omega))
    obtain ⟨K5, h5⟩ := Ev.pick (eq_ev (l0.map conv) hm)
    obtain ⟨K6, h6⟩ := Ev.pick (mark_ev (l0.map conv) hm)
    obtain ⟨K7, h7⟩ := Ev.pick (markInt64S_ev (daysAns (l0.map conv) a1 a2).1 (by omega))
    obtain ⟨K8, h8⟩ := Ev.pick (heldInt64S_ev (daysAns (l0.map conv) a1 a2).1.length (by omega))
    have n1 : ¬ (1 + 5 * ((l0.map conv).length : Int) < 0) := by omega
    have n2 : ¬ (1 + 1 * ((daysAns (l0.map conv) a1 a2).1.length : Int) < 0) := by omega
    refine ⟨K0 + K1 + K2 + K3 + K4 + K5 + K6 + K7 + K8 + 10, ?_⟩
    unfold laws_FnExactDaysOfOrders.f
    simp (disch := omega) only [h0, h1, h2, h3, h4, c, Option.bind_some, if_true, if_false, bne_self_eq_false]
    rw [show K0 + K1 + K2 + K3 + K4 + K5 + K6 + K7 + K8 + 10 = (K0 + K1 + K2 + K3 + K4 + K5 + K6 + K7 + K8 + 9) + 1 from rfl, laws_FnExactDaysOfOrders.j0]
    simp (disch := omega) only [h1, h4, h5, h6, n1, Option.bind_some, if_true, if_false, bne_self_eq_false, Bool.false_eq_true]
    rw [show K0 + K1 + K2 + K3 + K4 + K5 + K6 + K7 + K8 + 9 = (K0 + K1 + K2 + K3 + K4 + K5 + K6 + K7 + K8 + 8) + 1 from rfl, laws_FnExactDaysOfOrders.j1]
    simp (disch := omega) only [h1, h3, h4, h7, h8, n2, Option.bind_some, if_true, if_false, bne_self_eq_false, Bool.false_eq_true]
    rw [show K0 + K1 + K2 + K3 + K4 + K5 + K6 + K7 + K8 + 8 = (K0 + K1 + K2 + K3 + K4 + K5 + K6 + K7 + K8 + 7) + 1 from rfl, laws_FnExactDaysOfOrders.j2]
    simp (disch := omega) only [h8, n2, Option.bind_some, if_true, if_false, Bool.false_eq_true]

end Go.Proofs.Ytedidhfmknhlkaa.Pure
