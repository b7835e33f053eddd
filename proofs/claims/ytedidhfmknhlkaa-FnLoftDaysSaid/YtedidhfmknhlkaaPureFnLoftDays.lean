/- For all bytes: the orders that are drawn hold; each order's day is told by the hours before it, the late ones stand in their order, the next order is the first that has hours left, and the hours for each day are the fewest. -/
import Derived.Test.YtedidhfmknhlkaaQFnLoftDaysx9
import Derived.Test.YtedidhfmknhlkaaBase
namespace Go.Proofs.Ytedidhfmknhlkaa.Pure
open Go.RowKit Go.Proofs.Ytedidhfmknhlkaa.QFnLoftDays Go.Proofs.YtedidhfmknhlkaaW.PrintWords Go.Proofs.YtedidhfmknhlkaaW.PrintLast Go.Proofs.Ytedidhfmknhlkaa.Base
set_option linter.unusedVariables false
set_option linter.unusedSimpArgs false

namespace FnLoftDays_
abbrev IT := S49
theorem rdI (xs : List IT) (i : Nat) (h : i < xs.length) : rd_T49 xs (i : Int) = xs[i] := by
  unfold rd_T49; rw [Int.toNat_natCast, List.getD_eq_getElem?_getD, List.getElem?_eq_getElem h]; rfl
theorem rdSet (xs : List IT) (i : Nat) (h : i < xs.length) (v : IT) : rd_T49 (xs.set i v) (i : Int) = v := by
  rw [rdI _ i (by simpa using h), List.getElem_set_self]
theorem within_eq (a b c : Int) : impl_within.f a b c = some (decide (b ≤ a ∧ a ≤ c)) := by
  unfold impl_within.f
  by_cases h : a ≥ b
  · rw [if_pos h]; congr 1; apply Bool.eq_iff_iff.mpr; simp; omega
  · rw [if_neg h]; congr 1; apply Bool.eq_iff_iff.mpr; simp; omega

theorem name_loop_impl (s : ByteArray) (h : s.size ≤ 12) : Ev (fun k => impl_IsName.l0 k s 0) ((List.range s.size).all fun i => nameByte (bt s i)) := by
  have := all_lt s.size (fun i => nameByte (bt s i)) (fun k i => impl_IsName.l0 k s i) true false (fun i hi hp => ⟨0, fun k _ => ?_⟩) (fun i hi hp => Ev.const fun k => ?_) (fun _ => Ev.const fun k => ?_)
  · rw [ite_bool] at this
    exact this
  · have hp := of_decide_eq_true hp
    simp only [impl_IsName.l0]
    rw [if_pos (by omega), if_pos (by omega), w64 (by omega) (by omega)]
    repeat' split
    all_goals first | rfl | (exfalso; omega)
  · have hp := of_decide_eq_false hp
    simp only [impl_IsName.l0]
    rw [if_pos (by omega), if_pos (by omega)]
    repeat' split
    all_goals first | rfl | (exfalso; omega)
  · simp only [impl_IsName.l0]
    rw [if_neg (by omega)]
theorem name_impl (s : ByteArray) : Ev (fun k => impl_IsName.f k s) (isNameB s) := by
  unfold isNameB
  by_cases h0 : s.size < 1
  · rw [decide_eq_false (by omega), Bool.false_and]
    refine Ev.const fun k => ?_
    unfold impl_IsName.f
    rw [if_pos (by omega)]
    simp only [impl_IsName.j0, if_true]
  · by_cases h12 : s.size ≤ 12
    · by_cases hs : 97 ≤ bt s 0 ∧ bt s 0 ≤ 122
      · rw [decide_eq_true ⟨by omega, h12, hs⟩, Bool.true_and]
        refine Ev.step (f := fun k => impl_IsName.l0 k s 0) (fun k => ?_) (name_loop_impl s h12)
        simp only [impl_IsName.f]
        rw [if_neg (by omega), if_neg (by omega), if_pos (by omega), if_neg (by omega), decide_eq_false (by omega)]
        simp only [impl_IsName.j0, Bool.false_eq_true, if_false]
      · rw [decide_eq_false (fun h => hs h.2.2), Bool.false_and]
        refine Ev.const fun k => ?_
        simp only [impl_IsName.f]
        rw [if_neg (by omega), if_neg (by omega), if_pos (by omega)]
        by_cases h1 : bt s 0 < 97
        · rw [if_pos h1]
          simp only [impl_IsName.j0, if_true]
        · rw [if_neg h1, decide_eq_true (by omega)]
          simp only [impl_IsName.j0, if_true]
    · rw [decide_eq_false (by omega), Bool.false_and]
      refine Ev.const fun k => ?_
      unfold impl_IsName.f
      rw [if_neg (by omega), if_pos (by omega)]
      simp only [impl_IsName.j0, if_true]

theorem valid_impl (f0 : Int) (f1 : ByteArray) (f2 f3 f4 : Int) : Ev (fun k => impl_validOrder.f k f0 f1 f2 f3 f4) (spec_l24One.v f0 f1 f2 f3 f4) := by
  obtain ⟨K, hK⟩ := Ev.pick (name_impl f1)
  refine Ev.intro K fun k hk => ?_
  unfold impl_validOrder.f spec_l24One.v
  rw [within_eq, within_eq, within_eq, within_eq, hK k hk]
  simp only [Option.bind_some]
  cases decide (1 ≤ f0 ∧ f0 ≤ 9999) <;> cases isNameB f1 <;> cases decide (1 ≤ f2 ∧ f2 ≤ 500) <;> cases decide (0 ≤ f3 ∧ f3 ≤ f2) <;> rfl
theorem ok_impl (l : List IT) (h : l.length ≤ 2000000) : Ev (fun k => impl_ValidOrders.f k l) (ordersOk l) := by
  by_cases h20 : l.length ≤ 20
  · have := all_lt l.length (fits l) (fun k i => impl_ValidOrders.l0 k l l l.length i) true false (fun i hi hp => ?_) (fun i hi hp => ?_) (fun hp => Ev.const fun k => ?_)
    · rw [ite_bool] at this
      unfold ordersOk
      rw [decide_eq_true h20, Bool.and_true]
      refine Ev.congr (fun k => ?_) this
      unfold impl_ValidOrders.f
      rw [if_neg (by omega)]
    · unfold fits at hp
      rw [Bool.and_eq_true] at hp
      obtain ⟨K, hK⟩ := Ev.pick (valid_impl (rd_T49 l i).f0 (rd_T49 l i).f1 (rd_T49 l i).f2 (rd_T49 l i).f3 (rd_T49 l i).f4)
      refine ⟨K, fun k hk => ?_⟩
      simp only [impl_ValidOrders.l0]
      rw [if_pos (by omega), if_pos (by omega), if_pos (by omega), hK k hk, hp.1, w64 (x := (i : Int) + 1) (by omega) (by omega)]
      simp only [Option.bind_some, if_true]
      by_cases h0 : 0 < i
      · have h2 := hp.2
        rw [Bool.or_eq_true] at h2
        have h3 : (rd_T49 l ((i : Int) - 1)).f0 < (rd_T49 l i).f0 := by
          rcases h2 with h2 | h2
          · have := beq_iff_eq.1 h2; omega
          · exact of_decide_eq_true h2
        rw [if_pos (by omega), w64 (x := (i : Int) - 1) (by omega) (by omega), if_pos (by omega), if_pos (by omega), if_neg (by omega)]
      · rw [if_neg (by omega)]
    · unfold fits at hp
      obtain ⟨K, hK⟩ := Ev.pick (valid_impl (rd_T49 l i).f0 (rd_T49 l i).f1 (rd_T49 l i).f2 (rd_T49 l i).f3 (rd_T49 l i).f4)
      refine Ev.intro (K + 1) fun k hk => ?_
      obtain ⟨m, rfl⟩ : ∃ m, k = m + 1 := ⟨k - 1, by omega⟩
      simp only [impl_ValidOrders.l0]
      rw [if_pos (by omega), if_pos (by omega), if_pos (by omega), hK m (by omega)]
      simp only [Option.bind_some]
      cases hv : spec_l24One.v (rd_T49 l i).f0 (rd_T49 l i).f1 (rd_T49 l i).f2 (rd_T49 l i).f3 (rd_T49 l i).f4 with
      | false => simp only [Bool.false_eq_true, if_false]
      | true =>
        rw [hv, Bool.true_and, Bool.or_eq_false_iff] at hp
        have h0 : 0 < i := by
          have := hp.1
          have h4 : i ≠ 0 := by simpa using this
          omega
        have h3 : ¬ (rd_T49 l ((i : Int) - 1)).f0 < (rd_T49 l i).f0 := of_decide_eq_false hp.2
        simp only [if_true]
        rw [if_pos (by omega), w64 (x := (i : Int) - 1) (by omega) (by omega), if_pos (by omega), if_pos (by omega), if_pos (by omega)]
    · simp only [impl_ValidOrders.l0]
      rw [if_neg (by omega)]
  · unfold ordersOk
    rw [decide_eq_false h20, Bool.and_false]
    refine Ev.all fun k => ?_
    unfold impl_ValidOrders.f
    rw [if_pos (by omega)]
theorem ok_one {l : List IT} (h : ordersOk l = true) (i : Nat) (hi : i < l.length) : isNameB l[i].f1 = true ∧ (1 ≤ l[i].f0 ∧ l[i].f0 ≤ 9999) ∧ (1 ≤ l[i].f2 ∧ l[i].f2 ≤ 500) ∧ (0 ≤ l[i].f3 ∧ l[i].f3 ≤ l[i].f2) ∧ (0 ≤ l[i].f4 ∧ l[i].f4 ≤ 2000) := by
  unfold ordersOk at h
  rw [Bool.and_eq_true] at h
  have h2 := all_range.1 h.1 i hi
  unfold fits spec_l24One.v at h2
  rw [rdI l i hi] at h2
  simp only [Bool.and_eq_true, decide_eq_true_eq] at h2
  obtain ⟨⟨⟨⟨⟨a, b⟩, c⟩, d⟩, e⟩, _⟩ := h2
  exact ⟨b, a, c, d, e⟩
theorem ok_len {l : List IT} (h : ordersOk l = true) : l.length ≤ 20 := by
  unfold ordersOk at h
  rw [Bool.and_eq_true] at h
  exact of_decide_eq_true h.2

theorem ok_rd {l : List IT} (h : ordersOk l = true) {i : Int} (h0 : 0 ≤ i) (h1 : i < l.length) : (1 ≤ (rd_T49 l i).f2 ∧ (rd_T49 l i).f2 ≤ 500) ∧ (0 ≤ (rd_T49 l i).f3 ∧ (rd_T49 l i).f3 ≤ (rd_T49 l i).f2) ∧ (0 ≤ (rd_T49 l i).f4 ∧ (rd_T49 l i).f4 ≤ 2000) := by
  obtain ⟨n, rfl⟩ := Int.eq_ofNat_of_zero_le h0
  rw [rdI l n (by omega)]
  obtain ⟨_, _, a, b, c⟩ := ok_one h n (by omega)
  exact ⟨a, b, c⟩

theorem in_eq (a b c : Int) : spec_l00In.f a b c = some (decide (b ≤ a ∧ a ≤ c)) := by
  unfold spec_l00In.f
  by_cases h : a ≥ b
  · rw [if_pos h]; congr 1; apply Bool.eq_iff_iff.mpr; simp; omega
  · rw [if_neg h]; congr 1; apply Bool.eq_iff_iff.mpr; simp; omega

def insR {α : Type} (key : α → Int) (x : α) : List α → List α
  | [] => [x]
  | y :: ys => if key x < key y then y :: insR key x ys else x :: y :: ys
theorem insR_mem {α : Type} (key : α → Int) (x z : α) : ∀ P : List α, z ∈ insR key x P ↔ z = x ∨ z ∈ P
  | [] => by simp [insR]
  | y :: ys => by
    unfold insR
    split
    · rw [List.mem_cons, insR_mem key x z ys, List.mem_cons]
      constructor
      · rintro (h | h | h)
        · exact .inr (.inl h)
        · exact .inl h
        · exact .inr (.inr h)
      · rintro (h | h | h)
        · exact .inr (.inl h)
        · exact .inl h
        · exact .inr (.inr h)
    · exact List.mem_cons
theorem insR_length {α : Type} (key : α → Int) (x : α) : ∀ P : List α, (insR key x P).length = P.length + 1
  | [] => rfl
  | y :: ys => by
    unfold insR
    split
    · simp [insR_length key x ys]
    · rfl
theorem insR_map {α β : Type} (f : α → β) (key : α → Int) (key' : β → Int) (h : ∀ x, key' (f x) = key x) (x : α) : ∀ P : List α, (insR key x P).map f = insR key' (f x) (P.map f)
  | [] => rfl
  | y :: ys => by
    simp only [insR, List.map_cons, h]
    split
    · rw [List.map_cons, insR_map f key key' h x ys]
    · rfl
def keyI (l : List IT) (x : Int) : Int := (rd_T49 l x).f4
def sortI (l : List IT) : Nat → List Int
  | 0 => []
  | i + 1 => insR (keyI l) (i : Int) (sortI l i)
theorem sortI_length (l : List IT) : ∀ i, (sortI l i).length = i
  | 0 => rfl
  | i + 1 => by rw [sortI, insR_length, sortI_length l i]
theorem sortI_mem (l : List IT) : ∀ (i : Nat) z, z ∈ sortI l i → 0 ≤ z ∧ z < i
  | 0, z, h => by simp [sortI] at h
  | i + 1, z, h => by
    rw [sortI, insR_mem] at h
    rcases h with rfl | h
    · omega
    · have := sortI_mem l i z h; omega
def ordI (l : List IT) : List Int := (sortI l l.length).reverse
theorem ordI_length (l : List IT) : (ordI l).length = l.length := by rw [ordI, List.length_reverse, sortI_length]
theorem ordI_get (l : List IT) (i : Nat) (h : i < l.length) : 0 ≤ rd (ordI l) i ∧ rd (ordI l) i < l.length := by
  rw [rd_nat _ i (by rw [ordI_length]; exact h)]
  exact sortI_mem l l.length _ (List.mem_reverse.1 (List.getElem_mem _))
theorem own_eq (xs : List Int) (h : xs.length ≤ 2000000) : spec_l00Own.f xs = some xs := by
  unfold spec_l00Own.f
  simp only [Option.bind_some, List.nil_append]
  rw [if_pos (by rw [List.length_nil]; omega)]
theorem sorted_in (l : List IT) (i : Nat) (hi : i < l.length) (hl : l.length ≤ 100000) (r : List Int) : ∀ (A B : List Int), (∀ y ∈ A, 0 ≤ y ∧ y < l.length) → A.length + B.length ≤ 1000000 →
    Ev (fun k => spec_l24Sorted.l0 k l ((insR (keyI l) (i : Int) A).reverse ++ B) ((i : Int) + 1)) r → Ev (fun k => spec_l24Sorted.l1 k l (A.reverse ++ B) i (A.length : Int)) r := by
  intro A
  induction A with
  | nil =>
    intro B _ hb h
    obtain ⟨K, hK⟩ := Ev.pick h
    refine Ev.intro (K + 1) fun k hk => ?_
    obtain ⟨m, rfl⟩ : ∃ m, k = m + 1 := ⟨k - 1, by omega⟩
    rw [List.length_nil] at hb
    have hh := hK m (by omega)
    simp only [insR, List.reverse_cons, List.reverse_nil, List.nil_append] at hh
    have ht : (([] : List Int).reverse ++ B).take ((([] : List Int).length : Int)).toNat = [] := by simp
    have hd : (([] : List Int).reverse ++ B).drop ((([] : List Int).length : Int)).toNat = B := by simp
    simp only [spec_l24Sorted.l1]
    rw [ht, hd, if_neg (by simp), if_pos (by simp), if_pos (by simp), own_eq [] (by simp)]
    simp only [Option.bind_some]
    rw [if_pos (by simp), if_pos (by simp; omega), w64 (by omega) (by omega)]
    exact hh
  | cons y ys ih =>
    intro B hA hb h
    have hy := hA y (by simp)
    rw [List.length_cons] at hb
    have hlen : ((y :: ys).reverse ++ B).length = ys.length + 1 + B.length := by simp; omega
    have e1 : wrap64 (((y :: ys).length : Int) - 1) = (ys.length : Int) := by rw [List.length_cons, w64 (by omega) (by omega)]; omega
    have hr : rd ((y :: ys).reverse ++ B) (ys.length : Int) = y := by
      rw [rd_nat _ _ (by rw [hlen]; omega)]
      simp
    by_cases c : keyI l i < keyI l y
    · have h2 : Ev (fun k => spec_l24Sorted.l0 k l ((insR (keyI l) (i : Int) ys).reverse ++ (y :: B)) ((i : Int) + 1)) r := by
        simp only [insR, if_pos c, List.reverse_cons, List.append_assoc, List.singleton_append] at h
        exact h
      obtain ⟨K, hK⟩ := Ev.pick (ih (y :: B) (fun z hz => hA z (by simp [hz])) (by rw [List.length_cons]; omega) h2)
      refine Ev.intro (K + 1) fun k hk => ?_
      obtain ⟨m, rfl⟩ : ∃ m, k = m + 1 := ⟨k - 1, by omega⟩
      simp only [spec_l24Sorted.l1]
      rw [e1, hlen, hr, if_pos (by rw [List.length_cons]; omega), if_pos (by omega), if_pos (by omega), if_pos hy.1, if_pos hy.2, if_pos (by omega), if_pos (by omega), if_pos (show (rd_T49 l y).f4 > (rd_T49 l (i : Int)).f4 from c)]
      have := hK m (by omega)
      rw [List.reverse_cons, List.append_assoc, List.singleton_append]
      exact this
    · obtain ⟨K, hK⟩ := Ev.pick h
      refine Ev.intro (K + 1) fun k hk => ?_
      obtain ⟨m, rfl⟩ : ∃ m, k = m + 1 := ⟨k - 1, by omega⟩
      simp only [spec_l24Sorted.l1]
      rw [e1, hlen, hr, if_pos (by rw [List.length_cons]; omega), if_pos (by omega), if_pos (by omega), if_pos hy.1, if_pos hy.2, if_pos (by omega), if_pos (by omega), if_neg (show ¬ (rd_T49 l y).f4 > (rd_T49 l (i : Int)).f4 from c)]
      have ht : ((y :: ys).reverse ++ B).take (((y :: ys).length : Int)).toNat = (y :: ys).reverse := by
        rw [Int.toNat_natCast]
        exact List.take_left' (by simp)
      have hd : ((y :: ys).reverse ++ B).drop (((y :: ys).length : Int)).toNat = B := by
        rw [Int.toNat_natCast]
        exact List.drop_left' (by simp)
      rw [ht, hd, if_pos (by omega), if_pos (by rw [List.length_cons]; omega), own_eq _ (by simp; omega)]
      simp only [Option.bind_some]
      rw [if_pos (by simp; omega), if_pos (by simp; omega), w64 (by omega) (by omega)]
      have := hK m (by omega)
      simp only [insR, if_neg c] at this
      rw [List.reverse_cons (a := (i : Int))] at this
      exact this
theorem sorted_spec (l : List IT) (hl : l.length ≤ 100000) : Ev (fun k => spec_l24Sorted.f k l) (ordI l) := by
  unfold spec_l24Sorted.f
  have key : ∀ (d i : Nat), i + d = l.length → Ev (fun k => spec_l24Sorted.l0 k l (sortI l i).reverse (i : Int)) (ordI l) := by
    intro d
    induction d with
    | zero =>
      intro i hi
      obtain rfl : i = l.length := by omega
      refine Ev.const fun k => ?_
      simp only [spec_l24Sorted.l0]
      rw [if_neg (by omega)]
      rfl
    | succ d ih =>
      intro i hi
      have h1 := ih (i + 1) (by omega)
      rw [sortI] at h1
      have h2 : Ev (fun k => spec_l24Sorted.l0 k l ((insR (keyI l) (i : Int) (sortI l i)).reverse ++ []) ((i : Int) + 1)) (ordI l) := by
        rw [List.append_nil]
        exact h1
      obtain ⟨K, hK⟩ := Ev.pick (sorted_in l i (by omega) hl (ordI l) (sortI l i) [] (fun y hy => by have := sortI_mem l i y hy; omega) (by rw [sortI_length, List.length_nil]; omega) h2)
      refine Ev.intro (K + 1) fun k hk => ?_
      obtain ⟨m, rfl⟩ : ∃ m, k = m + 1 := ⟨k - 1, by omega⟩
      simp only [spec_l24Sorted.l0]
      rw [if_pos (by omega), List.length_reverse]
      have := hK m (by omega)
      rw [List.append_nil] at this
      exact this
  exact key l.length 0 (by omega)
open Go.Sort Go.Proofs in
theorem inner_eq {α : Type} [Inhabited α] (key : α → Int) (lt : α → α → Bool) (hlt : ∀ x y, lt x y = decide (key x < key y)) (x : α) : ∀ (P R : List α) (D : Array α), D = (P.reverse ++ x :: R).toArray → insInner lt 0 P.length D = ((insR key x P).reverse ++ R).toArray := by
  intro P
  induction P with
  | nil =>
    intro R D hD
    subst hD
    rfl
  | cons y ys ih =>
    intro R D hD
    have hD2 : D = (ys.reverse ++ y :: x :: R).toArray := by
      rw [hD, List.reverse_cons, List.append_assoc]
      rfl
    have g1 : D[ys.length + 1]! = x := by
      rw [hD2]
      simp [List.getElem_append]
    have g0 : D[ys.length]! = y := by
      rw [hD2]
      simp [List.getElem_append]
    rw [List.length_cons, insInner, g1, g0, hlt]
    by_cases c : key x < key y
    · rw [decide_eq_true c]
      simp only [Nat.zero_lt_succ, gt_iff_lt, decide_true, Bool.and_self, if_true]
      have hs : swp D (ys.length + 1) ys.length = (ys.reverse ++ x :: (y :: R)).toArray := by
        unfold swp
        rw [g0, g1, hD2]
        simp [List.set_append]
      rw [ih (y :: R) _ hs, insR, if_pos c, List.reverse_cons, List.append_assoc]
      rfl
    · rw [decide_eq_false c, Bool.and_false, insR, if_neg c, hD2]
      simp
open Go.Sort Go.Proofs in
theorem sorted_impl (l : List IT) : sortedIdx l = ordI l := by
  unfold sortedIdx
  by_cases h : 0 < l.length
  · rw [dif_pos h]
    have hk : ∀ x y : Fin l.length, ltOf (idxCmp l) x y = decide (keyI l (x.val : Int) < keyI l (y.val : Int)) := by
      intro x y
      unfold ltOf idxCmp cmpI keyI
      by_cases c1 : (rd_T49 l ((x.val : Nat) : Int)).f4 < (rd_T49 l ((y.val : Nat) : Int)).f4
      · rw [if_pos c1, decide_eq_true c1]; rfl
      · rw [if_neg c1, decide_eq_false c1]
        split <;> rfl
    have key : ∀ (d i : Nat) (D : Array (Fin l.length)), i + d = l.length → D.toList.map (fun i => (i.val : Int)) = (sortI l i).reverse ++ (List.range' i d).map (fun j : Nat => (j : Int)) →
        (@insOuter (Fin l.length) ⟨⟨0, h⟩⟩ (ltOf (idxCmp l)) 0 l.length i D).toList.map (fun i => (i.val : Int)) = ordI l := by
      intro d
      induction d with
      | zero =>
        intro i D hi hD
        obtain rfl : i = l.length := by omega
        unfold insOuter
        rw [if_neg (by omega), hD]
        simp [ordI]
      | succ d ih =>
        intro i D hi hD
        have hlen : D.toList.length = i + 1 + d := by
          have := congrArg List.length hD
          rw [List.length_map, List.length_append, List.length_reverse, sortI_length, List.length_map, List.length_range'] at this
          omega
        have hi2 : i < D.toList.length := by omega
        have hsplit : D.toList = (D.toList.take i) ++ D.toList[i] :: D.toList.drop (i + 1) := by
          rw [List.getElem_cons_drop, List.take_append_drop]
        have hP : (D.toList.take i).map (fun i => (i.val : Int)) = (sortI l i).reverse := by
          rw [List.map_take, hD]
          exact List.take_left' (by rw [List.length_reverse, sortI_length])
        have hR : (D.toList.drop i).map (fun i => (i.val : Int)) = (List.range' i (d + 1)).map (fun j : Nat => (j : Int)) := by
          rw [List.map_drop, hD]
          exact List.drop_left' (by rw [List.length_reverse, sortI_length])
        rw [List.range'_succ, ← List.getElem_cons_drop hi2, List.map_cons, List.map_cons] at hR
        injection hR with hx hR2
        unfold insOuter
        rw [if_pos (by omega)]
        have hin := @inner_eq (Fin l.length) ⟨⟨0, h⟩⟩ (fun x => keyI l (x.val : Int)) (ltOf (idxCmp l)) hk D.toList[i] (D.toList.take i).reverse (D.toList.drop (i + 1)) D (by rw [List.reverse_reverse, ← hsplit])
        have hpl : (D.toList.take i).reverse.length = i := by
          rw [List.length_reverse, List.length_take]; omega
        rw [hpl] at hin
        rw [hin]
        refine ih (i + 1) _ (by omega) ?_
        rw [List.toList_toArray, List.map_append, hR2, List.map_reverse, insR_map (fun i : Fin l.length => (i.val : Int)) _ (keyI l) (fun _ => rfl), List.map_reverse, hP, List.reverse_reverse, hx, sortI]
    unfold Sort.insertionSort
    refine key (l.length - 1) 1 _ (by omega) ?_
    have e : (Array.ofFn fun i : Fin l.length => i).toList.map (fun i => (i.val : Int)) = (List.range l.length).map (fun j : Nat => (j : Int)) := by
      rw [Array.toList_ofFn, List.map_ofFn]
      apply List.ext_getElem
      · simp
      · intro i h1 h2
        simp
    rw [e, List.range_eq_range']
    obtain ⟨n, hn⟩ : ∃ n, l.length = n + 1 := ⟨l.length - 1, by omega⟩
    rw [hn, List.range'_succ]
    simp [sortI, insR]
  · rw [dif_neg h]
    have : l.length = 0 := by omega
    rw [ordI, this]
    rfl
theorem work_order (l : List IT) (h : l.length ≤ 20) : impl_workOrder.f l = some (ordI l) := by
  unfold impl_workOrder.f
  rw [if_pos h, sorted_impl]

def firstOf (l : List IT) (d : Int × Int) : List Int → Int × Int
  | [] => d
  | i :: is => if (rd_T49 l i).f3 < (rd_T49 l i).f2 then ((rd_T49 l i).f0, 0) else firstOf l d is
def nextAns (l : List IT) : Int × Int := if ordersOk l = true then firstOf l (0, 3) (ordI l) else (0, 1)
theorem first_to (l : List IT) (d : Int × Int) (xs : List Int) (hx : ∀ x ∈ xs, 0 ≤ x ∧ x < l.length) (loop : Nat → Int → Option (Int × Int))
    (yes : ∀ (i : Nat) (h : i < xs.length), (rd_T49 l xs[i]).f3 < (rd_T49 l xs[i]).f2 → Ev (fun k => loop k (i : Int)) ((rd_T49 l xs[i]).f0, 0))
    (no : ∀ (i : Nat) (h : i < xs.length), ¬ (rd_T49 l xs[i]).f3 < (rd_T49 l xs[i]).f2 → ∀ k, loop (k + 1) (i : Int) = loop k ((i : Int) + 1))
    (fin : Ev (fun k => loop k (xs.length : Int)) d) : Ev (fun k => loop k 0) (firstOf l d xs) := by
  have key : ∀ (e i : Nat), i + e = xs.length → Ev (fun k => loop k (i : Int)) (firstOf l d (xs.drop i)) := by
    intro e
    induction e with
    | zero =>
      intro i hi
      obtain rfl : i = xs.length := by omega
      rw [List.drop_length]
      exact fin
    | succ e ih =>
      intro i hi
      rw [← List.getElem_cons_drop (by omega), firstOf]
      by_cases c : (rd_T49 l xs[i]).f3 < (rd_T49 l xs[i]).f2
      · rw [if_pos c]
        exact yes i (by omega) c
      · rw [if_neg c]
        exact Ev.step (fun k => no i (by omega) c k) (ih (i + 1) (by omega))
  exact key xs.length 0 (by omega)
theorem ordI_mem {l : List IT} {x : Int} (h : x ∈ ordI l) : 0 ≤ x ∧ x < l.length := sortI_mem l l.length x (List.mem_reverse.1 h)

theorem next_impl (l : List IT) (hl : l.length ≤ 2000000) : Ev (fun k => impl_NextOrder.f k l) (nextAns l) := by
  obtain ⟨J, hJ⟩ := Ev.pick (ok_impl l hl)
  unfold impl_NextOrder.f nextAns
  cases hok : ordersOk l with
  | false => exact Ev.intro J fun k hk => by rw [hJ k hk, hok]; simp
  | true =>
    simp only [if_true]
    have h20 := ok_len hok
    have hn := ordI_length l
    have := first_to l (0, 3) (ordI l) (fun x h => ordI_mem h) (fun k i => impl_NextOrder.l0 k l (ordI l) ((ordI l).length : Int) i) (fun i hi c => Ev.const fun k => ?_) (fun i hi c k => ?_) (Ev.const fun k => ?_)
    · obtain ⟨K, hK⟩ := Ev.pick this
      refine Ev.intro (J + K) fun k hk => ?_
      rw [hJ k (by omega), hok, work_order l h20]
      simp only [Option.bind_some, if_true]
      exact hK k (by omega)
    · have hm := ordI_mem (List.getElem_mem hi)
      have hr := ok_rd hok hm.1 hm.2
      simp only [impl_NextOrder.l0, impl_hoursLeft.f, Option.bind_some]
      rw [if_pos (by omega), if_pos (by omega), if_pos (by omega), rd_nat _ i hi, if_pos hm.1, if_pos hm.2, w64 (by omega) (by omega), if_pos (by omega)]
    · have hm := ordI_mem (List.getElem_mem hi)
      have hr := ok_rd hok hm.1 hm.2
      simp only [impl_NextOrder.l0, impl_hoursLeft.f, Option.bind_some]
      rw [if_pos (by omega), if_pos (by omega), if_pos (by omega), rd_nat _ i hi, if_pos hm.1, if_pos hm.2, w64 (x := _ - _) (by omega) (by omega), if_neg (by omega), w64 (by omega) (by omega)]
    · simp only [impl_NextOrder.l0]
      rw [if_neg (by omega)]

def codeOf (l : List IT) (t p : Int) : Int := if ordersOk l = true then (if 0 ≤ t ∧ t ≤ 2000 then (if 1 ≤ p ∧ p ≤ 500 then 0 else 2) else 2) else 1
theorem codeOf_zero {l : List IT} {t p : Int} (h : codeOf l t p = 0) : ordersOk l = true ∧ (0 ≤ t ∧ t ≤ 2000) ∧ (1 ≤ p ∧ p ≤ 500) := by
  unfold codeOf at h
  split at h
  · split at h
    · split at h
      · exact ⟨by assumption, by assumption, by assumption⟩
      · simp at h
    · simp at h
  · simp at h
theorem code_spec (l : List IT) (t p : Int) : spec_l24Code.f l t p = some (codeOf l t p) := by
  unfold spec_l24Code.f spec_l24Ok.f spec_l24Hours.f codeOf
  rw [in_eq, in_eq]
  simp only [Option.bind_some]
  cases ordersOk l with
  | false => simp
  | true =>
    simp only [if_true]
    by_cases h1 : 0 ≤ t ∧ t ≤ 2000
    · by_cases h2 : 1 ≤ p ∧ p ≤ 500
      · rw [decide_eq_true h1, decide_eq_true h2]; simp [h1, h2]
      · rw [decide_eq_true h1, decide_eq_false h2]; simp [h1, h2]
    · rw [decide_eq_false h1]; simp [h1]
theorem code_impl (l : List IT) (t p : Int) (hl : l.length ≤ 2000000) : Ev (fun k => impl_loftCode.f k l t p) (codeOf l t p) := by
  obtain ⟨K, hK⟩ := Ev.pick (ok_impl l hl)
  refine Ev.intro K fun k hk => ?_
  unfold impl_loftCode.f codeOf
  rw [hK k hk, within_eq, within_eq]
  simp only [Option.bind_some]
  cases ordersOk l with
  | false => simp
  | true =>
    simp only [if_true]
    by_cases h1 : 0 ≤ t ∧ t ≤ 2000
    · by_cases h2 : 1 ≤ p ∧ p ≤ 500
      · rw [decide_eq_true h1, decide_eq_true h2]; simp [h1, h2]
      · rw [decide_eq_true h1, decide_eq_false h2]; simp [h1, h2]
    · rw [decide_eq_false h1]; simp [h1]

def leftI (l : List IT) (i : Int) : Int := (rd_T49 l i).f2 - (rd_T49 l i).f3
def dayStep (l : List IT) (t p : Int) (s : List Int × Int) (i : Int) : List Int × Int :=
  if leftI l i > 0 then ((s.1.set i.toNat t).set i.toNat (t + (s.2 + leftI l i - 1) / p), s.2 + leftI l i) else (s.1.set i.toNat t, s.2)
def daySt (l : List IT) (t p : Int) (i : Nat) : List Int × Int := ((ordI l).take i).foldl (dayStep l t p) (List.replicate l.length 0, 0)
def daysOf (l : List IT) (t p : Int) : List Int := (daySt l t p l.length).1
theorem daySt_succ (l : List IT) (t p : Int) (i : Nat) (h : i < l.length) : daySt l t p (i + 1) = dayStep l t p (daySt l t p i) ((ordI l)[i]'(by rw [ordI_length]; exact h)) := by
  unfold daySt
  rw [List.take_succ_eq_append_getElem (by rw [ordI_length]; exact h), List.foldl_append]
  rfl
theorem daySt_length (l : List IT) (t p : Int) (i : Nat) (h : i ≤ l.length) : (daySt l t p i).1.length = l.length := by
  induction i with
  | zero => simp [daySt]
  | succ i ih =>
    rw [daySt_succ l t p i (by omega)]
    unfold dayStep
    split <;> simp [ih (by omega)]
theorem daysOf_length (l : List IT) (t p : Int) : (daysOf l t p).length = l.length := daySt_length l t p l.length (Nat.le_refl _)
theorem left_bound {l : List IT} (hok : ordersOk l = true) {i : Int} (h0 : 0 ≤ i) (h1 : i < l.length) : 0 ≤ leftI l i ∧ leftI l i ≤ 500 := by
  have := ok_rd hok h0 h1
  unfold leftI
  omega
theorem daySt_bound {l : List IT} (hok : ordersOk l = true) (t p : Int) (i : Nat) (h : i ≤ l.length) : 0 ≤ (daySt l t p i).2 ∧ (daySt l t p i).2 ≤ 500 * i := by
  induction i with
  | zero => simp [daySt]
  | succ i ih =>
    have hm := ordI_mem (List.getElem_mem (l := ordI l) (n := i) (by rw [ordI_length]; omega))
    have hb := left_bound hok hm.1 hm.2
    have := ih (by omega)
    rw [daySt_succ l t p i (by omega)]
    unfold dayStep
    split
    · show 0 ≤ _ + _ ∧ _ + _ ≤ _
      omega
    · show 0 ≤ (daySt l t p i).2 ∧ (daySt l t p i).2 ≤ _
      omega
theorem div_small {a p : Int} (h0 : 0 ≤ a) (h1 : a ≤ 1000000) (hp : 1 ≤ p) : 0 ≤ a / p ∧ a / p ≤ 1000000 := by
  refine ⟨Int.ediv_nonneg h0 (by omega), Int.le_trans (Int.ediv_le_self p h0) h1⟩
theorem days_spec (l : List IT) (t p : Int) (hok : ordersOk l = true) (ht : 0 ≤ t ∧ t ≤ 2000) (hp : 1 ≤ p ∧ p ≤ 500) : Ev (fun k => spec_l24Days.f k l t p) (daysOf l t p) := by
  have h20 := ok_len hok
  have hn := ordI_length l
  have hlen : (((ordI l).length : Nat) : Int) = (l.length : Int) := by rw [hn]
  obtain ⟨J, hJ⟩ := Ev.pick (sorted_spec l (by omega))
  have := for_to l.length (fun k (s : List Int × Int) i => spec_l24Days.l0 k l t p s.1 (ordI l) s.2 i) (daySt l t p) (daysOf l t p) (fun i hi => ⟨0, fun k _ => ?_⟩) (Ev.const fun k => ?_) l.length 0 (by omega)
  · obtain ⟨K, hK⟩ := Ev.pick this
    refine Ev.intro (J + K) fun k hk => ?_
    unfold spec_l24Days.f
    rw [if_pos (by omega), if_pos (by omega), hJ k (by omega)]
    simp only [Option.bind_some]
    rw [Int.toNat_natCast]
    exact hK k (by omega)
  · have hi' : i < (ordI l).length := by omega
    have hm := ordI_mem (List.getElem_mem hi')
    have hb := left_bound hok hm.1 hm.2
    have hd := daySt_bound hok t p i (by omega)
    have hL := daySt_length l t p i (by omega)
    rw [daySt_succ l t p i hi]
    have e1 : wrap64 ((rd_T49 l (ordI l)[i]).f2 - (rd_T49 l (ordI l)[i]).f3) = leftI l (ordI l)[i] := by
      unfold leftI at hb
      rw [w64 (by omega) (by omega)]
      rfl
    have e2 : wrap64 ((daySt l t p i).2 + leftI l (ordI l)[i]) = (daySt l t p i).2 + leftI l (ordI l)[i] := w64 (by omega) (by omega)
    simp only [spec_l24Days.l0]
    rw [if_pos (by omega), if_pos (by omega), rd_nat _ i hi', if_pos hm.1, if_pos hm.2, if_pos (by rw [hL]; exact hm.2)]
    simp only [Option.bind_some]
    rw [e1, e2, w64 (x := (i : Int) + 1) (by omega) (by omega)]
    unfold dayStep
    by_cases c : leftI l (ordI l)[i] > 0
    · have hq := div_small (a := (daySt l t p i).2 + leftI l (ordI l)[i] - 1) (p := p) (by omega) (by omega) hp.1
      rw [if_pos c, if_pos c, if_neg (by omega), w64 (x := (daySt l t p i).2 + leftI l (ordI l)[i] - 1) (by omega) (by omega), tdiv_nn (by omega), w64 (x := _ / p) (by omega) (by omega), w64 (x := t + _) (by omega) (by omega)]
    · have hz : leftI l (ordI l)[i] = 0 := by omega
      rw [if_neg c, if_neg c, hz, Int.add_zero]
  · simp only [spec_l24Days.l0]
    rw [if_neg (by omega)]
    rfl
theorem days_impl (l : List IT) (t p : Int) (hok : ordersOk l = true) (ht : 0 ≤ t ∧ t ≤ 2000) (hp : 1 ≤ p ∧ p ≤ 500) : Ev (fun k => impl_daysOfOrders.f k l t p) (daysOf l t p) := by
  have h20 := ok_len hok
  have hn := ordI_length l
  have hlen : (((ordI l).length : Nat) : Int) = (l.length : Int) := by rw [hn]
  have := for_to l.length (fun k (s : List Int × Int) i => impl_daysOfOrders.l0 k l t p s.1 s.2 (ordI l) ((ordI l).length : Int) i) (daySt l t p) (daysOf l t p) (fun i hi => ⟨0, fun k _ => ?_⟩) (Ev.const fun k => ?_) l.length 0 (by omega)
  · obtain ⟨K, hK⟩ := Ev.pick this
    refine Ev.intro K fun k hk => ?_
    unfold impl_daysOfOrders.f
    rw [if_pos (by omega), if_pos (by omega), work_order l h20]
    simp only [Option.bind_some]
    rw [Int.toNat_natCast]
    exact hK k (by omega)
  · have hi' : i < (ordI l).length := by omega
    have hm := ordI_mem (List.getElem_mem hi')
    have hb := left_bound hok hm.1 hm.2
    have hd := daySt_bound hok t p i (by omega)
    have hL := daySt_length l t p i (by omega)
    rw [daySt_succ l t p i hi]
    have e1 : wrap64 ((rd_T49 l (ordI l)[i]).f2 - (rd_T49 l (ordI l)[i]).f3) = leftI l (ordI l)[i] := by
      unfold leftI at hb
      rw [w64 (by omega) (by omega)]
      rfl
    have e2 : wrap64 ((daySt l t p i).2 + leftI l (ordI l)[i]) = (daySt l t p i).2 + leftI l (ordI l)[i] := w64 (by omega) (by omega)
    simp only [impl_daysOfOrders.l0, impl_hoursLeft.f]
    rw [if_pos (by omega), if_pos (by omega), if_pos (by omega), rd_nat _ i hi', if_pos hm.1, if_pos (by rw [hL]; exact hm.2)]
    simp only [Option.bind_some]
    rw [if_pos hm.2, e1, e2, w64 (x := (i : Int) + 1) (by omega) (by omega)]
    unfold dayStep
    by_cases c : leftI l (ordI l)[i] > 0
    · have hq := div_small (a := (daySt l t p i).2 + leftI l (ordI l)[i] - 1) (p := p) (by omega) (by omega) hp.1
      rw [if_pos c, if_pos c, if_neg (by omega), w64 (x := (daySt l t p i).2 + leftI l (ordI l)[i] - 1) (by omega) (by omega), tdiv_nn (by omega), w64 (x := _ / p) (by omega) (by omega), w64 (x := t + _) (by omega) (by omega)]
    · rw [if_neg c, if_neg c]
  · simp only [impl_daysOfOrders.l0]
    rw [if_neg (by omega)]
    rfl

def isLate (l : List IT) (ds : List Int) (j : Nat) : Bool := decide (rd ds j > (rd_T49 l (j : Int)).f4 ∧ (rd_T49 l (j : Int)).f3 < (rd_T49 l (j : Int)).f2)
def lateSt (l : List IT) (ds : List Int) (i : Nat) : List Int := ((List.range i).filter (isLate l ds)).map fun j : Nat => (rd_T49 l (j : Int)).f0
theorem lateSt_length (l : List IT) (ds : List Int) (i : Nat) : (lateSt l ds i).length ≤ i := by
  unfold lateSt
  rw [List.length_map]
  exact Nat.le_trans (List.length_filter_le _ _) (by simp)
theorem lateSt_succ (l : List IT) (ds : List Int) (i : Nat) : lateSt l ds (i + 1) = lateSt l ds i ++ (if isLate l ds i = true then [(rd_T49 l (i : Int)).f0] else []) := by
  unfold lateSt
  rw [List.range_succ, List.filter_append, List.map_append]
  congr 1
  cases h : isLate l ds i <;> simp [h]
def lateOf (l : List IT) (t p : Int) : List Int := lateSt l (daysOf l t p) l.length
theorem lateOf_length {l : List IT} (hok : ordersOk l = true) (t p : Int) : (lateOf l t p).length ≤ 20 := Nat.le_trans (lateSt_length _ _ _) (ok_len hok)
theorem late_spec (l : List IT) (t p : Int) (hok : ordersOk l = true) (ht : 0 ≤ t ∧ t ≤ 2000) (hp : 1 ≤ p ∧ p ≤ 500) : Ev (fun k => spec_l24Late.f k l t p) (lateOf l t p) := by
  have h20 := ok_len hok
  obtain ⟨J, hJ⟩ := Ev.pick (days_spec l t p hok ht hp)
  have hD := daysOf_length l t p
  unfold lateOf
  revert hJ hD
  generalize daysOf l t p = ds
  intro hJ hD
  have := for_to l.length (fun k (s : List Int) i => spec_l24Late.l0 k l ds s i) (lateSt l ds) (lateSt l ds l.length) (fun i hi => ⟨0, fun k _ => ?_⟩) (Ev.const fun k => ?_) l.length 0 (by omega)
  · obtain ⟨K, hK⟩ := Ev.pick this
    refine Ev.intro (J + K) fun k hk => ?_
    unfold spec_l24Late.f
    rw [hJ k (by omega)]
    simp only [Option.bind_some]
    exact hK k (by omega)
  · have hL := lateSt_length l ds i
    rw [lateSt_succ]
    simp only [spec_l24Late.l0]
    rw [if_pos (by omega), if_pos (by omega), if_pos (by omega), w64 (x := (i : Int) + 1) (by omega) (by omega)]
    by_cases c1 : rd ds (i : Int) > (rd_T49 l (i : Int)).f4
    · by_cases c2 : (rd_T49 l (i : Int)).f3 < (rd_T49 l (i : Int)).f2
      · rw [if_pos c1, if_pos c2, if_pos (by omega), if_pos (by unfold isLate; exact decide_eq_true ⟨c1, c2⟩)]
      · rw [if_pos c1, if_neg c2, if_neg (by unfold isLate; rw [decide_eq_false (fun h => c2 h.2)]; simp), List.append_nil]
    · rw [if_neg c1, if_neg (by unfold isLate; rw [decide_eq_false (fun h => c1 h.1)]; simp), List.append_nil]
  · simp only [spec_l24Late.l0]
    rw [if_neg (by omega)]
theorem late_impl (l : List IT) (t p : Int) (hok : ordersOk l = true) (ht : 0 ≤ t ∧ t ≤ 2000) (hp : 1 ≤ p ∧ p ≤ 500) : Ev (fun k => impl_lateOrders.f k l t p) (lateOf l t p) := by
  have h20 := ok_len hok
  obtain ⟨J, hJ⟩ := Ev.pick (days_impl l t p hok ht hp)
  have hD := daysOf_length l t p
  unfold lateOf
  revert hJ hD
  generalize daysOf l t p = ds
  intro hJ hD
  have := for_to l.length (fun k (s : List Int) i => impl_lateOrders.l0 k l s ds (ds.length : Int) i) (lateSt l ds) (lateSt l ds l.length) (fun i hi => ⟨0, fun k _ => ?_⟩) (Ev.const fun k => ?_) l.length 0 (by omega)
  · obtain ⟨K, hK⟩ := Ev.pick this
    refine Ev.intro (J + K) fun k hk => ?_
    unfold impl_lateOrders.f
    rw [hJ k (by omega)]
    simp only [Option.bind_some]
    exact hK k (by omega)
  · have hL := lateSt_length l ds i
    have hr := ok_rd hok (i := (i : Int)) (by omega) (by omega)
    rw [lateSt_succ]
    simp only [impl_lateOrders.l0, impl_hoursLeft.f, Option.bind_some]
    rw [if_pos (by omega), if_pos (by omega), if_pos (by omega), if_pos (by omega), w64 (x := (i : Int) + 1) (by omega) (by omega), w64 (x := (rd_T49 l (i : Int)).f2 - (rd_T49 l (i : Int)).f3) (by omega) (by omega)]
    by_cases c1 : rd ds (i : Int) > (rd_T49 l (i : Int)).f4
    · by_cases c2 : (rd_T49 l (i : Int)).f3 < (rd_T49 l (i : Int)).f2
      · rw [if_pos (by omega), if_pos c1, if_pos (by omega), if_pos (by unfold isLate; exact decide_eq_true ⟨c1, c2⟩)]
      · rw [if_neg (by omega), if_neg (by unfold isLate; rw [decide_eq_false (fun h => c2 h.2)]; simp), List.append_nil]
    · rw [if_neg (c := rd ds (i : Int) > (rd_T49 l (i : Int)).f4) c1, if_neg (c := isLate l ds i = true) (by unfold isLate; rw [decide_eq_false (fun h => c1 h.1)]; simp), List.append_nil]
      split <;> rfl
  · simp only [impl_lateOrders.l0]
    rw [if_neg (by omega)]

def daysAns (l : List IT) (t p : Int) : List Int × Int := if codeOf l t p = 0 then (daysOf l t p, 0) else ([], codeOf l t p)
theorem daysAns_length (l : List IT) (t p : Int) : (daysAns l t p).1.length ≤ 20 := by
  unfold daysAns
  split
  · rename_i c
    have := ok_len (codeOf_zero c).1
    show (daysOf l t p).length ≤ 20
    rw [daysOf_length]; exact this
  · simp
theorem daysall_impl (l : List IT) (t p : Int) (hl : l.length ≤ 2000000) : Ev (fun k => impl_DaysOfOrders.f k l t p) (daysAns l t p) := by
  obtain ⟨K, hK⟩ := Ev.pick (code_impl l t p hl)
  unfold daysAns
  by_cases c : codeOf l t p = 0
  · obtain ⟨hok, ht, hp⟩ := codeOf_zero c
    obtain ⟨J, hJ⟩ := Ev.pick (days_impl l t p hok ht hp)
    rw [if_pos c]
    refine Ev.intro (K + J) fun k hk => ?_
    unfold impl_DaysOfOrders.f
    rw [hK k (by omega)]
    simp only [Option.bind_some]
    rw [if_pos c, hJ k (by omega)]
    rfl
  · rw [if_neg c]
    refine Ev.intro K fun k hk => ?_
    unfold impl_DaysOfOrders.f
    rw [hK k (by omega)]
    simp only [Option.bind_some]
    rw [if_neg c]

def lateAns (l : List IT) (t p : Int) : List Int × Int := if codeOf l t p = 0 then (lateOf l t p, 0) else ([], codeOf l t p)
theorem lateAns_length (l : List IT) (t p : Int) : (lateAns l t p).1.length ≤ 20 := by
  unfold lateAns
  split
  · rename_i c
    exact lateOf_length (codeOf_zero c).1 t p
  · simp
theorem lateall_spec (l : List IT) (t p : Int) : Ev (fun k => spec_LateOrders.f k l t p) (lateAns l t p) := by
  unfold spec_LateOrders.f lateAns
  rw [code_spec]
  simp only [Option.bind_some]
  by_cases c : codeOf l t p = 0
  · simp only [if_pos c]
    obtain ⟨hok, ht, hp⟩ := codeOf_zero c
    obtain ⟨J, hJ⟩ := Ev.pick (late_spec l t p hok ht hp)
    exact Ev.intro J fun k hk => by rw [hJ k hk]; rfl
  · simp only [if_neg c]
    exact Ev.all fun _ => rfl
theorem lateall_impl (l : List IT) (t p : Int) (hl : l.length ≤ 2000000) : Ev (fun k => impl_LateOrders.f k l t p) (lateAns l t p) := by
  obtain ⟨K, hK⟩ := Ev.pick (code_impl l t p hl)
  unfold lateAns
  by_cases c : codeOf l t p = 0
  · obtain ⟨hok, ht, hp⟩ := codeOf_zero c
    obtain ⟨J, hJ⟩ := Ev.pick (late_impl l t p hok ht hp)
    rw [if_pos c]
    refine Ev.intro (K + J) fun k hk => ?_
    unfold impl_LateOrders.f
    rw [hK k (by omega)]
    simp only [Option.bind_some]
    rw [if_pos c, hJ k (by omega)]
    rfl
  · rw [if_neg c]
    refine Ev.intro K fun k hk => ?_
    unfold impl_LateOrders.f
    rw [hK k (by omega)]
    simp only [Option.bind_some]
    rw [if_neg c]

def scanH (l : List IT) (t : Int) : Nat → Int → Int × Int
  | 0, _ => (0, 3)
  | e + 1, d => if ((lateOf l t d).length : Int) = 0 then (d, 0) else scanH l t e (d + 1)
def eachAns (l : List IT) (t : Int) : Int × Int := if codeOf l t 1 = 0 then scanH l t 500 1 else (0, codeOf l t 1)
theorem scan_impl (l : List IT) (t : Int) (hok : ordersOk l = true) (ht : 0 ≤ t ∧ t ≤ 2000) : ∀ (e : Nat) (d : Int), d + e = 501 → 1 ≤ d → Ev (fun k => impl_HoursEachDay.l0 k l t d) (scanH l t e d) := by
  intro e
  induction e with
  | zero =>
    intro d hd h1
    refine Ev.const fun k => ?_
    simp only [impl_HoursEachDay.l0]
    rw [if_neg (by omega)]
    rfl
  | succ e ih =>
    intro d hd h1
    obtain ⟨J, hJ⟩ := Ev.pick (late_impl l t d hok ht ⟨h1, by omega⟩)
    obtain ⟨K, hK⟩ := Ev.pick (ih (d + 1) (by omega) (by omega))
    refine Ev.intro (J + K + 1) fun k hk => ?_
    obtain ⟨m, rfl⟩ : ∃ m, k = m + 1 := ⟨k - 1, by omega⟩
    simp only [impl_HoursEachDay.l0]
    rw [if_pos (by omega), hJ m (by omega), w64 (x := d + 1) (by omega) (by omega), hK m (by omega)]
    simp only [Option.bind_some, scanH]
    split <;> rfl
theorem each_impl (l : List IT) (t : Int) (hl : l.length ≤ 2000000) : Ev (fun k => impl_HoursEachDay.f k l t) (eachAns l t) := by
  obtain ⟨K, hK⟩ := Ev.pick (code_impl l t 1 hl)
  unfold eachAns
  by_cases c : codeOf l t 1 = 0
  · obtain ⟨hok, ht, _⟩ := codeOf_zero c
    obtain ⟨J, hJ⟩ := Ev.pick (scan_impl l t hok ht 500 1 (by omega) (by omega))
    rw [if_pos c]
    refine Ev.intro (K + J) fun k hk => ?_
    unfold impl_HoursEachDay.f
    rw [hK k (by omega)]
    simp only [Option.bind_some]
    rw [if_pos c]
    exact hJ k (by omega)
  · rw [if_neg c]
    refine Ev.intro K fun k hk => ?_
    unfold impl_HoursEachDay.f
    rw [hK k (by omega)]
    simp only [Option.bind_some]
    rw [if_neg c]

theorem and255 (x : Int) : 0 ≤ Go.bits .and .u64 x 255 ∧ Go.bits .and .u64 x 255 ≤ 255 := by
  unfold Go.bits
  have h : (BitVec.ofInt 64 x &&& BitVec.ofInt 64 255).toNat ≤ 255 := by
    rw [BitVec.toNat_and]
    exact Nat.and_le_right
  have e : IntKind.u64.wrap (((BitVec.ofInt 64 x &&& BitVec.ofInt 64 255).toNat : Nat) : Int) = (((BitVec.ofInt 64 x &&& BitVec.ofInt 64 255).toNat : Nat) : Int) := by
    simp only [IntKind.wrap, IntKind.bits, IntKind.signed, Bool.false_and, Bool.false_eq_true, if_false]
    omega
  show 0 ≤ IntKind.u64.wrap (((BitVec.ofInt 64 x &&& BitVec.ofInt 64 255).toNat : Nat) : Int) ∧ IntKind.u64.wrap (((BitVec.ofInt 64 x &&& BitVec.ofInt 64 255).toNat : Nat) : Int) ≤ 255
  rw [e]
  omega
def Bytes (l : List Int) : Prop := ∀ x ∈ l, 0 ≤ x ∧ x ≤ 255
theorem bytes_wf {l : List Int} (h : ∀ x ∈ l, (Lit.int .u8 x).wf = true) : Bytes l := by
  intro x hx
  have := h x hx
  simp only [Lit.wf, IntKind.min, IntKind.max, IntKind.signed, IntKind.bits, Bool.and_eq_true, decide_eq_true_eq, Bool.false_eq_true, if_false] at this
  omega
theorem bytes_rd {l : List Int} (h : Bytes l) {i : Int} (h0 : 0 ≤ i) (h1 : i < l.length) : 0 ≤ rd l i ∧ rd l i ≤ 255 := by
  obtain ⟨n, rfl⟩ := Int.eq_ofNat_of_zero_le h0
  rw [rd_nat l n (by omega)]
  exact h _ (List.getElem_mem _)
theorem next_ok {l : List Int} (h : Bytes l) (hl : l.length ≤ 3000) (p s : Int) (h0 : 0 ≤ p) (h1 : p ≤ 1000000) : ∃ v s', spec_l00Src_next.f l p s = some (v, p + 1, s') ∧ 0 ≤ v ∧ v ≤ 255 := by
  unfold spec_l00Src_next.f
  rw [w64 (x := p + 1) (by omega) (by omega)]
  by_cases c : p < (l.length : Int)
  · have hb := bytes_rd h h0 c
    rw [if_pos c, if_pos h0, if_pos (by omega)]
    exact ⟨_, _, rfl, by rw [w64 (by omega) (by omega)]; exact hb⟩
  · rw [if_neg c, if_neg (by omega)]
    refine ⟨_, _, rfl, ?_⟩
    have := and255 (IntKind.u64.wrap (IntKind.u64.wrap (IntKind.u64.wrap (s * 6364136223846793005) + 0) + 1442695040888963407) / 1099511627776)
    rw [w64 (by omega) (by omega)]
    exact this
theorem tmod_range {a n : Int} (h0 : 0 ≤ a) (hn : 1 ≤ n) : 0 ≤ Int.tmod a n ∧ Int.tmod a n < n := by
  rw [tmod_nn h0]
  exact ⟨Int.emod_nonneg _ (by omega), Int.emod_lt_of_pos _ (by omega)⟩
theorem pick_ok {l : List Int} (h : Bytes l) (hl : l.length ≤ 3000) (p s n : Int) (h0 : 0 ≤ p) (h1 : p ≤ 999999) (hn : 1 ≤ n) : ∃ r p' s', spec_l00Src_pick.f l p s n = some (r, p', s') ∧ (0 ≤ r ∧ r < n) ∧ p ≤ p' ∧ p' ≤ p + 2 := by
  unfold spec_l00Src_pick.f
  by_cases c : n ≤ 1
  · rw [if_pos c]
    exact ⟨_, _, _, rfl, by omega, by omega, by omega⟩
  · obtain ⟨v, s1, e1, v0, v1⟩ := next_ok h hl p s h0 (by omega)
    rw [if_neg c, e1]
    simp only [Option.bind_some]
    by_cases c2 : n > 200
    · obtain ⟨u, s2, e2, u0, u1⟩ := next_ok h hl (p + 1) s1 (by omega) (by omega)
      rw [if_pos c2, e2]
      simp only [Option.bind_some]
      rw [if_neg (by omega), w64 (x := v * 256) (by omega) (by omega), w64 (x := v * 256 + u) (by omega) (by omega)]
      exact ⟨_, _, _, rfl, tmod_range (by omega) hn, by omega, by omega⟩
    · rw [if_neg c2, if_neg (by omega)]
      exact ⟨_, _, _, rfl, tmod_range v0 hn, by omega, by omega⟩
theorem at_ok {l : List Int} (h : Bytes l) (i n : Int) (h0 : 0 ≤ i) (hn : 1 ≤ n) : ∃ r, laws_a2At.f l i n = some r ∧ 0 ≤ r ∧ r < n := by
  unfold laws_a2At.f
  by_cases c : i ≥ (l.length : Int)
  · rw [if_pos c]
    exact ⟨0, rfl, by omega, by omega⟩
  · have hb := bytes_rd h h0 (show i < l.length by omega)
    rw [if_neg c, if_neg (by omega), if_pos h0, if_pos (by omega), if_neg (by omega), w64 (by omega) (by omega)]
    exact ⟨_, rfl, tmod_range hb.1 hn⟩

def keyLt (l : List IT) (a b : Int) : Prop := keyI l a < keyI l b ∨ (keyI l a = keyI l b ∧ a < b)
theorem keyLt_trans {l : List IT} {a b c : Int} (h : keyLt l a b) (k : keyLt l b c) : keyLt l a c := by
  unfold keyLt at *; omega
theorem keyLt_irr {l : List IT} {a : Int} (h : keyLt l a a) : False := by
  unfold keyLt at h; omega
theorem keyLt_asymm {l : List IT} {a b : Int} (h : keyLt l a b) : ¬ keyLt l b a := by
  unfold keyLt at *; omega
theorem insR_sorted (l : List IT) (i : Int) : ∀ P : List Int, (∀ y ∈ P, y < i) → P.Pairwise (fun a b => keyLt l b a) → (insR (keyI l) i P).Pairwise (fun a b => keyLt l b a)
  | [], _, _ => by simp [insR]
  | y :: ys, hi, hp => by
    have hp2 := List.pairwise_cons.1 hp
    unfold insR
    by_cases c : keyI l i < keyI l y
    · rw [if_pos c]
      refine List.pairwise_cons.2 ⟨fun z hz => ?_, insR_sorted l i ys (fun z hz => hi z (by simp [hz])) hp2.2⟩
      rcases (insR_mem _ _ _ _).1 hz with rfl | h
      · exact .inl c
      · exact hp2.1 z h
    · rw [if_neg c]
      have hy : keyLt l y i := by
        have := hi y (by simp)
        unfold keyLt; omega
      refine List.pairwise_cons.2 ⟨fun z hz => ?_, hp⟩
      rcases List.mem_cons.1 hz with rfl | h
      · exact hy
      · exact keyLt_trans (hp2.1 z h) hy
theorem sortI_sorted (l : List IT) : ∀ i, (sortI l i).Pairwise (fun a b => keyLt l b a)
  | 0 => List.Pairwise.nil
  | i + 1 => insR_sorted l i _ (fun y hy => (sortI_mem l i y hy).2) (sortI_sorted l i)
theorem ordI_sorted (l : List IT) : (ordI l).Pairwise (keyLt l) := List.pairwise_reverse.2 (sortI_sorted l l.length)
theorem insR_sum (f : Int → Int) (key : Int → Int) (x : Int) : ∀ P : List Int, ((insR key x P).map f).sum = f x + (P.map f).sum
  | [] => by simp [insR]
  | y :: ys => by
    unfold insR
    split
    · rw [List.map_cons, List.sum_cons, insR_sum f key x ys, List.map_cons, List.sum_cons]; omega
    · rw [List.map_cons, List.sum_cons]
theorem sortI_sum (l : List IT) (f : Int → Int) : ∀ i, ((sortI l i).map f).sum = ((List.range i).map fun j : Nat => f j).sum
  | 0 => rfl
  | i + 1 => by
    rw [sortI, insR_sum, sortI_sum l f i, List.range_succ, List.map_append, List.sum_append]
    simp; omega
theorem sum_rev : ∀ l : List Int, l.reverse.sum = l.sum
  | [] => rfl
  | x :: xs => by rw [List.reverse_cons, List.sum_append, sum_rev xs]; simp; omega
theorem ordI_sum (l : List IT) (f : Int → Int) : ((ordI l).map f).sum = ((List.range l.length).map fun j : Nat => f j).sum := by
  rw [ordI, List.map_reverse, sum_rev, sortI_sum]
theorem sortI_has (l : List IT) : ∀ (i j : Nat), j < i → (j : Int) ∈ sortI l i
  | 0, j, h => by omega
  | i + 1, j, h => by
    rw [sortI, insR_mem]
    by_cases c : j = i
    · subst c; exact .inl rfl
    · exact .inr (sortI_has l i j (by omega))
theorem ordI_has (l : List IT) (j : Nat) (h : j < l.length) : ∃ (p : Nat) (hp : p < (ordI l).length), (ordI l)[p] = (j : Int) := by
  have := sortI_has l l.length j h
  exact List.getElem_of_mem (List.mem_reverse.2 this)
def befF (l : List IT) (i j : Int) : Int := if keyI l j < keyI l i then leftI l j else if keyI l j = keyI l i then (if j < i then leftI l j else 0) else 0
theorem befF_lt {l : List IT} {i j : Int} (h : keyLt l j i) : befF l i j = leftI l j := by
  unfold keyLt at h
  unfold befF
  by_cases c : keyI l j < keyI l i
  · rw [if_pos c]
  · rw [if_neg c, if_pos (by omega), if_pos (by omega)]
theorem befF_not {l : List IT} {i j : Int} (h : ¬ keyLt l j i) : befF l i j = 0 := by
  unfold keyLt at h
  unfold befF
  rw [if_neg (by omega)]
  by_cases c : keyI l j = keyI l i
  · rw [if_pos c, if_neg (by omega)]
  · rw [if_neg c]
def bsum (l : List IT) (i : Int) (j : Nat) : Int := ((List.range j).map fun k : Nat => befF l i k).sum
theorem bsum_succ (l : List IT) (i : Int) (j : Nat) : bsum l i (j + 1) = bsum l i j + befF l i j := by
  unfold bsum
  rw [List.range_succ, List.map_append, List.sum_append]
  simp
theorem map_sum_eq (f g : Int → Int) : ∀ P : List Int, (∀ x ∈ P, f x = g x) → (P.map f).sum = (P.map g).sum
  | [], _ => rfl
  | x :: xs, h => by
    rw [List.map_cons, List.map_cons, List.sum_cons, List.sum_cons, h x (by simp), map_sum_eq f g xs (fun y hy => h y (by simp [hy]))]
theorem map_sum_zero (f : Int → Int) : ∀ P : List Int, (∀ x ∈ P, f x = 0) → (P.map f).sum = 0
  | [], _ => rfl
  | x :: xs, h => by
    rw [List.map_cons, List.sum_cons, h x (by simp), map_sum_zero f xs (fun y hy => h y (by simp [hy]))]; rfl
theorem map_sum_ge (f : Int → Int) : ∀ P : List Int, (∀ x ∈ P, 0 ≤ f x) → ∀ a ∈ P, f a ≤ (P.map f).sum ∧ 0 ≤ (P.map f).sum
  | [], _, a, ha => by simp at ha
  | x :: xs, h, a, ha => by
    rw [List.map_cons, List.sum_cons]
    have h0 : 0 ≤ (xs.map f).sum := by
      cases xs with
      | nil => simp
      | cons y ys => exact (map_sum_ge f (y :: ys) (fun z hz => h z (by simp [List.mem_cons.1 hz])) y (by simp)).2
    have hx := h x (by simp)
    rcases List.mem_cons.1 ha with rfl | ha
    · omega
    · have := map_sum_ge f xs (fun y hy => h y (by simp [hy])) a ha
      omega
/-- The hours before the order that stands at place p: those of the places before p. -/
theorem bsum_at (l : List IT) (p : Nat) (hp : p < (ordI l).length) : bsum l (ordI l)[p] l.length = (((ordI l).take p).map (leftI l)).sum := by
  unfold bsum
  rw [← ordI_sum l (befF l (ordI l)[p])]
  have hs := List.pairwise_iff_getElem.1 (ordI_sorted l)
  have hsplit : ordI l = (ordI l).take p ++ (ordI l)[p] :: (ordI l).drop (p + 1) := by
    rw [List.getElem_cons_drop, List.take_append_drop]
  have h1 : (((ordI l).take p).map (befF l (ordI l)[p])).sum = (((ordI l).take p).map (leftI l)).sum := by
    refine map_sum_eq _ _ _ fun x hx => befF_lt ?_
    obtain ⟨q, hq, rfl⟩ := List.getElem_of_mem hx
    rw [List.length_take] at hq
    rw [List.getElem_take]
    exact hs q p (by omega) hp (by omega)
  have h2 : (((ordI l)[p] :: (ordI l).drop (p + 1)).map (befF l (ordI l)[p])).sum = 0 := by
    refine map_sum_zero _ _ fun x hx => befF_not ?_
    rcases List.mem_cons.1 hx with rfl | hx
    · exact fun h => keyLt_irr h
    · obtain ⟨q, hq, rfl⟩ := List.getElem_of_mem hx
      rw [List.length_drop] at hq
      rw [List.getElem_drop]
      exact keyLt_asymm (hs p (p + 1 + q) hp (by omega) (by omega))
  have h3 : ((ordI l).map (befF l (ordI l)[p])).sum = (((ordI l).take p).map (befF l (ordI l)[p])).sum + (((ordI l)[p] :: (ordI l).drop (p + 1)).map (befF l (ordI l)[p])).sum := by
    rw [← List.sum_append, ← List.map_append, ← hsplit]
  rw [h3, h1, h2, Int.add_zero]
theorem ordI_inj (l : List IT) (p q : Nat) (hp : p < (ordI l).length) (hq : q < (ordI l).length) (h : (ordI l)[p] = (ordI l)[q]) : p = q := by
  have hs := List.pairwise_iff_getElem.1 (ordI_sorted l)
  by_cases c : p < q
  · have := hs p q hp hq c
    rw [h] at this
    exact (keyLt_irr this).elim
  · by_cases c2 : q < p
    · have := hs q p hq hp c2
      rw [h] at this
      exact (keyLt_irr this).elim
    · omega
def dayV (l : List IT) (t p i b : Int) : Int := if leftI l i > 0 then t + (b + leftI l i - 1) / p else t
theorem rd_set_same (xs : List Int) (i v : Int) (h0 : 0 ≤ i) (h1 : i < xs.length) : rd (xs.set i.toNat v) i = v := by
  obtain ⟨n, rfl⟩ := Int.eq_ofNat_of_zero_le h0
  rw [Int.toNat_natCast, rd_nat _ n (by rw [List.length_set]; omega), List.getElem_set_self]
theorem rd_set_other (xs : List Int) (i j v : Int) (h0 : 0 ≤ i) (k0 : 0 ≤ j) (h : i ≠ j) : rd (xs.set i.toNat v) j = rd xs j := by
  unfold rd
  rw [List.getD_eq_getElem?_getD, List.getD_eq_getElem?_getD, List.getElem?_set_ne (by omega)]
theorem daySt_all (l : List IT) (t p : Int) (hleft : ∀ x ∈ ordI l, 0 ≤ leftI l x) : ∀ i, i ≤ l.length → (daySt l t p i).2 = (((ordI l).take i).map (leftI l)).sum ∧ ∀ q (hq : q < (ordI l).length), q < i → rd (daySt l t p i).1 (ordI l)[q] = dayV l t p (ordI l)[q] (((ordI l).take q).map (leftI l)).sum := by
  intro i
  induction i with
  | zero => intro _; exact ⟨by simp [daySt], fun q _ h => absurd h (Nat.not_lt_zero _)⟩
  | succ i ih =>
    intro hi
    obtain ⟨h1, h2⟩ := ih (by omega)
    have hn := ordI_length l
    have hi' : i < (ordI l).length := by omega
    have hm := ordI_mem (List.getElem_mem hi')
    have hl := hleft _ (List.getElem_mem hi')
    have hL := daySt_length l t p i (by omega)
    rw [daySt_succ l t p i (by omega), List.take_succ_eq_append_getElem hi', List.map_append, List.sum_append, ← h1]
    unfold dayStep
    by_cases c : leftI l (ordI l)[i] > 0
    · rw [if_pos c]
      refine ⟨by simp, fun q hq hqi => ?_⟩
      by_cases e : q = i
      · subst e
        rw [rd_set_same _ _ _ hm.1 (by rw [List.length_set, hL]; exact hm.2), h1, dayV, if_pos c]
      · have hmq := ordI_mem (List.getElem_mem hq)
        have hne : (ordI l)[i] ≠ (ordI l)[q] := fun h => e (ordI_inj l i q hi' hq h).symm
        rw [rd_set_other _ _ _ _ hm.1 hmq.1 hne, rd_set_other _ _ _ _ hm.1 hmq.1 hne]
        exact h2 q hq (by omega)
    · rw [if_neg c]
      have hz : leftI l (ordI l)[i] = 0 := by omega
      refine ⟨by simp [hz], fun q hq hqi => ?_⟩
      by_cases e : q = i
      · subst e
        rw [rd_set_same _ _ _ hm.1 (by rw [hL]; exact hm.2), dayV, if_neg c]
      · have hmq := ordI_mem (List.getElem_mem hq)
        have hne : (ordI l)[i] ≠ (ordI l)[q] := fun h => e (ordI_inj l i q hi' hq h).symm
        rw [rd_set_other _ _ _ _ hm.1 hmq.1 hne]
        exact h2 q hq (by omega)
theorem days_at (l : List IT) (t p : Int) (hok : ordersOk l = true) (i : Nat) (h : i < l.length) : rd (daysOf l t p) i = dayV l t p i (bsum l i l.length) := by
  obtain ⟨q, hq, e⟩ := ordI_has l i h
  have := (daySt_all l t p (fun x hx => (left_bound hok (ordI_mem hx).1 (ordI_mem hx).2).1) l.length (Nat.le_refl _)).2 q hq (by rw [← ordI_length l]; exact hq)
  rw [e] at this
  have hb := bsum_at l q hq
  rw [e] at hb
  rw [hb]
  exact this

theorem lateSt_grow (l : List IT) (ds : List Int) (i : Nat) : ∀ d, ∃ rest, lateSt l ds (i + d) = lateSt l ds i ++ rest
  | 0 => ⟨[], by simp⟩
  | d + 1 => by
    obtain ⟨rest, h⟩ := lateSt_grow l ds i d
    refine ⟨rest ++ (if isLate l ds (i + d) = true then [(rd_T49 l ((i + d : Nat) : Int)).f0] else []), ?_⟩
    rw [show i + (d + 1) = i + d + 1 from rfl, lateSt_succ, h, List.append_assoc]
theorem late_get (l : List IT) (ds : List Int) (i n : Nat) (hi : i < n) (h : isLate l ds i = true) : (lateSt l ds i).length < (lateSt l ds n).length ∧ rd (lateSt l ds n) ((lateSt l ds i).length : Int) = (rd_T49 l (i : Int)).f0 ∧ (lateSt l ds (i + 1)).length = (lateSt l ds i).length + 1 := by
  obtain ⟨d, rfl⟩ : ∃ d, n = i + 1 + d := ⟨n - (i + 1), by omega⟩
  obtain ⟨rest, e⟩ := lateSt_grow l ds (i + 1) d
  have e2 : lateSt l ds (i + 1) = lateSt l ds i ++ [(rd_T49 l (i : Int)).f0] := by rw [lateSt_succ, if_pos h]
  rw [e2, List.append_assoc, List.singleton_append] at e
  have hlt : (lateSt l ds i).length < (lateSt l ds (i + 1 + d)).length := by rw [e]; simp
  refine ⟨hlt, ?_, by rw [e2]; simp⟩
  rw [rd_nat _ _ hlt]
  simp only [e]
  rw [List.getElem_append_right (Nat.le_refl _)]
  simp
def isFirst (l : List IT) (i : Nat) : Prop := leftI l i > 0 ∧ bsum l i l.length = 0
instance (l : List IT) (i : Nat) : Decidable (isFirst l i) := by unfold isFirst; exact inferInstance
def fstSt (l : List IT) : Nat → Int
  | 0 => -1
  | i + 1 => if isFirst l i then (i : Int) else fstSt l i
theorem fstSt_char (l : List IT) : ∀ n, (fstSt l n = -1 ∧ ∀ i, i < n → ¬ isFirst l i) ∨ ∃ a : Nat, fstSt l n = a ∧ a < n ∧ isFirst l a
  | 0 => .inl ⟨rfl, fun i h => absurd h (Nat.not_lt_zero _)⟩
  | n + 1 => by
    unfold fstSt
    by_cases c : isFirst l n
    · rw [if_pos c]
      exact .inr ⟨n, rfl, by omega, c⟩
    · rw [if_neg c]
      rcases fstSt_char l n with ⟨h1, h2⟩ | ⟨a, h1, h2, h3⟩
      · refine .inl ⟨h1, fun i hi => ?_⟩
        by_cases e : i = n
        · subst e; exact c
        · exact h2 i (by omega)
      · exact .inr ⟨a, h1, by omega, h3⟩
theorem firstOf_char (l : List IT) (d : Int × Int) : ∀ xs : List Int, (firstOf l d xs = d ∧ ∀ x ∈ xs, ¬ leftI l x > 0) ∨ ∃ (p : Nat) (hp : p < xs.length), firstOf l d xs = ((rd_T49 l xs[p]).f0, 0) ∧ leftI l xs[p] > 0 ∧ ∀ q (hq : q < xs.length), q < p → ¬ leftI l xs[q] > 0
  | [] => .inl ⟨rfl, by simp⟩
  | x :: xs => by
    unfold firstOf
    by_cases c : (rd_T49 l x).f3 < (rd_T49 l x).f2
    · rw [if_pos c]
      exact .inr ⟨0, by simp, rfl, by show leftI l x > 0; unfold leftI; omega, fun q _ h => absurd h (Nat.not_lt_zero _)⟩
    · rw [if_neg c]
      have hx : ¬ leftI l x > 0 := by unfold leftI; omega
      rcases firstOf_char l d xs with ⟨h1, h2⟩ | ⟨p, hp, h1, h2, h3⟩
      · refine .inl ⟨h1, fun y hy => ?_⟩
        rcases List.mem_cons.1 hy with rfl | hy
        · exact hx
        · exact h2 y hy
      · refine .inr ⟨p + 1, by rw [List.length_cons]; omega, h1, h2, fun q hq hqp => ?_⟩
        cases q with
        | zero => exact hx
        | succ q => exact h3 q (by rw [List.length_cons] at hq; omega) (by omega)
theorem next_char (l : List IT) (hok : ordersOk l = true) : (fstSt l l.length = -1 ∧ nextAns l = (0, 3)) ∨ ∃ a : Nat, fstSt l l.length = a ∧ a < l.length ∧ nextAns l = ((rd_T49 l (a : Int)).f0, 0) := by
  have hn := ordI_length l
  have hle : ∀ x ∈ ordI l, 0 ≤ leftI l x := fun x hx => (left_bound hok (ordI_mem hx).1 (ordI_mem hx).2).1
  unfold nextAns
  rw [if_pos hok]
  rcases fstSt_char l l.length with ⟨h1, h2⟩ | ⟨a, h1, h2, h3⟩
  · refine .inl ⟨h1, ?_⟩
    rcases firstOf_char l (0, 3) (ordI l) with ⟨k1, _⟩ | ⟨p, hp, _, k2, k3⟩
    · exact k1
    · exfalso
      have hm := ordI_mem (List.getElem_mem hp)
      obtain ⟨a, ha⟩ := Int.eq_ofNat_of_zero_le hm.1
      refine h2 a (by omega) ⟨by rw [← ha]; exact k2, ?_⟩
      rw [← ha, bsum_at l p hp]
      refine map_sum_zero _ _ fun x hx => ?_
      obtain ⟨q, hq, rfl⟩ := List.getElem_of_mem hx
      rw [List.length_take] at hq
      rw [List.getElem_take]
      have := k3 q (by omega) (by omega)
      have := hle _ (List.getElem_mem (l := ordI l) (n := q) (by omega))
      omega
  · refine .inr ⟨a, h1, h2, ?_⟩
    obtain ⟨q, hq, e⟩ := ordI_has l a h2
    rcases firstOf_char l (0, 3) (ordI l) with ⟨_, k2⟩ | ⟨p, hp, k1, k2, k3⟩
    · have := k2 _ (List.getElem_mem hq)
      rw [e] at this
      exact absurd h3.1 this
    · have hpq : p = q := by
        by_cases c : q < p
        · have := k3 q hq c
          rw [e] at this
          exact absurd h3.1 this
        · by_cases c2 : p < q
          · have hb := bsum_at l q hq
            rw [e, h3.2] at hb
            have hmem : (ordI l)[p] ∈ (ordI l).take q := by
              rw [List.mem_take_iff_getElem]
              exact ⟨p, by omega, rfl⟩
            have := (map_sum_ge (leftI l) ((ordI l).take q) (fun x hx => hle x (List.mem_of_mem_take hx)) _ hmem).1
            omega
          · omega
      subst hpq
      rw [k1, e]
theorem scanH_char (l : List IT) (t : Int) : ∀ (e : Nat) (d : Int), (scanH l t e d = (0, 3) ∧ ∀ x, d ≤ x → x < d + e → (lateOf l t x).length ≠ 0) ∨ ∃ q, scanH l t e d = (q, 0) ∧ d ≤ q ∧ q < d + e ∧ (lateOf l t q).length = 0 ∧ (d < q → (lateOf l t (q - 1)).length ≠ 0) := by
  intro e
  induction e with
  | zero => intro d; exact .inl ⟨rfl, fun x h1 h2 => by omega⟩
  | succ e ih =>
    intro d
    unfold scanH
    by_cases c : ((lateOf l t d).length : Int) = 0
    · rw [if_pos c]
      exact .inr ⟨d, rfl, by omega, by omega, by omega, fun h => by omega⟩
    · rw [if_neg c]
      rcases ih (d + 1) with ⟨h1, h2⟩ | ⟨q, h1, h2, h3, h4, h5⟩
      · refine .inl ⟨h1, fun x hx1 hx2 => ?_⟩
        by_cases e2 : x = d
        · subst e2; omega
        · exact h2 x (by omega) (by omega)
      · refine .inr ⟨q, h1, by omega, by omega, h4, fun _ => ?_⟩
        by_cases e2 : d + 1 < q
        · exact h5 e2
        · have : q - 1 = d := by omega
          rw [this]; omega

theorem nameN0 : isNameB (⟨#[97, 110, 110, 105, 101]⟩ : ByteArray) = true := by decide
theorem nameN1 : isNameB (⟨#[98, 114, 105, 103, 45, 50]⟩ : ByteArray) = true := by decide
theorem nameN2 : isNameB (⟨#[112, 105, 108, 111, 116]⟩ : ByteArray) = true := by decide
theorem text_ok {b : List Int} (hb : Bytes b) (hl : b.length ≤ 3000) (p s : Int) (h0 : 0 ≤ p) (h1 : p ≤ 999999) (ts : List ByteArray) (hn : 1 ≤ ts.length) : ∃ x p' s', spec_l00Src_text.f b p s ts = some (x, p', s') ∧ x ∈ ts ∧ p ≤ p' ∧ p' ≤ p + 2 := by
  obtain ⟨r, p1, s1, e, hr, hp⟩ := pick_ok hb hl p s ts.length h0 h1 (by omega)
  unfold spec_l00Src_text.f
  rw [e]
  simp only [Option.bind_some]
  rw [if_pos hr.1, if_pos hr.2]
  refine ⟨_, _, _, rfl, ?_, hp.1, hp.2⟩
  obtain ⟨n, rfl⟩ := Int.eq_ofNat_of_zero_le hr.1
  unfold rdOf
  rw [Int.toNat_natCast, List.getD_eq_getElem?_getD, List.getElem?_eq_getElem (by omega)]
  exact List.getElem_mem _
def goodO (x : IT) (lo hi : Int) : Prop := (lo ≤ x.f0 ∧ x.f0 ≤ hi) ∧ isNameB x.f1 = true ∧ (1 ≤ x.f2 ∧ x.f2 ≤ 500) ∧ (0 ≤ x.f3 ∧ x.f3 ≤ x.f2) ∧ (0 ≤ x.f4 ∧ x.f4 ≤ 2000)
theorem new_ok {b : List Int} (hb : Bytes b) (hl : b.length ≤ 3000) (p s id : Int) (h0 : 0 ≤ p) (h1 : p ≤ 900000) (i0 : 1 ≤ id) : ∃ n h d u p' s', spec_l24New.f b p s id = some (id, n, h, d, u, p', s') ∧ goodO ⟨id, n, h, d, u⟩ id id ∧ p ≤ p' ∧ p' ≤ p + 10 := by
  obtain ⟨n, p1, s1, e1, hn, hp1⟩ := text_ok hb hl p s h0 (by omega) [(⟨#[97, 110, 110, 105, 101]⟩ : ByteArray), (⟨#[98, 114, 105, 103, 45, 50]⟩ : ByteArray), (⟨#[112, 105, 108, 111, 116]⟩ : ByteArray)] (by simp)
  obtain ⟨r2, p2, s2, e2, hr2, hp2⟩ := pick_ok hb hl p1 s1 40 (by omega) (by omega) (by omega)
  obtain ⟨r3, p3, s3, e3, hr3, hp3⟩ := pick_ok hb hl p2 s2 2 (by omega) (by omega) (by omega)
  have hname : isNameB n = true := by
    simp only [List.mem_cons, List.mem_nil_iff, or_false] at hn
    rcases hn with rfl | rfl | rfl
    · exact nameN0
    · exact nameN1
    · exact nameN2
  unfold spec_l24New.f spec_l00Src_one.f
  rw [e1]
  simp only [Option.bind_some]
  rw [e2]
  simp only [Option.bind_some]
  rw [e3]
  simp only [Option.bind_some]
  rw [w64 (x := 1 + r2) (by omega) (by omega), w64 (x := 1 + r2 + 1) (by omega) (by omega)]
  cases hc : (r3 == 0) with
  | true =>
    obtain ⟨r4, p4, s4, e4, hr4, hp4⟩ := pick_ok hb hl p3 s3 (1 + r2 + 1) (by omega) (by omega) (by omega)
    obtain ⟨r5, p5, s5, e5, hr5, hp5⟩ := pick_ok hb hl p4 s4 30 (by omega) (by omega) (by omega)
    simp only [if_true]
    rw [e4]
    simp only [Option.bind_some]
    rw [e5]
    simp only [Option.bind_some]
    exact ⟨_, _, _, _, _, _, rfl, ⟨⟨Int.le_refl _, Int.le_refl _⟩, hname, ⟨by show 1 ≤ 1 + r2; omega, by show 1 + r2 ≤ 500; omega⟩, ⟨hr4.1, by show r4 ≤ 1 + r2; omega⟩, ⟨hr5.1, by show r5 ≤ 2000; omega⟩⟩, by omega, by omega⟩
  | false =>
    obtain ⟨r5, p5, s5, e5, hr5, hp5⟩ := pick_ok hb hl p3 s3 30 (by omega) (by omega) (by omega)
    simp only [Bool.false_eq_true, if_false]
    rw [e5]
    simp only [Option.bind_some]
    exact ⟨_, _, _, _, _, _, rfl, ⟨⟨Int.le_refl _, Int.le_refl _⟩, hname, ⟨by show 1 ≤ 1 + r2; omega, by show 1 + r2 ≤ 500; omega⟩, ⟨Int.le_refl 0, by show 0 ≤ 1 + r2; omega⟩, ⟨hr5.1, by show r5 ≤ 2000; omega⟩⟩, by omega, by omega⟩
def goodOs (l : List IT) (hi : Int) : Prop := l.Pairwise (fun a b => a.f0 < b.f0) ∧ ∀ x ∈ l, goodO x 1 hi
theorem orders_ok {l : List IT} (h : goodOs l 9999) (hn : l.length ≤ 20) : ordersOk l = true := by
  unfold ordersOk
  rw [Bool.and_eq_true, decide_eq_true_eq]
  refine ⟨List.all_eq_true.2 fun i hi => ?_, hn⟩
  have hi := List.mem_range.1 hi
  obtain ⟨a, b, c, d, e⟩ := h.2 _ (List.getElem_mem hi)
  unfold fits spec_l24One.v
  rw [rdI l i hi, b, decide_eq_true a, decide_eq_true c, decide_eq_true d, decide_eq_true e]
  simp only [Bool.true_and, Bool.or_eq_true, beq_iff_eq, decide_eq_true_eq]
  by_cases h0 : i = 0
  · exact .inl h0
  · obtain ⟨j, rfl⟩ : ∃ j, i = j + 1 := ⟨i - 1, by omega⟩
    refine .inr ?_
    rw [show ((j + 1 : Nat) : Int) - 1 = (j : Int) by omega, rdI l j (by omega)]
    exact List.pairwise_iff_getElem.1 h.1 j (j + 1) (by omega) hi (by omega)
theorem draw_orders {b : List Int} (hb : Bytes b) (hl : b.length ≤ 3000) : ∀ (n : Nat) (xs : List IT) (id p s : Int), n ≤ 6 → xs.length + n ≤ 6 → goodOs xs (id - 1) → 1 ≤ id → id + 3 * n ≤ 1000 → 0 ≤ p → p + 20 * n ≤ 1000 →
    ∃ r p' s', (goodOs r 9999 ∧ r.length ≤ 6) ∧ Ev (fun k => spec_l24Draw.l0 k xs id (n : Int) b p s) (r, p', s') := by
  intro n
  induction n with
  | zero =>
    intro xs id p s _ hx hg h1 h2 h3 h4
    refine ⟨xs, p, s, ⟨⟨hg.1, fun x hx => ?_⟩, by omega⟩, Ev.const fun k => ?_⟩
    · obtain ⟨a, r⟩ := hg.2 x hx
      exact ⟨by omega, r⟩
    · simp only [spec_l24Draw.l0]
      rw [if_neg (by omega)]
  | succ n ih =>
    intro xs id p s hn hx hg h1 h2 h3 h4
    obtain ⟨nm, h, d, u, p1, s1, e1, hgo, hp1⟩ := new_ok hb hl p s id h3 (by omega) h1
    obtain ⟨r2, p2, s2, e2, hr2, hp2⟩ := pick_ok hb hl p1 s1 3 (by omega) (by omega) (by omega)
    have hg2 : goodOs (xs ++ [(⟨id, nm, h, d, u⟩ : IT)]) (id + (1 + r2) - 1) := by
      refine ⟨List.pairwise_append.2 ⟨hg.1, List.pairwise_singleton _ _, fun a ha c hc => ?_⟩, fun x hx => ?_⟩
      · rw [List.mem_singleton.1 hc]
        have := (hg.2 a ha).1
        show a.f0 < id
        omega
      · rcases List.mem_append.1 hx with hh | hh
        · obtain ⟨a, r⟩ := hg.2 x hh
          exact ⟨by omega, r⟩
        · rw [List.mem_singleton.1 hh]
          obtain ⟨a, r⟩ := hgo
          exact ⟨⟨h1, by show id ≤ _; omega⟩, r⟩
    obtain ⟨r, p', s', hr, hE⟩ := ih (xs ++ [(⟨id, nm, h, d, u⟩ : IT)]) (id + (1 + r2)) p2 s2 (by omega) (by simp; omega) hg2 (by omega) (by omega) (by omega) (by omega)
    obtain ⟨K, hK⟩ := Ev.pick hE
    refine ⟨r, p', s', hr, Ev.intro (K + 1) fun k hk => ?_⟩
    obtain ⟨m, rfl⟩ : ∃ m, k = m + 1 := ⟨k - 1, by omega⟩
    have := hK m (by omega)
    simp only [spec_l24Draw.l0]
    rw [if_pos (by omega), e1]
    simp only [Option.bind_some]
    rw [if_pos (by omega), e2]
    simp only [Option.bind_some]
    rw [w64 (x := 1 + r2) (by omega) (by omega), w64 (x := id + _) (by omega) (by omega), show wrap64 (((n + 1 : Nat) : Int) - 1) = (n : Int) by rw [w64 (by omega) (by omega)]; omega]
    exact this
theorem orders_draw {b : List Int} (hb : Bytes b) (hl : b.length ≤ 3000) : ∃ r, (goodOs r 9999 ∧ r.length ≤ 6) ∧ Ev (fun k => spec_A2Orders.f k b) r := by
  obtain ⟨r1, p1, s1, e1, hr1, hp1⟩ := pick_ok hb hl 0 0 3 (by omega) (by omega) (by omega)
  obtain ⟨r2, p2, s2, e2, hr2, hp2⟩ := pick_ok hb hl p1 s1 7 (by omega) (by omega) (by omega)
  obtain ⟨n, rfl⟩ := Int.eq_ofNat_of_zero_le hr2.1
  obtain ⟨r, p', s', hr, h⟩ := draw_orders hb hl n [] (1 + r1) p2 s2 (by omega) (by simp; omega) ⟨List.Pairwise.nil, by simp⟩ (by omega) (by omega) (by omega) (by omega)
  obtain ⟨K, hK⟩ := Ev.pick h
  refine ⟨r, hr, Ev.intro K fun k hk => ?_⟩
  unfold spec_A2Orders.f spec_l00From.f spec_l24Draw.f
  simp only [Option.bind_some]
  rw [e1]
  simp only [Option.bind_some]
  rw [e2]
  simp only [Option.bind_some]
  rw [w64 (x := 1 + r1) (by omega) (by omega), hK k hk]
  rfl

/-- The last part: the hours for each day. -/
theorem each_last (l : List IT) (t : Int) (hok : ordersOk l = true) (ht : 0 ≤ t ∧ t ≤ 2000) (hl : l.length ≤ 2000000) : Ev (fun k => laws_FnLoftDays.j5 k l t false) true := by
  obtain ⟨K1, h1⟩ := Ev.pick (each_impl l t hl)
  have hc : ∀ p, 1 ≤ p → p ≤ 500 → codeOf l t p = 0 := fun p p0 p1 => by unfold codeOf; rw [if_pos hok, if_pos ht, if_pos ⟨p0, p1⟩]
  have ha : ∀ p, 1 ≤ p → p ≤ 500 → lateAns l t p = (lateOf l t p, 0) := fun p p0 p1 => by unfold lateAns; rw [if_pos (hc p p0 p1)]
  have he : eachAns l t = scanH l t 500 1 := by unfold eachAns; rw [if_pos (hc 1 (by omega) (by omega))]
  rcases scanH_char l t 500 1 with ⟨e1, e2⟩ | ⟨q, e1, q0, q1, q2, q3⟩
  · obtain ⟨K2, h2⟩ := Ev.pick (lateall_spec l t 500)
    have hne := e2 500 (by omega) (by omega)
    refine Ev.intro (K1 + K2 + 1) fun k hk => ?_
    obtain ⟨m, rfl⟩ : ∃ m, k = m + 1 := ⟨k - 1, by omega⟩
    simp only [laws_FnLoftDays.j5, Bool.false_eq_true, if_false]
    rw [h1 m (by omega), he, e1]
    simp only [Option.bind_some]
    rw [if_neg (by omega), h2 m (by omega), ha 500 (by omega) (by omega)]
    simp only [Option.bind_some, if_true]
    rw [decide_eq_true (by omega)]
  · obtain ⟨K2, h2⟩ := Ev.pick (lateall_spec l t q)
    obtain ⟨K3, h3⟩ := Ev.pick (lateall_spec l t (q - 1))
    refine Ev.intro (K1 + K2 + K3 + 3) fun k hk => ?_
    obtain ⟨m, rfl⟩ : ∃ m, k = m + 3 := ⟨k - 3, by omega⟩
    simp only [laws_FnLoftDays.j5, Bool.false_eq_true, if_false]
    rw [h1 (m + 2) (by omega), he, e1]
    simp only [Option.bind_some, if_true]
    rw [if_neg (by omega), decide_eq_false (by omega)]
    simp only [laws_FnLoftDays.j6, Bool.false_eq_true, if_false]
    rw [h2 (m + 1) (by omega), ha q (by omega) (by omega)]
    simp only [Option.bind_some, if_true, q2, bne_self_eq_false, Int.natCast_zero, Int.ofNat_zero]
    simp only [laws_FnLoftDays.j7, Bool.false_eq_true, if_false]
    by_cases c : q = 1
    · rw [if_pos c]
    · have := q3 (by omega)
      rw [if_neg c, w64 (x := q - 1) (by omega) (by omega), h3 m (by omega), ha (q - 1) (by omega) (by omega)]
      simp only [Option.bind_some, if_true]
      rw [decide_eq_true (by omega)]
theorem befF_bound {l : List IT} (hok : ordersOk l = true) (i : Int) {j : Int} (h0 : 0 ≤ j) (h1 : j < l.length) : 0 ≤ befF l i j ∧ befF l i j ≤ 500 := by
  have := left_bound hok h0 h1
  unfold befF
  split
  · omega
  · split
    · split <;> omega
    · omega
theorem bsum_bound {l : List IT} (hok : ordersOk l = true) (i : Int) (j : Nat) (h : j ≤ l.length) : 0 ≤ bsum l i j ∧ bsum l i j ≤ 500 * j := by
  induction j with
  | zero => simp [bsum]
  | succ j ih =>
    have := ih (by omega)
    have := befF_bound hok i (j := (j : Int)) (by omega) (by omega)
    rw [bsum_succ]
    omega
theorem w_add {a b : Int} {n : Nat} (h : 0 ≤ a ∧ a ≤ 500 * (n : Int)) (hn : n ≤ 20) (k : 0 ≤ b ∧ b ≤ 500) : wrap64 (a + b) = a + b := w64 (by omega) (by omega)
theorem w_one {a : Int} (h : 0 ≤ a ∧ a ≤ 500) : wrap64 a = a := w64 (by omega) (by omega)
theorem bsum_zero (l : List IT) (i : Int) : bsum l i 0 = 0 := rfl
attribute [local irreducible] bsum leftI daysOf lateOf lateSt befF
/-- One order's round: the hours before it are summed, its day and its being late are looked at. -/
theorem fin_ok (l : List IT) (t p n1 n2 : Int) (ds late : List Int) (c c' i : Nat) (hi : i < l.length) (hD : ds.length = l.length) (hl : l.length ≤ 20) (hc : c ≤ 20) (x15 : Int)
    (h1 : isLate l ds i = true → c < late.length ∧ rd late (c : Int) = (rd_T49 l (i : Int)).f0 ∧ c' = c + 1) (h0 : isLate l ds i = false → c' = c) (m : Nat)
    (h : laws_FnLoftDays.l0 m l t p ds late n1 n2 (c' : Int) x15 ((i : Int) + 1) = some true) : laws_FnLoftDays.j4 (m + 1) l t p ds late n1 n2 (c : Int) x15 i (isLate l ds i) = some true := by
  have hw := w64 (x := (i : Int) + 1) (by omega) (by omega)
  have hw2 := w64 (x := (c : Int) + 1) (by omega) (by omega)
  simp only [laws_FnLoftDays.j4]
  revert h1 h0
  generalize isLate l ds i = b
  intro h1 h0
  cases b with
  | true =>
    obtain ⟨g1, g2, g3⟩ := h1 rfl
    subst g3
    simp only [if_true]
    rw [if_neg (by omega), if_pos (by omega), if_pos (by omega), if_pos (by omega), if_pos (by omega), if_pos g2, hw, hw2]
    exact h
  | false =>
    have e := h0 rfl
    subst e
    simp only [Bool.false_eq_true, if_false]
    rw [hw]
    exact h
theorem mid_ok (l : List IT) (t p n1 n2 : Int) (ds late : List Int) (c c' i : Nat) (hi : i < l.length) (hD : ds.length = l.length) (hl : l.length ≤ 20) (hc : c ≤ 20) (x15 : Int)
    (h1 : isLate l ds i = true → c < late.length ∧ rd late (c : Int) = (rd_T49 l (i : Int)).f0 ∧ c' = c + 1) (h0 : isLate l ds i = false → c' = c) (m : Nat)
    (h : laws_FnLoftDays.l0 m l t p ds late n1 n2 (c' : Int) x15 ((i : Int) + 1) = some true) : laws_FnLoftDays.j3 (m + 2) l t p ds late n1 n2 (c : Int) x15 i (leftI l i) (rd ds i) = some true := by
  have hf := fin_ok l t p n1 n2 ds late c c' i hi hD hl hc x15 h1 h0 m h
  have hlf : leftI l i = (rd_T49 l (i : Int)).f2 - (rd_T49 l (i : Int)).f3 := by unfold leftI; rfl
  have e : isLate l ds i = if leftI l i > 0 then decide (rd ds i > (rd_T49 l (i : Int)).f4) else false := by
    rw [hlf]
    unfold isLate
    by_cases k : (rd_T49 l (i : Int)).f2 - (rd_T49 l (i : Int)).f3 > 0
    · rw [if_pos k]
      by_cases c2 : rd ds i > (rd_T49 l (i : Int)).f4
      · rw [decide_eq_true c2, decide_eq_true ⟨c2, by omega⟩]
      · rw [decide_eq_false c2, decide_eq_false (fun h => c2 h.1)]
    · rw [if_neg k]
      exact decide_eq_false (fun h => k (by omega))
  clear hlf h1 h0
  revert hf e
  generalize leftI l i = lf
  generalize isLate l ds i = b
  intro hf e
  subst e
  simp only [laws_FnLoftDays.j3]
  rw [if_pos (by omega), if_pos (by omega)]
  simp only [if_true]
  by_cases k : lf > 0
  · rw [if_pos k] at hf
    rw [if_pos k, if_pos (by omega)]
    exact hf
  · rw [if_neg k] at hf
    rw [if_neg k]
    exact hf
theorem inner_ok (l : List IT) (t p n1 n2 : Int) (hok : ordersOk l = true) (ht : 0 ≤ t ∧ t ≤ 2000) (hp : 1 ≤ p ∧ p ≤ 500) (ds late : List Int) (c c' i : Nat) (hi : i < l.length) (hD : ds.length = l.length) (hl : l.length ≤ 20) (hc : c ≤ 20) (x15 : Int)
    (hd : rd ds i = dayV l t p i (bsum l i l.length))
    (h1 : isLate l ds i = true → c < late.length ∧ rd late (c : Int) = (rd_T49 l (i : Int)).f0 ∧ c' = c + 1) (h0 : isLate l ds i = false → c' = c) (m : Nat)
    (h : laws_FnLoftDays.l0 m l t p ds late n1 n2 (c' : Int) (if isFirst l i then (i : Int) else x15) ((i : Int) + 1) = some true) : laws_FnLoftDays.l1 (m + 3) l t p ds late n1 n2 (c : Int) x15 i (bsum l i l.length) (leftI l i) (l.length : Int) = some true := by
  have hj := mid_ok l t p n1 n2 ds late c c' i hi hD hl hc _ h1 h0 m h
  have hb := bsum_bound hok (i : Int) l.length (Nat.le_refl _)
  have hlb := left_bound hok (i := (i : Int)) (by omega) (by omega)
  clear h h1 h0
  have hf : isFirst l i ↔ leftI l i > 0 ∧ bsum l i l.length = 0 := Iff.rfl
  have hx : (if isFirst l i then (i : Int) else x15) = if leftI l i > 0 ∧ bsum l i l.length = 0 then (i : Int) else x15 := by
    by_cases k : isFirst l i
    · rw [if_pos k, if_pos (hf.1 k)]
    · rw [if_neg k, if_neg (fun h => k (hf.2 h))]
  rw [hx] at hj
  clear hx hf
  unfold dayV at hd
  revert hj hd hb hlb
  generalize bsum l i l.length = B
  generalize leftI l i = lf
  generalize rd ds i = day
  intro hd hj hb hlb
  simp only [laws_FnLoftDays.l1]
  rw [if_neg (by omega)]
  by_cases k : lf > 0
  · have hq := div_small (a := B + lf - 1) (p := p) (by omega) (by omega) hp.1
    rw [if_pos k] at hd
    rw [if_pos k, if_neg (by omega), w64 (x := B + lf) (by omega) (by omega), w64 (x := B + lf - 1) (by omega) (by omega), tdiv_nn (by omega), w64 (x := _ / p) (by omega) (by omega), w64 (x := t + _) (by omega) (by omega), ← hd]
    by_cases c2 : B = 0
    · rw [if_pos ⟨k, c2⟩] at hj
      rw [if_pos c2]
      exact hj
    · rw [if_neg (fun h => c2 h.2)] at hj
      rw [if_neg c2]
      exact hj
  · rw [if_neg k] at hd
    rw [if_neg (fun h => k h.1), hd] at hj
    rw [if_neg k]
    exact hj
theorem round_ok (l : List IT) (t p n1 n2 : Int) (hok : ordersOk l = true) (ht : 0 ≤ t ∧ t ≤ 2000) (hp : 1 ≤ p ∧ p ≤ 500) (ds late : List Int) (c c' i : Nat) (hi : i < l.length) (hD : ds.length = l.length) (hl : l.length ≤ 20) (hc : c ≤ 20) (x15 : Int)
    (hd : Aside0 (rd ds i = dayV l t p i (bsum l i l.length)))
    (h1 : isLate l ds i = true → c < late.length ∧ rd late (c : Int) = (rd_T49 l (i : Int)).f0 ∧ c' = c + 1) (h0 : isLate l ds i = false → c' = c)
    (h : Ev (fun k => laws_FnLoftDays.l0 k l t p ds late n1 n2 (c' : Int) (if isFirst l i then (i : Int) else x15) ((i : Int) + 1)) true) :
    Ev (fun k => laws_FnLoftDays.l0 k l t p ds late n1 n2 (c : Int) x15 (i : Int)) true := by
  have hi0 : (0 : Int) ≤ (i : Int) := Int.natCast_nonneg i
  have hi1 : (i : Int) < (l.length : Int) := Int.ofNat_lt.2 hi
  have hlb := left_bound hok hi0 hi1
  have hlf : ∀ j : Int, leftI l j = (rd_T49 l j).f2 - (rd_T49 l j).f3 := by unfold leftI; intro j; rfl
  have hleft : Aside0 (wrap64 ((rd_T49 l (i : Int)).f2 - (rd_T49 l (i : Int)).f3) = leftI l i) := ⟨by
    rw [← hlf]
    exact w_one hlb⟩
  obtain ⟨K, hK⟩ := Ev.pick h
  have hin := for_to l.length (fun k (s : Int) j => laws_FnLoftDays.l1 k l t p ds late n1 n2 (c : Int) x15 i s (leftI l i) j) (fun j => bsum l i j) true (fun j hj => ⟨0, fun k _ => ?_⟩) (Ev.intro (K + 3) fun k hk => ?_) l.length 0 (by omega)
  · obtain ⟨J, hJ⟩ := Ev.pick hin
    refine Ev.intro (J + 1) fun k hk => ?_
    obtain ⟨m, rfl⟩ : ∃ m, k = m + 1 := ⟨k - 1, by omega⟩
    simp only [laws_FnLoftDays.l0]
    rw [if_pos hi1, if_pos hi0, hleft.out]
    have := hJ m (by omega)
    rw [bsum_zero] at this
    exact this
  · clear hd h1 h0 h hK hleft hlb
    have hj0 : (0 : Int) ≤ (j : Int) := Int.natCast_nonneg j
    have hj1 : (j : Int) < (l.length : Int) := Int.ofNat_lt.2 hj
    have hwj := w64 (x := (j : Int) + 1) (by omega) (by omega)
    have hj20 : j ≤ 20 := by omega
    have hbj := bsum_bound hok (i : Int) j (Nat.le_of_lt hj)
    have hlj := left_bound hok hj0 hj1
    have hws := w_add hbj hj20 hlj
    have hleftj : wrap64 ((rd_T49 l (j : Int)).f2 - (rd_T49 l (j : Int)).f3) = leftI l j := by
      rw [← hlf]
      exact w_one hlj
    have hs : bsum l i (j + 1) = bsum l i j + (if (rd_T49 l (j : Int)).f4 < (rd_T49 l (i : Int)).f4 then leftI l j else if (rd_T49 l (j : Int)).f4 = (rd_T49 l (i : Int)).f4 then (if (j : Int) < (i : Int) then leftI l j else 0) else 0) := by
      rw [bsum_succ]; unfold befF; rfl
    rw [hs]
    clear hs hlf hbj hlj
    revert hws hleftj
    generalize bsum l i j = B
    generalize leftI l j = lf
    intro hws hleftj
    simp only [laws_FnLoftDays.l1]
    rw [if_pos hj1, if_pos hj0, if_pos hi0, if_pos hi1, hleftj, hwj, hws]
    by_cases c1 : (rd_T49 l (j : Int)).f4 < (rd_T49 l (i : Int)).f4
    · rw [if_pos c1, if_pos c1]
    · rw [if_neg c1, if_neg c1]
      by_cases c2 : (rd_T49 l (j : Int)).f4 = (rd_T49 l (i : Int)).f4
      · rw [if_pos c2, if_pos c2]
        by_cases c3 : (j : Int) < (i : Int)
        · rw [if_pos c3, if_pos c3]
        · rw [if_neg c3, if_neg c3, Int.add_zero]
      · rw [if_neg c2, if_neg c2, Int.add_zero]
  · obtain ⟨m, rfl⟩ : ∃ m, k = m + 3 := ⟨k - 3, by omega⟩
    exact inner_ok l t p n1 n2 hok ht hp ds late c c' i hi hD hl hc x15 hd.out h1 h0 m (hK m (by omega))
theorem loop_ok (l : List IT) (t p : Int) (hok : ordersOk l = true) (ht : 0 ≤ t ∧ t ≤ 2000) (hp : 1 ≤ p ∧ p ≤ 500) (hl : l.length ≤ 2000000) :
    ∀ (d i : Nat), i + d = l.length → Ev (fun k => laws_FnLoftDays.l0 k l t p (daysOf l t p) (lateOf l t p) (nextAns l).1 (nextAns l).2 ((lateSt l (daysOf l t p) i).length : Int) (fstSt l i) (i : Int)) true := by
  intro d
  induction d with
  | zero =>
    intro i hi
    obtain rfl : i = l.length := by omega
    obtain ⟨K, hK⟩ := Ev.pick (each_last l t hok ht hl)
    refine Ev.intro (K + 1) fun k hk => ?_
    obtain ⟨m, rfl⟩ : ∃ m, k = m + 1 := ⟨k - 1, by omega⟩
    simp only [laws_FnLoftDays.l0]
    have e : lateOf l t p = lateSt l (daysOf l t p) l.length := by unfold lateOf; rfl
    rw [if_neg (by omega), if_pos (by rw [e])]
    rcases next_char l hok with ⟨e1, e2⟩ | ⟨a, e1, e2, e3⟩
    · rw [e1, e2]
      rw [if_pos (by omega), if_pos rfl, if_neg (by omega)]
      exact hK m (by omega)
    · rw [e1, e3]
      rw [if_neg (by omega), if_pos (by omega), if_pos rfl, if_pos (by omega), if_pos (by omega)]
      simp only [bne_self_eq_false]
      exact hK m (by omega)
  | succ d ih =>
    intro i hi
    have h20 := ok_len hok
    have hL := lateSt_length l (daysOf l t p) i
    have e : lateOf l t p = lateSt l (daysOf l t p) l.length := by unfold lateOf; rfl
    refine round_ok l t p _ _ hok ht hp (daysOf l t p) (lateOf l t p) (lateSt l (daysOf l t p) i).length (lateSt l (daysOf l t p) (i + 1)).length i (by omega) (daysOf_length l t p) h20 (by omega) _ ⟨days_at l t p hok i (by omega)⟩ (fun hc => ?_) (fun hc => ?_) (ih (i + 1) (by omega))
    · rw [e]
      exact late_get l (daysOf l t p) i l.length (by omega) hc
    · rw [lateSt_succ, hc]
      simp

end FnLoftDays_
open FnLoftDays_ in
theorem FnLoftDays : ∀ (l0 : List Int) (l1 : List Int), (l0.length ≤ maxLen ∧ ∀ x ∈ l0, (Lit.int .u8 x).wf = true) → (l1.length ≤ maxLen ∧ ∀ x ∈ l1, (Lit.int .u8 x).wf = true) → ∃ k, laws_FnLoftDays.f k l0 l1 = some true := by
  intro l0 l1 ⟨_, hb0⟩ ⟨_, hb1⟩
  by_cases c : laws_a2Long.f l0 l1 = some true
  · refine ⟨0, ?_⟩
    unfold laws_FnLoftDays.f
    rw [c]
    rfl
  · have hlen : l0.length ≤ 3000 ∧ l1.length ≤ 3000 := by
      unfold laws_a2Long.f at c
      by_cases c1 : (l0.length : Int) > 3000
      · rw [if_pos c1] at c; exact absurd rfl c
      · rw [if_neg c1] at c
        by_cases c2 : (l1.length : Int) > 3000
        · rw [decide_eq_true c2] at c; exact absurd rfl c
        · omega
    have hlong : laws_a2Long.f l0 l1 = some false := by
      unfold laws_a2Long.f
      rw [if_neg (by omega), decide_eq_false (by omega)]
    have hB0 := bytes_wf hb0
    have hB1 := bytes_wf hb1
    obtain ⟨os, ⟨hg, hn⟩, hos⟩ := orders_draw hB0 hlen.1
    obtain ⟨KT, hT⟩ := Ev.pick hos
    obtain ⟨t, e0, t0, t1⟩ := at_ok hB1 0 10 (by omega) (by omega)
    obtain ⟨r1, e1, r10, r11⟩ := at_ok hB1 1 12 (by omega) (by omega)
    obtain ⟨p, hp⟩ : ∃ p, p = 1 + r1 := ⟨_, rfl⟩
    have ep : wrap64 (1 + r1) = p := by rw [w64 (by omega) (by omega), hp]
    have hok := orders_ok hg (by omega)
    have hos1 : os.length ≤ 2000000 := by omega
    have hcode : codeOf os t p = 0 := by unfold codeOf; rw [if_pos hok, if_pos (by omega), if_pos (by omega)]
    obtain ⟨K1, h1⟩ := Ev.pick (daysall_impl os t p hos1)
    obtain ⟨K2, h2⟩ := Ev.pick (lateall_impl os t p hos1)
    obtain ⟨K3, h3⟩ := Ev.pick (next_impl os hos1)
    have a1 : daysAns os t p = (daysOf os t p, 0) := by unfold daysAns; rw [if_pos hcode]
    have a2 : lateAns os t p = (lateOf os t p, 0) := by unfold lateAns; rw [if_pos hcode]
    obtain ⟨K4, h4⟩ := Ev.pick (loop_ok os t p hok (by omega) (by omega) hos1 os.length 0 (by omega))
    refine ⟨KT + K1 + K2 + K3 + K4 + 1, ?_⟩
    unfold laws_FnLoftDays.f
    rw [hlong]
    simp only [Option.bind_some, Bool.false_eq_true, if_false]
    rw [hT _ (by omega), e0, e1]
    simp only [Option.bind_some]
    rw [ep, h1 _ (by omega), h2 _ (by omega), h3 _ (by omega), a1, a2]
    simp only [Option.bind_some, if_true]
    rw [if_pos (by rw [daysOf_length])]
    have hend := h4 (KT + K1 + K2 + K3 + K4) (by omega)
    revert hend
    generalize KT + K1 + K2 + K3 + K4 = kk
    intro hend
    simp only [laws_FnLoftDays.j0, bne_self_eq_false, Bool.false_eq_true, if_false]
    exact hend

end Go.Proofs.Ytedidhfmknhlkaa.Pure
