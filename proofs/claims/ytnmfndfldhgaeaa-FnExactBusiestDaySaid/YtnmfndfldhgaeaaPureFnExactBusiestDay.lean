/- For all hands the program's BusiestDay and the reference's BusiestDay tell the same; the hands stay as they are. -/
import Derived.Test.YtnmfndfldhgaeaaQFnExactBusiestDayx5
import Derived.Test.YtnmfndfldhgaeaaQFnExactBusiestDayx4
import Derived.Test.YtnmfndfldhgaeaaQFnExactBusiestDayx3
import Derived.Test.YtnmfndfldhgaeaaQFnExactBusiestDayx2
import Derived.Test.YtnmfndfldhgaeaaQFnExactBusiestDayx1
import Derived.Test.YtnmfndfldhgaeaaBase
namespace Go.Proofs.Ytnmfndfldhgaeaa.Pure
open Go.RowKit Go.Proofs.Ytnmfndfldhgaeaa.QFnExactBusiestDay Go.Proofs.YtnmfndfldhgaeaaW.PrintWords Go.Proofs.YtnmfndfldhgaeaaW.PrintLast Go.Proofs.Ytnmfndfldhgaeaa.Base
set_option linter.unusedVariables false
set_option linter.unusedSimpArgs false

namespace FnExactBusiestDay_
def GS (x : S24) : Prop := x.f0.size ≤ maxLen ∧ (x.f1.length ≤ maxLen ∧ ∀ y ∈ x.f1, (Lit.int .i64 y).wf = true) ∧ (Lit.int .i64 x.f2).wf = true
theorem toInt64S_ev (l : List Int) (h : l.length ≤ 35184372088832) : Ev (fun k => laws_toInt64S.f k l) l := by
  have round : ∀ k acc (i : Nat) (h : i < l.length), acc.length = l.length → laws_toInt64S.l0 (k + 1) l acc (i : Int) = laws_toInt64S.l0 k l (acc.set i (id l[i])) ((i : Int) + 1) := by
    intro k acc i hi hl
    simp only [laws_toInt64S.l0]
    rw [if_pos (by omega), if_pos (by omega), if_pos (by omega), w64 (by omega) (by omega), rd_nat l i hi, Int.toNat_natCast]
    rfl
  have fin : ∀ k acc, laws_toInt64S.l0 (k + 1) l acc (l.length : Int) = some acc := by
    intro k acc
    simp only [laws_toInt64S.l0]
    rw [if_neg (by omega)]
  have := fill_to l id (fun k acc i => laws_toInt64S.l0 k l acc i) round fin (List.replicate l.length 0) (by simp)
  rw [List.map_id] at this
  refine Ev.congr (fun k => ?_) this
  unfold laws_toInt64S.f
  rw [if_pos (by omega), if_pos (by simpa using h), Int.toNat_natCast]
theorem eqInt64S_ev (l : List Int) (h : l.length ≤ 35184372088832) : Ev (fun k => laws_eqInt64S.f k l l) true := by
  refine Ev.congr (f := fun k => laws_eqInt64S.l0 k l l 0) (fun k => by unfold laws_eqInt64S.f; rw [if_pos rfl]) ?_
  refine go_to l.length (fun k i => laws_eqInt64S.l0 k l l i) true (fun i hi => ⟨0, fun k _ => ?_⟩) (Ev.const fun k => ?_)
  · simp only [laws_eqInt64S.l0, if_true]
    rw [if_pos (by omega), if_pos (by omega), if_pos (by omega), w64 (by omega) (by omega)]
  · simp only [laws_eqInt64S.l0]
    rw [if_neg (by omega)]
/-- A loop of rounds that each go on, with rounds enough for the calls in them: it fills a row. -/
theorem fill_ev {α β : Type} (l : List α) (c : α → β) (loop : Nat → List β → Int → Option (List β))
    (round : ∀ (i : Nat) (h : i < l.length), ∃ K, ∀ k acc, K ≤ k → acc.length = l.length → loop (k + 1) acc (i : Int) = loop k (acc.set i (c l[i])) ((i : Int) + 1))
    (fin : ∀ k acc, loop (k + 1) acc (l.length : Int) = some acc) (acc : List β) (hl : acc.length = l.length) : Ev (fun k => loop k acc 0) (l.map c) := by
  have h := for_ev l.length loop (fun i a => a.length = l.length ∧ a.take i = (l.map c).take i) (fun r => r = l.map c) (fun i s hi hs => .inl ⟨s.set i (c l[i]), ⟨by rw [List.length_set]; exact hs.1, ?_⟩, (by
    obtain ⟨K, hK⟩ := round i hi
    exact ⟨K, fun k hk => hK k s hk hs.1⟩)⟩) (fun s hs => ?_) l.length 0 acc (by omega) ⟨hl, by simp⟩
  · obtain ⟨r, rfl, h⟩ := h
    exact h
  · apply List.ext_getElem?
    intro j
    rw [List.getElem?_take, List.getElem?_take]
    by_cases hj : j < i + 1
    · rw [if_pos hj, if_pos hj]
      by_cases hji : j = i
      · subst hji
        rw [List.getElem?_set_self (by omega), List.getElem?_map, List.getElem?_eq_getElem hi]; rfl
      · rw [List.getElem?_set_ne (by omega)]
        have := congrArg (fun x => x[j]?) hs.2
        simp only [List.getElem?_take] at this
        rw [if_pos (by omega), if_pos (by omega)] at this
        exact this
    · rw [if_neg hj, if_neg hj]
  · refine ⟨s, ?_, Ev.const (fun k => fin k s)⟩
    have h2 := hs.2
    rw [List.take_of_length_le (by omega), List.take_of_length_le (by simp)] at h2
    exact h2

abbrev LT := S24
abbrev IT := S28
def conv (x : LT) : IT := ⟨x.f0, x.f1, x.f2⟩
theorem rdL (xs : List LT) (i : Nat) (h : i < xs.length) : rd_T24 xs (i : Int) = xs[i] := by
  unfold rd_T24; rw [Int.toNat_natCast, List.getD_eq_getElem?_getD, List.getElem?_eq_getElem h]; rfl
theorem rdI (xs : List IT) (i : Nat) (h : i < xs.length) : rd_T28 xs (i : Int) = xs[i] := by
  unfold rd_T28; rw [Int.toNat_natCast, List.getD_eq_getElem?_getD, List.getElem?_eq_getElem h]; rfl
/-- Hands that are few, each with few days: what the law speaks of. -/
def Few (l : List IT) : Prop := l.length ≤ 2000000 ∧ ∀ x ∈ l, x.f1.length ≤ 2000000
theorem to_ev (l : List LT) (h : l.length ≤ 1048576) (hx : ∀ x ∈ l, x.f1.length ≤ 1048576) : Ev (fun k => laws_toHandS.f k l) (l.map conv) := by
  have round : ∀ (i : Nat) (h : i < l.length), ∃ K, ∀ k acc, K ≤ k → acc.length = l.length → laws_toHandS.l0 (k + 1) l acc (i : Int) = laws_toHandS.l0 k l (acc.set i (conv l[i])) ((i : Int) + 1) := by
    intro i hi
    have hxi := hx _ (List.getElem_mem hi)
    obtain ⟨K, hK⟩ := Ev.pick (toInt64S_ev l[i].f1 (by omega))
    refine ⟨K, fun k acc hk hl => ?_⟩
    simp only [laws_toHandS.l0, laws_toHand.f]
    rw [if_pos (by omega), if_pos (by omega), rdL l i hi, hK k hk]
    simp only [Option.bind_some]
    rw [if_pos (by omega), w64 (by omega) (by omega), Int.toNat_natCast]
    rfl
  have fin : ∀ k acc, laws_toHandS.l0 (k + 1) l acc (l.length : Int) = some acc := by
    intro k acc
    simp only [laws_toHandS.l0]
    rw [if_neg (by omega)]
  have := fill_ev l conv (fun k acc i => laws_toHandS.l0 k l acc i) round fin (List.replicate l.length z28) (by simp)
  refine Ev.congr (fun k => ?_) this
  unfold laws_toHandS.f
  rw [if_pos (by omega), if_pos (by rw [Int.toNat_natCast]; omega), Int.toNat_natCast]
theorem eq_ev (l : List IT) (h : Few l) : Ev (fun k => laws_eqHandS.f k l l) true := by
  have h0 := h.1
  refine Ev.congr (f := fun k => laws_eqHandS.l0 k l l 0) (fun k => by unfold laws_eqHandS.f; rw [if_pos rfl]) ?_
  refine go_to l.length (fun k i => laws_eqHandS.l0 k l l i) true (fun i hi => ?_) (Ev.const fun k => ?_)
  · have hxi := h.2 _ (List.getElem_mem hi)
    obtain ⟨K, hK⟩ := Ev.pick (eqInt64S_ev l[i].f1 (by omega))
    refine ⟨K, fun k hk => ?_⟩
    simp only [laws_eqHandS.l0, laws_eqHand.f, if_true]
    rw [if_pos (by omega), if_pos (by omega), if_pos (by omega), rdI l i hi, hK k hk]
    simp only [Option.bind_some, if_true]
    rw [w64 (by omega) (by omega)]
  · simp only [laws_eqHandS.l0]
    rw [if_neg (by omega)]
theorem sz_one (x : LT) (hx : GS x) (left : Int) (h0 : 0 ≤ left) (h1 : left ≤ 1048576) : ∃ t, laws_szHand.f x.f0 x.f1 x.f2 left = some t ∧ t ≤ 1048576 ∧ (t < 0 ∨ x.f1.length ≤ 1048576) := by
  unfold GS at hx
  unfold maxLen at hx
  unfold laws_szHand.f laws_szInt64S.f
  have a1 := hx.1
  have a2 := hx.2.1.1
  generalize x.f0.size = n0 at a1 ⊢
  generalize x.f1.length = n1 at a2 ⊢
  rw [w64 (x := left - n0) (by omega) (by omega)]
  split
  · exact ⟨-1, rfl, by omega, .inl (by omega)⟩
  · rw [w64 (x := left - n0 - n1) (by omega) (by omega)]
    split
    · exact ⟨-1, rfl, by omega, .inl (by omega)⟩
    · rename_i g2
      simp only [Option.bind_some]
      rw [if_neg g2]
      exact ⟨_, rfl, by omega, .inr (by omega)⟩
theorem sz_ev (l : List LT) (h : l.length ≤ maxLen) (hg : ∀ x ∈ l, GS x) : ∃ r, (r < 0 ∨ l.length ≤ 1048576 ∧ ∀ x ∈ l, x.f1.length ≤ 1048576) ∧ Ev (fun k => laws_szHandS.f k l 1048576) r := by
  unfold maxLen at h
  by_cases c : 1048576 < l.length
  · refine ⟨-1, .inl (by omega), Ev.all fun k => ?_⟩
    unfold laws_szHandS.f
    rw [w64 (by omega) (by omega), if_pos (by omega)]
  · have h3 := for_ev l.length (fun k (s : Int) i => laws_szHandS.l0 k l s i) (fun i s => (0 ≤ s ∧ s ≤ 1048576) ∧ ∀ j (hj : j < l.length), j < i → l[j].f1.length ≤ 1048576) (fun r => r < 0 ∨ ∀ x ∈ l, x.f1.length ≤ 1048576) (fun i s hi hs => ?_) (fun s hs => ⟨s, .inr fun x hx => ?_, Ev.const fun k => ?_⟩) l.length 0 (1048576 - (l.length : Int)) (by omega) ⟨by omega, fun j _ hj => absurd hj (Nat.not_lt_zero _)⟩
    · obtain ⟨r, hr, h2⟩ := h3
      refine ⟨r, ?_, Ev.congr (fun k => ?_) h2⟩
      · rcases hr with hr | hr
        · exact .inl hr
        · exact .inr ⟨by omega, hr⟩
      · unfold laws_szHandS.f
        rw [w64 (by omega) (by omega), if_neg (by omega)]
        rfl
    · obtain ⟨t, ht, ht1, ht2⟩ := sz_one l[i] (hg _ (List.getElem_mem hi)) s hs.1.1 hs.1.2
      by_cases c2 : t < 0
      · refine .inr ⟨-1, .inl (by omega), Ev.const fun k => ?_⟩
        simp only [laws_szHandS.l0]
        rw [if_pos (by omega), if_pos (by omega), rdL l i hi, ht]
        simp only [Option.bind_some]
        rw [if_pos c2]
      · refine .inl ⟨t, ⟨by omega, fun j hj hji => ?_⟩, 0, fun k _ => ?_⟩
        · by_cases e : j = i
          · subst e; omega
          · exact hs.2 j hj (by omega)
        · simp only [laws_szHandS.l0]
          rw [if_pos (by omega), if_pos (by omega), rdL l i hi, ht]
          simp only [Option.bind_some]
          rw [if_neg c2, w64 (by omega) (by omega)]
    · obtain ⟨j, hj, rfl⟩ := List.getElem_of_mem hx
      exact hs.2 j hj hj
    · simp only [laws_szHandS.l0]
      rw [if_neg (by omega)]
theorem few_map {l : List LT} (h : l.length ≤ 1048576) (hx : ∀ x ∈ l, x.f1.length ≤ 1048576) : Few (l.map conv) := by
  refine ⟨by rw [List.length_map]; omega, fun x hx2 => ?_⟩
  obtain ⟨y, hy, rfl⟩ := List.mem_map.1 hx2
  have := hx y hy
  exact Nat.le_trans this (by omega)

def mB (l : List S28) (d : Nat) : Int := if d = 0 then 0 else dayB l (bestB l l.length d) l.length
theorem busy_row {l : List S28} (h : handsOk (hdI l) l.length = true) (b m : Int) (d : Nat) (hd : d < 14) (r : Int × Int × Int)
    (next : Ev (fun k => if dayB l d l.length > m then spec_BusiestDay.l0 k l d (dayB l d l.length) (wrap64 ((d : Int) + 1)) else spec_BusiestDay.l0 k l b m (wrap64 ((d : Int) + 1))) r) :
    Ev (fun k => spec_BusiestDay.l1 k l b m d 0 0) r := by
  have he := hands_each h
  have := for_to l.length (fun k (s : Int) i => spec_BusiestDay.l1 k l b m d s i) (fun i => dayB l d i) r (fun i hi => ⟨0, fun k _ => ?_⟩) ?_ l.length 0 (by omega)
  · exact this
  · have hb := dayB_bd h d i (by omega)
    have h14 := (he.2 i hi).1
    simp only [spec_BusiestDay.l1]
    rw [if_pos (by omega), if_pos (by omega), w64 (x := (i : Int) + 1) (by omega) (by omega)]
    by_cases c : d < (rd_T28 l (i : Int)).f1.length
    · have := rd_in (he.2 i hi).2 c
      rw [if_pos (by omega), if_pos (by omega), w64 (x := dayB l d i + _) (by omega) (by omega)]
      simp only [dayB, if_pos c]
    · rw [if_neg (by omega)]
      simp only [dayB, if_neg c, Int.add_zero]
  · refine Ev.step (fun k => ?_) next
    simp only [spec_BusiestDay.l1]
    rw [if_neg (by omega)]
theorem busy_days {l : List S28} (h : handsOk (hdI l) l.length = true) : ∀ (e d : Nat), d + e = 14 → Ev (fun k => spec_BusiestDay.l0 k l (bestB l l.length d : Nat) (mB l d) d) (busyB l) := by
  intro e
  induction e with
  | zero =>
    intro d hd
    obtain rfl : d = 14 := by omega
    refine Ev.const fun k => ?_
    simp only [spec_BusiestDay.l0]
    rw [if_neg (by omega)]
    have hm : mB l 14 = dayB l (bestB l l.length 14) l.length := rfl
    rw [hm]
    unfold busyB
    split <;> rfl
  | succ e ih =>
    intro d hd
    have hn := ih (d + 1) (by omega)
    have hd14 : d < 14 := by omega
    have hb0 := dayB_bd h d l.length (Nat.le_refl _)
    have hs : bestB l l.length (d + 1) = if dayB l (bestB l l.length d) l.length < dayB l d l.length then d else bestB l l.length d := rfl
    have hm1 : mB l (d + 1) = dayB l (bestB l l.length (d + 1)) l.length := rfl
    refine Ev.step (f := fun k => spec_BusiestDay.l1 k l (bestB l l.length d : Nat) (mB l d) d 0 0) (fun k => ?_) (busy_row h _ _ d hd14 _ ?_)
    · simp only [spec_BusiestDay.l0]
      rw [if_pos (by omega)]
    · rw [w64 (x := (d : Int) + 1) (by omega) (by omega)]
      rw [hm1] at hn
      have e1 : ((d + 1 : Nat) : Int) = (d : Int) + 1 := rfl
      rw [e1] at hn
      by_cases hz : d = 0
      · subst hz
        have hb1 : bestB l l.length (0 + 1) = 0 := by rw [hs]; split <;> rfl
        rw [hb1] at hn
        have hm0 : mB l 0 = 0 := rfl
        have hbz : bestB l l.length 0 = 0 := rfl
        rw [hm0, hbz]
        by_cases c : dayB l 0 l.length > 0
        · simp only [if_pos c]; exact hn
        · simp only [if_neg c]
          have : dayB l 0 l.length = 0 := by omega
          rw [this] at hn
          exact hn
      · have hm : mB l d = dayB l (bestB l l.length d) l.length := by unfold mB; rw [if_neg hz]
        rw [hm]
        by_cases c : dayB l (bestB l l.length d) l.length < dayB l d l.length
        · simp only [if_pos (show dayB l d l.length > dayB l (bestB l l.length d) l.length from c)]
          rw [hs, if_pos c] at hn
          exact hn
        · simp only [if_neg (show ¬ dayB l d l.length > dayB l (bestB l l.length d) l.length from c)]
          rw [hs, if_neg c] at hn
          exact hn

def busyAns (l : List IT) : Int × Int × Int := if handsOk (hdI l) l.length = true then busyB l else (0, 0, 1)
theorem busy_spec (l : List IT) : Ev (fun k => spec_BusiestDay.f k l) (busyAns l) := by
  have h4 : handsOk (hdS l) l.length = handsOk (hdI l) l.length := rfl
  unfold spec_BusiestDay.f spec_l26Ok.f busyAns
  rw [h4]
  cases hv : handsOk (hdI l) l.length with
  | false => exact Ev.all fun k => rfl
  | true => exact busy_days hv 14 0 rfl
theorem busy_impl (l : List IT) : impl_BusiestDay.f l = some (busyAns l) := by
  unfold impl_BusiestDay.f busyAns
  split <;> rfl
end FnExactBusiestDay_
def G24 (z : S24) : Prop := z.f0.size ≤ maxLen ∧ (z.f1.length ≤ maxLen ∧ ∀ x ∈ z.f1, (Lit.int .i64 x).wf = true) ∧ (Lit.int .i64 z.f2).wf = true
open FnExactBusiestDay_ in
theorem FnExactBusiestDay : ∀ (l0 : List S24), (l0.length ≤ maxLen ∧ ∀ x ∈ l0, G24 x) → ∃ k, laws_FnExactBusiestDay.f k l0 = some true := by
  intro l0 hl
  obtain ⟨r, hr, hsz⟩ := sz_ev l0 hl.1 hl.2
  obtain ⟨K0, h0⟩ := Ev.pick hsz
  by_cases c : r < 0
  · refine ⟨K0, ?_⟩
    unfold laws_FnExactBusiestDay.f
    rw [h0 K0 (Nat.le_refl _)]
    simp only [Option.bind_some]
    rw [if_pos c]
  · obtain ⟨hn, hx⟩ : l0.length ≤ 1048576 ∧ ∀ x ∈ l0, x.f1.length ≤ 1048576 := hr.resolve_left c
    have hm := few_map hn hx
    obtain ⟨K1, h1⟩ := Ev.pick (to_ev l0 hn hx)
    obtain ⟨K3, h3⟩ := Ev.pick (eq_ev (l0.map conv) hm)
    obtain ⟨K2, h2⟩ := Ev.pick (busy_spec (l0.map conv))
    have h5 := busy_impl (l0.map conv)
    refine ⟨K0 + K1 + K2 + K3 + 1, ?_⟩
    unfold laws_FnExactBusiestDay.f
    simp (disch := omega) only [h0, h1, h2, h3, h5, c, laws_FnExactBusiestDay.j0, Option.bind_some, if_true, if_false, bne_self_eq_false, Bool.false_eq_true]

end Go.Proofs.Ytnmfndfldhgaeaa.Pure
