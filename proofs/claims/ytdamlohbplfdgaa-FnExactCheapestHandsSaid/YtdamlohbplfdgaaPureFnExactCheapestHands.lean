/- For all hands and all minutes the program's CheapestHands and the reference's CheapestHands tell the same; no row is shared, the hands stay as they are. -/
import Derived.Test.YtdamlohbplfdgaaQFnExactCheapestHandsx7
import Derived.Test.YtdamlohbplfdgaaBase
namespace Go.Proofs.Ytdamlohbplfdgaa.Pure
open Go.RowKit Go.Proofs.Ytdamlohbplfdgaa.QFnExactCheapestHands Go.Proofs.YtdamlohbplfdgaaW.PrintWords Go.Proofs.YtdamlohbplfdgaaW.PrintLast Go.Proofs.Ytdamlohbplfdgaa.Base
set_option linter.unusedVariables false
set_option linter.unusedSimpArgs false

namespace FnExactCheapestHands_
def GS (x : S36) : Prop := x.f0.size ≤ maxLen ∧ (x.f1.length ≤ maxLen ∧ ∀ y ∈ x.f1, (Lit.int .i64 y).wf = true) ∧ (Lit.int .i64 x.f2).wf = true
theorem toInt64S_ev (l : List Int) (h : l.length ≤ 35184372088832) : Ev (fun k => laws_toInt64S.f k l) l := by
  have round : ∀ k acc (i : Nat) (h : i < l.length), acc.length = l.length → laws_toInt64S.l0 (k + 1) l acc (i : Int) = laws_toInt64S.l0 k l (acc.set i (id l[i])) ((i : Int) + 1) := by
    intro k acc i hi hl
    simp only [laws_toInt64S.l0]
    rw [if_pos (by omega), if_pos (by omega), if_pos (by omega), w64 (by omega) (by omega), rd_nat l i hi, Int.toNat_natCast]
    rfl
  have fin : ∀ k acc, laws_toInt64S.l0 (k + 1) l acc (l.length : Int) = some acc := by
    intro k acc
    simp only [laws_toInt64S.l0]
    rw [if_neg (by omega)]
  have := fill_to l id (fun k acc i => laws_toInt64S.l0 k l acc i) round fin (List.replicate l.length 0) (by simp)
  rw [List.map_id] at this
  refine Ev.congr (fun k => ?_) this
  unfold laws_toInt64S.f
  rw [if_pos (by omega), if_pos (by simpa using h), Int.toNat_natCast]
theorem eqInt64S_ev (l : List Int) (h : l.length ≤ 35184372088832) : Ev (fun k => laws_eqInt64S.f k l l) true := by
  refine Ev.congr (f := fun k => laws_eqInt64S.l0 k l l 0) (fun k => by unfold laws_eqInt64S.f; rw [if_pos rfl]) ?_
  refine go_to l.length (fun k i => laws_eqInt64S.l0 k l l i) true (fun i hi => ⟨0, fun k _ => ?_⟩) (Ev.const fun k => ?_)
  · simp only [laws_eqInt64S.l0, if_true]
    rw [if_pos (by omega), if_pos (by omega), if_pos (by omega), w64 (by omega) (by omega)]
  · simp only [laws_eqInt64S.l0]
    rw [if_neg (by omega)]
theorem markInt64S_ev (l : List Int) (h : l.length ≤ 35184372088832) : Ev (fun k => laws_markInt64S.f k l 1) (1 + 1 * (l.length : Int), (List.range l.length).map fun i : Nat => 1 + 1 * (i : Int)) := by
  refine mark_to l.length 1 1 (fun x => x) (fun k xs m i => laws_markInt64S.l0 k xs m i) (fun xs i hi hl => ⟨0, fun k _ => ?_⟩) (fun k xs hl => ?_) l rfl
  · simp only [laws_markInt64S.l0]
    rw [if_pos (by omega), if_pos (by omega), w64 (by omega) (by omega), w64 (by omega) (by omega), Int.toNat_natCast]
    congr 1 <;> omega
  · simp only [laws_markInt64S.l0]
    rw [if_neg (by omega)]
theorem heldInt64S_ev (n : Nat) (h : n ≤ 35184372088832) : Ev (fun k => laws_heldInt64S.f k ((List.range n).map fun i : Nat => 1 + 1 * (i : Int)) 1) (1 + 1 * (n : Int)) := by
  refine held_to n 1 1 (fun k m i => laws_heldInt64S.l0 k ((List.range n).map fun i : Nat => 1 + 1 * (i : Int)) m i) (fun i hi => ⟨0, fun k _ => ?_⟩) (fun k => ?_)
  · simp only [laws_heldInt64S.l0]
    rw [if_pos (by simp; omega), if_pos (by omega), rd_nat _ i (by simpa using hi), if_pos (by simp), w64 (by omega) (by omega), w64 (by omega) (by omega)]
    congr 1 <;> omega
  · simp only [laws_heldInt64S.l0]
    rw [if_neg (by simp)]
theorem markI_ev (l : List Int) (m0 : Int) (h : l.length ≤ 2000000) (h0 : 0 ≤ m0) (h1 : m0 ≤ 1000000000) : Ev (fun k => laws_markInt64S.f k l m0) (m0 + 1 * (l.length : Int), (List.range l.length).map fun i : Nat => m0 + 1 * (i : Int)) := by
  refine mark_to l.length 1 m0 (fun x => x) (fun k xs m i => laws_markInt64S.l0 k xs m i) (fun xs i hi hl => ⟨0, fun k _ => ?_⟩) (fun k xs hl => ?_) l rfl
  · simp only [laws_markInt64S.l0]
    rw [if_pos (by omega), if_pos (by omega), w64 (by omega) (by omega), w64 (by omega) (by omega), Int.toNat_natCast]
    congr 1 <;> omega
  · simp only [laws_markInt64S.l0]
    rw [if_neg (by omega)]
theorem heldI_ev (n : Nat) (m0 : Int) (h : n ≤ 2000000) (h0 : 0 ≤ m0) (h1 : m0 ≤ 1000000000) : Ev (fun k => laws_heldInt64S.f k ((List.range n).map fun i : Nat => m0 + 1 * (i : Int)) m0) (m0 + 1 * (n : Int)) := by
  refine held_to n 1 m0 (fun k m i => laws_heldInt64S.l0 k ((List.range n).map fun i : Nat => m0 + 1 * (i : Int)) m i) (fun i hi => ⟨0, fun k _ => ?_⟩) (fun k => ?_)
  · simp only [laws_heldInt64S.l0]
    rw [if_pos (by simp; omega), if_pos (by omega), rd_nat _ i (by simpa using hi), if_pos (by simp), w64 (by omega) (by omega), w64 (by omega) (by omega)]
    congr 1 <;> omega
  · simp only [laws_heldInt64S.l0]
    rw [if_neg (by simp)]


/-- A loop of rounds that each go on, with rounds enough for the calls in them: it fills a row. -/
theorem fill_ev {α β : Type} (l : List α) (c : α → β) (loop : Nat → List β → Int → Option (List β))
    (round : ∀ (i : Nat) (h : i < l.length), ∃ K, ∀ k acc, K ≤ k → acc.length = l.length → loop (k + 1) acc (i : Int) = loop k (acc.set i (c l[i])) ((i : Int) + 1))
    (fin : ∀ k acc, loop (k + 1) acc (l.length : Int) = some acc) (acc : List β) (hl : acc.length = l.length) : Ev (fun k => loop k acc 0) (l.map c) := by
  have h := for_ev l.length loop (fun i a => a.length = l.length ∧ a.take i = (l.map c).take i) (fun r => r = l.map c) (fun i s hi hs => .inl ⟨s.set i (c l[i]), ⟨by rw [List.length_set]; exact hs.1, ?_⟩, (by
    obtain ⟨K, hK⟩ := round i hi
    exact ⟨K, fun k hk => hK k s hk hs.1⟩)⟩) (fun s hs => ?_) l.length 0 acc (by omega) ⟨hl, by simp⟩
  · obtain ⟨r, rfl, h⟩ := h
    exact h
  · apply List.ext_getElem?
    intro j
    rw [List.getElem?_take, List.getElem?_take]
    by_cases hj : j < i + 1
    · rw [if_pos hj, if_pos hj]
      by_cases hji : j = i
      · subst hji
        rw [List.getElem?_set_self (by omega), List.getElem?_map, List.getElem?_eq_getElem hi]; rfl
      · rw [List.getElem?_set_ne (by omega)]
        have := congrArg (fun x => x[j]?) hs.2
        simp only [List.getElem?_take] at this
        rw [if_pos (by omega), if_pos (by omega)] at this
        exact this
    · rw [if_neg hj, if_neg hj]
  · refine ⟨s, ?_, Ev.const (fun k => fin k s)⟩
    have h2 := hs.2
    rw [List.take_of_length_le (by omega), List.take_of_length_le (by simp)] at h2
    exact h2

abbrev LT := S36
abbrev IT := S43
def conv (x : LT) : IT := ⟨x.f0, x.f1, x.f2⟩
theorem rdL (xs : List LT) (i : Nat) (h : i < xs.length) : rd_T36 xs (i : Int) = xs[i] := by
  unfold rd_T36; rw [Int.toNat_natCast, List.getD_eq_getElem?_getD, List.getElem?_eq_getElem h]; rfl
theorem rdI (xs : List IT) (i : Nat) (h : i < xs.length) : rd_T43 xs (i : Int) = xs[i] := by
  unfold rd_T43; rw [Int.toNat_natCast, List.getD_eq_getElem?_getD, List.getElem?_eq_getElem h]; rfl
/-- Hands that are few, each with few days: what the law speaks of. -/
def Few (l : List IT) : Prop := l.length ≤ 2000000 ∧ ∀ x ∈ l, x.f1.length ≤ 2000000
theorem to_ev (l : List LT) (h : l.length ≤ 1048576) (hx : ∀ x ∈ l, x.f1.length ≤ 1048576) : Ev (fun k => laws_toHandS.f k l) (l.map conv) := by
  have round : ∀ (i : Nat) (h : i < l.length), ∃ K, ∀ k acc, K ≤ k → acc.length = l.length → laws_toHandS.l0 (k + 1) l acc (i : Int) = laws_toHandS.l0 k l (acc.set i (conv l[i])) ((i : Int) + 1) := by
    intro i hi
    have hxi := hx _ (List.getElem_mem hi)
    obtain ⟨K, hK⟩ := Ev.pick (toInt64S_ev l[i].f1 (by omega))
    refine ⟨K, fun k acc hk hl => ?_⟩
    simp only [laws_toHandS.l0, laws_toHand.f]
    rw [if_pos (by omega), if_pos (by omega), rdL l i hi, hK k hk]
    simp only [Option.bind_some]
    rw [if_pos (by omega), w64 (by omega) (by omega), Int.toNat_natCast]
    rfl
  have fin : ∀ k acc, laws_toHandS.l0 (k + 1) l acc (l.length : Int) = some acc := by
    intro k acc
    simp only [laws_toHandS.l0]
    rw [if_neg (by omega)]
  have := fill_ev l conv (fun k acc i => laws_toHandS.l0 k l acc i) round fin (List.replicate l.length z43) (by simp)
  refine Ev.congr (fun k => ?_) this
  unfold laws_toHandS.f
  rw [if_pos (by omega), if_pos (by rw [Int.toNat_natCast]; omega), Int.toNat_natCast]
theorem eq_ev (l : List IT) (h : Few l) : Ev (fun k => laws_eqHandS.f k l l) true := by
  have h0 := h.1
  refine Ev.congr (f := fun k => laws_eqHandS.l0 k l l 0) (fun k => by unfold laws_eqHandS.f; rw [if_pos rfl]) ?_
  refine go_to l.length (fun k i => laws_eqHandS.l0 k l l i) true (fun i hi => ?_) (Ev.const fun k => ?_)
  · have hxi := h.2 _ (List.getElem_mem hi)
    obtain ⟨K, hK⟩ := Ev.pick (eqInt64S_ev l[i].f1 (by omega))
    refine ⟨K, fun k hk => ?_⟩
    simp only [laws_eqHandS.l0, laws_eqHand.f, if_true]
    rw [if_pos (by omega), if_pos (by omega), if_pos (by omega), rdI l i hi, hK k hk]
    simp only [Option.bind_some, if_true]
    rw [w64 (by omega) (by omega)]
  · simp only [laws_eqHandS.l0]
    rw [if_neg (by omega)]
theorem sz_one (x : LT) (hx : GS x) (left : Int) (h0 : 0 ≤ left) (h1 : left ≤ 1048576) : ∃ t, laws_szHand.f x.f0 x.f1 x.f2 left = some t ∧ t ≤ 1048576 ∧ (t < 0 ∨ x.f1.length ≤ 1048576) := by
  unfold GS at hx
  unfold maxLen at hx
  unfold laws_szHand.f laws_szInt64S.f
  have a1 := hx.1
  have a2 := hx.2.1.1
  generalize x.f0.size = n0 at a1 ⊢
  generalize x.f1.length = n1 at a2 ⊢
  rw [w64 (x := left - n0) (by omega) (by omega)]
  split
  · exact ⟨-1, rfl, by omega, .inl (by omega)⟩
  · rw [w64 (x := left - n0 - n1) (by omega) (by omega)]
    split
    · exact ⟨-1, rfl, by omega, .inl (by omega)⟩
    · rename_i g2
      simp only [Option.bind_some]
      rw [if_neg g2]
      exact ⟨_, rfl, by omega, .inr (by omega)⟩
theorem sz_ev (l : List LT) (h : l.length ≤ maxLen) (hg : ∀ x ∈ l, GS x) : ∃ r, (r < 0 ∨ l.length ≤ 1048576 ∧ ∀ x ∈ l, x.f1.length ≤ 1048576) ∧ Ev (fun k => laws_szHandS.f k l 1048576) r := by
  unfold maxLen at h
  by_cases c : 1048576 < l.length
  · refine ⟨-1, .inl (by omega), Ev.all fun k => ?_⟩
    unfold laws_szHandS.f
    rw [w64 (by omega) (by omega), if_pos (by omega)]
  · have h3 := for_ev l.length (fun k (s : Int) i => laws_szHandS.l0 k l s i) (fun i s => (0 ≤ s ∧ s ≤ 1048576) ∧ ∀ j (hj : j < l.length), j < i → l[j].f1.length ≤ 1048576) (fun r => r < 0 ∨ ∀ x ∈ l, x.f1.length ≤ 1048576) (fun i s hi hs => ?_) (fun s hs => ⟨s, .inr fun x hx => ?_, Ev.const fun k => ?_⟩) l.length 0 (1048576 - (l.length : Int)) (by omega) ⟨by omega, fun j _ hj => absurd hj (Nat.not_lt_zero _)⟩
    · obtain ⟨r, hr, h2⟩ := h3
      refine ⟨r, ?_, Ev.congr (fun k => ?_) h2⟩
      · rcases hr with hr | hr
        · exact .inl hr
        · exact .inr ⟨by omega, hr⟩
      · unfold laws_szHandS.f
        rw [w64 (by omega) (by omega), if_neg (by omega)]
        rfl
    · obtain ⟨t, ht, ht1, ht2⟩ := sz_one l[i] (hg _ (List.getElem_mem hi)) s hs.1.1 hs.1.2
      by_cases c2 : t < 0
      · refine .inr ⟨-1, .inl (by omega), Ev.const fun k => ?_⟩
        simp only [laws_szHandS.l0]
        rw [if_pos (by omega), if_pos (by omega), rdL l i hi, ht]
        simp only [Option.bind_some]
        rw [if_pos c2]
      · refine .inl ⟨t, ⟨by omega, fun j hj hji => ?_⟩, 0, fun k _ => ?_⟩
        · by_cases e : j = i
          · subst e; omega
          · exact hs.2 j hj (by omega)
        · simp only [laws_szHandS.l0]
          rw [if_pos (by omega), if_pos (by omega), rdL l i hi, ht]
          simp only [Option.bind_some]
          rw [if_neg c2, w64 (by omega) (by omega)]
    · obtain ⟨j, hj, rfl⟩ := List.getElem_of_mem hx
      exact hs.2 j hj hj
    · simp only [laws_szHandS.l0]
      rw [if_neg (by omega)]
theorem few_map {l : List LT} (h : l.length ≤ 1048576) (hx : ∀ x ∈ l, x.f1.length ≤ 1048576) : Few (l.map conv) := by
  refine ⟨by rw [List.length_map]; omega, fun x hx2 => ?_⟩
  obtain ⟨y, hy, rfl⟩ := List.mem_map.1 hx2
  have := hx y hy
  exact Nat.le_trans this (by omega)

theorem mtxt_loop2 : ∀ (d : Nat) (n : Int) (s : ByteArray), n < 10 ^ d → s.size + d ≤ 2000000000 → ∃ t, Ev (fun k => laws_markText.l0 k n s) t := by
  intro d
  induction d with
  | zero =>
    intro n s hn hs
    refine ⟨(⟨#[109]⟩ : ByteArray) ++ s, Ev.const fun k => ?_⟩
    simp only [laws_markText.l0]
    rw [if_neg (by omega), if_pos (by omega)]
  | succ d ih =>
    intro n s hn hs
    by_cases h : n > 0
    · have hd : wrap64 (Int.tdiv n 10) < 10 ^ d ∨ wrap64 (Int.tdiv n 10) ≤ 0 := by
        rw [tdiv_nn (by omega)]
        have h2 : n / 10 < 10 ^ d := by
          rw [Int.pow_succ] at hn
          exact Int.ediv_lt_of_lt_mul (by omega) hn
        generalize (10 : Int) ^ d = p at h2
        unfold wrap64
        omega
      have hsz : (strOfNums [(wrap64 (48 + (Int.tmod n 10))) % 256] ++ s).size + d ≤ 2000000000 := by
        have h1 : (strOfNums [(wrap64 (48 + (Int.tmod n 10))) % 256]).size = 1 := rfl
        rw [ByteArray.size_append, h1]; omega
      have hp : (0 : Int) < 10 ^ d := Int.pow_pos (by omega)
      obtain ⟨t, ht⟩ := ih (wrap64 (Int.tdiv n 10)) (strOfNums [(wrap64 (48 + (Int.tmod n 10))) % 256] ++ s) (by rcases hd with hd | hd; exact hd; exact Int.lt_of_le_of_lt hd hp) hsz
      refine ⟨t, Ev.step (fun k => ?_) ht⟩
      have h1 : (strOfNums [(wrap64 (48 + (Int.tmod n 10))) % 256]).size = 1 := rfl
      simp only [laws_markText.l0]
      rw [if_pos h]
      simp only [Option.bind_some]
      rw [if_pos (by rw [h1]; omega)]
    · refine ⟨(⟨#[109]⟩ : ByteArray) ++ s, Ev.const fun k => ?_⟩
      simp only [laws_markText.l0]
      rw [if_neg h, if_pos (by omega)]
theorem mtxt_big (n : Int) (h : n ≤ 1000000000000000) : ∃ t, Ev (fun k => laws_markText.f k n) t := by
  by_cases c : n ≤ 0
  · exact ⟨_, Ev.all fun k => by unfold laws_markText.f; rw [if_pos c]⟩
  · obtain ⟨t, ht⟩ := mtxt_loop2 16 n (⟨#[]⟩ : ByteArray) (by omega) (by decide)
    exact ⟨t, Ev.congr (fun k => by unfold laws_markText.f; rw [if_neg c]) ht⟩
theorem markI_big (l : List Int) (m0 : Int) (h : l.length ≤ 2000000) (h0 : 0 ≤ m0) (h1 : m0 ≤ 1000000000000000) : Ev (fun k => laws_markInt64S.f k l m0) (m0 + 1 * (l.length : Int), (List.range l.length).map fun i : Nat => m0 + 1 * (i : Int)) := by
  refine mark_to l.length 1 m0 (fun x => x) (fun k xs m i => laws_markInt64S.l0 k xs m i) (fun xs i hi hl => ⟨0, fun k _ => ?_⟩) (fun k xs hl => ?_) l rfl
  · simp only [laws_markInt64S.l0]
    rw [if_pos (by omega), if_pos (by omega), w64 (by omega) (by omega), w64 (by omega) (by omega), Int.toNat_natCast]
    congr 1 <;> omega
  · simp only [laws_markInt64S.l0]
    rw [if_neg (by omega)]
theorem rdSetH (xs : List IT) (i : Nat) (h : i < xs.length) (v : IT) : rd_T43 (xs.set i v) (i : Int) = v := by
  rw [rdI _ i (by simpa using h), List.getElem_set_self]
theorem markH_ev (l : List IT) (h : Few l) : ∃ r : Int, 0 ≤ r ∧ Ev (fun k => laws_markHandS.f k l 1) r := by
  have h3 := for_ev l.length (fun k (s : List IT × Int) i => laws_markHandS.l0 k s.1 s.2 i) (fun i s => s.1.length = l.length ∧ (∀ x ∈ s.1, x.f1.length ≤ 2000000) ∧ 0 < s.2 ∧ s.2 ≤ 1 + 3000000 * (i : Int)) (fun r => 0 ≤ r) (fun i s hi hs => .inl ?_) (fun s hs => ⟨s.2, by omega, Ev.const fun k => ?_⟩) l.length 0 (l, 1) (by omega) ⟨rfl, h.2, by omega, by omega⟩
  · obtain ⟨r, hr, h4⟩ := h3
    exact ⟨r, hr, h4⟩
  · obtain ⟨xs, m⟩ := s
    obtain ⟨hl, hx, h0, h1⟩ := hs
    simp only at hl hx h0 h1
    have hn := h.1
    obtain ⟨t, ht⟩ := mtxt_big m (by omega)
    obtain ⟨K1, g1⟩ := Ev.pick ht
    have hi2 : i < xs.length := by omega
    have hf : (xs[i]).f1.length ≤ 2000000 := hx _ (List.getElem_mem hi2)
    obtain ⟨K2, g2⟩ := Ev.pick (markI_big (xs[i]).f1 (m + 1) hf (by omega) (by omega))
    refine ⟨(xs.set i ⟨t, (List.range (xs[i]).f1.length).map (fun j : Nat => (m + 1) + 1 * (j : Int)), m + 1 + 1 * ((xs[i]).f1.length : Int)⟩, m + 1 + 1 * ((xs[i]).f1.length : Int) + 1), ⟨by rw [List.length_set]; exact hl, fun x hxm => ?_, by simp only; omega, by simp only; omega⟩, K1 + K2, fun k hk => ?_⟩
    · rcases List.mem_or_eq_of_mem_set hxm with hxm | rfl
      · exact hx x hxm
      · simp only [List.length_map, List.length_range]; exact hf
    · simp only [laws_markHandS.l0]
      rw [if_pos (by omega), if_pos (by omega), g1 k (by omega)]
      simp only [Option.bind_some, Int.toNat_natCast]
      rw [rdSetH xs i hi2, rdI xs i hi2]
      simp only
      rw [w64 (x := m + 1) (by omega) (by omega), g2 k (by omega)]
      simp only [Option.bind_some, List.set_set]
      rw [rdSetH xs i hi2]
      simp only
      rw [w64 (x := (i : Int) + 1) (by omega) (by omega), w64 (x := m + 1 + 1 * ((xs[i]).f1.length : Int) + 1) (by omega) (by omega)]
  · simp only [laws_markHandS.l0]
    rw [if_neg (by omega)]

theorem setsS_len {M P : Nat → Int} {need : Int} {n : Nat} : ∀ (d : Nat) (set : List Int) (m p : Int) (s : List Int × Int), set.length + d ≤ n → s.1.length ≤ n → (setsS M P need n d set m p s).1.length ≤ n
  | 0, _, _, _, _, _, h => h
  | d + 1, set, m, p, s, hd, h => by
    simp only [setsS]
    refine setsS_len d set m p _ (by omega) ?_
    split
    · exact h
    · split
      · simp only [List.length_append, List.length_singleton]; omega
      · exact setsS_len d _ _ _ s (by simp only [List.length_append, List.length_singleton]; omega) h
theorem walkS_len {M P : Nat → Int} {need : Int} {n : Nat} {set : List Int} {m p : Int} {s : List Int × Int} (d : Nat) (hd : set.length + d ≤ n) (h : s.1.length ≤ n) : (walkS M P need n d set m p s).1.length ≤ n := by
  unfold walkS
  split
  · exact h
  · split
    · show set.length ≤ n; omega
    · exact setsS_len d set m p s hd h
def minsOf (l : List IT) (i : Nat) : Int := sumW (rd_T43 l (i : Int)).f1
def paysOf (l : List IT) (i : Nat) : Int := payS (rd_T43 l (i : Int)).f2 (rd_T43 l (i : Int)).f1 1440 0
def cheapOf (l : List IT) (a1 : Int) : List Int × Int × Int :=
  if handsOk (hdS l) l.length = true then (if decide (0 ≤ a1 ∧ a1 ≤ 20000) = true then cheapAns (walkS (minsOf l) (paysOf l) a1 l.length l.length [] 0 0 ([], -1)) else ([], 0, 2)) else ([], 0, 1)
theorem cheap_spec (l : List IT) (a1 : Int) : spec_CheapestHands.f l a1 = some (cheapOf l a1) := by
  unfold spec_CheapestHands.f cheapOf
  split
  · split <;> rfl
  · rfl
theorem cheap_impl (l : List IT) (a1 : Int) : impl_CheapestHands.f l a1 = some (cheapOf l a1) := by
  have e : handsOk (hdI l) l.length = handsOk (hdS l) l.length := rfl
  unfold impl_CheapestHands.f cheapOf
  rw [e]
  by_cases hv : handsOk (hdS l) l.length = true
  · rw [if_pos hv, if_pos hv]
    split
    · have hP : ∀ i, i < l.length → 0 ≤ paysOf l i := fun i hi => by
        obtain ⟨h1, h2, h3, h4⟩ := handV_rg ((handsOk_at hv).2 i hi)
        exact (payS_rg (wage := (rd_T43 l (i : Int)).f2) (lim := 1440) h1 h2 h3 h4).2.1
      have h := (setsI_walk (M := minsOf l) (need := a1) hP l.length [] 0 0 ([], -1) (Nat.le_refl _) (Int.le_refl _)).1
      exact congrArg (fun s => some (cheapAns s)) h
    · rfl
  · rw [if_neg hv, if_neg hv]
theorem cheap_len (l : List IT) (a1 : Int) (h : l.length ≤ 2000000) : (cheapOf l a1).1.length ≤ 2000000 := by
  unfold cheapOf
  split
  · split
    · have := walkS_len (M := minsOf l) (P := paysOf l) (need := a1) (n := l.length) (set := []) (m := 0) (p := 0) (s := ([], -1)) l.length (by simp) (by simp)
      unfold cheapAns
      split
      · simp
      · show (walkS (minsOf l) (paysOf l) a1 l.length l.length [] 0 0 ([], -1)).1.length ≤ 2000000
        omega
    · simp
  · simp

end FnExactCheapestHands_
def G36 (z : S36) : Prop := z.f0.size ≤ maxLen ∧ (z.f1.length ≤ maxLen ∧ ∀ x ∈ z.f1, (Lit.int .i64 x).wf = true) ∧ (Lit.int .i64 z.f2).wf = true
open FnExactCheapestHands_ in
theorem FnExactCheapestHands : ∀ (l0 : List S36) (a1 : Int), (l0.length ≤ maxLen ∧ ∀ x ∈ l0, G36 x) → (Lit.int .i64 a1).wf = true → ∃ k, laws_FnExactCheapestHands.f k l0 a1 = some true := by
  intro l0 a1 hl _
  obtain ⟨r, hr, hsz⟩ := sz_ev l0 hl.1 hl.2
  obtain ⟨K0, h0⟩ := Ev.pick hsz
  by_cases c : r < 0
  · refine ⟨K0, ?_⟩
    unfold laws_FnExactCheapestHands.f
    rw [h0 K0 (Nat.le_refl _)]
    simp only [Option.bind_some]
    rw [if_pos c]
  · obtain ⟨hn, hx⟩ : l0.length ≤ 1048576 ∧ ∀ x ∈ l0, x.f1.length ≤ 1048576 := hr.resolve_left c
    have hm := few_map hn hx
    have h12 := cheap_len (l0.map conv) a1 hm.1
    obtain ⟨K1, h1⟩ := Ev.pick (to_ev l0 hn hx)
    have h2 := cheap_spec (l0.map conv) a1
    have h3 := cheap_impl (l0.map conv) a1
    obtain ⟨K4, h4⟩ := Ev.pick (eq_ev (l0.map conv) hm)
    obtain ⟨mm, hmm, hme⟩ := markH_ev (l0.map conv) hm
    obtain ⟨K5, h5⟩ := Ev.pick hme
    generalize cheapOf (l0.map conv) a1 = a at h2 h3 h12
    obtain ⟨K6, h6⟩ := Ev.pick (eqInt64S_ev a.1 (by omega))
    obtain ⟨K7, h7⟩ := Ev.pick (markInt64S_ev a.1 (by omega))
    obtain ⟨K8, h8⟩ := Ev.pick (heldInt64S_ev a.1.length (by omega))
    have n1 : ¬ mm < 0 := by omega
    have n2 : ¬ (1 + 1 * (a.1.length : Int) < 0) := by omega
    obtain ⟨M, hM⟩ : ∃ M, M = K0 + K1 + K4 + K5 + K6 + K7 + K8 := ⟨_, rfl⟩
    refine ⟨M + 3, ?_⟩
    unfold laws_FnExactCheapestHands.f
    simp (disch := omega) only [h0, h1, h2, h3, h6, c, Option.bind_some, if_true, if_false, bne_self_eq_false]
    rw [laws_FnExactCheapestHands.j0]
    simp (disch := omega) only [h1, h4, h5, h6, n1, Option.bind_some, if_true, if_false, bne_self_eq_false, Bool.false_eq_true]
    rw [laws_FnExactCheapestHands.j1]
    simp (disch := omega) only [h1, h3, h6, h7, h8, n2, Option.bind_some, if_true, if_false, bne_self_eq_false, Bool.false_eq_true]
    rw [laws_FnExactCheapestHands.j2]
    simp (disch := omega) only [h8, n2, Option.bind_some, if_true, if_false, Bool.false_eq_true]

end Go.Proofs.Ytdamlohbplfdgaa.Pure
