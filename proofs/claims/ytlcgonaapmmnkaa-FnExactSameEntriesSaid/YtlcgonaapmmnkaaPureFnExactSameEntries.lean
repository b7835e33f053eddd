/- For all pairs of lists of entries the program's SameEntries and the reference's SameEntries tell the same; the entries stay as they are. -/
import Derived.Test.YtlcgonaapmmnkaaQFnExactSameEntriesx3
import Derived.Test.YtlcgonaapmmnkaaQFnExactSameEntriesx2
import Derived.Test.YtlcgonaapmmnkaaQFnExactSameEntriesx1
import Derived.Test.YtlcgonaapmmnkaaBase
namespace Go.Proofs.Ytlcgonaapmmnkaa.Pure
open Go.RowKit Go.Proofs.Ytlcgonaapmmnkaa.QFnExactSameEntries Go.Proofs.YtlcgonaapmmnkaaW.PrintWords Go.Proofs.YtlcgonaapmmnkaaW.PrintLast Go.Proofs.Ytlcgonaapmmnkaa.Base
set_option linter.unusedVariables false
set_option linter.unusedSimpArgs false

namespace FnExactSameEntries_
def GS (x : S23) : Prop := (Lit.int .i64 x.f0).wf = true ∧ x.f1.size ≤ maxLen ∧ x.f2.size ≤ maxLen
abbrev LT := S23
abbrev IT := S26
def conv (x : LT) : IT := ⟨x.f0, x.f1, x.f2⟩
theorem rdL (xs : List LT) (i : Nat) (h : i < xs.length) : rd_T23 xs (i : Int) = xs[i] := by
  unfold rd_T23; rw [Int.toNat_natCast, List.getD_eq_getElem?_getD, List.getElem?_eq_getElem h]; rfl
theorem rdI (xs : List IT) (i : Nat) (h : i < xs.length) : rd_T26 xs (i : Int) = xs[i] := by
  unfold rd_T26; rw [Int.toNat_natCast, List.getD_eq_getElem?_getD, List.getElem?_eq_getElem h]; rfl
theorem rdSet (xs : List IT) (i : Nat) (h : i < xs.length) (v : IT) : rd_T26 (xs.set i v) (i : Int) = v := by
  rw [rdI _ i (by simpa using h), List.getElem_set_self]
theorem to_ev (l : List LT) (h : l.length ≤ 1048576) : Ev (fun k => laws_toEntryS.f k l) (l.map conv) := by
  have round : ∀ k acc (i : Nat) (h : i < l.length), acc.length = l.length → laws_toEntryS.l0 (k + 1) l acc (i : Int) = laws_toEntryS.l0 k l (acc.set i (conv l[i])) ((i : Int) + 1) := by
    intro k acc i hi hl
    simp only [laws_toEntryS.l0, laws_toEntry.f, Option.bind_some]
    rw [if_pos (by omega), if_pos (by omega), if_pos (by omega), w64 (by omega) (by omega), rdL l i hi, Int.toNat_natCast]
    rfl
  have fin : ∀ k acc, laws_toEntryS.l0 (k + 1) l acc (l.length : Int) = some acc := by
    intro k acc
    simp only [laws_toEntryS.l0]
    rw [if_neg (by omega)]
  have := fill_to l conv (fun k acc i => laws_toEntryS.l0 k l acc i) round fin (List.replicate l.length z26) (by simp)
  refine Ev.congr (fun k => ?_) this
  unfold laws_toEntryS.f
  rw [if_pos (by omega), if_pos (by rw [Int.toNat_natCast]; omega), Int.toNat_natCast]
theorem eq_ev (l : List IT) (h : l.length ≤ 2000000) : Ev (fun k => laws_eqEntryS.f k l l) true := by
  refine Ev.congr (f := fun k => laws_eqEntryS.l0 k l l 0) (fun k => by unfold laws_eqEntryS.f; rw [if_pos rfl]) ?_
  refine go_to l.length (fun k i => laws_eqEntryS.l0 k l l i) true (fun i hi => ⟨0, fun k _ => ?_⟩) (Ev.const fun k => ?_)
  · simp only [laws_eqEntryS.l0, laws_eqEntry.f, if_true, Option.bind_some]
    rw [if_pos (by omega), if_pos (by omega), if_pos (by omega), w64 (by omega) (by omega)]
  · simp only [laws_eqEntryS.l0]
    rw [if_neg (by omega)]
theorem sz_one (x : LT) (hx : GS x) (left : Int) (h0 : 0 ≤ left) (h1 : left ≤ 1048576) : ∃ t, laws_szEntry.f x.f0 x.f1 x.f2 left = some t ∧ t ≤ 1048576 := by
  unfold GS at hx
  unfold maxLen at hx
  unfold laws_szEntry.f wrap64
  repeat' split
  all_goals exact ⟨_, rfl, by omega⟩
theorem sz_evL (l : List LT) (left : Int) (h0 : 0 ≤ left) (h1 : left ≤ 1048576) (h : l.length ≤ maxLen) (hg : ∀ x ∈ l, GS x) : ∃ r, (r < 0 ∨ l.length ≤ 1048576 ∧ r ≤ 1048576) ∧ Ev (fun k => laws_szEntryS.f k l left) r := by
  unfold maxLen at h
  by_cases c : left < l.length
  · refine ⟨-1, .inl (by omega), Ev.all fun k => ?_⟩
    unfold laws_szEntryS.f
    rw [w64 (by omega) (by omega), if_pos (by omega)]
  · have h3 := for_ev l.length (fun k (s : Int) i => laws_szEntryS.l0 k l s i) (fun _ s => 0 ≤ s ∧ s ≤ 1048576) (fun r => r ≤ 1048576) (fun i s hi hs => ?_) (fun s hs => ⟨s, hs.2, Ev.const fun k => ?_⟩) l.length 0 (left - (l.length : Int)) (by omega) (by omega)
    · obtain ⟨r, hr, h2⟩ := h3
      refine ⟨r, .inr ⟨by omega, hr⟩, Ev.congr (fun k => ?_) h2⟩
      unfold laws_szEntryS.f
      rw [w64 (by omega) (by omega), if_neg (by omega)]
      rfl
    · obtain ⟨t, ht, ht1⟩ := sz_one l[i] (hg _ (List.getElem_mem hi)) s hs.1 hs.2
      by_cases c2 : t < 0
      · refine .inr ⟨-1, by omega, Ev.const fun k => ?_⟩
        simp only [laws_szEntryS.l0]
        rw [if_pos (by omega), if_pos (by omega), rdL l i hi, ht]
        simp only [Option.bind_some]
        rw [if_pos c2]
      · refine .inl ⟨t, by omega, 0, fun k _ => ?_⟩
        simp only [laws_szEntryS.l0]
        rw [if_pos (by omega), if_pos (by omega), rdL l i hi, ht]
        simp only [Option.bind_some]
        rw [if_neg c2, w64 (by omega) (by omega)]
    · simp only [laws_szEntryS.l0]
      rw [if_neg (by omega)]

def unlike (x y : IT) : Bool := !(x.f0 == y.f0) || (!(x.f1.toList == y.f1.toList) || (!(x.f2.toList == y.f2.toList)))
def likeB (a b : List IT) : Bool := if (a.length : Int) = (b.length : Int) then (List.range a.length).all (fun i => !unlike (rd_T26 a (i : Int)) (rd_T26 b (i : Int))) else false
theorem like_spec (a b : List IT) (h : a.length ≤ 2000000) : Ev (fun k => spec_SameEntries.f k a b) (likeB a b) := by
  unfold spec_SameEntries.f likeB
  by_cases hl : (a.length : Int) = (b.length : Int)
  · simp only [if_pos hl]
    have := all_lt a.length (fun i => !unlike (rd_T26 a (i : Int)) (rd_T26 b (i : Int))) (fun k i => spec_SameEntries.l0 k a b i) true false (fun i hi hp => ⟨0, fun k _ => ?_⟩) (fun i hi hp => Ev.const fun k => ?_) (fun _ => Ev.const fun k => ?_)
    · rw [ite_bool] at this
      exact this
    · have hp2 : ¬ unlike (rd_T26 a (i : Int)) (rd_T26 b (i : Int)) = true := by simpa using hp
      unfold unlike at hp2
      simp only [spec_SameEntries.l0]
      rw [if_pos (by omega), if_pos (by omega), if_pos (by omega), if_neg hp2, w64 (by omega) (by omega)]
    · have hp2 : unlike (rd_T26 a (i : Int)) (rd_T26 b (i : Int)) = true := by simpa using hp
      unfold unlike at hp2
      simp only [spec_SameEntries.l0]
      rw [if_pos (by omega), if_pos (by omega), if_pos (by omega), if_pos hp2]
    · simp only [spec_SameEntries.l0]
      rw [if_neg (by omega)]
  · simp only [if_neg hl]
    exact Ev.all fun _ => rfl
theorem like_impl (a b : List IT) (h : a.length ≤ 2000000) : Ev (fun k => impl_SameEntries.f k a b) (likeB a b) := by
  refine Ev.congr (f := fun k => impl_Entry.f k a b) (fun k => by unfold impl_SameEntries.f; cases impl_Entry.f k a b <;> rfl) ?_
  unfold impl_Entry.f likeB
  by_cases hl : (a.length : Int) = (b.length : Int)
  · simp only [if_pos hl]
    have := all_lt a.length (fun i => !unlike (rd_T26 a (i : Int)) (rd_T26 b (i : Int))) (fun k i => impl_Entry.l0 k a b a.length i) true false (fun i hi hp => ⟨0, fun k _ => ?_⟩) (fun i hi hp => Ev.const fun k => ?_) (fun _ => Ev.const fun k => ?_)
    · rw [ite_bool] at this
      exact this
    · have hp2 : ¬ unlike (rd_T26 a (i : Int)) (rd_T26 b (i : Int)) = true := by simpa using hp
      unfold unlike at hp2
      simp only [impl_Entry.l0]
      rw [if_pos (by omega), if_pos (by omega), if_pos (by omega), if_pos (by omega), if_neg hp2, w64 (by omega) (by omega)]
    · have hp2 : unlike (rd_T26 a (i : Int)) (rd_T26 b (i : Int)) = true := by simpa using hp
      unfold unlike at hp2
      simp only [impl_Entry.l0]
      rw [if_pos (by omega), if_pos (by omega), if_pos (by omega), if_pos (by omega), if_pos hp2]
    · simp only [impl_Entry.l0]
      rw [if_neg (by omega)]
  · simp only [if_neg hl]
    exact Ev.all fun _ => rfl
end FnExactSameEntries_
def G23 (z : S23) : Prop := (Lit.int .i64 z.f0).wf = true ∧ z.f1.size ≤ maxLen ∧ z.f2.size ≤ maxLen
open FnExactSameEntries_ in
theorem FnExactSameEntries : ∀ (l0 : List S23) (l1 : List S23), (l0.length ≤ maxLen ∧ ∀ x ∈ l0, G23 x) → (l1.length ≤ maxLen ∧ ∀ x ∈ l1, G23 x) → ∃ k, laws_FnExactSameEntries.f k l0 l1 = some true := by
  intro l0 l1 hl hl1
  obtain ⟨r, hr, hsz⟩ := sz_evL l0 1048576 (by omega) (by omega) hl.1 hl.2
  obtain ⟨K0, h0⟩ := Ev.pick hsz
  by_cases c : r < 0
  · refine ⟨K0, ?_⟩
    unfold laws_FnExactSameEntries.f
    rw [h0 K0 (Nat.le_refl _)]
    simp only [Option.bind_some]
    rw [if_pos c]
  · obtain ⟨hn, hr1⟩ := hr.resolve_left c
    obtain ⟨r2, hr2, hsz2⟩ := sz_evL l1 r (by omega) hr1 hl1.1 hl1.2
    obtain ⟨J0, g0⟩ := Ev.pick hsz2
    by_cases c2 : r2 < 0
    · refine ⟨K0 + J0, ?_⟩
      unfold laws_FnExactSameEntries.f
      rw [h0 _ (by omega)]
      simp only [Option.bind_some]
      rw [if_neg c, g0 _ (by omega)]
      simp only [Option.bind_some]
      rw [if_pos c2]
    · have hn1 : l1.length ≤ 1048576 := (hr2.resolve_left c2).1
      have hm : (l0.map conv).length ≤ 2000000 := by rw [List.length_map]; omega
      have hm1 : (l1.map conv).length ≤ 2000000 := by rw [List.length_map]; omega
      obtain ⟨K1, h1⟩ := Ev.pick (to_ev l0 hn)
      obtain ⟨J1, g1⟩ := Ev.pick (to_ev l1 hn1)
      obtain ⟨K2, h2⟩ := Ev.pick (like_impl (l0.map conv) (l1.map conv) hm)
      obtain ⟨J2, g2⟩ := Ev.pick (like_spec (l0.map conv) (l1.map conv) hm)
      obtain ⟨K3, h3⟩ := Ev.pick (eq_ev (l0.map conv) hm)
      obtain ⟨J3, g3⟩ := Ev.pick (eq_ev (l1.map conv) hm1)
      refine ⟨K0 + K1 + K2 + K3 + J0 + J1 + J2 + J3, ?_⟩
      unfold laws_FnExactSameEntries.f
      simp (disch := omega) only [h0, h1, h2, h3, g0, g1, g2, g3, c, c2, Option.bind_some, if_true, if_false, bne_self_eq_false, Bool.false_eq_true]

end Go.Proofs.Ytlcgonaapmmnkaa.Pure
