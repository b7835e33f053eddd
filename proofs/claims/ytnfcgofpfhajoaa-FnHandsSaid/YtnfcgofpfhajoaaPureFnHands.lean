/- For all bytes: pay is that of all minutes and of those beyond the limit, streaks are the longest ones, shares have their sum. -/
import Derived.Test.YtnfcgofpfhajoaaQFnHandsx7
import Derived.Test.YtnfcgofpfhajoaaBase
namespace Go.Proofs.Ytnfcgofpfhajoaa.Pure
open Go.RowKit Go.Proofs.Ytnfcgofpfhajoaa.QFnHands Go.Proofs.YtnfcgofpfhajoaaW.PrintWords Go.Proofs.YtnfcgofpfhajoaaW.PrintLast Go.Proofs.Ytnfcgofpfhajoaa.Base
set_option linter.unusedVariables false
set_option linter.unusedSimpArgs false

namespace FnHands_
abbrev IT := S29
theorem rdI (xs : List IT) (i : Nat) (h : i < xs.length) : rd_T29 xs (i : Int) = xs[i] := by
  unfold rd_T29; rw [Int.toNat_natCast, List.getD_eq_getElem?_getD, List.getElem?_eq_getElem h]; rfl
theorem and255 (x : Int) : 0 ≤ Go.bits .and .u64 x 255 ∧ Go.bits .and .u64 x 255 ≤ 255 := by
  unfold Go.bits
  have h : (BitVec.ofInt 64 x &&& BitVec.ofInt 64 255).toNat ≤ 255 := by
    rw [BitVec.toNat_and]
    exact Nat.and_le_right
  have e : IntKind.u64.wrap (((BitVec.ofInt 64 x &&& BitVec.ofInt 64 255).toNat : Nat) : Int) = (((BitVec.ofInt 64 x &&& BitVec.ofInt 64 255).toNat : Nat) : Int) := by
    simp only [IntKind.wrap, IntKind.bits, IntKind.signed, Bool.false_and, Bool.false_eq_true, if_false]
    omega
  show 0 ≤ IntKind.u64.wrap (((BitVec.ofInt 64 x &&& BitVec.ofInt 64 255).toNat : Nat) : Int) ∧ IntKind.u64.wrap (((BitVec.ofInt 64 x &&& BitVec.ofInt 64 255).toNat : Nat) : Int) ≤ 255
  rw [e]
  omega
def Bytes (l : List Int) : Prop := ∀ x ∈ l, 0 ≤ x ∧ x ≤ 255
theorem bytes_wf {l : List Int} (h : ∀ x ∈ l, (Lit.int .u8 x).wf = true) : Bytes l := by
  intro x hx
  have := h x hx
  simp only [Lit.wf, IntKind.min, IntKind.max, IntKind.signed, IntKind.bits, Bool.and_eq_true, decide_eq_true_eq, Bool.false_eq_true, if_false] at this
  omega
theorem bytes_rd {l : List Int} (h : Bytes l) {i : Int} (h0 : 0 ≤ i) (h1 : i < l.length) : 0 ≤ rd l i ∧ rd l i ≤ 255 := by
  obtain ⟨n, rfl⟩ := Int.eq_ofNat_of_zero_le h0
  rw [rd_nat l n (by omega)]
  exact h _ (List.getElem_mem _)
theorem next_ok {l : List Int} (h : Bytes l) (hl : l.length ≤ 3000) (p s : Int) (h0 : 0 ≤ p) (h1 : p ≤ 1000000) : ∃ v s', spec_l00Src_next.f l p s = some (v, p + 1, s') ∧ 0 ≤ v ∧ v ≤ 255 := by
  unfold spec_l00Src_next.f
  rw [w64 (x := p + 1) (by omega) (by omega)]
  by_cases c : p < (l.length : Int)
  · have hb := bytes_rd h h0 c
    rw [if_pos c, if_pos h0, if_pos (by omega)]
    exact ⟨_, _, rfl, by rw [w64 (by omega) (by omega)]; exact hb⟩
  · rw [if_neg c, if_neg (by omega)]
    refine ⟨_, _, rfl, ?_⟩
    have := and255 (IntKind.u64.wrap (IntKind.u64.wrap (IntKind.u64.wrap (s * 6364136223846793005) + 0) + 1442695040888963407) / 1099511627776)
    rw [w64 (by omega) (by omega)]
    exact this
theorem tmod_range {a n : Int} (h0 : 0 ≤ a) (hn : 1 ≤ n) : 0 ≤ Int.tmod a n ∧ Int.tmod a n < n := by
  rw [tmod_nn h0]
  exact ⟨Int.emod_nonneg _ (by omega), Int.emod_lt_of_pos _ (by omega)⟩
theorem pick_ok {l : List Int} (h : Bytes l) (hl : l.length ≤ 3000) (p s n : Int) (h0 : 0 ≤ p) (h1 : p ≤ 999999) (hn : 1 ≤ n) : ∃ r p' s', spec_l00Src_pick.f l p s n = some (r, p', s') ∧ (0 ≤ r ∧ r < n) ∧ p ≤ p' ∧ p' ≤ p + 2 := by
  unfold spec_l00Src_pick.f
  by_cases c : n ≤ 1
  · rw [if_pos c]
    exact ⟨_, _, _, rfl, by omega, by omega, by omega⟩
  · obtain ⟨v, s1, e1, v0, v1⟩ := next_ok h hl p s h0 (by omega)
    rw [if_neg c, e1]
    simp only [Option.bind_some]
    by_cases c2 : n > 200
    · obtain ⟨u, s2, e2, u0, u1⟩ := next_ok h hl (p + 1) s1 (by omega) (by omega)
      rw [if_pos c2, e2]
      simp only [Option.bind_some]
      rw [if_neg (by omega), w64 (x := v * 256) (by omega) (by omega), w64 (x := v * 256 + u) (by omega) (by omega)]
      exact ⟨_, _, _, rfl, tmod_range (by omega) hn, by omega, by omega⟩
    · rw [if_neg c2, if_neg (by omega)]
      exact ⟨_, _, _, rfl, tmod_range v0 hn, by omega, by omega⟩
theorem at_ok {l : List Int} (h : Bytes l) (i n : Int) (h0 : 0 ≤ i) (hn : 1 ≤ n) : ∃ r, laws_a2At.f l i n = some r ∧ 0 ≤ r ∧ r < n := by
  unfold laws_a2At.f
  by_cases c : i ≥ (l.length : Int)
  · rw [if_pos c]
    exact ⟨0, rfl, by omega, by omega⟩
  · have hb := bytes_rd h h0 (show i < l.length by omega)
    rw [if_neg c, if_neg (by omega), if_pos h0, if_pos (by omega), if_neg (by omega), w64 (by omega) (by omega)]
    exact ⟨_, rfl, tmod_range hb.1 hn⟩

theorem within_eq (a b c : Int) : impl_within.f a b c = some (decide (b ≤ a ∧ a ≤ c)) := by
  unfold impl_within.f
  by_cases h : a ≥ b
  · rw [if_pos h]; congr 1; apply Bool.eq_iff_iff.mpr; simp; omega
  · rw [if_neg h]; congr 1; apply Bool.eq_iff_iff.mpr; simp; omega
theorem areIn_ev (l : List Int) (a b : Int) (h : l.length ≤ 9223372036854775807) : Ev (fun k => impl_areIn.f k l l.length a b) (l.all fun x => decide (a ≤ x ∧ x ≤ b)) := by
  refine Ev.congr (f := fun k => impl_areIn.l0 k a b l l.length 0) (fun k => by unfold impl_areIn.f; rw [if_pos rfl]) ?_
  have := all_lt l.length (fun i => decide (a ≤ rd l i ∧ rd l i ≤ b)) (fun k i => impl_areIn.l0 k a b l l.length i) true false (fun i hi hp => ⟨0, fun k _ => ?_⟩) (fun i hi hp => Ev.const fun k => ?_) (fun _ => Ev.const fun k => ?_)
  · rw [all_range_list (p := fun x => decide (a ≤ x ∧ x ≤ b)) (fun i hi => by rw [rd_nat l i hi])] at this
    rw [ite_bool] at this
    exact this
  · simp only [impl_areIn.l0]
    rw [if_pos (by omega), if_pos (by omega), if_pos (by omega), within_eq, hp, w64 (by omega) (by omega)]
    rfl
  · simp only [impl_areIn.l0]
    rw [if_pos (by omega), if_pos (by omega), if_pos (by omega), within_eq, hp]
    rfl
  · simp only [impl_areIn.l0]
    rw [if_neg (by omega)]

/-- The first of the greatest, from place i on, against the one at b. -/
def am (r : List Int) : Nat → Nat → Nat → Nat
  | 0, _, b => b
  | d + 1, i, b => am r d (i + 1) (if rd r i > rd r b then i else b)
theorem am_lt (r : List Int) : ∀ d i b, i + d = r.length → b < r.length → am r d i b < r.length := by
  intro d
  induction d with
  | zero => intro i b _ hb; exact hb
  | succ d ih =>
    intro i b hi hb
    unfold am
    exact ih _ _ (by omega) (by split <;> omega)
/-- What is left goes, one by one, to the greatest rests. -/
def dist : Nat → List Int → List Int → List Int
  | 0, o, _ => o
  | n + 1, o, r => dist n (o.set (am r (r.length - 1) 1 0) (wrap64 (rd o (am r (r.length - 1) 1 0 : Nat) + 1))) (r.set (am r (r.length - 1) 1 0) (-1))
theorem dist_length : ∀ n o r, (dist n o r).length = o.length := by
  intro n
  induction n with
  | zero => intro o r; rfl
  | succ n ih => intro o r; unfold dist; rw [ih, List.length_set]
theorem impl_l3 (o r : List Int) (left : Int) (R : List Int × Int) (ho : o.length = r.length) (h0 : 0 < left) (h1 : left ≤ 1000000000000000) (hr : r.length ≤ 1000000000000) : ∀ d (i b : Nat), i + d = r.length → b < r.length →
    Ev (fun k => impl_SplitPrice.l2 k (o.set (am r d i b) (wrap64 (rd o (am r d i b : Nat) + 1))) (r.set (am r d i b) (-1)) (left - 1)) R → Ev (fun k => impl_SplitPrice.l3 k o r left b r.length i) R := by
  intro d
  induction d with
  | zero =>
    intro i b hi hb h
    refine Ev.step (fun k => ?_) h
    simp only [impl_SplitPrice.l3, am]
    rw [if_neg (by omega), if_pos (by omega), if_pos (by omega), if_pos (by omega), w64 (x := left - 1) (by omega) (by omega), Int.toNat_natCast]
  | succ d ih =>
    intro i b hi hb h
    unfold am at h
    by_cases c : rd r i > rd r b
    · rw [if_pos c] at h
      refine Ev.step (fun k => ?_) (ih (i + 1) i (by omega) (by omega) h)
      simp only [impl_SplitPrice.l3]
      rw [if_pos (by omega), if_pos (by omega), if_pos (by omega), if_pos (by omega), if_pos (by omega), if_pos c, w64 (x := (i : Int) + 1) (by omega) (by omega)]
      rfl
    · rw [if_neg c] at h
      refine Ev.step (fun k => ?_) (ih (i + 1) b (by omega) (by omega) h)
      simp only [impl_SplitPrice.l3]
      rw [if_pos (by omega), if_pos (by omega), if_pos (by omega), if_pos (by omega), if_pos (by omega), if_neg c, w64 (x := (i : Int) + 1) (by omega) (by omega)]
      rfl
theorem impl_l2 : ∀ (n : Nat) (left : Int) (o r : List Int), left.toNat = n → left ≤ 1000000000000000 → o.length = r.length → 0 < r.length → r.length ≤ 1000000000000 → Ev (fun k => impl_SplitPrice.l2 k o r left) (dist n o r, 0) := by
  intro n
  induction n with
  | zero =>
    intro left o r hn h1 ho h0 hr
    refine Ev.const fun k => ?_
    simp only [impl_SplitPrice.l2]
    rw [if_neg (by omega)]
    rfl
  | succ n ih =>
    intro left o r hn h1 ho h0 hr
    refine Ev.step (f := fun k => impl_SplitPrice.l3 k o r left 0 r.length 0) (fun k => by simp only [impl_SplitPrice.l2]; rw [if_pos (by omega)]) ?_
    refine impl_l3 o r left _ ho (by omega) h1 hr r.length 0 0 (by omega) h0 ?_
    have e : am r r.length 0 0 = am r (r.length - 1) 1 0 := by
      obtain ⟨m, hm⟩ : ∃ m, r.length = m + 1 := ⟨r.length - 1, by omega⟩
      rw [hm]
      show am r m (0 + 1) (if rd r (0 : Nat) > rd r (0 : Nat) then 0 else 0) = am r m 1 0
      rw [if_neg (by omega)]
    rw [e]
    have := ih (left - 1) (o.set (am r (r.length - 1) 1 0) (wrap64 (rd o (am r (r.length - 1) 1 0 : Nat) + 1))) (r.set (am r (r.length - 1) 1 0) (-1)) (by omega) (by omega) (by simpa using ho) (by simpa using h0) (by simpa using hr)
    unfold dist
    exact this
def shares (c S : Int) (ws : List Int) : List Int := ws.map fun w => c * w / S
def rests (c S : Int) (ws : List Int) : List Int := ws.map fun w => c * w % S
theorem set_fill (l : List Int) (i : Nat) (h : i < l.length) (z : Int) : (l.take i ++ List.replicate (l.length - i) z).set i l[i] = l.take (i + 1) ++ List.replicate (l.length - (i + 1)) z := by
  rw [List.set_append_right _ _ (by rw [List.length_take]; omega), List.length_take, Nat.min_eq_left (by omega), Nat.sub_self, show l.length - i = (l.length - (i + 1)) + 1 by omega, List.replicate_succ, List.set_cons_zero, List.take_succ_eq_append_getElem h, List.append_assoc]
  rfl
section
variable {c S : Int} {ws : List Int} (hc : 0 ≤ c ∧ c ≤ 100000000) (hS : 0 < S ∧ S ≤ 1000000000) (hw : ∀ x ∈ ws, 0 ≤ x ∧ x ≤ 10000) (hn : ws.length ≤ 12)
include hc hS hw in
theorem one_share (i : Nat) (h : i < ws.length) : wrap64 (Int.tdiv (wrap64 (c * rd ws i)) S) = c * ws[i] / S ∧ Int.tmod (wrap64 (c * rd ws i)) S = c * ws[i] % S ∧ 0 ≤ c * ws[i] / S ∧ c * ws[i] / S ≤ 1000000000000 := by
  have hx := hw _ (List.getElem_mem h)
  obtain ⟨p0, p1⟩ := mul_range hc.1 hc.2 hx.1 hx.2
  rw [rd_nat ws i h, w64 (x := c * ws[i]) (by omega) (by omega), tdiv_nn p0, tmod_nn p0]
  have q0 : 0 ≤ c * ws[i] / S := Int.ediv_nonneg p0 (by omega)
  have q1 : c * ws[i] / S ≤ c * ws[i] := Int.ediv_le_self _ p0
  exact ⟨w64 (by omega) (by omega), rfl, q0, by omega⟩
theorem shares_get (c S : Int) (ws : List Int) (i : Nat) (h : i < ws.length) : (shares c S ws)[i]'(by simpa [shares] using h) = c * ws[i] / S := by simp [shares]
theorem rests_get (c S : Int) (ws : List Int) (i : Nat) (h : i < ws.length) : (rests c S ws)[i]'(by simpa [rests] using h) = c * ws[i] % S := by simp [rests]
include hc hS hw in
theorem shares_bound : ∀ x ∈ shares c S ws, 0 ≤ x ∧ x ≤ 1000000000000 := by
  intro x hx
  obtain ⟨i, hi, rfl⟩ := List.getElem_of_mem hx
  have hi' : i < ws.length := by simpa [shares] using hi
  rw [shares_get c S ws i hi']
  exact (one_share hc hS hw i hi').2.2
include hc hS hw hn in
include hc hS hw hn in
theorem impl_l1 (R : List Int × Int) (h : Ev (fun k => impl_SplitPrice.l2 k (shares c S ws) (rests c S ws) (c - (shares c S ws).sum)) R) : Ev (fun k => impl_SplitPrice.l1 k c S (List.replicate ws.length 0) (List.replicate ws.length 0) c ws ws.length 0) R := by
  have hsl : (shares c S ws).length = ws.length := by simp [shares]
  have hrl : (rests c S ws).length = ws.length := by simp [rests]
  have := for_to ws.length (fun k (s : List Int × List Int × Int) i => impl_SplitPrice.l1 k c S s.1 s.2.1 s.2.2 ws ws.length i) (fun i => ((shares c S ws).take i ++ List.replicate ((shares c S ws).length - i) 0, (rests c S ws).take i ++ List.replicate ((rests c S ws).length - i) 0, c - ((shares c S ws).take i).sum)) R (fun i hi => ⟨0, fun k _ => ?_⟩) ?_ ws.length 0 (by omega)
  · simpa [hsl, hrl] using this
  · obtain ⟨e1, e2, e3, e4⟩ := one_share hc hS hw i hi
    have b := sum_take_bound (shares_bound hc hS hw) i (by omega)
    have l1 : ((shares c S ws).take i ++ List.replicate ((shares c S ws).length - i) 0).length = ws.length := by simp; omega
    have l2 : ((rests c S ws).take i ++ List.replicate ((rests c S ws).length - i) 0).length = ws.length := by simp; omega
    have s1 := set_fill (shares c S ws) i (by omega) 0
    have s2 := set_fill (rests c S ws) i (by omega) 0
    rw [shares_get c S ws i hi] at s1
    rw [rests_get c S ws i hi] at s2
    have t3 : rd ((shares c S ws).take (i + 1) ++ List.replicate ((shares c S ws).length - (i + 1)) 0) i = c * ws[i] / S := by
      rw [rd_nat _ i (by simp; omega), List.getElem_append_left (by rw [List.length_take]; omega), List.getElem_take, shares_get c S ws i hi]
    simp only [impl_SplitPrice.l1]
    rw [if_pos (by omega), if_pos (by omega), if_pos (by omega), if_neg (by omega), if_pos (by omega), e1, e2, Int.toNat_natCast, s1, s2]
    simp only [Option.bind_some]
    rw [if_pos (by omega), t3, w64 (by omega) (by omega), w64 (by omega) (by omega), sum_take_succ _ i (by omega), shares_get c S ws i hi]
    congr 1; omega
  · refine Ev.step (f := fun k => impl_SplitPrice.l2 k (shares c S ws) (rests c S ws) (c - (shares c S ws).sum)) (fun k => ?_) h
    simp only [impl_SplitPrice.l1]
    rw [if_neg (by omega), List.take_of_length_le (by omega), List.take_of_length_le (by omega), hsl, hrl]
    simp
end
/-- What SplitPrice answers. -/
def splitAns (c : Int) (ws : List Int) : List Int × Int :=
  if (ws.all fun x => decide (0 ≤ x ∧ x ≤ 10000)) = true then
    if (0 ≤ c ∧ c ≤ 100000000) ∧ 1 ≤ ws.length ∧ ws.length ≤ 12 then
      if ws.sum = 0 then ([], 6) else (dist (c - (shares c ws.sum ws).sum).toNat (shares c ws.sum ws) (rests c ws.sum ws), 0)
    else ([], 2)
  else ([], 2)
theorem split_j0 (c : Int) (ws : List Int) (k : Nat) : impl_SplitPrice.j0 (k + 1) c ws true = some ([], 2) := by simp only [impl_SplitPrice.j0, if_true]
theorem split_impl (c : Int) (ws : List Int) (hl : ws.length ≤ 35184372088832) : Ev (fun k => impl_SplitPrice.f k c ws) (splitAns c ws) := by
  unfold splitAns
  by_cases hc : 0 ≤ c ∧ c ≤ 100000000
  · by_cases hn : 1 ≤ ws.length ∧ ws.length ≤ 12
    · obtain ⟨K, hK⟩ := areIn_ev ws 0 10000 (by omega)
      dsimp only at hK
      have start : ∀ k, K ≤ k → impl_SplitPrice.f k c ws = impl_SplitPrice.j0 k c ws (!(ws.all fun x => decide (0 ≤ x ∧ x ≤ 10000))) := by
        intro k hk
        unfold impl_SplitPrice.f
        rw [within_eq]
        simp only [hc, and_self, decide_true, Option.bind_some, if_true]
        rw [if_neg (by omega), if_neg (by omega), hK k hk]
        rfl
      by_cases ha : (ws.all fun x => decide (0 ≤ x ∧ x ≤ 10000)) = true
      · rw [if_pos ha, if_pos ⟨hc, hn⟩]
        have hw : ∀ x ∈ ws, 0 ≤ x ∧ x ≤ 10000 := fun x hx => by simpa using List.all_eq_true.1 ha x hx
        have hs := sum_bound 0 10000 ws hw
        have go : ∀ R, Ev (fun k => impl_SplitPrice.l0 (k + 1) c ws ws.sum ws ws.length ws.length) R → Ev (fun k => impl_SplitPrice.f k c ws) R := by
          intro R h
          have h1 := for_to ws.length (fun k (s : Int) i => impl_SplitPrice.l0 k c ws s ws ws.length i) (fun i => (ws.take i).sum) R (fun i hi => ⟨0, fun k _ => by
            have b1 := sum_take_bound hw (i + 1) (by omega)
            rw [sum_take_succ ws i hi] at b1
            simp only [impl_SplitPrice.l0]
            rw [if_pos (by omega), if_pos (by omega), if_pos (by omega), rd_nat ws i hi, w64 (x := (i : Int) + 1) (by omega) (by omega), w64 (by omega) (by omega), sum_take_succ ws i hi]⟩) (by
            rw [List.take_of_length_le (by omega)]
            exact Ev.succ h) ws.length 0 (by omega)
          obtain ⟨J, hJ⟩ := h1
          dsimp only at hJ
          refine ⟨max K J + 1, fun k hk => ?_⟩
          obtain ⟨m, rfl⟩ : ∃ m, k = m + 1 := ⟨k - 1, by omega⟩
          dsimp only
          rw [start _ (by omega), ha]
          simp only [impl_SplitPrice.j0, Bool.not_true, Bool.false_eq_true, if_false]
          exact hJ m (by omega)
        by_cases h0 : ws.sum = 0
        · rw [if_pos h0]
          refine go _ (Ev.all fun k => ?_)
          simp only [impl_SplitPrice.l0]
          rw [if_neg (by omega), if_pos h0]
        · rw [if_neg h0]
          refine go _ (Ev.congr (fun k => ?_) (impl_l1 hc (S := ws.sum) (by omega) hw hn.2 _ (impl_l2 _ (c - (shares c ws.sum ws).sum) (shares c ws.sum ws) (rests c ws.sum ws) rfl (by
            have := (sum_bound 0 1000000000000 _ (shares_bound hc (S := ws.sum) (by omega) hw)).1
            omega) (by simp [shares, rests]) (by simp [rests]; omega) (by simp [rests]; omega))))
          simp only [impl_SplitPrice.l0]
          rw [if_neg (by omega), if_neg h0, if_pos (by omega), if_pos (by omega), Int.toNat_natCast]
      · rw [if_neg ha]
        refine ⟨K + 1, fun k hk => ?_⟩
        obtain ⟨m, rfl⟩ : ∃ m, k = m + 1 := ⟨k - 1, by omega⟩
        dsimp only
        rw [start _ (by omega), Bool.eq_false_iff.mpr ha]
        exact split_j0 c ws m
    · have e : (if (ws.all fun x => decide (0 ≤ x ∧ x ≤ 10000)) = true then if (0 ≤ c ∧ c ≤ 100000000) ∧ 1 ≤ ws.length ∧ ws.length ≤ 12 then if ws.sum = 0 then (([], 6) : List Int × Int) else (dist (c - (shares c ws.sum ws).sum).toNat (shares c ws.sum ws) (rests c ws.sum ws), 0) else ([], 2) else ([], 2)) = ([], 2) := by
        rw [if_neg (c := (0 ≤ c ∧ c ≤ 100000000) ∧ 1 ≤ ws.length ∧ ws.length ≤ 12) (fun h => hn h.2), ite_self]
      rw [e]
      refine Ev.const fun k => ?_
      unfold impl_SplitPrice.f
      rw [within_eq]
      simp only [hc, and_self, decide_true, Option.bind_some, if_true]
      by_cases h1 : (ws.length : Int) < 1
      · rw [if_pos h1]; exact split_j0 c ws k
      · rw [if_neg h1, if_pos (by omega)]; exact split_j0 c ws k
  · have e : (if (ws.all fun x => decide (0 ≤ x ∧ x ≤ 10000)) = true then if (0 ≤ c ∧ c ≤ 100000000) ∧ 1 ≤ ws.length ∧ ws.length ≤ 12 then if ws.sum = 0 then (([], 6) : List Int × Int) else (dist (c - (shares c ws.sum ws).sum).toNat (shares c ws.sum ws) (rests c ws.sum ws), 0) else ([], 2) else ([], 2)) = ([], 2) := by
      rw [if_neg (c := (0 ≤ c ∧ c ≤ 100000000) ∧ 1 ≤ ws.length ∧ ws.length ≤ 12) (fun h => hc h.1), ite_self]
    rw [e]
    refine Ev.const fun k => ?_
    unfold impl_SplitPrice.f
    rw [within_eq]
    simp only [hc, decide_false, Option.bind_some, Bool.false_eq_true, if_false]
    exact split_j0 c ws k
theorem splitAns_length (c : Int) (ws : List Int) : (splitAns c ws).1.length ≤ 12 := by
  unfold splitAns
  split
  · split
    · rename_i h
      split
      · simp
      · show (dist _ _ _).length ≤ 12
        rw [dist_length]
        simp [shares]
        omega
    · simp
  · simp

theorem am_max (r : List Int) : ∀ (d i b : Nat), i + d = r.length → b < i → (∀ j : Nat, j < i → rd r (j : Int) ≤ rd r (b : Int) ∧ (j < b → rd r (j : Int) < rd r (b : Int))) →
    ∀ j : Nat, j < r.length → rd r (j : Int) ≤ rd r (am r d i b : Nat) ∧ (j < am r d i b → rd r (j : Int) < rd r (am r d i b : Nat))
  | 0, i, b, hi, hb, h => by
    intro j hj
    exact h j (by omega)
  | d + 1, i, b, hi, hb, h => by
    unfold am
    by_cases c : rd r (i : Int) > rd r (b : Int)
    · rw [if_pos c]
      refine am_max r d (i + 1) i (by omega) (by omega) fun j hj => ?_
      by_cases e : j = i
      · subst e; exact ⟨Int.le_refl _, fun g => absurd g (Nat.lt_irrefl _)⟩
      · have := (h j (by omega)).1
        exact ⟨by omega, fun _ => by omega⟩
    · rw [if_neg c]
      refine am_max r d (i + 1) b (by omega) (by omega) fun j hj => ?_
      by_cases e : j = i
      · subst e; exact ⟨by omega, fun g => by omega⟩
      · exact h j (by omega)
theorem rd_set (l : List Int) (m j : Nat) (v : Int) (hj : j < l.length) : rd (l.set m v) (j : Int) = if m = j then v else rd l (j : Int) := by
  rw [rd_nat _ j (by rw [List.length_set]; exact hj), rd_nat l j hj, List.getElem_set]
theorem sum_set_one : ∀ (l : List Int) (m : Nat) (h : m < l.length) (v : Int), (l.set m v).sum = l.sum - l[m] + v
  | [], m, h, _ => absurd h (Nat.not_lt_zero _)
  | x :: l, 0, h, v => by simp only [List.set_cons_zero, List.sum_cons, List.getElem_cons_zero]; omega
  | x :: l, m + 1, h, v => by
    simp only [List.set_cons_succ, List.sum_cons, List.getElem_cons_succ]
    rw [sum_set_one l m (by simpa using h) v]
    omega
def posOf (x : Int) : Int := if 0 < x then x else 0
def posSum (r : List Int) : Int := (r.map posOf).sum
theorem pos_some : ∀ (r : List Int), 0 < posSum r → ∃ j : Nat, ∃ h : j < r.length, 0 < r[j]
  | [], h => by simp [posSum] at h
  | x :: r, h => by
    by_cases c : 0 < x
    · exact ⟨0, by simp, by simpa using c⟩
    · have e : posSum (x :: r) = posSum r := by unfold posSum; rw [List.map_cons, List.sum_cons, posOf, if_neg c]; omega
      obtain ⟨j, hj, hp⟩ := pos_some r (by rw [← e]; exact h)
      exact ⟨j + 1, by simpa using hj, by simpa using hp⟩
/-- Where the greatest rests have been served so far. -/
structure Dist (S : Int) (o0 r0 o r : List Int) : Prop where
  lo : o.length = o0.length
  lr : r.length = o0.length
  l0 : r0.length = o0.length
  rb : ∀ j : Nat, j < o0.length → 0 ≤ rd r0 (j : Int) ∧ rd r0 (j : Int) < S
  ob : ∀ j : Nat, j < o0.length → 0 ≤ rd o0 (j : Int) ∧ rd o0 (j : Int) ≤ 1000000000000
  A : ∀ j : Nat, j < o0.length → (rd r (j : Int) = -1 ∧ rd o (j : Int) = rd o0 (j : Int) + 1 ∧ 0 < rd r0 (j : Int)) ∨ (rd r (j : Int) = rd r0 (j : Int) ∧ rd o (j : Int) = rd o0 (j : Int))
  B : ∀ i k : Nat, i < o0.length → k < o0.length → rd r (i : Int) = -1 → ¬ rd r (k : Int) = -1 → rd r0 (k : Int) ≤ rd r0 (i : Int) ∧ (k < i → rd r0 (k : Int) < rd r0 (i : Int))
theorem dist_law (S : Int) (hS : 0 < S) (o0 r0 : List Int) : ∀ (n : Nat) (o r : List Int), Dist S o0 r0 o r → (n : Int) * S ≤ posSum r → 0 < o0.length → ∃ r', Dist S o0 r0 (dist n o r) r' ∧ (dist n o r).sum = o.sum + n
  | 0, o, r, hD, _, _ => ⟨r, hD, by unfold dist; omega⟩
  | n + 1, o, r, hD, hp, h0 => by
    have hn : ((n + 1 : Nat) : Int) * S = (n : Int) * S + S := by rw [Int.natCast_succ, Int.add_mul, Int.one_mul]
    have hnn : 0 ≤ (n : Int) * S := Int.mul_nonneg (by omega) (by omega)
    rw [hn] at hp
    have hlr := hD.lr
    have hlo := hD.lo
    have hl0 := hD.l0
    have hm := am_lt r (r.length - 1) 1 0 (by omega) (by omega)
    have hmax := am_max r (r.length - 1) 1 0 (by omega) (by omega) (fun j hj => by
      obtain rfl : j = 0 := by omega
      exact ⟨Int.le_refl _, fun g => absurd g (Nat.lt_irrefl _)⟩)
    unfold dist
    generalize am r (r.length - 1) 1 0 = m at hm hmax
    obtain ⟨q, hq, hqp⟩ := pos_some r (by omega)
    rw [← rd_nat r q hq] at hqp
    have hmp : 0 < rd r (m : Int) := by have := (hmax q hq).1; omega
    have hAm := hD.A m (by omega)
    have hbm := hD.rb m (by omega)
    have hom := hD.ob m (by omega)
    obtain ⟨e1, e2⟩ : rd r (m : Int) = rd r0 (m : Int) ∧ rd o (m : Int) = rd o0 (m : Int) := by
      rcases hAm with ⟨a1, _, _⟩ | h
      · omega
      · exact h
    have hw : wrap64 (rd o (m : Int) + 1) = rd o0 (m : Int) + 1 := by rw [e2]; exact w64 (by omega) (by omega)
    rw [hw]
    have hps : posSum (r.set m (-1)) = posSum r - rd r (m : Int) := by
      unfold posSum
      rw [List.map_set, sum_set_one _ m (by rw [List.length_map]; exact hm), List.getElem_map, ← rd_nat r m hm]
      unfold posOf
      rw [if_pos hmp, if_neg (by omega)]
      omega
    have hso : (o.set m (rd o0 (m : Int) + 1)).sum = o.sum + 1 := by
      rw [sum_set_one o m (by omega), ← rd_nat o m (by omega), e2]
      omega
    have hD2 : Dist S o0 r0 (o.set m (rd o0 (m : Int) + 1)) (r.set m (-1)) := by
      refine ⟨by rw [List.length_set]; exact hlo, by rw [List.length_set]; exact hlr, hl0, hD.rb, hD.ob, fun j hj => ?_, fun i k hi hk => ?_⟩
      · rw [rd_set r m j _ (by omega), rd_set o m j _ (by omega)]
        by_cases e : m = j
        · subst e
          rw [if_pos rfl, if_pos rfl]
          exact .inl ⟨rfl, rfl, by omega⟩
        · rw [if_neg e, if_neg e]
          exact hD.A j hj
      · rw [rd_set r m i _ (by omega), rd_set r m k _ (by omega)]
        by_cases ek : m = k
        · subst ek
          rw [if_pos rfl]
          intro _ h; exact absurd rfl h
        · rw [if_neg ek]
          by_cases ei : m = i
          · subst ei
            rw [if_pos rfl]
            intro _ hk2
            have hA := hD.A k hk
            have hx := hmax k (by omega)
            have ee : rd r (k : Int) = rd r0 (k : Int) := by
              rcases hA with ⟨a1, _, _⟩ | h
              · exact absurd a1 hk2
              · exact h.1
            rw [← e1, ← ee]
            exact hx
          · rw [if_neg ei]
            exact hD.B i k hi hk
    obtain ⟨r', hD', hs'⟩ := dist_law S hS o0 r0 n (o.set m (rd o0 (m : Int) + 1)) (r.set m (-1)) hD2 (by rw [hps]; omega) h0
    exact ⟨r', hD', by rw [hs', hso]; omega⟩

theorem pos_nonneg : ∀ (r : List Int), (∀ x ∈ r, 0 ≤ x) → posSum r = r.sum
  | [], _ => rfl
  | x :: r, h => by
    have ih := pos_nonneg r (fun y hy => h y (List.mem_cons_of_mem _ hy))
    have hx := h x List.mem_cons_self
    unfold posSum at ih ⊢
    rw [List.map_cons, List.sum_cons, List.sum_cons, ih]
    unfold posOf
    split <;> omega
theorem share_sum (c S : Int) : ∀ ws : List Int, S * (shares c S ws).sum + (rests c S ws).sum = c * ws.sum
  | [] => by simp [shares, rests]
  | w :: ws => by
    have ih := share_sum c S ws
    have e := Int.mul_ediv_add_emod (c * w) S
    unfold shares rests at ih ⊢
    simp only [List.map_cons, List.sum_cons]
    rw [Int.mul_add, Int.mul_add]
    omega
section
variable {c S : Int} {ws : List Int} (hc : 0 ≤ c ∧ c ≤ 100000000) (hS : 0 < S ∧ S ≤ 1000000000) (hw : ∀ x ∈ ws, 0 ≤ x ∧ x ≤ 10000)
include hc hS hw in
theorem split_fair (hsum : ws.sum = S) (hn : 1 ≤ ws.length) : ∃ r', Dist S (shares c S ws) (rests c S ws) (dist (c - (shares c S ws).sum).toNat (shares c S ws) (rests c S ws)) r' ∧ (dist (c - (shares c S ws).sum).toNat (shares c S ws) (rests c S ws)).sum = c := by
  have hsl : (shares c S ws).length = ws.length := by simp [shares]
  have hrl : (rests c S ws).length = ws.length := by simp [rests]
  have hrn : ∀ x ∈ rests c S ws, 0 ≤ x := by
    intro x hx
    obtain ⟨w, _, rfl⟩ := List.mem_map.1 hx
    exact Int.emod_nonneg _ (by omega)
  have hp := pos_nonneg _ hrn
  have hss := share_sum c S ws
  have h0 : 0 ≤ (rests c S ws).sum := by
    rw [← hp]
    have : ∀ r : List Int, 0 ≤ posSum r := by
      intro r
      induction r with
      | nil => exact Int.le_refl _
      | cons x r ih =>
        unfold posSum at ih ⊢
        rw [List.map_cons, List.sum_cons]
        have : 0 ≤ posOf x := by unfold posOf; split <;> omega
        omega
    exact this _
  rw [hsum] at hss
  have hd : S * (c - (shares c S ws).sum) = (rests c S ws).sum := by rw [Int.mul_sub, Int.mul_comm S c]; omega
  have hge : 0 ≤ c - (shares c S ws).sum := by
    rcases Int.lt_or_le (c - (shares c S ws).sum) 0 with h | h
    · have := Int.mul_neg_of_pos_of_neg hS.1 h
      omega
    · exact h
  have hD : Dist S (shares c S ws) (rests c S ws) (shares c S ws) (rests c S ws) := by
    refine ⟨rfl, by rw [hrl, hsl], by rw [hrl, hsl], fun j hj => ?_, fun j hj => ?_, fun j hj => .inr ⟨rfl, rfl⟩, fun i k hi hk h => ?_⟩
    · rw [rd_nat _ j (by omega), rests_get c S ws j (by omega)]
      exact ⟨Int.emod_nonneg _ (by omega), Int.emod_lt_of_pos _ hS.1⟩
    · rw [rd_nat _ j hj]
      exact shares_bound hc hS hw _ (List.getElem_mem hj)
    · rw [rd_nat _ i (by omega)] at h
      have := hrn _ (List.getElem_mem (by omega : i < (rests c S ws).length))
      omega
  obtain ⟨r', h1, h2⟩ := dist_law S hS.1 (shares c S ws) (rests c S ws) (c - (shares c S ws).sum).toNat _ _ hD (by rw [Int.toNat_of_nonneg hge, Int.mul_comm, hd, hp]; exact Int.le_refl _) (by omega)
  exact ⟨r', h1, by rw [h2, Int.toNat_of_nonneg hge]; omega⟩
end

theorem sum_a2 (l : List Int) (A : Int) (hA : 0 ≤ A) (h : ∀ x ∈ l, 0 ≤ x ∧ x ≤ A) (hb : A * l.length ≤ 9223372036854775807) (hl : l.length ≤ 35184372088832) : Ev (fun k => laws_a2Sum.f k l) l.sum := by
  have := for_to l.length (fun k (s : Int) i => laws_a2Sum.l0 k l s i) (fun i => (l.take i).sum) l.sum (fun i hi => ⟨0, fun k _ => ?_⟩) (Ev.const fun k => ?_) l.length 0 (by omega)
  · exact this
  · have b1 := sum_take_bound h (i + 1) (by omega)
    have b2 : A * ((i + 1 : Nat) : Int) ≤ A * l.length := Int.mul_le_mul_of_nonneg_left (by omega) hA
    rw [sum_take_succ l i hi] at b1
    simp only [laws_a2Sum.l0]
    rw [if_pos (by omega), if_pos (by omega), rd_nat l i hi, w64 (x := (i : Int) + 1) (by omega) (by omega), w64 (by omega) (by omega), sum_take_succ l i hi]
  · simp only [laws_a2Sum.l0]
    rw [if_neg (by omega), List.take_of_length_le (by omega)]

theorem name_loop_impl (s : ByteArray) (h : s.size ≤ 12) : Ev (fun k => impl_IsName.l0 k s 0) ((List.range s.size).all fun i => nameByte (bt s i)) := by
  have := all_lt s.size (fun i => nameByte (bt s i)) (fun k i => impl_IsName.l0 k s i) true false (fun i hi hp => ⟨0, fun k _ => ?_⟩) (fun i hi hp => Ev.const fun k => ?_) (fun _ => Ev.const fun k => ?_)
  · rw [ite_bool] at this
    exact this
  · have hp := of_decide_eq_true hp
    simp only [impl_IsName.l0]
    rw [if_pos (by omega), if_pos (by omega), w64 (by omega) (by omega)]
    repeat' split
    all_goals first | rfl | (exfalso; omega)
  · have hp := of_decide_eq_false hp
    simp only [impl_IsName.l0]
    rw [if_pos (by omega), if_pos (by omega)]
    repeat' split
    all_goals first | rfl | (exfalso; omega)
  · simp only [impl_IsName.l0]
    rw [if_neg (by omega)]
theorem name_impl (s : ByteArray) : Ev (fun k => impl_IsName.f k s) (isNameB s) := by
  unfold isNameB
  by_cases h0 : s.size < 1
  · rw [decide_eq_false (by omega), Bool.false_and]
    refine Ev.const fun k => ?_
    unfold impl_IsName.f
    rw [if_pos (by omega)]
    simp only [impl_IsName.j0, if_true]
  · by_cases h12 : s.size ≤ 12
    · by_cases hs : 97 ≤ bt s 0 ∧ bt s 0 ≤ 122
      · rw [decide_eq_true ⟨by omega, h12, hs⟩, Bool.true_and]
        refine Ev.step (f := fun k => impl_IsName.l0 k s 0) (fun k => ?_) (name_loop_impl s h12)
        simp only [impl_IsName.f]
        rw [if_neg (by omega), if_neg (by omega), if_pos (by omega), if_neg (by omega), decide_eq_false (by omega)]
        simp only [impl_IsName.j0, Bool.false_eq_true, if_false]
      · rw [decide_eq_false (fun h => hs h.2.2), Bool.false_and]
        refine Ev.const fun k => ?_
        simp only [impl_IsName.f]
        rw [if_neg (by omega), if_neg (by omega), if_pos (by omega)]
        by_cases h1 : bt s 0 < 97
        · rw [if_pos h1]
          simp only [impl_IsName.j0, if_true]
        · rw [if_neg h1, decide_eq_true (by omega)]
          simp only [impl_IsName.j0, if_true]
    · rw [decide_eq_false (by omega), Bool.false_and]
      refine Ev.const fun k => ?_
      unfold impl_IsName.f
      rw [if_neg (by omega), if_pos (by omega)]
      simp only [impl_IsName.j0, if_true]


theorem hand_impl (f0 : ByteArray) (f1 : List Int) (f2 : Int) (h : f1.length ≤ 9223372036854775807) : Ev (fun k => impl_validHand.f k f0 f1 f2) (handV f0 f1 f2) := by
  obtain ⟨K, hK⟩ := Ev.pick (name_impl f0)
  obtain ⟨J, hJ⟩ := Ev.pick (areIn_ev f1 0 1440 h)
  refine Ev.intro (K + J) fun k hk => ?_
  unfold impl_validHand.f handV
  rw [hK k (by omega), hJ k (by omega), within_eq]
  simp only [Option.bind_some]
  have e : (f1.all fun x => decide (0 ≤ x ∧ x ≤ 1440)) = f1.all shiftOk := rfl
  rw [e]
  by_cases c : f1.length ≤ 14
  · rw [decide_eq_true c]
    have c2 : (f1.length : Int) ≤ 14 := by omega
    simp only [if_pos c2]
    cases isNameB f0 <;> cases f1.all shiftOk <;> simp
  · rw [decide_eq_false c]
    have c2 : ¬ (f1.length : Int) ≤ 14 := by omega
    simp only [if_neg c2]
    cases isNameB f0 <;> simp
def extraW (lim : Int) (l : List Int) : Int := l.foldl (fun a m => wrap64 (a + mx 0 (wrap64 (m - lim)))) 0
theorem extra_impl (f0 : ByteArray) (l : List Int) (f2 lim : Int) (h : l.length ≤ 35184372088832) : Ev (fun k => impl_extraMinutes.f k f0 l f2 lim) (extraW lim l) := by
  have := for_to l.length (fun k (s : Int) i => impl_extraMinutes.l0 k lim s l l.length i) (fun i => extraW lim (l.take i)) (extraW lim l) (fun i hi => ⟨0, fun k _ => ?_⟩) (Ev.const fun k => ?_) l.length 0 (by omega)
  · exact this
  · simp only [impl_extraMinutes.l0]
    rw [if_pos (by omega), if_pos (by omega), if_pos (by omega), rd_nat l i hi, List.take_succ_eq_append_getElem hi, w64 (x := (i : Int) + 1) (by omega) (by omega)]
    unfold extraW
    rw [List.foldl_append]
    rfl
  · simp only [impl_extraMinutes.l0]
    rw [if_neg (by omega), List.take_of_length_le (Nat.le_refl _)]
theorem mx_zero {x : Int} (h : 0 ≤ x) : mx 0 x = x := by unfold mx; split <;> omega
theorem extra_zero : ∀ (l : List Int) (a : Int), (∀ x ∈ l, 0 ≤ x ∧ x ≤ 1440) → l.foldl (fun a m => wrap64 (a + mx 0 (wrap64 (m - 0)))) a = l.foldl (fun a m => wrap64 (a + m)) a
  | [], _, _ => rfl
  | x :: xs, a, h => by
    have hx := h x (by simp)
    rw [List.foldl_cons, List.foldl_cons, Int.sub_zero, w64 (x := x) (by omega) (by omega), mx_zero hx.1]
    exact extra_zero xs _ (fun y hy => h y (by simp [hy]))

def payW (wage : Int) (l : List Int) (lim ex : Int) : Int := wrap64 (Int.tdiv (wrap64 (wrap64 (wrap64 (wage * extraW 0 l) * 100) + wrap64 (wrap64 (wage * extraW lim l) * ex))) 6000)
theorem pay_impl (f0 : ByteArray) (f1 : List Int) (f2 lim ex : Int) (h : f1.length ≤ 35184372088832) : Ev (fun k => impl_payOf.f k f0 f1 f2 lim ex) (payW f2 f1 lim ex) := by
  obtain ⟨K, hK⟩ := Ev.pick (extra_impl f0 f1 f2 0 h)
  obtain ⟨J, hJ⟩ := Ev.pick (extra_impl f0 f1 f2 lim h)
  refine Ev.intro (K + J) fun k hk => ?_
  unfold impl_payOf.f
  rw [hK k (by omega), hJ k (by omega)]
  rfl

theorem stk_bd2 {l : List Int} {i : Nat} {b m n : Int} (h : stkS l i = (b, m, n)) : 0 ≤ b ∧ b ≤ i ∧ 0 ≤ m ∧ m ≤ i ∧ 0 ≤ n ∧ n ≤ i := by
  have := stk_bd l i
  rw [h] at this
  exact this
theorem streak_impl (l : List Int) (h : l.length ≤ 35184372088832) : Ev (fun k => impl_LongestStreak.l0 k 0 0 0 l l.length 0) (stkAns l) := by
  have := for_to l.length (fun k (s : Int × Int × Int) i => impl_LongestStreak.l0 k s.1 s.2.1 s.2.2 l l.length i) (fun i => stkS l i) (stkAns l) (fun i hi => ⟨0, fun k _ => ?_⟩) (Ev.const fun k => ?_) l.length 0 (by omega)
  · exact this
  · obtain ⟨b, m, n, hs⟩ : ∃ b m n, stkS l i = (b, m, n) := ⟨_, _, _, rfl⟩
    have hb := stk_bd2 hs
    by_cases hx : rd l (i : Int) = 0
    · rw [stk_zero hs hx]
      simp only [impl_LongestStreak.l0, hs]
      rw [if_pos (by omega), if_pos (by omega), if_pos (by omega), if_pos hx, if_neg (by omega), w64 (x := (i : Int) + 1) (by omega) (by omega)]
    · by_cases hm : m < n + 1
      · rw [stk_more hs hx hm]
        simp only [impl_LongestStreak.l0, hs]
        rw [if_pos (by omega), if_pos (by omega), if_pos (by omega), if_neg hx, w64 (x := n + 1) (by omega) (by omega), if_pos (by omega), w64 (x := (i : Int) + 1) (by omega) (by omega), w64 (x := (i : Int) + 1 - (n + 1)) (by omega) (by omega)]
      · rw [stk_same hs hx hm]
        simp only [impl_LongestStreak.l0, hs]
        rw [if_pos (by omega), if_pos (by omega), if_pos (by omega), if_neg hx, w64 (x := n + 1) (by omega) (by omega), if_neg (by omega), w64 (x := (i : Int) + 1) (by omega) (by omega)]
  · simp only [impl_LongestStreak.l0]
    rw [if_neg (by omega)]
    unfold stkAns
    split <;> rfl

def nms : List ByteArray := [(⟨#[109, 101, 103]⟩ : ByteArray), (⟨#[116, 111, 109]⟩ : ByteArray), (⟨#[97, 100, 97, 45, 50]⟩ : ByteArray), (⟨#[106, 111, 101]⟩ : ByteArray), (⟨#[101, 118, 101]⟩ : ByteArray), (⟨#[115, 97, 109]⟩ : ByteArray)]
theorem nms_len : nms.length = 6 := rfl
theorem nms_name : ∀ i : Nat, i < 6 → isNameB (nms.getD i ByteArray.empty) = true := by decide
theorem nms_ne : ∀ i : Nat, i < 6 → ∀ k : Nat, k < i → (decide (nms.getD k ByteArray.empty = nms.getD i ByteArray.empty)) = false := by decide
def goodM (l : List Int) : Prop := l.length ≤ 6 ∧ ∀ x ∈ l, 0 ≤ x ∧ x ≤ 690
def goodH (x : IT) : Prop := goodM x.f1 ∧ 0 ≤ x.f2 ∧ x.f2 ≤ 3900
theorem draw_m {b : List Int} (hb : Bytes b) (hl : b.length ≤ 3000) (nm : ByteArray) : ∀ (n : Nat) (xs : List Int) (p s : Int), n ≤ 6 → xs.length + n ≤ 6 → goodM xs → 0 ≤ p → p + 4 * n + 2 ≤ 900000 →
    ∃ r w p' s', (goodM r ∧ 0 ≤ w ∧ w ≤ 3900 ∧ p ≤ p' ∧ p' ≤ p + 4 * n + 2) ∧ Ev (fun k => spec_l26New.l0 k (n : Int) b p s nm xs 0) (nm, r, w, p', s') := by
  intro n
  induction n with
  | zero =>
    intro xs p s _ hx hg h3 h4
    obtain ⟨r2, p2, s2, e2, hr2, hp2⟩ := pick_ok hb hl p s 40 h3 (by omega) (by omega)
    refine ⟨xs, 100 * r2, p2, s2, ⟨hg, by omega, by omega, by omega, by omega⟩, Ev.const fun k => ?_⟩
    simp only [spec_l26New.l0]
    rw [if_neg (by omega), e2]
    simp only [Option.bind_some]
    rw [w64 (by omega) (by omega)]
  | succ n ih =>
    intro xs p s hn hx hg h3 h4
    obtain ⟨r1, p1, s1, e1, hr1, hp1⟩ := pick_ok hb hl p s 4 h3 (by omega) (by omega)
    have hcast : wrap64 (((n + 1 : Nat) : Int) - 1) = (n : Int) := by rw [w64 (by omega) (by omega)]; omega
    have app : ∀ v : Int, 0 ≤ v ∧ v ≤ 690 → goodM (xs ++ [v]) := fun v hv => ⟨by rw [List.length_append, List.length_cons, List.length_nil]; omega, fun x hx => by
      rcases List.mem_append.1 hx with h | h
      · exact hg.2 x h
      · rw [List.mem_singleton.1 h]; exact hv⟩
    cases hc : (r1 == 0) with
    | true =>
      obtain ⟨r, w, p', s', hr, hE⟩ := ih (xs ++ [0]) p1 s1 (by omega) (by rw [List.length_append, List.length_cons, List.length_nil]; omega) (app 0 (by omega)) (by omega) (by omega)
      refine ⟨r, w, p', s', ⟨hr.1, hr.2.1, hr.2.2.1, by omega, by omega⟩, Ev.step (fun k => ?_) hE⟩
      simp only [spec_l26New.l0, spec_l00Src_one.f]
      rw [if_pos (by omega), e1]
      simp only [Option.bind_some, hc, if_true]
      rw [if_pos (by omega), hcast]
    | false =>
      obtain ⟨r2, p2, s2, e2, hr2, hp2⟩ := pick_ok hb hl p1 s1 24 (by omega) (by omega) (by omega)
      obtain ⟨r, w, p', s', hr, hE⟩ := ih (xs ++ [30 * r2]) p2 s2 (by omega) (by rw [List.length_append, List.length_cons, List.length_nil]; omega) (app _ (by omega)) (by omega) (by omega)
      refine ⟨r, w, p', s', ⟨hr.1, hr.2.1, hr.2.2.1, by omega, by omega⟩, Ev.step (fun k => ?_) hE⟩
      simp only [spec_l26New.l0, spec_l00Src_one.f]
      rw [if_pos (by omega), e1]
      simp only [Option.bind_some, hc, Bool.false_eq_true, if_false]
      rw [e2]
      simp only [Option.bind_some]
      rw [if_pos (by omega), hcast, w64 (x := 30 * r2) (by omega) (by omega)]
theorem new_hand {b : List Int} (hb : Bytes b) (hl : b.length ≤ 3000) (nm : ByteArray) (p s : Int) (h0 : 0 ≤ p) (h1 : p ≤ 800000) : ∃ r w p' s', (goodM r ∧ 0 ≤ w ∧ w ≤ 3900 ∧ p ≤ p' ∧ p' ≤ p + 30) ∧ Ev (fun k => spec_l26New.f k b p s nm) (nm, r, w, p', s') := by
  obtain ⟨r1, p1, s1, e1, hr1, hp1⟩ := pick_ok hb hl p s 7 h0 (by omega) (by omega)
  obtain ⟨n, rfl⟩ := Int.eq_ofNat_of_zero_le hr1.1
  obtain ⟨r, w, p', s', hr, hE⟩ := draw_m hb hl nm n [] p1 s1 (by omega) (by simp; omega) ⟨by simp, by simp⟩ (by omega) (by omega)
  refine ⟨r, w, p', s', ⟨hr.1, hr.2.1, hr.2.2.1, by omega, by omega⟩, Ev.congr (fun k => ?_) hE⟩
  unfold spec_l26New.f
  rw [e1]
  rfl
def goodHs (l : List IT) : Prop := l.length ≤ 6 ∧ (∀ x ∈ l, goodH x) ∧ ∀ (i : Nat) (hi : i < l.length), (l[i]).f0 = nms.getD i ByteArray.empty
theorem draw_h {b : List Int} (hb : Bytes b) (hl : b.length ≤ 3000) : ∀ (n : Nat) (xs : List IT) (p s : Int), n ≤ 6 → xs.length + n ≤ 6 → goodHs xs → 0 ≤ p → p + 40 * n ≤ 1000 →
    ∃ r p' s', goodHs r ∧ Ev (fun k => spec_l26Draw.l0 k nms xs (n : Int) b p s) (r, p', s') := by
  intro n
  induction n with
  | zero =>
    intro xs p s _ hx hg h3 h4
    refine ⟨xs, p, s, hg, Ev.const fun k => ?_⟩
    simp only [spec_l26Draw.l0]
    rw [if_neg (by omega)]
  | succ n ih =>
    intro xs p s hn hx hg h3 h4
    have hlt : xs.length < 6 := by omega
    obtain ⟨r, w, p1, s1, hr, hE⟩ := new_hand hb hl (nms.getD xs.length ByteArray.empty) p s h3 (by omega)
    have hg2 : goodHs (xs ++ [(⟨nms.getD xs.length ByteArray.empty, r, w⟩ : IT)]) := by
      refine ⟨by rw [List.length_append, List.length_cons, List.length_nil]; omega, fun x hx => ?_, fun i hi => ?_⟩
      · rcases List.mem_append.1 hx with h | h
        · exact hg.2.1 x h
        · rw [List.mem_singleton.1 h]; exact ⟨hr.1, hr.2.1, hr.2.2.1⟩
      · rw [List.length_append, List.length_cons, List.length_nil] at hi
        by_cases c : i < xs.length
        · rw [List.getElem_append_left c]; exact hg.2.2 i c
        · obtain rfl : i = xs.length := by omega
          rw [List.getElem_append_right (Nat.le_refl _)]
          simp
    obtain ⟨r3, p3, s3, hg3, hE3⟩ := ih (xs ++ [(⟨nms.getD xs.length ByteArray.empty, r, w⟩ : IT)]) p1 s1 (by omega) (by rw [List.length_append, List.length_cons, List.length_nil]; omega) hg2 (by omega) (by omega)
    obtain ⟨K1, g1⟩ := Ev.pick hE
    obtain ⟨K2, g2⟩ := Ev.pick hE3
    refine ⟨r3, p3, s3, hg3, Ev.intro (K1 + K2 + 1) fun k hk => ?_⟩
    obtain ⟨m, rfl⟩ : ∃ m, k = m + 1 := ⟨k - 1, by omega⟩
    have hcast : wrap64 (((n + 1 : Nat) : Int) - 1) = (n : Int) := by rw [w64 (by omega) (by omega)]; omega
    have hrd : rdOf ByteArray.empty nms (xs.length : Int) = nms.getD xs.length ByteArray.empty := by unfold rdOf; rw [Int.toNat_natCast]
    have hnl := nms_len
    simp only [spec_l26Draw.l0]
    rw [if_pos (by omega), if_pos (by omega), if_pos (by omega), hrd, g1 m (by omega)]
    simp only [Option.bind_some]
    rw [if_pos (by omega), hcast]
    exact g2 m (by omega)
theorem hands_drawn {b : List Int} (hb : Bytes b) (hl : b.length ≤ 3000) : ∃ r, goodHs r ∧ Ev (fun k => spec_A2Hands.f k b) r := by
  obtain ⟨r1, p1, s1, e1, hr1, hp1⟩ := pick_ok hb hl 0 0 7 (by omega) (by omega) (by omega)
  obtain ⟨n, rfl⟩ := Int.eq_ofNat_of_zero_le hr1.1
  obtain ⟨r, p', s', hg, hE⟩ := draw_h hb hl n [] p1 s1 (by omega) (by simp; omega) ⟨by simp, by simp, fun i hi => absurd hi (by simp)⟩ (by omega) (by omega)
  obtain ⟨K, g⟩ := Ev.pick hE
  refine ⟨r, hg, Ev.intro K fun k hk => ?_⟩
  unfold spec_A2Hands.f spec_l00From.f spec_l26Draw.f
  simp only [Option.bind_some]
  rw [e1]
  simp only [Option.bind_some]
  have := g k hk
  unfold nms at this
  rw [this]
  rfl
theorem good_valid {x : IT} (h : goodH x) (hn : isNameB x.f0 = true) : handV x.f0 x.f1 x.f2 = true := by
  obtain ⟨⟨a, b⟩, c, d⟩ := h
  unfold handV
  rw [hn, decide_eq_true (by omega), decide_eq_true (show 0 ≤ x.f2 ∧ x.f2 ≤ 100000 by omega), Bool.and_true, Bool.and_true, Bool.and_true, List.all_eq_true]
  intro y hy
  have := b y hy
  exact decide_eq_true (by omega)
theorem good_ok {l : List IT} (h : goodHs l) : handsOk (hdI l) l.length = true := by
  rw [handsOk_yes, decide_eq_true_eq]
  · have := h.1; omega
  · intro j hj
    have hl := h.1
    have ej : rd_T29 l (j : Int) = l[j] := rdI l j hj
    unfold fitH hdI
    rw [ej, Bool.and_eq_true]
    refine ⟨good_valid (h.2.1 _ (List.getElem_mem hj)) (by rw [h.2.2 j hj]; exact nms_name j (by omega)), List.all_eq_true.2 fun k hk => ?_⟩
    have hk := List.mem_range.1 hk
    have ek : rd_T29 l (k : Int) = l[k] := rdI l k (by omega)
    simp only
    rw [ek, h.2.2 j hj, h.2.2 k (by omega), nms_ne j (by omega) k hk]
    rfl

theorem w_each {l : List IT} (h : handsOk (hdI l) l.length = true) : l.length ≤ 10 ∧ ∀ (i : Nat) (hi : i < l.length), (l[i]).f1.length ≤ 14 ∧ ∀ x ∈ (l[i]).f1, 0 ≤ x ∧ x ≤ 1440 := by
  unfold handsOk at h
  rw [Bool.and_eq_true, List.all_eq_true] at h
  refine ⟨of_decide_eq_true h.2, fun i hi => ?_⟩
  have := h.1 i (List.mem_range.2 hi)
  unfold fitH at this
  rw [Bool.and_eq_true] at this
  have h2 := handV_shift this.1
  have e : rd_T29 l (i : Int) = l[i] := rdI l i hi
  unfold hdI at h2
  rw [e] at h2
  exact ⟨h2.2.1, h2.1⟩
def wts (l : List IT) : List Int := l.map fun h => h.f1.sum
theorem wts_len (l : List IT) : (wts l).length = l.length := by unfold wts; rw [List.length_map]
theorem sum_bd : ∀ (l : List Int), (∀ x ∈ l, 0 ≤ x ∧ x ≤ 1440) → 0 ≤ l.sum ∧ l.sum ≤ 1440 * (l.length : Int)
  | [], _ => by simp
  | x :: r, h => by
    have h1 := h x (by simp)
    have h2 := sum_bd r (fun y hy => h y (by simp [hy]))
    rw [List.sum_cons, List.length_cons]
    omega
theorem wts_bd {l : List IT} (h : handsOk (hdI l) l.length = true) : ∀ x ∈ wts l, 0 ≤ x ∧ x ≤ 20160 := by
  intro x hx
  unfold wts at hx
  obtain ⟨y, hy, rfl⟩ := List.mem_map.1 hx
  obtain ⟨i, hi, rfl⟩ := List.getElem_of_mem hy
  have he := (w_each h).2 i hi
  have := sum_bd _ he.2
  omega
theorem wts_take (l : List IT) (i : Nat) (hi : i < l.length) : wts (l.take (i + 1)) = wts (l.take i) ++ [(l[i]).f1.sum] := by
  unfold wts
  rw [List.take_succ_eq_append_getElem hi, List.map_append]
  rfl
theorem max_fold : ∀ (l : List Int) (a : Int), a ≤ l.foldl max a ∧ (∀ x ∈ l, x ≤ l.foldl max a) ∧ (l.foldl max a = a ∨ l.foldl max a ∈ l)
  | [], a => ⟨Int.le_refl _, by simp, .inl rfl⟩
  | y :: r, a => by
    obtain ⟨h1, h2, h3⟩ := max_fold r (max a y)
    rw [List.foldl_cons]
    refine ⟨by omega, fun x hx => ?_, ?_⟩
    · rcases List.mem_cons.1 hx with rfl | hx
      · omega
      · exact h2 x hx
    · rcases h3 with h3 | h3
      · rw [h3]
        by_cases c : a ≤ y
        · right; rw [Int.max_eq_right c]; simp
        · left; exact Int.max_eq_left (by omega)
      · right; exact List.mem_cons_of_mem _ h3
theorem max_of {l : List Int} (h : 0 < l.length) : (∀ x ∈ l, x ≤ Lib.maxOf l) ∧ Lib.maxOf l ∈ l := by
  obtain ⟨y, r, rfl⟩ : ∃ y r, l = y :: r := by cases l with | nil => simp at h | cons y r => exact ⟨y, r, rfl⟩
  obtain ⟨h1, h2, h3⟩ := max_fold (y :: r) y
  refine ⟨h2, ?_⟩
  rcases h3 with h3 | h3
  · show (y :: r).foldl max y ∈ _
    rw [h3]; simp
  · exact h3
theorem sum_zero : ∀ (l : List Int), (∀ x ∈ l, 0 ≤ x) → 0 ≤ l.sum ∧ (l.sum = 0 ↔ ∀ x ∈ l, x = 0)
  | [], _ => by simp
  | y :: r, h => by
    have h1 := h y (by simp)
    obtain ⟨h2, h3⟩ := sum_zero r (fun x hx => h x (by simp [hx]))
    rw [List.sum_cons]
    refine ⟨by omega, fun he x hx => ?_, fun he => ?_⟩
    · have h4 : r.sum = 0 := by omega
      rcases List.mem_cons.1 hx with rfl | hx
      · omega
      · exact h3.1 h4 x hx
    · have h4 := h3.2 (fun x hx => he x (by simp [hx]))
      have h5 := he y (by simp)
      omega
theorem max_zero {l : List Int} (h : 0 < l.length) (hb : ∀ x ∈ l, 0 ≤ x) : Lib.maxOf l = 0 ↔ l.sum = 0 := by
  obtain ⟨h1, h2⟩ := max_of h
  rw [(sum_zero l hb).2]
  constructor
  · intro he x hx
    have := h1 x hx
    have := hb x hx
    omega
  · intro he
    exact he _ h2
theorem sumW_go : ∀ (l : List Int) (a : Int), (∀ x ∈ l, 0 ≤ x ∧ x ≤ 1440) → 0 ≤ a → a + 1440 * (l.length : Int) ≤ 1000000000000 → l.foldl (fun a m => wrap64 (a + m)) a = a + l.sum
  | [], a, _, _, _ => by simp
  | x :: r, a, h, h0, h1 => by
    have hx := h x (by simp)
    rw [List.length_cons] at h1
    rw [List.foldl_cons, w64 (by omega) (by omega), sumW_go r (a + x) (fun y hy => h y (by simp [hy])) (by omega) (by omega), List.sum_cons]
    omega
theorem extra_go (lim : Int) (hl : 0 ≤ lim ∧ lim ≤ 1440) : ∀ (l : List Int) (a : Int), (∀ x ∈ l, 0 ≤ x ∧ x ≤ 1440) → 0 ≤ a → a + 1440 * (l.length : Int) ≤ 1000000000000 → a ≤ l.foldl (fun a m => wrap64 (a + mx 0 (wrap64 (m - lim)))) a ∧ l.foldl (fun a m => wrap64 (a + mx 0 (wrap64 (m - lim)))) a ≤ a + l.sum
  | [], a, _, _, _ => by simp
  | x :: r, a, h, h0, h1 => by
    have hx := h x (by simp)
    rw [List.length_cons] at h1
    have hm : 0 ≤ mx 0 (wrap64 (x - lim)) ∧ mx 0 (wrap64 (x - lim)) ≤ x := by
      rw [w64 (by omega) (by omega)]
      unfold mx
      split <;> omega
    rw [List.foldl_cons, w64 (x := a + mx 0 (wrap64 (x - lim))) (by omega) (by omega), List.sum_cons]
    have ih := extra_go lim hl r (a + mx 0 (wrap64 (x - lim))) (fun y hy => h y (by simp [hy])) (by omega) (by omega)
    omega
theorem share_impl (l : List IT) (c : Int) (hv : handsOk (hdI l) l.length = true) (hc : 0 ≤ c ∧ c ≤ 100000000) (hw : ∀ x ∈ wts l, x ≤ 10000) : Ev (fun k => impl_ShareByHours.f k l c) (if (wts l).sum = 0 then ([], 6) else splitAns c (wts l)) := by
  unfold impl_ShareByHours.f impl_ValidHands.f
  simp only [Option.bind_some, if_pos hv, within_eq]
  simp only [decide_eq_true hc, if_true]
  have hl := (w_each hv).1
  have hwl := wts_len l
  have hwb := wts_bd hv
  refine for_to l.length (fun k (s : List Int) i => impl_ShareByHours.l0 k c s l l.length i) (fun i => wts (l.take i)) _ (fun i hi => ?_) ?_ l.length 0 (by omega)
  · have he := (w_each hv).2 i hi
    have hx := extra_impl (l[i]).f0 (l[i]).f1 (l[i]).f2 0 (by omega)
    have e : extraW 0 (l[i]).f1 = (l[i]).f1.sum := by
      have e1 := extra_zero (l[i]).f1 0 he.2
      have e2 := sumW_go (l[i]).f1 0 he.2 (by omega) (by omega)
      unfold extraW
      rw [e1, e2]
      omega
    rw [e] at hx
    obtain ⟨K, g⟩ := Ev.pick hx
    refine ⟨K, fun k hk => ?_⟩
    have hlen : (wts (l.take i)).length ≤ 10 := by rw [wts_len, List.length_take]; omega
    simp only [impl_ShareByHours.l0]
    rw [if_pos (by omega), if_pos (by omega), if_pos (by omega), rdI l i hi, g k hk]
    simp only [Option.bind_some]
    rw [if_pos (by omega), w64 (by omega) (by omega), wts_take l i hi]
  · rw [List.take_of_length_le (Nat.le_refl _)]
    by_cases hz : (wts l).length = 0
    · have hnil : wts l = [] := List.eq_nil_of_length_eq_zero hz
      rw [hnil, if_pos (by simp)]
      refine Ev.intro 2 fun k hk => ?_
      obtain ⟨m, rfl⟩ : ∃ m, k = m + 2 := ⟨k - 2, by omega⟩
      simp only [impl_ShareByHours.l0]
      rw [if_neg (by omega), if_pos (by simp)]
      simp only [impl_ShareByHours.j1, if_true]
    · have hpos : 0 < (wts l).length := by omega
      have e1 : slices_Max.f (wts l) = some (Lib.maxOf (wts l)) := by unfold slices_Max.f; rw [if_pos hpos]
      have m0 := max_zero hpos (fun x hx => (hwb x hx).1)
      have m1 : ¬ Lib.maxOf (wts l) > 10000 := by
        have := hw _ (max_of hpos).2
        omega
      by_cases h0 : (wts l).sum = 0
      · rw [if_pos h0]
        refine Ev.intro 2 fun k hk => ?_
        obtain ⟨m, rfl⟩ : ∃ m, k = m + 2 := ⟨k - 2, by omega⟩
        simp only [impl_ShareByHours.l0]
        rw [if_neg (by omega), if_neg (by omega), e1]
        simp only [Option.bind_some, m0.2 h0, beq_self_eq_true, impl_ShareByHours.j1, if_true]
      · rw [if_neg h0]
        have hne : (Lib.maxOf (wts l) == 0) = false := beq_eq_false_iff_ne.2 (fun he => h0 (m0.1 he))
        obtain ⟨K3, g3⟩ := Ev.pick (split_impl c (wts l) (by omega))
        refine Ev.intro (K3 + 2) fun k hk => ?_
        obtain ⟨m, rfl⟩ : ∃ m, k = m + 2 := ⟨k - 2, by omega⟩
        simp only [impl_ShareByHours.l0]
        rw [if_neg (by omega), if_neg (by omega), e1]
        simp only [Option.bind_some, hne, impl_ShareByHours.j1, Bool.false_eq_true, if_false, e1]
        rw [if_neg m1, g3 m (by omega)]
        rfl
theorem split_sum (c : Int) (ws : List Int) (hc : 0 ≤ c ∧ c ≤ 100000000) (hw : ∀ x ∈ ws, 0 ≤ x ∧ x ≤ 10000) (hn : 1 ≤ ws.length ∧ ws.length ≤ 12) (hs : ws.sum ≠ 0) : (splitAns c ws).2 = 0 ∧ (splitAns c ws).1.length = ws.length ∧ (splitAns c ws).1.sum = c ∧ ∀ x ∈ (splitAns c ws).1, 0 ≤ x ∧ x ≤ 1000000000001 := by
  have ha : (ws.all fun x => decide (0 ≤ x ∧ x ≤ 10000)) = true := List.all_eq_true.2 (fun x hx => decide_eq_true (hw x hx))
  have hb := sum_take_bound hw ws.length (Nat.le_refl _)
  rw [List.take_of_length_le (Nat.le_refl _)] at hb
  unfold splitAns
  rw [if_pos ha, if_pos ⟨hc, hn⟩, if_neg hs]
  have hS : 0 < ws.sum ∧ ws.sum ≤ 1000000000 := by
    refine ⟨by omega, ?_⟩
    have : (10000 : Int) * (ws.length : Int) ≤ 10000 * 12 := Int.mul_le_mul_of_nonneg_left (by omega) (by omega)
    omega
  obtain ⟨r', hD, hsum⟩ := split_fair hc hS hw rfl hn.1
  have hlen : (dist (c - (shares c ws.sum ws).sum).toNat (shares c ws.sum ws) (rests c ws.sum ws)).length = ws.length := by rw [dist_length]; simp [shares]
  refine ⟨rfl, hlen, hsum, fun x hx => ?_⟩
  obtain ⟨j, hj, rfl⟩ := List.getElem_of_mem hx
  have hsl : (shares c ws.sum ws).length = ws.length := by simp [shares]
  have hj2 : j < (dist (c - (shares c ws.sum ws).sum).toNat (shares c ws.sum ws) (rests c ws.sum ws)).length := hj
  rw [hlen] at hj2
  have hjs : j < (shares c ws.sum ws).length := by rw [hsl]; exact hj2
  have hA := hD.A j hjs
  have ho := hD.ob j hjs
  rw [rd_nat _ j hj] at hA
  rcases hA with ⟨_, h, _⟩ | ⟨_, h⟩ <;> omega
section
variable {x1 : List Int} {l : List IT} {lim ex : Int} (hg : goodHs l) (hlim : 0 ≤ lim ∧ lim ≤ 540) (hex : 0 ≤ ex ∧ ex ≤ 99)
/-- The inner loop: the minutes beyond the limit, and the longest streak. -/
theorem inner_ev (i : Nat) (hi : i < l.length) (x8 x13 : Int) (f0 : ByteArray) (f1 : List Int) (f2 : Int) (hf : f1.length ≤ 14) (hm : ∀ x ∈ f1, 0 ≤ x ∧ x ≤ 1440) (he : x13 = extraW lim f1) (hstk : Ev (fun k => impl_LongestStreak.f k f0 f1 f2) (stkAns f1))
    (R : Bool) (hR : Ev (fun k => laws_FnHands.l0 k x1 l lim ex x8 ((i : Int) + 1)) R) (hil : (i : Int) ≤ 100) : Ev (fun k => laws_FnHands.l1 k x1 l lim ex x8 i x13 0 0 0 0 0 f0 f1 f2) R := by
  have := for_to f1.length (fun k (s : Int × Int × Int × Int) j => laws_FnHands.l1 k x1 l lim ex x8 i x13 s.1 s.2.1 s.2.2.1 s.2.2.2 j f0 f1 f2) (fun j => (extraW lim (f1.take j), (stkS f1 j).2.2, (stkS f1 j).2.1, (stkS f1 j).1)) R (fun j hj => ⟨0, fun k _ => ?_⟩) ?_ f1.length 0 (by omega)
  · exact this
  · have hex1 : wrap64 (extraW lim (f1.take j) + mx 0 (wrap64 (rd f1 (j : Int) - lim))) = extraW lim (f1.take (j + 1)) := (extraS_succ lim f1 j hj).symm
    obtain ⟨b, m, n, hs⟩ : ∃ b m n, stkS f1 j = (b, m, n) := ⟨_, _, _, rfl⟩
    have hb := stk_bd2 hs
    by_cases hx : rd f1 (j : Int) = 0
    · rw [stk_zero hs hx]
      simp only [laws_FnHands.l1, hs]
      rw [if_pos (by omega), if_pos (by omega), if_pos hx, if_neg (by omega), hex1, w64 (x := (j : Int) + 1) (by omega) (by omega)]
    · by_cases hmn : m < n + 1
      · rw [stk_more hs hx hmn]
        simp only [laws_FnHands.l1, hs]
        rw [if_pos (by omega), if_pos (by omega), if_neg hx, hex1, w64 (x := n + 1) (by omega) (by omega), if_pos (by omega), w64 (x := (j : Int) + 1) (by omega) (by omega), w64 (x := (j : Int) + 1 - (n + 1)) (by omega) (by omega)]
      · rw [stk_same hs hx hmn]
        simp only [laws_FnHands.l1, hs]
        rw [if_pos (by omega), if_pos (by omega), if_neg hx, hex1, w64 (x := n + 1) (by omega) (by omega), if_neg (by omega), w64 (x := (j : Int) + 1) (by omega) (by omega)]
  · obtain ⟨K1, g1⟩ := Ev.pick hstk
    obtain ⟨K2, g2⟩ := Ev.pick hR
    have hbd := stk_bd f1 f1.length
    refine Ev.intro (K1 + K2 + 1) fun k hk => ?_
    obtain ⟨q, rfl⟩ : ∃ q, k = q + 1 := ⟨k - 1, by omega⟩
    simp only [laws_FnHands.l1]
    rw [if_neg (by omega), g1 q (by omega), List.take_of_length_le (Nat.le_refl _), w64 (x := (i : Int) + 1) (by omega) (by omega)]
    simp only [Option.bind_some]
    rw [if_pos he]
    unfold stkAns
    by_cases h0 : (stkS f1 f1.length).2.1 = 0
    · simp only [if_pos h0, if_true]
      rw [if_neg (by omega)]
      exact g2 q (by omega)
    · simp only [if_neg h0, if_true]
      rw [if_pos (by omega)]
      exact g2 q (by omega)
end

theorem sum0 {l : List Int} (h : ∀ x ∈ l, 0 ≤ x ∧ x ≤ 1440) (hl : l.length ≤ 14) : extraW 0 l = l.sum := by
  have e1 := extra_zero l 0 h
  have e2 := sumW_go l 0 h (by omega) (by omega)
  unfold extraW
  rw [e1, e2]
  omega
section
variable {f0 : ByteArray} {f1 : List Int} {f2 lim ex : Int} (hv : handV f0 f1 f2 = true) (hl : f1.length ≤ 14) (hm : ∀ x ∈ f1, 0 ≤ x ∧ x ≤ 1440) (hlim : 0 ≤ lim ∧ lim ≤ 1440) (hex : 0 ≤ ex ∧ ex ≤ 200)
include hv hl hm in
theorem min_ev : Ev (fun k => impl_MinutesOf.f k f0 f1 f2) (f1.sum, 0) := by
  obtain ⟨K, hK⟩ := Ev.pick (hand_impl f0 f1 f2 (by omega))
  obtain ⟨J, hJ⟩ := Ev.pick (extra_impl f0 f1 f2 0 (by omega))
  refine Ev.intro (K + J) fun k hk => ?_
  unfold impl_MinutesOf.f
  rw [hK k (by omega), hJ k (by omega), hv, sum0 hm hl]
  rfl
include hv hl hlim in
theorem ext_ev : Ev (fun k => impl_ExtraMinutes.f k f0 f1 f2 lim) (extraW lim f1, 0) := by
  obtain ⟨K, hK⟩ := Ev.pick (hand_impl f0 f1 f2 (by omega))
  obtain ⟨J, hJ⟩ := Ev.pick (extra_impl f0 f1 f2 lim (by omega))
  refine Ev.intro (K + J) fun k hk => ?_
  unfold impl_ExtraMinutes.f
  rw [hK k (by omega), hJ k (by omega), hv, within_eq, decide_eq_true hlim]
  rfl
include hv hl hm hlim hex in
theorem pay_ev : Ev (fun k => impl_PayOf.f k f0 f1 f2 lim ex) (wrap64 (Int.tdiv (wrap64 ((wrap64 ((wrap64 (f2 * f1.sum)) * 100)) + (wrap64 ((wrap64 (f2 * extraW lim f1)) * ex)))) 6000), 0) := by
  obtain ⟨K, hK⟩ := Ev.pick (hand_impl f0 f1 f2 (by omega))
  obtain ⟨J, hJ⟩ := Ev.pick (pay_impl f0 f1 f2 lim ex (by omega))
  refine Ev.intro (K + J) fun k hk => ?_
  unfold impl_PayOf.f
  rw [hK k (by omega), hJ k (by omega), hv, within_eq, within_eq, decide_eq_true hlim, decide_eq_true hex]
  unfold payW
  rw [sum0 hm hl]
  rfl
include hv hl in
theorem stk_ev : Ev (fun k => impl_LongestStreak.f k f0 f1 f2) (stkAns f1) := by
  obtain ⟨K, hK⟩ := Ev.pick (hand_impl f0 f1 f2 (by omega))
  obtain ⟨J, hJ⟩ := Ev.pick (streak_impl f1 (by omega))
  refine Ev.intro (K + J) fun k hk => ?_
  unfold impl_LongestStreak.f
  rw [hK k (by omega), hJ k (by omega), hv]
  rfl
end
theorem a2sum_ev (l : List Int) (A : Int) (hA : 0 ≤ A) (h : ∀ x ∈ l, 0 ≤ x ∧ x ≤ A) (hb : A * l.length ≤ 9223372036854775807) (hl : l.length ≤ 35184372088832) : Ev (fun k => laws_a2Sum.f k l) l.sum := sum_a2 l A hA h hb hl
section
variable {x1 : List Int} {l : List IT} {lim ex : Int}
theorem good_min {l : List IT} (hg : goodHs l) (i : Nat) (hi : i < l.length) : handV (l[i]).f0 (l[i]).f1 (l[i]).f2 = true ∧ (l[i]).f1.length ≤ 6 ∧ ∀ x ∈ (l[i]).f1, 0 ≤ x ∧ x ≤ 690 := by
  have h := hg.2.1 _ (List.getElem_mem hi)
  have hl := hg.1
  exact ⟨good_valid h (by rw [hg.2.2 i hi]; exact nms_name i (by omega)), h.1.1, h.1.2⟩
theorem sum690 : ∀ (l : List Int), (∀ x ∈ l, 0 ≤ x ∧ x ≤ 690) → 0 ≤ l.sum ∧ l.sum ≤ 690 * (l.length : Int)
  | [], _ => by simp
  | x :: r, h => by
    have h1 := h x (by simp)
    have h2 := sum690 r (fun y hy => h y (by simp [hy]))
    rw [List.sum_cons, List.length_cons]
    omega
theorem wts690 {l : List IT} (hg : goodHs l) : ∀ x ∈ wts l, 0 ≤ x ∧ x ≤ 4140 := by
  intro x hx
  unfold wts at hx
  obtain ⟨y, hy, rfl⟩ := List.mem_map.1 hx
  obtain ⟨i, hi, rfl⟩ := List.getElem_of_mem hy
  have he := good_min hg i hi
  have := sum690 _ he.2.2
  omega
theorem end_ev (hb : Bytes x1) (hg : goodHs l) : Ev (fun k => laws_FnHands.l0 k x1 l lim ex (wts l).sum (l.length : Int)) true := by
  obtain ⟨t, et, ht0, ht1⟩ := at_ok hb 2 250 (by omega) (by omega)
  have hok := good_ok hg
  have hl := hg.1
  have hwb := wts690 hg
  have hwl := wts_len l
  have e13 : wrap64 (t * 13) = t * 13 := w64 (by omega) (by omega)
  obtain ⟨K1, g1⟩ := Ev.pick (share_impl l (t * 13) hok (by omega) (fun x hx => by have := hwb x hx; omega))
  by_cases h0 : (wts l).sum = 0
  · refine Ev.intro (K1 + 1) fun k hk => ?_
    obtain ⟨m, rfl⟩ : ∃ m, k = m + 1 := ⟨k - 1, by omega⟩
    simp only [laws_FnHands.l0]
    rw [if_neg (by omega), et]
    simp only [Option.bind_some]
    rw [e13, g1 m (by omega), if_pos h0]
    simp only [Option.bind_some]
    rw [if_pos h0]
    rfl
  · have hn : 1 ≤ (wts l).length := by
      cases hc : wts l with
      | nil => rw [hc] at h0; simp at h0
      | cons a b => simp
    obtain ⟨s1, s2, s3, s4⟩ := split_sum (t * 13) (wts l) (by omega) (fun x hx => by have := hwb x hx; omega) ⟨hn, by omega⟩ h0
    obtain ⟨K2, g2⟩ := Ev.pick (a2sum_ev (splitAns (t * 13) (wts l)).1 1000000000001 (by omega) s4 (by omega) (by omega))
    refine Ev.intro (K1 + K2 + 1) fun k hk => ?_
    obtain ⟨m, rfl⟩ : ∃ m, k = m + 1 := ⟨k - 1, by omega⟩
    simp only [laws_FnHands.l0]
    rw [if_neg (by omega), et]
    simp only [Option.bind_some]
    rw [e13, g1 m (by omega), if_neg h0]
    simp only [Option.bind_some]
    rw [if_neg h0, if_pos s1, if_pos (by omega), g2 m (by omega), s3]
    simp only [Option.bind_some, beq_self_eq_true]
theorem outer_ev (hb : Bytes x1) (hg : goodHs l) (hlim : 0 ≤ lim ∧ lim ≤ 540) (hex : 0 ≤ ex ∧ ex ≤ 99) : ∀ (d i : Nat), i + d = l.length → Ev (fun k => laws_FnHands.l0 k x1 l lim ex (wts (l.take i)).sum (i : Int)) true
  | 0, i, hi => by
    obtain rfl : i = l.length := by omega
    rw [List.take_of_length_le (Nat.le_refl _)]
    exact end_ev hb hg
  | d + 1, i, hi => by
    have ih := outer_ev hb hg hlim hex d (i + 1) (by omega)
    have hil : i < l.length := by omega
    have hl6 := hg.1
    obtain ⟨hv, hlen, hm⟩ := good_min hg i hil
    have hm2 : ∀ x ∈ (l[i]).f1, 0 ≤ x ∧ x ≤ 1440 := fun x hx => by have := hm x hx; omega
    have hsum := sum690 _ hm
    have hts : 0 ≤ (wts (l.take i)).sum ∧ (wts (l.take i)).sum ≤ 1000000 := by
      have hb2 := sum_take_bound (l := wts (l.take i)) (A := 0) (B := 4140) (fun x hx => by
        unfold wts at hx
        obtain ⟨y, hy, rfl⟩ := List.mem_map.1 hx
        exact wts690 hg _ (List.mem_map.2 ⟨y, List.mem_of_mem_take hy, rfl⟩)) (wts (l.take i)).length (Nat.le_refl _)
      rw [List.take_of_length_le (Nat.le_refl _)] at hb2
      have hwl : (wts (l.take i)).length ≤ 6 := by rw [wts_len, List.length_take]; omega
      have : (4140 : Int) * ((wts (l.take i)).length : Int) ≤ 4140 * 6 := Int.mul_le_mul_of_nonneg_left (by omega) (by omega)
      omega
    have hx := extra_go lim (by omega) (l[i]).f1 0 hm2 (by omega) (by omega)
    have hnext : (wts (l.take (i + 1))).sum = (wts (l.take i)).sum + (l[i]).f1.sum := by
      rw [wts_take l i hil, List.sum_append, List.sum_cons, List.sum_nil]; omega
    have hin := inner_ev (x1 := x1) (l := l) (lim := lim) (ex := ex) i hil (wts (l.take (i + 1))).sum (extraW lim (l[i]).f1) (l[i]).f0 (l[i]).f1 (l[i]).f2 (by omega) hm2 rfl (stk_ev hv (by omega)) true ih (by omega)
    obtain ⟨K1, g1⟩ := Ev.pick (min_ev hv (by omega) hm2)
    obtain ⟨K2, g2⟩ := Ev.pick (ext_ev hv (by omega) (show 0 ≤ lim ∧ lim ≤ 1440 by omega))
    obtain ⟨K3, g3⟩ := Ev.pick (pay_ev hv (by omega) hm2 (show 0 ≤ lim ∧ lim ≤ 1440 by omega) (show 0 ≤ ex ∧ ex ≤ 200 by omega))
    obtain ⟨K4, g4⟩ := Ev.pick (a2sum_ev (l[i]).f1 690 (by omega) hm (by omega) (by omega))
    obtain ⟨K5, g5⟩ := Ev.pick hin
    refine Ev.intro (K1 + K2 + K3 + K4 + K5 + 2) fun k hk => ?_
    obtain ⟨m, rfl⟩ : ∃ m, k = m + 2 := ⟨k - 2, by omega⟩
    have n1 : ¬ extraW lim (l[i]).f1 < 0 := by unfold extraW; omega
    have n2 : ¬ extraW lim (l[i]).f1 > (l[i]).f1.sum := by unfold extraW; omega
    rw [laws_FnHands.l0]
    rw [if_pos (by omega), if_pos (by omega), rdI l i hil, g1 (m + 1) (by omega), Option.bind_some, g2 (m + 1) (by omega), Option.bind_some, g3 (m + 1) (by omega), Option.bind_some]
    simp only [if_true]
    rw [g4 (m + 1) (by omega)]
    simp only [Option.bind_some, if_true]
    rw [if_neg n1, if_neg n2, bne_self_eq_false, laws_FnHands.j1]
    simp only [Bool.false_eq_true, if_false]
    rw [w64 (x := (wts (l.take i)).sum + (l[i]).f1.sum) (by omega) (by omega), ← hnext]
    exact g5 m (by omega)
end

end FnHands_
open FnHands_ in
theorem FnHands : ∀ (l0 : List Int) (l1 : List Int), (l0.length ≤ maxLen ∧ ∀ x ∈ l0, (Lit.int .u8 x).wf = true) → (l1.length ≤ maxLen ∧ ∀ x ∈ l1, (Lit.int .u8 x).wf = true) → ∃ k, laws_FnHands.f k l0 l1 = some true := by
  intro l0 l1 ⟨_, hb0⟩ ⟨_, hb1⟩
  by_cases c : laws_a2Long.f l0 l1 = some true
  · refine ⟨0, ?_⟩
    unfold laws_FnHands.f
    rw [c]
    rfl
  · obtain ⟨hlong, hl0⟩ : laws_a2Long.f l0 l1 = some false ∧ l0.length ≤ 3000 := by
      unfold laws_a2Long.f at c ⊢
      by_cases h1 : (l0.length : Int) > 3000
      · rw [if_pos h1] at c; exact absurd rfl c
      · rw [if_neg h1] at c ⊢
        by_cases h2 : (l1.length : Int) > 3000
        · rw [decide_eq_true h2] at c; exact absurd rfl c
        · rw [decide_eq_false h2]; exact ⟨rfl, by omega⟩
    have B0 := bytes_wf hb0
    have B1 := bytes_wf hb1
    obtain ⟨l, hg, hd⟩ := hands_drawn B0 hl0
    obtain ⟨t, et, ht⟩ := at_ok B1 0 10 (by omega) (by omega)
    obtain ⟨u, eu, hu⟩ := at_ok B1 1 100 (by omega) (by omega)
    have hw : wrap64 (60 * t) = 60 * t := w64 (by omega) (by omega)
    have ho := outer_ev (lim := 60 * t) (ex := u) B1 hg (by omega) (by omega) l.length 0 (by omega)
    obtain ⟨K1, g1⟩ := Ev.pick hd
    obtain ⟨K2, g2⟩ := Ev.pick ho
    refine ⟨K1 + K2, ?_⟩
    unfold laws_FnHands.f
    rw [hlong]
    simp only [Option.bind_some, Bool.false_eq_true, if_false]
    rw [g1 _ (by omega)]
    simp only [Option.bind_some]
    rw [et]
    simp only [Option.bind_some]
    rw [eu]
    simp only [Option.bind_some]
    rw [hw]
    exact g2 _ (by omega)

end Go.Proofs.Ytnfcgofpfhajoaa.Pure
