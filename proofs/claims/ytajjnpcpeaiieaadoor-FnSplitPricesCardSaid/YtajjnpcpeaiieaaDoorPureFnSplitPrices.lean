/- For all bytes: the shares have their sum and go by the greatest rests; the net price is the least; the text is read back. -/
import Derived.Test.YtajjnpcpeaiieaaDoorQFnSplitPricesx5
import Derived.Test.YtajjnpcpeaiieaaDoorBase
import Derived.Lib.ItoaLen
namespace Go.Proofs.YtajjnpcpeaiieaaDoor.Pure
open Go.RowKit Go.Proofs.YtajjnpcpeaiieaaDoor.QFnSplitPrices Go.Proofs.YtajjnpcpeaiieaaDoorW.PrintWords Go.Proofs.YtajjnpcpeaiieaaDoorW.PrintLast Go.Proofs.YtajjnpcpeaiieaaDoor.Base
set_option linter.unusedVariables false
set_option linter.unusedSimpArgs false

namespace FnSplitPrices_
theorem and255 (x : Int) : 0 ≤ Go.bits .and .u64 x 255 ∧ Go.bits .and .u64 x 255 ≤ 255 := by
  unfold Go.bits
  have h : (BitVec.ofInt 64 x &&& BitVec.ofInt 64 255).toNat ≤ 255 := by
    rw [BitVec.toNat_and]
    exact Nat.and_le_right
  have e : IntKind.u64.wrap (((BitVec.ofInt 64 x &&& BitVec.ofInt 64 255).toNat : Nat) : Int) = (((BitVec.ofInt 64 x &&& BitVec.ofInt 64 255).toNat : Nat) : Int) := by
    simp only [IntKind.wrap, IntKind.bits, IntKind.signed, Bool.false_and, Bool.false_eq_true, if_false]
    omega
  show 0 ≤ IntKind.u64.wrap (((BitVec.ofInt 64 x &&& BitVec.ofInt 64 255).toNat : Nat) : Int) ∧ IntKind.u64.wrap (((BitVec.ofInt 64 x &&& BitVec.ofInt 64 255).toNat : Nat) : Int) ≤ 255
  rw [e]
  omega
def Bytes (l : List Int) : Prop := ∀ x ∈ l, 0 ≤ x ∧ x ≤ 255
theorem bytes_wf {l : List Int} (h : ∀ x ∈ l, (Lit.int .u8 x).wf = true) : Bytes l := by
  intro x hx
  have := h x hx
  simp only [Lit.wf, IntKind.min, IntKind.max, IntKind.signed, IntKind.bits, Bool.and_eq_true, decide_eq_true_eq, Bool.false_eq_true, if_false] at this
  omega
theorem bytes_rd {l : List Int} (h : Bytes l) {i : Int} (h0 : 0 ≤ i) (h1 : i < l.length) : 0 ≤ rd l i ∧ rd l i ≤ 255 := by
  obtain ⟨n, rfl⟩ := Int.eq_ofNat_of_zero_le h0
  rw [rd_nat l n (by omega)]
  exact h _ (List.getElem_mem _)
theorem next_ok {l : List Int} (h : Bytes l) (hl : l.length ≤ 3000) (p s : Int) (h0 : 0 ≤ p) (h1 : p ≤ 1000000) : ∃ v s', spec_l00Src_next.f l p s = some (v, p + 1, s') ∧ 0 ≤ v ∧ v ≤ 255 := by
  unfold spec_l00Src_next.f
  rw [w64 (x := p + 1) (by omega) (by omega)]
  by_cases c : p < (l.length : Int)
  · have hb := bytes_rd h h0 c
    rw [if_pos c, if_pos h0, if_pos (by omega)]
    exact ⟨_, _, rfl, by rw [w64 (by omega) (by omega)]; exact hb⟩
  · rw [if_neg c, if_neg (by omega)]
    refine ⟨_, _, rfl, ?_⟩
    have := and255 (IntKind.u64.wrap (IntKind.u64.wrap (IntKind.u64.wrap (s * 6364136223846793005) + 0) + 1442695040888963407) / 1099511627776)
    rw [w64 (by omega) (by omega)]
    exact this
theorem tmod_range {a n : Int} (h0 : 0 ≤ a) (hn : 1 ≤ n) : 0 ≤ Int.tmod a n ∧ Int.tmod a n < n := by
  rw [tmod_nn h0]
  exact ⟨Int.emod_nonneg _ (by omega), Int.emod_lt_of_pos _ (by omega)⟩
theorem pick_ok {l : List Int} (h : Bytes l) (hl : l.length ≤ 3000) (p s n : Int) (h0 : 0 ≤ p) (h1 : p ≤ 999999) (hn : 1 ≤ n) : ∃ r p' s', spec_l00Src_pick.f l p s n = some (r, p', s') ∧ (0 ≤ r ∧ r < n) ∧ p ≤ p' ∧ p' ≤ p + 2 := by
  unfold spec_l00Src_pick.f
  by_cases c : n ≤ 1
  · rw [if_pos c]
    exact ⟨_, _, _, rfl, by omega, by omega, by omega⟩
  · obtain ⟨v, s1, e1, v0, v1⟩ := next_ok h hl p s h0 (by omega)
    rw [if_neg c, e1]
    simp only [Option.bind_some]
    by_cases c2 : n > 200
    · obtain ⟨u, s2, e2, u0, u1⟩ := next_ok h hl (p + 1) s1 (by omega) (by omega)
      rw [if_pos c2, e2]
      simp only [Option.bind_some]
      rw [if_neg (by omega), w64 (x := v * 256) (by omega) (by omega), w64 (x := v * 256 + u) (by omega) (by omega)]
      exact ⟨_, _, _, rfl, tmod_range (by omega) hn, by omega, by omega⟩
    · rw [if_neg c2, if_neg (by omega)]
      exact ⟨_, _, _, rfl, tmod_range v0 hn, by omega, by omega⟩
theorem at_ok {l : List Int} (h : Bytes l) (i n : Int) (h0 : 0 ≤ i) (hn : 1 ≤ n) : ∃ r, laws_a2At.f l i n = some r ∧ 0 ≤ r ∧ r < n := by
  unfold laws_a2At.f
  by_cases c : i ≥ (l.length : Int)
  · rw [if_pos c]
    exact ⟨0, rfl, by omega, by omega⟩
  · have hb := bytes_rd h h0 (show i < l.length by omega)
    rw [if_neg c, if_neg (by omega), if_pos h0, if_pos (by omega), if_neg (by omega), w64 (by omega) (by omega)]
    exact ⟨_, rfl, tmod_range hb.1 hn⟩

theorem within_eq (a b c : Int) : impl_within.f a b c = some (decide (b ≤ a ∧ a ≤ c)) := by
  unfold impl_within.f
  by_cases h : a ≥ b
  · rw [if_pos h]; congr 1; apply Bool.eq_iff_iff.mpr; simp; omega
  · rw [if_neg h]; congr 1; apply Bool.eq_iff_iff.mpr; simp; omega
theorem areIn_ev (l : List Int) (a b : Int) (h : l.length ≤ 9223372036854775807) : Ev (fun k => impl_areIn.f k l l.length a b) (l.all fun x => decide (a ≤ x ∧ x ≤ b)) := by
  refine Ev.congr (f := fun k => impl_areIn.l0 k a b l l.length 0) (fun k => by unfold impl_areIn.f; rw [if_pos rfl]) ?_
  have := all_lt l.length (fun i => decide (a ≤ rd l i ∧ rd l i ≤ b)) (fun k i => impl_areIn.l0 k a b l l.length i) true false (fun i hi hp => ⟨0, fun k _ => ?_⟩) (fun i hi hp => Ev.const fun k => ?_) (fun _ => Ev.const fun k => ?_)
  · rw [all_range_list (p := fun x => decide (a ≤ x ∧ x ≤ b)) (fun i hi => by rw [rd_nat l i hi])] at this
    rw [ite_bool] at this
    exact this
  · simp only [impl_areIn.l0]
    rw [if_pos (by omega), if_pos (by omega), if_pos (by omega), within_eq, hp, w64 (by omega) (by omega)]
    rfl
  · simp only [impl_areIn.l0]
    rw [if_pos (by omega), if_pos (by omega), if_pos (by omega), within_eq, hp]
    rfl
  · simp only [impl_areIn.l0]
    rw [if_neg (by omega)]

/-- The first of the greatest, from place i on, against the one at b. -/
def am (r : List Int) : Nat → Nat → Nat → Nat
  | 0, _, b => b
  | d + 1, i, b => am r d (i + 1) (if rd r i > rd r b then i else b)
theorem am_lt (r : List Int) : ∀ d i b, i + d = r.length → b < r.length → am r d i b < r.length := by
  intro d
  induction d with
  | zero => intro i b _ hb; exact hb
  | succ d ih =>
    intro i b hi hb
    unfold am
    exact ih _ _ (by omega) (by split <;> omega)
/-- What is left goes, one by one, to the greatest rests. -/
def dist : Nat → List Int → List Int → List Int
  | 0, o, _ => o
  | n + 1, o, r => dist n (o.set (am r (r.length - 1) 1 0) (wrap64 (rd o (am r (r.length - 1) 1 0 : Nat) + 1))) (r.set (am r (r.length - 1) 1 0) (-1))
theorem dist_length : ∀ n o r, (dist n o r).length = o.length := by
  intro n
  induction n with
  | zero => intro o r; rfl
  | succ n ih => intro o r; unfold dist; rw [ih, List.length_set]
theorem impl_l3 (o r : List Int) (left : Int) (R : List Int × Int) (ho : o.length = r.length) (h0 : 0 < left) (h1 : left ≤ 1000000000000000) (hr : r.length ≤ 1000000000000) : ∀ d (i b : Nat), i + d = r.length → b < r.length →
    Ev (fun k => impl_SplitPrice.l2 k (o.set (am r d i b) (wrap64 (rd o (am r d i b : Nat) + 1))) (r.set (am r d i b) (-1)) (left - 1)) R → Ev (fun k => impl_SplitPrice.l3 k o r left b r.length i) R := by
  intro d
  induction d with
  | zero =>
    intro i b hi hb h
    refine Ev.step (fun k => ?_) h
    simp only [impl_SplitPrice.l3, am]
    rw [if_neg (by omega), if_pos (by omega), if_pos (by omega), if_pos (by omega), w64 (x := left - 1) (by omega) (by omega), Int.toNat_natCast]
  | succ d ih =>
    intro i b hi hb h
    unfold am at h
    by_cases c : rd r i > rd r b
    · rw [if_pos c] at h
      refine Ev.step (fun k => ?_) (ih (i + 1) i (by omega) (by omega) h)
      simp only [impl_SplitPrice.l3]
      rw [if_pos (by omega), if_pos (by omega), if_pos (by omega), if_pos (by omega), if_pos (by omega), if_pos c, w64 (x := (i : Int) + 1) (by omega) (by omega)]
      rfl
    · rw [if_neg c] at h
      refine Ev.step (fun k => ?_) (ih (i + 1) b (by omega) (by omega) h)
      simp only [impl_SplitPrice.l3]
      rw [if_pos (by omega), if_pos (by omega), if_pos (by omega), if_pos (by omega), if_pos (by omega), if_neg c, w64 (x := (i : Int) + 1) (by omega) (by omega)]
      rfl
theorem impl_l2 : ∀ (n : Nat) (left : Int) (o r : List Int), left.toNat = n → left ≤ 1000000000000000 → o.length = r.length → 0 < r.length → r.length ≤ 1000000000000 → Ev (fun k => impl_SplitPrice.l2 k o r left) (dist n o r, 0) := by
  intro n
  induction n with
  | zero =>
    intro left o r hn h1 ho h0 hr
    refine Ev.const fun k => ?_
    simp only [impl_SplitPrice.l2]
    rw [if_neg (by omega)]
    rfl
  | succ n ih =>
    intro left o r hn h1 ho h0 hr
    refine Ev.step (f := fun k => impl_SplitPrice.l3 k o r left 0 r.length 0) (fun k => by simp only [impl_SplitPrice.l2]; rw [if_pos (by omega)]) ?_
    refine impl_l3 o r left _ ho (by omega) h1 hr r.length 0 0 (by omega) h0 ?_
    have e : am r r.length 0 0 = am r (r.length - 1) 1 0 := by
      obtain ⟨m, hm⟩ : ∃ m, r.length = m + 1 := ⟨r.length - 1, by omega⟩
      rw [hm]
      show am r m (0 + 1) (if rd r (0 : Nat) > rd r (0 : Nat) then 0 else 0) = am r m 1 0
      rw [if_neg (by omega)]
    rw [e]
    have := ih (left - 1) (o.set (am r (r.length - 1) 1 0) (wrap64 (rd o (am r (r.length - 1) 1 0 : Nat) + 1))) (r.set (am r (r.length - 1) 1 0) (-1)) (by omega) (by omega) (by simpa using ho) (by simpa using h0) (by simpa using hr)
    unfold dist
    exact this
def shares (c S : Int) (ws : List Int) : List Int := ws.map fun w => c * w / S
def rests (c S : Int) (ws : List Int) : List Int := ws.map fun w => c * w % S
theorem set_fill (l : List Int) (i : Nat) (h : i < l.length) (z : Int) : (l.take i ++ List.replicate (l.length - i) z).set i l[i] = l.take (i + 1) ++ List.replicate (l.length - (i + 1)) z := by
  rw [List.set_append_right _ _ (by rw [List.length_take]; omega), List.length_take, Nat.min_eq_left (by omega), Nat.sub_self, show l.length - i = (l.length - (i + 1)) + 1 by omega, List.replicate_succ, List.set_cons_zero, List.take_succ_eq_append_getElem h, List.append_assoc]
  rfl
section
variable {c S : Int} {ws : List Int} (hc : 0 ≤ c ∧ c ≤ 100000000) (hS : 0 < S ∧ S ≤ 1000000000) (hw : ∀ x ∈ ws, 0 ≤ x ∧ x ≤ 10000) (hn : ws.length ≤ 12)
include hc hS hw in
theorem one_share (i : Nat) (h : i < ws.length) : wrap64 (Int.tdiv (wrap64 (c * rd ws i)) S) = c * ws[i] / S ∧ Int.tmod (wrap64 (c * rd ws i)) S = c * ws[i] % S ∧ 0 ≤ c * ws[i] / S ∧ c * ws[i] / S ≤ 1000000000000 := by
  have hx := hw _ (List.getElem_mem h)
  obtain ⟨p0, p1⟩ := mul_range hc.1 hc.2 hx.1 hx.2
  rw [rd_nat ws i h, w64 (x := c * ws[i]) (by omega) (by omega), tdiv_nn p0, tmod_nn p0]
  have q0 : 0 ≤ c * ws[i] / S := Int.ediv_nonneg p0 (by omega)
  have q1 : c * ws[i] / S ≤ c * ws[i] := Int.ediv_le_self _ p0
  exact ⟨w64 (by omega) (by omega), rfl, q0, by omega⟩
theorem shares_get (c S : Int) (ws : List Int) (i : Nat) (h : i < ws.length) : (shares c S ws)[i]'(by simpa [shares] using h) = c * ws[i] / S := by simp [shares]
theorem rests_get (c S : Int) (ws : List Int) (i : Nat) (h : i < ws.length) : (rests c S ws)[i]'(by simpa [rests] using h) = c * ws[i] % S := by simp [rests]
include hc hS hw in
theorem shares_bound : ∀ x ∈ shares c S ws, 0 ≤ x ∧ x ≤ 1000000000000 := by
  intro x hx
  obtain ⟨i, hi, rfl⟩ := List.getElem_of_mem hx
  have hi' : i < ws.length := by simpa [shares] using hi
  rw [shares_get c S ws i hi']
  exact (one_share hc hS hw i hi').2.2
include hc hS hw hn in
include hc hS hw hn in
theorem impl_l1 (R : List Int × Int) (h : Ev (fun k => impl_SplitPrice.l2 k (shares c S ws) (rests c S ws) (c - (shares c S ws).sum)) R) : Ev (fun k => impl_SplitPrice.l1 k c S (List.replicate ws.length 0) (List.replicate ws.length 0) c ws ws.length 0) R := by
  have hsl : (shares c S ws).length = ws.length := by simp [shares]
  have hrl : (rests c S ws).length = ws.length := by simp [rests]
  have := for_to ws.length (fun k (s : List Int × List Int × Int) i => impl_SplitPrice.l1 k c S s.1 s.2.1 s.2.2 ws ws.length i) (fun i => ((shares c S ws).take i ++ List.replicate ((shares c S ws).length - i) 0, (rests c S ws).take i ++ List.replicate ((rests c S ws).length - i) 0, c - ((shares c S ws).take i).sum)) R (fun i hi => ⟨0, fun k _ => ?_⟩) ?_ ws.length 0 (by omega)
  · simpa [hsl, hrl] using this
  · obtain ⟨e1, e2, e3, e4⟩ := one_share hc hS hw i hi
    have b := sum_take_bound (shares_bound hc hS hw) i (by omega)
    have l1 : ((shares c S ws).take i ++ List.replicate ((shares c S ws).length - i) 0).length = ws.length := by simp; omega
    have l2 : ((rests c S ws).take i ++ List.replicate ((rests c S ws).length - i) 0).length = ws.length := by simp; omega
    have s1 := set_fill (shares c S ws) i (by omega) 0
    have s2 := set_fill (rests c S ws) i (by omega) 0
    rw [shares_get c S ws i hi] at s1
    rw [rests_get c S ws i hi] at s2
    have t3 : rd ((shares c S ws).take (i + 1) ++ List.replicate ((shares c S ws).length - (i + 1)) 0) i = c * ws[i] / S := by
      rw [rd_nat _ i (by simp; omega), List.getElem_append_left (by rw [List.length_take]; omega), List.getElem_take, shares_get c S ws i hi]
    simp only [impl_SplitPrice.l1]
    rw [if_pos (by omega), if_pos (by omega), if_pos (by omega), if_neg (by omega), if_pos (by omega), e1, e2, Int.toNat_natCast, s1, s2]
    simp only [Option.bind_some]
    rw [if_pos (by omega), t3, w64 (by omega) (by omega), w64 (by omega) (by omega), sum_take_succ _ i (by omega), shares_get c S ws i hi]
    congr 1; omega
  · refine Ev.step (f := fun k => impl_SplitPrice.l2 k (shares c S ws) (rests c S ws) (c - (shares c S ws).sum)) (fun k => ?_) h
    simp only [impl_SplitPrice.l1]
    rw [if_neg (by omega), List.take_of_length_le (by omega), List.take_of_length_le (by omega), hsl, hrl]
    simp
end
/-- What SplitPrice answers. -/
def splitAns (c : Int) (ws : List Int) : List Int × Int :=
  if (ws.all fun x => decide (0 ≤ x ∧ x ≤ 10000)) = true then
    if (0 ≤ c ∧ c ≤ 100000000) ∧ 1 ≤ ws.length ∧ ws.length ≤ 12 then
      if ws.sum = 0 then ([], 6) else (dist (c - (shares c ws.sum ws).sum).toNat (shares c ws.sum ws) (rests c ws.sum ws), 0)
    else ([], 2)
  else ([], 2)
theorem split_j0 (c : Int) (ws : List Int) (k : Nat) : impl_SplitPrice.j0 (k + 1) c ws true = some ([], 2) := by simp only [impl_SplitPrice.j0, if_true]
theorem split_impl (c : Int) (ws : List Int) (hl : ws.length ≤ 35184372088832) : Ev (fun k => impl_SplitPrice.f k c ws) (splitAns c ws) := by
  unfold splitAns
  by_cases hc : 0 ≤ c ∧ c ≤ 100000000
  · by_cases hn : 1 ≤ ws.length ∧ ws.length ≤ 12
    · obtain ⟨K, hK⟩ := areIn_ev ws 0 10000 (by omega)
      dsimp only at hK
      have start : ∀ k, K ≤ k → impl_SplitPrice.f k c ws = impl_SplitPrice.j0 k c ws (!(ws.all fun x => decide (0 ≤ x ∧ x ≤ 10000))) := by
        intro k hk
        unfold impl_SplitPrice.f
        rw [within_eq]
        simp only [hc, and_self, decide_true, Option.bind_some, if_true]
        rw [if_neg (by omega), if_neg (by omega), hK k hk]
        rfl
      by_cases ha : (ws.all fun x => decide (0 ≤ x ∧ x ≤ 10000)) = true
      · rw [if_pos ha, if_pos ⟨hc, hn⟩]
        have hw : ∀ x ∈ ws, 0 ≤ x ∧ x ≤ 10000 := fun x hx => by simpa using List.all_eq_true.1 ha x hx
        have hs := sum_bound 0 10000 ws hw
        have go : ∀ R, Ev (fun k => impl_SplitPrice.l0 (k + 1) c ws ws.sum ws ws.length ws.length) R → Ev (fun k => impl_SplitPrice.f k c ws) R := by
          intro R h
          have h1 := for_to ws.length (fun k (s : Int) i => impl_SplitPrice.l0 k c ws s ws ws.length i) (fun i => (ws.take i).sum) R (fun i hi => ⟨0, fun k _ => by
            have b1 := sum_take_bound hw (i + 1) (by omega)
            rw [sum_take_succ ws i hi] at b1
            simp only [impl_SplitPrice.l0]
            rw [if_pos (by omega), if_pos (by omega), if_pos (by omega), rd_nat ws i hi, w64 (x := (i : Int) + 1) (by omega) (by omega), w64 (by omega) (by omega), sum_take_succ ws i hi]⟩) (by
            rw [List.take_of_length_le (by omega)]
            exact Ev.succ h) ws.length 0 (by omega)
          obtain ⟨J, hJ⟩ := h1
          dsimp only at hJ
          refine ⟨max K J + 1, fun k hk => ?_⟩
          obtain ⟨m, rfl⟩ : ∃ m, k = m + 1 := ⟨k - 1, by omega⟩
          dsimp only
          rw [start _ (by omega), ha]
          simp only [impl_SplitPrice.j0, Bool.not_true, Bool.false_eq_true, if_false]
          exact hJ m (by omega)
        by_cases h0 : ws.sum = 0
        · rw [if_pos h0]
          refine go _ (Ev.all fun k => ?_)
          simp only [impl_SplitPrice.l0]
          rw [if_neg (by omega), if_pos h0]
        · rw [if_neg h0]
          refine go _ (Ev.congr (fun k => ?_) (impl_l1 hc (S := ws.sum) (by omega) hw hn.2 _ (impl_l2 _ (c - (shares c ws.sum ws).sum) (shares c ws.sum ws) (rests c ws.sum ws) rfl (by
            have := (sum_bound 0 1000000000000 _ (shares_bound hc (S := ws.sum) (by omega) hw)).1
            omega) (by simp [shares, rests]) (by simp [rests]; omega) (by simp [rests]; omega))))
          simp only [impl_SplitPrice.l0]
          rw [if_neg (by omega), if_neg h0, if_pos (by omega), if_pos (by omega), Int.toNat_natCast]
      · rw [if_neg ha]
        refine ⟨K + 1, fun k hk => ?_⟩
        obtain ⟨m, rfl⟩ : ∃ m, k = m + 1 := ⟨k - 1, by omega⟩
        dsimp only
        rw [start _ (by omega), Bool.eq_false_iff.mpr ha]
        exact split_j0 c ws m
    · have e : (if (ws.all fun x => decide (0 ≤ x ∧ x ≤ 10000)) = true then if (0 ≤ c ∧ c ≤ 100000000) ∧ 1 ≤ ws.length ∧ ws.length ≤ 12 then if ws.sum = 0 then (([], 6) : List Int × Int) else (dist (c - (shares c ws.sum ws).sum).toNat (shares c ws.sum ws) (rests c ws.sum ws), 0) else ([], 2) else ([], 2)) = ([], 2) := by
        rw [if_neg (c := (0 ≤ c ∧ c ≤ 100000000) ∧ 1 ≤ ws.length ∧ ws.length ≤ 12) (fun h => hn h.2), ite_self]
      rw [e]
      refine Ev.const fun k => ?_
      unfold impl_SplitPrice.f
      rw [within_eq]
      simp only [hc, and_self, decide_true, Option.bind_some, if_true]
      by_cases h1 : (ws.length : Int) < 1
      · rw [if_pos h1]; exact split_j0 c ws k
      · rw [if_neg h1, if_pos (by omega)]; exact split_j0 c ws k
  · have e : (if (ws.all fun x => decide (0 ≤ x ∧ x ≤ 10000)) = true then if (0 ≤ c ∧ c ≤ 100000000) ∧ 1 ≤ ws.length ∧ ws.length ≤ 12 then if ws.sum = 0 then (([], 6) : List Int × Int) else (dist (c - (shares c ws.sum ws).sum).toNat (shares c ws.sum ws) (rests c ws.sum ws), 0) else ([], 2) else ([], 2)) = ([], 2) := by
      rw [if_neg (c := (0 ≤ c ∧ c ≤ 100000000) ∧ 1 ≤ ws.length ∧ ws.length ≤ 12) (fun h => hc h.1), ite_self]
    rw [e]
    refine Ev.const fun k => ?_
    unfold impl_SplitPrice.f
    rw [within_eq]
    simp only [hc, decide_false, Option.bind_some, Bool.false_eq_true, if_false]
    exact split_j0 c ws k
theorem splitAns_length (c : Int) (ws : List Int) : (splitAns c ws).1.length ≤ 12 := by
  unfold splitAns
  split
  · split
    · rename_i h
      split
      · simp
      · show (dist _ _ _).length ≤ 12
        rw [dist_length]
        simp [shares]
        omega
    · simp
  · simp

theorem am_max (r : List Int) : ∀ (d i b : Nat), i + d = r.length → b < i → (∀ j : Nat, j < i → rd r (j : Int) ≤ rd r (b : Int) ∧ (j < b → rd r (j : Int) < rd r (b : Int))) →
    ∀ j : Nat, j < r.length → rd r (j : Int) ≤ rd r (am r d i b : Nat) ∧ (j < am r d i b → rd r (j : Int) < rd r (am r d i b : Nat))
  | 0, i, b, hi, hb, h => by
    intro j hj
    exact h j (by omega)
  | d + 1, i, b, hi, hb, h => by
    unfold am
    by_cases c : rd r (i : Int) > rd r (b : Int)
    · rw [if_pos c]
      refine am_max r d (i + 1) i (by omega) (by omega) fun j hj => ?_
      by_cases e : j = i
      · subst e; exact ⟨Int.le_refl _, fun g => absurd g (Nat.lt_irrefl _)⟩
      · have := (h j (by omega)).1
        exact ⟨by omega, fun _ => by omega⟩
    · rw [if_neg c]
      refine am_max r d (i + 1) b (by omega) (by omega) fun j hj => ?_
      by_cases e : j = i
      · subst e; exact ⟨by omega, fun g => by omega⟩
      · exact h j (by omega)
theorem rd_set (l : List Int) (m j : Nat) (v : Int) (hj : j < l.length) : rd (l.set m v) (j : Int) = if m = j then v else rd l (j : Int) := by
  rw [rd_nat _ j (by rw [List.length_set]; exact hj), rd_nat l j hj, List.getElem_set]
theorem sum_set_one : ∀ (l : List Int) (m : Nat) (h : m < l.length) (v : Int), (l.set m v).sum = l.sum - l[m] + v
  | [], m, h, _ => absurd h (Nat.not_lt_zero _)
  | x :: l, 0, h, v => by simp only [List.set_cons_zero, List.sum_cons, List.getElem_cons_zero]; omega
  | x :: l, m + 1, h, v => by
    simp only [List.set_cons_succ, List.sum_cons, List.getElem_cons_succ]
    rw [sum_set_one l m (by simpa using h) v]
    omega
def posOf (x : Int) : Int := if 0 < x then x else 0
def posSum (r : List Int) : Int := (r.map posOf).sum
theorem pos_some : ∀ (r : List Int), 0 < posSum r → ∃ j : Nat, ∃ h : j < r.length, 0 < r[j]
  | [], h => by simp [posSum] at h
  | x :: r, h => by
    by_cases c : 0 < x
    · exact ⟨0, by simp, by simpa using c⟩
    · have e : posSum (x :: r) = posSum r := by unfold posSum; rw [List.map_cons, List.sum_cons, posOf, if_neg c]; omega
      obtain ⟨j, hj, hp⟩ := pos_some r (by rw [← e]; exact h)
      exact ⟨j + 1, by simpa using hj, by simpa using hp⟩
/-- Where the greatest rests have been served so far. -/
structure Dist (S : Int) (o0 r0 o r : List Int) : Prop where
  lo : o.length = o0.length
  lr : r.length = o0.length
  l0 : r0.length = o0.length
  rb : ∀ j : Nat, j < o0.length → 0 ≤ rd r0 (j : Int) ∧ rd r0 (j : Int) < S
  ob : ∀ j : Nat, j < o0.length → 0 ≤ rd o0 (j : Int) ∧ rd o0 (j : Int) ≤ 1000000000000
  A : ∀ j : Nat, j < o0.length → (rd r (j : Int) = -1 ∧ rd o (j : Int) = rd o0 (j : Int) + 1 ∧ 0 < rd r0 (j : Int)) ∨ (rd r (j : Int) = rd r0 (j : Int) ∧ rd o (j : Int) = rd o0 (j : Int))
  B : ∀ i k : Nat, i < o0.length → k < o0.length → rd r (i : Int) = -1 → ¬ rd r (k : Int) = -1 → rd r0 (k : Int) ≤ rd r0 (i : Int) ∧ (k < i → rd r0 (k : Int) < rd r0 (i : Int))
theorem dist_law (S : Int) (hS : 0 < S) (o0 r0 : List Int) : ∀ (n : Nat) (o r : List Int), Dist S o0 r0 o r → (n : Int) * S ≤ posSum r → 0 < o0.length → ∃ r', Dist S o0 r0 (dist n o r) r' ∧ (dist n o r).sum = o.sum + n
  | 0, o, r, hD, _, _ => ⟨r, hD, by unfold dist; omega⟩
  | n + 1, o, r, hD, hp, h0 => by
    have hn : ((n + 1 : Nat) : Int) * S = (n : Int) * S + S := by rw [Int.natCast_succ, Int.add_mul, Int.one_mul]
    have hnn : 0 ≤ (n : Int) * S := Int.mul_nonneg (by omega) (by omega)
    rw [hn] at hp
    have hlr := hD.lr
    have hlo := hD.lo
    have hl0 := hD.l0
    have hm := am_lt r (r.length - 1) 1 0 (by omega) (by omega)
    have hmax := am_max r (r.length - 1) 1 0 (by omega) (by omega) (fun j hj => by
      obtain rfl : j = 0 := by omega
      exact ⟨Int.le_refl _, fun g => absurd g (Nat.lt_irrefl _)⟩)
    unfold dist
    generalize am r (r.length - 1) 1 0 = m at hm hmax
    obtain ⟨q, hq, hqp⟩ := pos_some r (by omega)
    rw [← rd_nat r q hq] at hqp
    have hmp : 0 < rd r (m : Int) := by have := (hmax q hq).1; omega
    have hAm := hD.A m (by omega)
    have hbm := hD.rb m (by omega)
    have hom := hD.ob m (by omega)
    obtain ⟨e1, e2⟩ : rd r (m : Int) = rd r0 (m : Int) ∧ rd o (m : Int) = rd o0 (m : Int) := by
      rcases hAm with ⟨a1, _, _⟩ | h
      · omega
      · exact h
    have hw : wrap64 (rd o (m : Int) + 1) = rd o0 (m : Int) + 1 := by rw [e2]; exact w64 (by omega) (by omega)
    rw [hw]
    have hps : posSum (r.set m (-1)) = posSum r - rd r (m : Int) := by
      unfold posSum
      rw [List.map_set, sum_set_one _ m (by rw [List.length_map]; exact hm), List.getElem_map, ← rd_nat r m hm]
      unfold posOf
      rw [if_pos hmp, if_neg (by omega)]
      omega
    have hso : (o.set m (rd o0 (m : Int) + 1)).sum = o.sum + 1 := by
      rw [sum_set_one o m (by omega), ← rd_nat o m (by omega), e2]
      omega
    have hD2 : Dist S o0 r0 (o.set m (rd o0 (m : Int) + 1)) (r.set m (-1)) := by
      refine ⟨by rw [List.length_set]; exact hlo, by rw [List.length_set]; exact hlr, hl0, hD.rb, hD.ob, fun j hj => ?_, fun i k hi hk => ?_⟩
      · rw [rd_set r m j _ (by omega), rd_set o m j _ (by omega)]
        by_cases e : m = j
        · subst e
          rw [if_pos rfl, if_pos rfl]
          exact .inl ⟨rfl, rfl, by omega⟩
        · rw [if_neg e, if_neg e]
          exact hD.A j hj
      · rw [rd_set r m i _ (by omega), rd_set r m k _ (by omega)]
        by_cases ek : m = k
        · subst ek
          rw [if_pos rfl]
          intro _ h; exact absurd rfl h
        · rw [if_neg ek]
          by_cases ei : m = i
          · subst ei
            rw [if_pos rfl]
            intro _ hk2
            have hA := hD.A k hk
            have hx := hmax k (by omega)
            have ee : rd r (k : Int) = rd r0 (k : Int) := by
              rcases hA with ⟨a1, _, _⟩ | h
              · exact absurd a1 hk2
              · exact h.1
            rw [← e1, ← ee]
            exact hx
          · rw [if_neg ei]
            exact hD.B i k hi hk
    obtain ⟨r', hD', hs'⟩ := dist_law S hS o0 r0 n (o.set m (rd o0 (m : Int) + 1)) (r.set m (-1)) hD2 (by rw [hps]; omega) h0
    exact ⟨r', hD', by rw [hs', hso]; omega⟩

theorem draw_w {b : List Int} (hb : Bytes b) (hl : b.length ≤ 3000) : ∀ (n : Nat) (xs : List Int) (p s : Int), n ≤ 5 → xs.length + n ≤ 6 → (∀ x ∈ xs, 0 ≤ x ∧ x ≤ 10000) → 0 ≤ p → p + 2 * n ≤ 1000 →
    ∃ r : List Int, (xs.length ≤ r.length ∧ r.length ≤ 6 ∧ (∀ x ∈ r, 0 ≤ x ∧ x ≤ 10000) ∧ xs.sum ≤ r.sum) ∧ Ev (fun k => spec_A2Weights.l0 k xs (n : Int) b p s) r := by
  intro n
  induction n with
  | zero =>
    intro xs p s _ hx hg _ _
    refine ⟨xs, ⟨Nat.le_refl _, by omega, hg, Int.le_refl _⟩, Ev.const fun k => ?_⟩
    simp only [spec_A2Weights.l0]
    rw [if_neg (by omega)]
  | succ n ih =>
    intro xs p s hn hx hg h5 h6
    obtain ⟨r1, p1, s1, e1, hr1, hp1⟩ := pick_ok hb hl p s 9 h5 (by omega) (by omega)
    obtain ⟨r, ⟨a1, a2, a3, a4⟩, hE⟩ := ih (xs ++ [r1]) p1 s1 (by omega) (by rw [List.length_append, List.length_cons, List.length_nil]; omega) (fun x hx => by
      rcases List.mem_append.1 hx with h | h
      · exact hg x h
      · rw [List.mem_singleton.1 h]; omega) (by omega) (by omega)
    rw [List.length_append, List.length_cons, List.length_nil] at a1
    rw [List.sum_append, List.sum_cons, List.sum_nil] at a4
    refine ⟨r, ⟨by omega, a2, a3, by omega⟩, Ev.step (fun k => ?_) hE⟩
    simp only [spec_A2Weights.l0]
    rw [if_pos (by omega), e1]
    simp only [Option.bind_some]
    rw [if_pos (by omega), show wrap64 (((n + 1 : Nat) : Int) - 1) = (n : Int) by rw [w64 (by omega) (by omega)]; omega]
theorem weights_ok {b : List Int} (hb : Bytes b) (hl : b.length ≤ 3000) : ∃ ws : List Int, (1 ≤ ws.length ∧ ws.length ≤ 6 ∧ (∀ x ∈ ws, 0 ≤ x ∧ x ≤ 10000) ∧ 1 ≤ ws.sum) ∧ Ev (fun k => spec_A2Weights.f k b) ws := by
  obtain ⟨r1, p1, s1, e1, hr1, hp1⟩ := pick_ok hb hl 0 0 9 (by omega) (by omega) (by omega)
  obtain ⟨r3, p3, s3, e3, hr3, hp3⟩ := pick_ok hb hl p1 s1 5 (by omega) (by omega) (by omega)
  obtain ⟨n, rfl⟩ := Int.eq_ofNat_of_zero_le hr3.1
  obtain ⟨r, ⟨a1, a2, a3, a4⟩, h⟩ := draw_w hb hl n [1 + r1] p3 s3 (by omega) (by rw [List.length_cons, List.length_nil]; omega) (fun x hx => by rw [List.mem_singleton.1 hx]; omega) (by omega) (by omega)
  rw [List.length_cons, List.length_nil] at a1
  rw [List.sum_cons, List.sum_nil] at a4
  refine ⟨r, ⟨by omega, a2, a3, by omega⟩, Ev.congr (fun k => ?_) h⟩
  unfold spec_A2Weights.f spec_l00From.f
  simp only [Option.bind_some]
  rw [e1]
  simp only [Option.bind_some]
  rw [e3]
  simp only [Option.bind_some]
  rw [w64 (x := 1 + r1) (by omega) (by omega)]
theorem pos_nonneg : ∀ (r : List Int), (∀ x ∈ r, 0 ≤ x) → posSum r = r.sum
  | [], _ => rfl
  | x :: r, h => by
    have ih := pos_nonneg r (fun y hy => h y (List.mem_cons_of_mem _ hy))
    have hx := h x List.mem_cons_self
    unfold posSum at ih ⊢
    rw [List.map_cons, List.sum_cons, List.sum_cons, ih]
    unfold posOf
    split <;> omega
theorem share_sum (c S : Int) : ∀ ws : List Int, S * (shares c S ws).sum + (rests c S ws).sum = c * ws.sum
  | [] => by simp [shares, rests]
  | w :: ws => by
    have ih := share_sum c S ws
    have e := Int.mul_ediv_add_emod (c * w) S
    unfold shares rests at ih ⊢
    simp only [List.map_cons, List.sum_cons]
    rw [Int.mul_add, Int.mul_add]
    omega
section
variable {c S : Int} {ws : List Int} (hc : 0 ≤ c ∧ c ≤ 100000000) (hS : 0 < S ∧ S ≤ 1000000000) (hw : ∀ x ∈ ws, 0 ≤ x ∧ x ≤ 10000)
include hc hS hw in
theorem split_fair (hsum : ws.sum = S) (hn : 1 ≤ ws.length) : ∃ r', Dist S (shares c S ws) (rests c S ws) (dist (c - (shares c S ws).sum).toNat (shares c S ws) (rests c S ws)) r' ∧ (dist (c - (shares c S ws).sum).toNat (shares c S ws) (rests c S ws)).sum = c := by
  have hsl : (shares c S ws).length = ws.length := by simp [shares]
  have hrl : (rests c S ws).length = ws.length := by simp [rests]
  have hrn : ∀ x ∈ rests c S ws, 0 ≤ x := by
    intro x hx
    obtain ⟨w, _, rfl⟩ := List.mem_map.1 hx
    exact Int.emod_nonneg _ (by omega)
  have hp := pos_nonneg _ hrn
  have hss := share_sum c S ws
  have h0 : 0 ≤ (rests c S ws).sum := by
    rw [← hp]
    have : ∀ r : List Int, 0 ≤ posSum r := by
      intro r
      induction r with
      | nil => exact Int.le_refl _
      | cons x r ih =>
        unfold posSum at ih ⊢
        rw [List.map_cons, List.sum_cons]
        have : 0 ≤ posOf x := by unfold posOf; split <;> omega
        omega
    exact this _
  rw [hsum] at hss
  have hd : S * (c - (shares c S ws).sum) = (rests c S ws).sum := by rw [Int.mul_sub, Int.mul_comm S c]; omega
  have hge : 0 ≤ c - (shares c S ws).sum := by
    rcases Int.lt_or_le (c - (shares c S ws).sum) 0 with h | h
    · have := Int.mul_neg_of_pos_of_neg hS.1 h
      omega
    · exact h
  have hD : Dist S (shares c S ws) (rests c S ws) (shares c S ws) (rests c S ws) := by
    refine ⟨rfl, by rw [hrl, hsl], by rw [hrl, hsl], fun j hj => ?_, fun j hj => ?_, fun j hj => .inr ⟨rfl, rfl⟩, fun i k hi hk h => ?_⟩
    · rw [rd_nat _ j (by omega), rests_get c S ws j (by omega)]
      exact ⟨Int.emod_nonneg _ (by omega), Int.emod_lt_of_pos _ hS.1⟩
    · rw [rd_nat _ j hj]
      exact shares_bound hc hS hw _ (List.getElem_mem hj)
    · rw [rd_nat _ i (by omega)] at h
      have := hrn _ (List.getElem_mem (by omega : i < (rests c S ws).length))
      omega
  obtain ⟨r', h1, h2⟩ := dist_law S hS.1 (shares c S ws) (rests c S ws) (c - (shares c S ws).sum).toNat _ _ hD (by rw [Int.toNat_of_nonneg hge, Int.mul_comm, hd, hp]; exact Int.le_refl _) (by omega)
  exact ⟨r', h1, by rw [h2, Int.toNat_of_nonneg hge]; omega⟩
include hc hS hw in
theorem low_of (i : Nat) (h : i < ws.length) : wrap64 (Int.tdiv (wrap64 (c * rd ws i)) S) = rd (shares c S ws) (i : Int) ∧ Int.tmod (wrap64 (c * rd ws i)) S = rd (rests c S ws) (i : Int) := by
  obtain ⟨e1, e2, _, _⟩ := one_share hc hS hw i h
  have hs : rd (shares c S ws) (i : Int) = c * ws[i] / S := by rw [rd_nat (shares c S ws) i (by simpa [shares] using h), shares_get c S ws i h]
  have hr : rd (rests c S ws) (i : Int) = c * ws[i] % S := by rw [rd_nat (rests c S ws) i (by simpa [rests] using h), rests_get c S ws i h]
  rw [hs, hr]
  exact ⟨e1, e2⟩
include hc hS hw in
theorem inner_ok {x1 : List Int} {out r' : List Int} (hD : Dist S (shares c S ws) (rests c S ws) out r') (hn : ws.length ≤ 12) (i : Nat) (hi : i < ws.length)
    (R : Bool) (hR : Ev (fun k => laws_FnSplitPrices.l0 k x1 ws c out S ((i + 1 : Nat) : Int)) R) : ∀ (d j : Nat), j + d = i → Ev (fun k => laws_FnSplitPrices.l1 k x1 ws c out S (i : Int) (rd (shares c S ws) (i : Int)) (j : Int)) R
  | 0, j, hj => by
    refine Ev.step (fun k => ?_) hR
    simp only [laws_FnSplitPrices.l1]
    rw [if_neg (by omega), w64 (x := (i : Int) + 1) (by omega) (by omega)]
    rfl
  | d + 1, j, hj => by
    have hsl : (shares c S ws).length = ws.length := by simp [shares]
    have hol := hD.lo
    have ih := inner_ok hD hn i hi R hR d (j + 1) (by omega)
    refine Ev.step (fun k => ?_) ih
    obtain ⟨a1, a2⟩ := low_of hc hS hw i hi
    obtain ⟨b1, b2⟩ := low_of hc hS hw j (by omega)
    simp only [laws_FnSplitPrices.l1]
    rw [if_pos (by omega), if_pos (by omega), if_pos (by omega), if_neg (by omega), if_pos (by omega), if_pos (by omega), if_pos (by omega), a2, b1, b2, w64 (x := (j : Int) + 1) (by omega) (by omega)]
    by_cases c1 : rd out (i : Int) > rd (shares c S ws) (i : Int)
    · rw [if_pos c1, if_pos (by omega)]
      by_cases c2 : rd out (j : Int) = rd (shares c S ws) (j : Int)
      · rw [if_pos c2]
        have hi1 : rd r' (i : Int) = -1 := by
          rcases hD.A i (by omega) with ⟨h, _, _⟩ | ⟨_, h⟩
          · exact h
          · omega
        have hj1 : ¬ rd r' (j : Int) = -1 := by
          rcases hD.A j (by omega) with ⟨_, h, _⟩ | ⟨h, _⟩
          · omega
          · have := (hD.rb j (by omega)).1; omega
        have := (hD.B i j (by omega) (by omega) hi1 hj1).2 (by omega)
        rw [if_neg (by omega)]
        rfl
      · rw [if_neg c2]; rfl
    · rw [if_neg c1]; rfl
include hc hS hw in
theorem outer_ok {x1 : List Int} {out r' : List Int} (hD : Dist S (shares c S ws) (rests c S ws) out r') (hn : ws.length ≤ 12)
    (R : Bool) (hR : Ev (fun k => laws_FnSplitPrices.l0 k x1 ws c out S (ws.length : Int)) R) : ∀ (d i : Nat), i + d = ws.length → Ev (fun k => laws_FnSplitPrices.l0 k x1 ws c out S (i : Int)) R
  | 0, i, hi => by
    obtain rfl : i = ws.length := by omega
    exact hR
  | d + 1, i, hi => by
    have hsl : (shares c S ws).length = ws.length := by simp [shares]
    have hol := hD.lo
    have ih := inner_ok hc hS hw hD hn i (by omega) R (outer_ok hD hn R hR d (i + 1) (by omega)) i 0 (by omega)
    obtain ⟨a1, a2⟩ := low_of hc hS hw i (by omega)
    have hb := hD.ob i (by omega)
    have j2 : Ev (fun k => laws_FnSplitPrices.j2 k x1 ws c out S (i : Int) (rd (shares c S ws) (i : Int)) false) R := by
      refine Ev.step (fun k => ?_) ih
      simp only [laws_FnSplitPrices.j2, Bool.false_eq_true, if_false]
      rfl
    refine Ev.step (fun k => ?_) j2
    simp only [laws_FnSplitPrices.l0]
    rw [if_pos (by omega), if_pos (by omega), if_pos (by omega), if_neg (by omega), a1, a2, w64 (x := rd (shares c S ws) (i : Int) + 1) (by omega) (by omega)]
    rcases hD.A i (by omega) with ⟨_, h1, h2⟩ | ⟨_, h1⟩
    · rw [if_neg (by omega), if_neg (by omega), if_pos (by omega), show (rd (rests c S ws) (i : Int) == 0) = false from beq_eq_false_iff_ne.2 (by omega)]
    · rw [if_neg (by omega), if_neg (by omega), if_neg (by omega)]
end

/-- The digits of a number, as numbers of bytes; none for 0. -/
def decL (u : Nat) : List Int := if h : u = 0 then [] else decL (u / 10) ++ [(48 + (u % 10 : Nat) : Int)]
termination_by u
decreasing_by omega
theorem decL_zero : decL 0 = [] := by unfold decL; rfl
theorem decL_pos {u : Nat} (h : ¬ u = 0) : decL u = decL (u / 10) ++ [(48 + (u % 10 : Nat) : Int)] := by rw [decL, dif_neg h]
theorem decL_bytes (u : Nat) (h : 0 < u) : (decL u).map (fun n : Int => UInt8.ofNat n.toNat) = Lib.decDigits u := by
  induction u using Nat.strongRecOn with
  | _ u ih =>
    rw [decL_pos (by omega), Lib.decDigits]
    have e : (48 + ((u % 10 : Nat) : Int)).toNat = 48 + u % 10 := by omega
    by_cases h10 : u < 10
    · rw [dif_pos h10, Nat.div_eq_of_lt h10, decL_zero]
      simp only [List.nil_append, List.map_cons, List.map_nil, e]
      rw [Nat.mod_eq_of_lt h10]
    · rw [dif_neg h10, List.map_append, ih (u / 10) (by omega) (by omega)]
      simp only [List.map_cons, List.map_nil, e]
theorem strOfNums_size (xs : List Int) : (strOfNums xs).size = xs.length := by unfold strOfNums; show (Array.size _) = _; simp
def finD (n : Int) (xs : List Int) : ByteArray := if (xs.length : Int) = 0 then (⟨#[48]⟩ : ByteArray) else if n < 0 then (⟨#[45]⟩ : ByteArray) ++ strOfNums xs else strOfNums xs
theorem mod256 {x : Int} (h0 : 0 ≤ x) (h1 : x < 256) : x % 256 = x := Int.emod_eq_of_lt h0 h1
theorem finD_itoa (n : Int) : finD n (decL n.natAbs) = ⟨(Lib.itoa n).toArray⟩ := by
  unfold finD Lib.itoa
  by_cases h0 : n = 0
  · subst h0
    rw [show (0 : Int).natAbs = 0 from rfl, decL_zero]
    rw [if_pos (show (([] : List Int).length : Int) = 0 from rfl), if_neg (by omega)]
    rw [show (0 : Int).toNat = 0 from rfl, Lib.decDigits]
    rfl
  · have hpos : 0 < n.natAbs := by omega
    have hlen : ¬ ((decL n.natAbs).length : Int) = 0 := by
      rw [decL_pos (by omega), List.length_append]
      simp only [List.length_cons, List.length_nil]
      omega
    rw [if_neg hlen]
    have hs : strOfNums (decL n.natAbs) = ⟨(Lib.decDigits n.natAbs).toArray⟩ := by
      unfold strOfNums
      rw [decL_bytes _ hpos]
    rw [hs]
    by_cases hn : n < 0
    · rw [if_pos hn, if_pos hn]
      apply ByteArray.ext
      rw [ByteArray.data_append]
      simp
    · rw [if_neg hn, if_neg hn]
      have : n.toNat = n.natAbs := by omega
      rw [this]
/-- A number in decimal. -/
def dec (n : Int) : ByteArray := ⟨(Lib.itoa n).toArray⟩
theorem dec_size (n : Int) (h0 : -9223372036854775808 ≤ n) (h1 : n ≤ 9223372036854775807) : (dec n).size ≤ 21 := by
  have := Lib.itoa_length_le n h0 h1
  show (Lib.itoa n).toArray.size ≤ 21
  rw [List.size_toArray]
  exact this

theorem dec_impl (n : Int) (h0 : -9223372036854775808 ≤ n) (h1 : n ≤ 9223372036854775807) : impl_Decimal.f n = some (dec n) := by
  unfold impl_Decimal.f strconv_FormatInt.f
  rw [if_pos ⟨rfl, h0, h1⟩]
  rfl

/-- A number, a sign and two digits. -/
def twoT (c : ByteArray) (q a b : Nat) : ByteArray := ((dec (q : Int) ++ c) ++ dec (a : Int)) ++ dec (b : Int)
theorem dec_sz (n : Nat) (h : n ≤ 100000000) : (dec (n : Int)).size ≤ 21 := dec_size _ (by omega) (by omega)

def priceT (n : Nat) : ByteArray := twoT ⟨#[46]⟩ (n / 100) (n / 10 % 10) (n % 10)
def priceOr (n : Nat) : ByteArray := if n ≤ 100000000 then priceT n else ⟨#[]⟩
theorem price_impl (n : Nat) (hn : n ≤ 1000000000000) : impl_PriceText.f (n : Int) = some (priceOr n) := by
  unfold priceOr
  by_cases h : n ≤ 100000000
  · rw [if_pos h]
    have z1 := dec_sz (n / 100) (by omega)
    have z2 := dec_sz (n / 10 % 10) (by omega)
    have z3 := dec_sz (n % 10) (by omega)
    have e1 : wrap64 (Int.tdiv (n : Int) 100) = ((n / 100 : Nat) : Int) := by rw [tdiv_nn (by omega)]; rw [w64 (by omega) (by omega)]; omega
    have e2 : wrap64 (Int.tdiv (Int.tmod (n : Int) 100) 10) = ((n / 10 % 10 : Nat) : Int) := by rw [tmod_nn (by omega), tdiv_nn (by omega), w64 (by omega) (by omega)]; omega
    have e3 : Int.tmod (Int.tmod (n : Int) 100) 10 = ((n % 10 : Nat) : Int) := by rw [show Int.tmod (n : Int) 100 = ((n % 100 : Nat) : Int) by rw [tmod_nn (by omega)]; omega, tmod_nn (by omega)]; omega
    have s1 : (⟨#[46]⟩ : ByteArray).size = 1 := rfl
    unfold impl_PriceText.f impl_within.f impl_twoDigits.f
    rw [if_pos (show (n : Int) ≥ 0 by omega), e1, e2, e3, dec_impl _ (by omega) (by omega), dec_impl _ (by omega) (by omega), dec_impl _ (by omega) (by omega)]
    simp only [Option.bind_some, decide_eq_true_eq, ByteArray.size_append, s1]
    rw [if_pos (by omega), if_pos (by omega), if_pos (by omega)]
    simp only [Option.bind_some, ByteArray.size_append, s1]
    rw [if_pos (by omega)]
    unfold priceT twoT
    rw [ByteArray.append_assoc, ByteArray.append_assoc, ByteArray.append_assoc]
  · rw [if_neg h]
    unfold impl_PriceText.f impl_within.f
    rw [if_pos (show (n : Int) ≥ 0 by omega)]
    simp only [Option.bind_some, decide_eq_true_eq]
    rw [if_neg (by omega)]

theorem bt_list (s : ByteArray) (i : Nat) (h : i < s.data.toList.length) : bt s (i : Int) = ((s.data.toList[i]).toNat : Int) := by
  unfold bt
  have h2 : i < s.size := by simpa using h
  rw [dif_pos (by simpa using h2)]
  rfl
theorem size_list (s : ByteArray) : s.size = s.data.toList.length := by rw [Array.length_toList]; rfl
/-- Two texts are one where their bytes are. -/
theorem bytes_ext {a b : ByteArray} (h : a.data.toList = b.data.toList) : a = b := by
  have h3 : a.data = b.data := Array.toList_inj.mp h
  cases a; cases b; exact congrArg ByteArray.mk h3
theorem toList_iff {a b : ByteArray} : a.toList = b.toList ↔ a = b := by
  constructor
  · intro h
    rw [ByteArray.toList_eq, ByteArray.toList_eq] at h
    exact bytes_ext h
  · intro h; rw [h]
def valL (l : List UInt8) : Int := l.foldl (fun a b => 10 * a + ((b.toNat : Int) - 48)) 0
theorem valL_snoc (l : List UInt8) (b : UInt8) : valL (l ++ [b]) = 10 * valL l + ((b.toNat : Int) - 48) := by unfold valL; rw [List.foldl_append]; rfl
def valD (t : ByteArray) (i : Nat) : Int := valL (t.data.toList.take i)
theorem valD_succ (t : ByteArray) (i : Nat) (h : i < t.size) : valD t (i + 1) = 10 * valD t i + (bt t (i : Int) - 48) := by
  have h2 : i < t.data.toList.length := by rw [← size_list]; exact h
  unfold valD
  rw [List.take_succ_eq_append_getElem h2, valL_snoc, bt_list t i h2]
def digitB (b : Int) : Bool := decide (48 ≤ b ∧ b ≤ 57)
def allD (t : ByteArray) : Bool := (List.range t.size).all fun i => digitB (bt t (i : Int))
theorem valD_bd (t : ByteArray) : ∀ (i : Nat), i ≤ t.size → (∀ j, j < i → digitB (bt t (j : Int)) = true) → 0 ≤ valD t i ∧ valD t i < (10 ^ i : Nat)
  | 0, _, _ => by simp [valD, valL]
  | i + 1, hi, hd => by
    have ih := valD_bd t i (by omega) (fun j hj => hd j (by omega))
    have h := of_decide_eq_true (hd i (by omega))
    rw [valD_succ t i (by omega), Nat.pow_succ]
    omega
theorem pow_le18 {i : Nat} (h : i ≤ 18) : 10 ^ i ≤ 1000000000000000000 := by
  have := Nat.pow_le_pow_right (n := 10) (by omega) h
  simpa using this
/-- What stands behind a sign. -/
def bare (s : ByteArray) : ByteArray := if 0 < s.size ∧ bt s 0 = 45 then s.extract 1 s.size else s
theorem bare_size (s : ByteArray) : (bare s).size ≤ s.size := by
  unfold bare
  split
  · rw [ByteArray.size_extract]; omega
  · exact Nat.le_refl _
def numAt (s : ByteArray) (n : Int) : Int × Bool := if dec n = s then (n, true) else (0, false)
def numEnd (s t : ByteArray) : Int × Bool := numAt s (if t.size < s.size then -valD t t.size else valD t t.size)
/-- The number with a decimal form. -/
def numV (s : ByteArray) : Int × Bool := if (bare s).size < 1 ∨ 18 < (bare s).size then (0, false) else if allD (bare s) = true then numEnd s (bare s) else (0, false)
theorem numAt_sound {s : ByteArray} {n : Int} (h : (numAt s n).2 = true) : dec (numAt s n).1 = s := by
  unfold numAt at h ⊢
  by_cases c : dec n = s
  · rw [if_pos c]; exact c
  · rw [if_neg c] at h; cases h
theorem numV_sound {s : ByteArray} (h : (numV s).2 = true) : dec (numV s).1 = s := by
  unfold numV at h ⊢
  by_cases c : (bare s).size < 1 ∨ 18 < (bare s).size
  · rw [if_pos c] at h; cases h
  · rw [if_neg c] at h ⊢
    by_cases c2 : allD (bare s) = true
    · rw [if_pos c2] at h ⊢
      exact numAt_sound h
    · rw [if_neg c2] at h; cases h
theorem numAt_bd {s : ByteArray} {n : Int} (h0 : -1000000000000000000 ≤ n) (h1 : n ≤ 1000000000000000000) : -1000000000000000000 ≤ (numAt s n).1 ∧ (numAt s n).1 ≤ 1000000000000000000 := by
  unfold numAt
  by_cases c : dec n = s
  · rw [if_pos c]; exact ⟨h0, h1⟩
  · rw [if_neg c]; simp
theorem numV_bd (s : ByteArray) : -1000000000000000000 ≤ (numV s).1 ∧ (numV s).1 ≤ 1000000000000000000 := by
  unfold numV
  by_cases c : (bare s).size < 1 ∨ 18 < (bare s).size
  · rw [if_pos c]; simp
  · rw [if_neg c]
    by_cases c2 : allD (bare s) = true
    · rw [if_pos c2]
      have h := valD_bd (bare s) (bare s).size (Nat.le_refl _) (fun j hj => List.all_eq_true.1 c2 j (List.mem_range.2 hj))
      have hp := pow_le18 (i := (bare s).size) (by omega)
      unfold numEnd
      split
      · exact numAt_bd (by omega) (by omega)
      · exact numAt_bd (by omega) (by omega)
    · rw [if_neg c2]; simp
theorem dec_digits {u : Nat} : ∀ b ∈ Lib.decDigits u, 48 ≤ b.toNat ∧ b.toNat ≤ 57 := by
  induction u using Nat.strongRecOn with
  | _ u ih =>
    intro b hb
    rw [Lib.decDigits] at hb
    split at hb
    · rename_i h10
      rw [List.mem_singleton] at hb
      subst hb
      rw [UInt8.toNat_ofNat']
      omega
    · rename_i h10
      rw [List.mem_append] at hb
      rcases hb with hb | hb
      · exact ih (u / 10) (by omega) b hb
      · rw [List.mem_singleton] at hb
        subst hb
        rw [UInt8.toNat_ofNat']
        omega
theorem dec_val (u : Nat) : valL (Lib.decDigits u) = u := by
  induction u using Nat.strongRecOn with
  | _ u ih =>
    rw [Lib.decDigits]
    split
    · rename_i h10
      show 10 * 0 + (((UInt8.ofNat (48 + u)).toNat : Int) - 48) = u
      rw [UInt8.toNat_ofNat']
      omega
    · rename_i h10
      rw [valL_snoc, ih (u / 10) (by omega), UInt8.toNat_ofNat']
      omega
theorem nDigits_le : ∀ (m u : Nat), u < 10 ^ (m + 1) → Lib.nDigits u ≤ m + 1
  | 0, u, h => by rw [Lib.nDigits_small (by simpa using h)]; omega
  | m + 1, u, h => by
    by_cases h10 : u < 10
    · rw [Lib.nDigits_small h10]; omega
    · rw [Lib.nDigits_big h10]
      rw [Nat.pow_succ] at h
      have := nDigits_le m (u / 10) (by omega)
      omega
/-- A number that is not negative, written and read back. -/
theorem numV_dec (n : Nat) (h : n < 1000000000000000000) : numV (dec (n : Int)) = ((n : Int), true) := by
  have hl : (dec (n : Int)).data.toList = Lib.decDigits n := by
    show (Lib.itoa (n : Int)).toArray.toList = _
    rw [Lib.itoa_nonneg]
  have hsz : (dec (n : Int)).size = Lib.nDigits n := by rw [size_list, hl, Lib.decDigits_length]
  have hn18 := nDigits_le 17 n (by omega)
  have hn1 := Lib.nDigits_pos n
  have hd : ∀ j, j < (dec (n : Int)).size → digitB (bt (dec (n : Int)) (j : Int)) = true := by
    intro j hj
    have hj2 : j < (dec (n : Int)).data.toList.length := by rw [← size_list]; exact hj
    rw [bt_list _ j hj2]
    have := dec_digits (u := n) ((dec (n : Int)).data.toList[j]) (by rw [← hl]; exact List.getElem_mem hj2)
    exact decide_eq_true (by omega)
  have hb : bare (dec (n : Int)) = dec (n : Int) := by
    unfold bare
    rw [if_neg]
    rintro ⟨g0, g1⟩
    have := of_decide_eq_true (hd 0 g0)
    rw [show ((0 : Nat) : Int) = 0 from rfl] at this
    omega
  have hv : valD (dec (n : Int)) (dec (n : Int)).size = n := by
    unfold valD
    rw [size_list, List.take_length, hl, dec_val]
  unfold numV
  rw [hb, if_neg (by omega), if_pos (show allD (dec (n : Int)) = true from List.all_eq_true.2 fun j hj => hd j (List.mem_range.1 hj))]
  unfold numEnd numAt
  rw [if_neg (Nat.lt_irrefl _), hv, if_pos rfl]

theorem num_loop_impl (s t : ByteArray) (h18 : t.size ≤ 18) (hts : t.size ≤ s.size) : Ev (fun k => impl_ReadDecimal.l0 k s t 0 0) (if allD t = true then numEnd s t else (0, false)) := by
  have key : ∀ (d i : Nat), i + d = t.size → (∀ j, j < i → digitB (bt t (j : Int)) = true) → Ev (fun k => impl_ReadDecimal.l0 k s t (valD t i) i) (if allD t = true then numEnd s t else (0, false)) := by
    intro d
    induction d with
    | zero =>
      intro i hi hd
      obtain rfl : i = t.size := by omega
      have ha : allD t = true := List.all_eq_true.2 fun j hj => hd j (List.mem_range.1 hj)
      have hb := valD_bd t t.size (Nat.le_refl _) hd
      have hp := pow_le18 h18
      rw [if_pos ha]
      unfold numEnd numAt
      by_cases c : t.size < s.size
      · rw [if_pos c]
        refine Ev.const fun k => ?_
        simp only [impl_ReadDecimal.l0]
        rw [if_neg (by omega), if_pos (by omega), w64 (x := -valD t t.size) (by omega) (by omega), dec_impl (-valD t t.size) (by omega) (by omega)]
        simp only [Option.bind_some, toList_iff]
        split <;> rfl
      · rw [if_neg c]
        refine Ev.const fun k => ?_
        simp only [impl_ReadDecimal.l0]
        rw [if_neg (by omega), if_neg (by omega), dec_impl (valD t t.size) (by omega) (by omega)]
        simp only [Option.bind_some, toList_iff]
        split <;> rfl
    | succ d ih =>
      intro i hi hd
      have hb := valD_bd t i (by omega) hd
      have hp := pow_le18 (i := i) (by omega)
      have hr := bt_range t (i : Int)
      cases hdi : digitB (bt t (i : Int)) with
      | true =>
        have hdig := of_decide_eq_true hdi
        have ih2 := ih (i + 1) (by omega) (fun j hj => by
          by_cases e : j = i
          · subst e; exact hdi
          · exact hd j (by omega))
        refine Ev.step (fun k => ?_) ih2
        simp only [impl_ReadDecimal.l0]
        rw [if_pos (by omega), if_pos (by omega), if_neg (by omega), if_neg (by omega)]
        have hps : (10 ^ i : Nat) ≤ 100000000000000000 := by
          have := Nat.pow_le_pow_right (n := 10) (by omega) (show i ≤ 17 by omega)
          simpa using this
        rw [valD_succ t i (by omega), mod256 (by omega) (by omega), w64 (x := 10 * valD t i) (by omega) (by omega), w64 (x := 10 * valD t i + _) (by omega) (by omega), w64 (x := (i : Int) + 1) (by omega) (by omega)]
        rfl
      | false =>
        have ha : ¬ allD t = true := fun g => by
          have := List.all_eq_true.1 g i (List.mem_range.2 (by omega))
          rw [hdi] at this
          cases this
        rw [if_neg ha]
        have hdig := of_decide_eq_false hdi
        refine Ev.const fun k => ?_
        simp only [impl_ReadDecimal.l0]
        rw [if_pos (by omega), if_pos (by omega)]
        by_cases c : bt t (i : Int) < 48
        · rw [if_pos c]
        · rw [if_neg c, if_pos (by omega)]
  exact key t.size 0 (by omega) (fun j hj => absurd hj (Nat.not_lt_zero _))
theorem prefix_one (s : ByteArray) : strings_TrimPrefix.f s (⟨#[45]⟩ : ByteArray) = some (bare s) := by
  unfold strings_TrimPrefix.f stringslite_TrimPrefix.f stringslite_HasPrefix.f
  have z : (⟨#[45]⟩ : ByteArray).size = 1 := rfl
  rw [z]
  by_cases h0 : s.size = 0
  · rw [if_neg (by omega)]
    simp only [Option.bind_some, Bool.false_eq_true, if_false]
    unfold bare
    rw [if_neg (by omega)]
  · rw [if_pos (by omega), if_pos (by omega), if_pos (by omega)]
    simp only [Option.bind_some]
    have e1 : ((1 : Nat) : Int).toNat = 1 := rfl
    rw [e1]
    have hl : 0 < s.data.toList.length := by rw [← size_list]; omega
    have hb0 := bt_list s 0 hl
    have key : (((s.extract 0 1).toList == (⟨#[45]⟩ : ByteArray).toList) = true) ↔ bt s 0 = 45 := by
      rw [beq_iff_eq, toList_iff]
      have hx : (s.extract 0 1).data.toList = [s.data.toList[0]] := by
        rw [Lib.extract_data]
        rw [List.drop_zero, Nat.sub_zero, List.take_succ_eq_append_getElem hl, List.take_zero]
        rfl
      rw [show (0 : Int) = ((0 : Nat) : Int) from rfl, hb0]
      constructor
      · intro g
        rw [g] at hx
        have h2 : [(45 : UInt8)] = [s.data.toList[0]] := hx
        have h3 : (45 : UInt8) = s.data.toList[0] := by simpa using h2
        rw [← h3]; rfl
      · intro g
        apply bytes_ext
        rw [hx]
        show [s.data.toList[0]] = [(45 : UInt8)]
        have h3 : s.data.toList[0] = 45 := UInt8.toNat_inj.mp (by
          have : (s.data.toList[0]).toNat = 45 := by omega
          rw [this]; rfl)
        rw [h3]
    unfold bare
    by_cases h45 : bt s 0 = 45
    · have hb := key.mpr h45
      rw [hb]
      simp only [if_true]
      rw [if_pos (by omega), if_pos (by omega), if_pos ⟨by omega, h45⟩]
      rfl
    · have hb : ((s.extract 0 1).toList == (⟨#[45]⟩ : ByteArray).toList) = false := Bool.eq_false_iff.mpr fun g => h45 (key.mp g)
      rw [hb]
      simp only [Bool.false_eq_true, if_false]
      rw [if_neg (fun g => h45 g.2)]
      rfl
theorem num_impl (s : ByteArray) (hs : s.size ≤ 140737488351232) : Ev (fun k => impl_ReadDecimal.f k s) (numV s) := by
  have ht := bare_size s
  unfold numV
  have h1 : ∀ k, impl_ReadDecimal.f k s = if ((bare s).size : Int) < 1 then impl_ReadDecimal.j0 k s (bare s) true else impl_ReadDecimal.j0 k s (bare s) (decide (((bare s).size : Int) > 18)) := by
    intro k
    unfold impl_ReadDecimal.f
    rw [prefix_one]
    rfl
  generalize bare s = t at *
  by_cases c1 : t.size < 1
  · rw [if_pos (.inl c1)]
    refine Ev.const fun k => ?_
    rw [h1, if_pos (by omega)]
    simp only [impl_ReadDecimal.j0, if_true]
  · by_cases c2 : 18 < t.size
    · rw [if_pos (.inr c2)]
      refine Ev.const fun k => ?_
      rw [h1, if_neg (by omega), decide_eq_true (by omega)]
      simp only [impl_ReadDecimal.j0, if_true]
    · rw [if_neg (by omega)]
      refine Ev.step (fun k => ?_) (num_loop_impl s t (by omega) ht)
      rw [h1, if_neg (by omega), decide_eq_false (by omega)]
      simp only [impl_ReadDecimal.j0, Bool.false_eq_true, if_false]

theorem app_list (a b : ByteArray) : (a ++ b).data.toList = a.data.toList ++ b.data.toList := by rw [ByteArray.data_append, Array.toList_append]
theorem ext_list (s : ByteArray) (i j : Nat) : (s.extract i j).data.toList = (s.data.toList.drop i).take (j - i) := Lib.extract_data s i j
theorem dec_list (n : Nat) : (dec (n : Int)).data.toList = Lib.decDigits n := by
  show (Lib.itoa (n : Int)).toArray.toList = _
  rw [Lib.itoa_nonneg]
theorem digit_ne {u : Nat} {b c : UInt8} (hb : b ∈ Lib.decDigits u) (hc : c.toNat < 48 ∨ 57 < c.toNat) : ¬ b = c := by
  intro e
  have := dec_digits b hb
  subst e
  omega
theorem bt_byte {s : ByteArray} {l : List UInt8} (h : s.data.toList = l) (j : Nat) (hj : j < l.length) : bt s (j : Int) = ((l[j]).toNat : Int) := by
  subst h
  exact bt_list s j hj
theorem index_at (D R : List UInt8) (c : UInt8) (h : ∀ b ∈ D, ¬ b = c) : Lib.index (D ++ c :: R) [c] = (D.length : Int) := by
  induction D with
  | nil => simp [Lib.index]
  | cons b D ih =>
    have hb : ¬ b = c := h b List.mem_cons_self
    have ih := ih (fun x hx => h x (List.mem_cons_of_mem _ hx))
    rw [List.cons_append, Lib.index]
    have hp : [c].isPrefixOf (b :: (D ++ c :: R)) = false := by
      simp only [List.isPrefixOf, Bool.and_true]
      exact beq_eq_false_iff_ne.mpr fun e => hb e.symm
    rw [hp, ih]
    have h1 : (((D.length : Int)) == -1) = false := by
      apply beq_eq_false_iff_ne.mpr
      omega
    rw [h1]
    simp
theorem cut_hit (D R : List UInt8) (c : UInt8) (h : ∀ b ∈ D, ¬ b = c) : Lib.cut (D ++ c :: R) [c] = (D, R, true) := by
  unfold Lib.cut
  rw [index_at D R c h, if_pos (by omega)]
  rw [Int.toNat_natCast, List.take_left]
  rw [show D ++ c :: R = (D ++ [c]) ++ R by simp, show D.length + [c].length = (D ++ [c]).length by simp, List.drop_left]
theorem cut_len (l : List UInt8) (c : List UInt8) : (Lib.cut l c).1.length ≤ l.length ∧ (Lib.cut l c).2.1.length ≤ l.length := by
  unfold Lib.cut
  split
  · exact ⟨by simp only [List.length_take]; omega, by simp only [List.length_drop]; omega⟩
  · simp
theorem mk_size (l : List UInt8) : (⟨l.toArray⟩ : ByteArray).size = l.length := by show l.toArray.size = _; rw [List.size_toArray]
theorem mk_list (l : List UInt8) : (⟨l.toArray⟩ : ByteArray).data.toList = l := rfl
/-- A text's parts between signs, the part that is under way ahead. -/
def splitA : List UInt8 → List UInt8 → UInt8 → List (List UInt8)
  | P, [], _ => [P]
  | P, b :: r, c => if b = c then P :: splitA [] r c else splitA (P ++ [b]) r c
theorem splitA_ne (c : UInt8) : ∀ (l P : List UInt8), splitA P l c ≠ []
  | [], P => by unfold splitA; exact List.cons_ne_nil _ _
  | b :: r, P => by
    unfold splitA
    split
    · exact List.cons_ne_nil _ _
    · exact splitA_ne c r _
theorem splitA_len (c : UInt8) : ∀ (l P : List UInt8), (splitA P l c).length ≤ l.length + 1
  | [], P => by simp [splitA]
  | b :: r, P => by
    unfold splitA
    split
    · have := splitA_len c r []
      simp only [List.length_cons]; omega
    · have := splitA_len c r (P ++ [b])
      simp only [List.length_cons]; omega
theorem splitA_no (c : UInt8) : ∀ (l P : List UInt8), (∀ b ∈ l, ¬ b = c) → splitA P l c = [P ++ l]
  | [], P, _ => by simp [splitA]
  | b :: r, P, h => by
    rw [splitA, if_neg (h b List.mem_cons_self), splitA_no c r _ (fun x hx => h x (List.mem_cons_of_mem _ hx))]
    simp
theorem splitA_hit (c : UInt8) (R : List UInt8) : ∀ (D P : List UInt8), (∀ b ∈ D, ¬ b = c) → splitA P (D ++ c :: R) c = (P ++ D) :: splitA [] R c
  | [], P, _ => by rw [List.nil_append, splitA, if_pos rfl, List.append_nil]
  | b :: D, P, h => by
    rw [List.cons_append, splitA, if_neg (h b List.mem_cons_self), splitA_hit c R D _ (fun x hx => h x (List.mem_cons_of_mem _ hx))]
    simp
theorem splitA_one (c : UInt8) : ∀ (l P x : List UInt8), splitA P l c = [x] → x = P ++ l
  | [], P, x, h => by
    rw [splitA] at h
    rw [List.append_nil]
    exact (List.cons.inj h).1.symm
  | b :: r, P, x, h => by
    rw [splitA] at h
    by_cases e : b = c
    · rw [if_pos e] at h
      exact absurd (List.cons.inj h).2 (splitA_ne c r [])
    · rw [if_neg e] at h
      rw [splitA_one c r _ x h]
      simp
theorem splitA_two (c : UInt8) : ∀ (l P x y : List UInt8), splitA P l c = [x, y] → P ++ l = x ++ c :: y
  | [], P, x, y, h => by rw [splitA] at h; exact absurd (congrArg List.length h) (by simp)
  | b :: r, P, x, y, h => by
    rw [splitA] at h
    by_cases e : b = c
    · rw [if_pos e] at h
      have h2 := List.cons.inj h
      have := splitA_one c r [] y h2.2
      rw [this, h2.1, e, List.nil_append]
    · rw [if_neg e] at h
      have := splitA_two c r _ x y h
      rw [← this]
      simp
def asText (l : List UInt8) : ByteArray := ⟨l.toArray⟩
theorem dec_one (a : Nat) (h : a < 10) : (dec (a : Int)).data.toList = [UInt8.ofNat (48 + a)] := by
  rw [dec_list, Lib.decDigits, dif_pos h]
theorem two_list (c q a b : Nat) (cs : ByteArray) (cb : UInt8) (hc : cs.data.toList = [cb]) (ha : a < 10) (hb : b < 10) : (twoT cs q a b).data.toList = Lib.decDigits q ++ cb :: [UInt8.ofNat (48 + a), UInt8.ofNat (48 + b)] := by
  unfold twoT
  rw [app_list, app_list, app_list, dec_list, hc, dec_one a ha, dec_one b hb]
  simp
theorem price_list (n : Nat) : (priceT n).data.toList = Lib.decDigits (n / 100) ++ 46 :: [UInt8.ofNat (48 + n / 10 % 10), UInt8.ofNat (48 + n % 10)] :=
  two_list 0 _ _ _ _ 46 rfl (by omega) (by omega)
theorem of_inj {a b : Nat} (ha : a < 10) (hb : b < 10) (h : UInt8.ofNat (48 + a) = UInt8.ofNat (48 + b)) : a = b := by
  have := congrArg UInt8.toNat h
  rw [UInt8.toNat_ofNat', UInt8.toNat_ofNat'] at this
  omega
theorem price_inj {n m : Nat} (hq : n / 100 = m / 100) (h : priceT n = priceT m) : n = m := by
  have := congrArg (fun x : ByteArray => x.data.toList) h
  simp only [price_list] at this
  rw [hq] at this
  have h2 := List.append_cancel_left this
  have h3 := (List.cons.inj h2).2
  have h4 := List.cons.inj h3
  have h5 := (List.cons.inj h4.2).1
  have e1 := of_inj (by omega) (by omega) h4.1
  have e2 := of_inj (by omega) (by omega) h5
  omega
theorem loop_miss (s : ByteArray) (h : Nat) (hh : h ≤ 1000000) : ∀ (d c : Nat), c + d = 100 * h + 100 → (∀ j, c ≤ j → j < 100 * h + 100 → ¬ priceOr j = s) → Ev (fun k => impl_ReadPrice.l0 k s (h : Int) (c : Int)) (0, false)
  | 0, c, hc, _ => by
    refine Ev.const fun k => ?_
    simp only [impl_ReadPrice.l0]
    rw [w64 (x := (h : Int) * 100) (by omega) (by omega), w64 (by omega) (by omega), if_neg (by omega)]
  | d + 1, c, hc, hn => by
    refine Ev.step (fun k => ?_) (loop_miss s h hh d (c + 1) (by omega) (fun j h1 h2 => hn j (by omega) h2))
    simp only [impl_ReadPrice.l0]
    rw [w64 (x := (h : Int) * 100) (by omega) (by omega), w64 (x := (h : Int) * 100 + 100) (by omega) (by omega), if_pos (by omega), price_impl c (by omega), Option.bind_some, if_neg (fun g => hn c (Nat.le_refl _) (by omega) (toList_iff.1 g)), w64 (by omega) (by omega)]
    rfl
theorem loop_hit (s : ByteArray) (h n : Nat) (hh : h ≤ 1000000) (hn : n < 100 * h + 100) (hs : priceOr n = s) : ∀ (d c : Nat), c + d = n → (∀ j, c ≤ j → j < n → ¬ priceOr j = s) → Ev (fun k => impl_ReadPrice.l0 k s (h : Int) (c : Int)) ((n : Int), true)
  | 0, c, hc, _ => by
    obtain rfl : c = n := by omega
    refine Ev.const fun k => ?_
    simp only [impl_ReadPrice.l0]
    rw [w64 (x := (h : Int) * 100) (by omega) (by omega), w64 (x := (h : Int) * 100 + 100) (by omega) (by omega), if_pos (by omega), price_impl c (by omega), Option.bind_some, if_pos (toList_iff.2 hs)]
  | d + 1, c, hc, hno => by
    refine Ev.step (fun k => ?_) (loop_hit s h n hh hn hs d (c + 1) (by omega) (fun j h1 h2 => hno j (by omega) h2))
    simp only [impl_ReadPrice.l0]
    rw [w64 (x := (h : Int) * 100) (by omega) (by omega), w64 (x := (h : Int) * 100 + 100) (by omega) (by omega), if_pos (by omega), price_impl c (by omega), Option.bind_some, if_neg (fun g => hno c (Nat.le_refl _) (by omega) (toList_iff.1 g)), w64 (by omega) (by omega)]
    rfl
theorem impl_hit (n : Nat) (hn : n ≤ 100000000) : Ev (fun k => impl_ReadPrice.f k (priceT n)) ((n : Int), true) := by
  have hl := price_list n
  have hcut := cut_hit (Lib.decDigits (n / 100)) [UInt8.ofNat (48 + n / 10 % 10), UInt8.ofNat (48 + n % 10)] 46 (fun b hb => digit_ne hb (Or.inl (by decide)))
  have hx : (⟨(Lib.decDigits (n / 100)).toArray⟩ : ByteArray) = dec ((n / 100 : Nat) : Int) := bytes_ext (by rw [dec_list])
  have hz1 := dec_sz (n / 100) (by omega)
  have hs : (priceT n).size < 4294967281 := by
    have := dec_sz (n / 10 % 10) (by omega)
    have := dec_sz (n % 10) (by omega)
    unfold priceT twoT
    rw [ByteArray.size_append, ByteArray.size_append, ByteArray.size_append, show (⟨#[46]⟩ : ByteArray).size = 1 from rfl]
    omega
  obtain ⟨K1, g1⟩ := Ev.pick (num_impl (dec ((n / 100 : Nat) : Int)) (by omega))
  rw [numV_dec _ (by omega)] at g1
  have e : ∀ m, m ≤ 100000000 → priceOr m = priceT m := fun m hm => if_pos hm
  obtain ⟨K2, g2⟩ := Ev.pick (loop_hit (priceT n) (n / 100) n (by omega) (by omega) (e n hn) (n - 100 * (n / 100)) (100 * (n / 100)) (by omega) (fun j h1 h2 g => by
    rw [e j (by omega)] at g
    have := price_inj (by omega) g
    omega))
  refine Ev.intro (K1 + K2 + 1) fun k hk => ?_
  obtain ⟨q, rfl⟩ : ∃ q, k = q + 1 := ⟨k - 1, by omega⟩
  unfold impl_ReadPrice.f strings_Cut.f impl_within.f
  rw [if_pos hs, hl, show (⟨#[46]⟩ : ByteArray).data.toList = [46] from rfl, hcut]
  simp only [Option.bind_some]
  rw [hx, g1 _ (by omega)]
  simp only [Option.bind_some, if_true]
  rw [if_pos (by omega)]
  simp only [Option.bind_some, decide_eq_true_eq]
  rw [if_pos (by omega)]
  simp only [mk_size, List.length_cons, List.length_nil, impl_ReadPrice.j0]
  rw [if_neg (by decide), w64 (by omega) (by omega)]
  have := g2 q (by omega)
  rw [show ((100 * (n / 100) : Nat) : Int) = ((n / 100 : Nat) : Int) * 100 by omega] at this
  exact this
theorem impl_miss (s : ByteArray) (hs : s.size ≤ 1048576) (hn : ∀ n, n ≤ 100000000 → ¬ priceT n = s) : Ev (fun k => impl_ReadPrice.f k s) (0, false) := by
  have hcl := cut_len s.data.toList (⟨#[46]⟩ : ByteArray).data.toList
  have hcut : strings_Cut.f s (⟨#[46]⟩ : ByteArray) = some (⟨(Lib.cut s.data.toList (⟨#[46]⟩ : ByteArray).data.toList).1.toArray⟩, ⟨(Lib.cut s.data.toList (⟨#[46]⟩ : ByteArray).data.toList).2.1.toArray⟩, (Lib.cut s.data.toList (⟨#[46]⟩ : ByteArray).data.toList).2.2) := by
    unfold strings_Cut.f
    rw [if_pos (by omega)]
  generalize Lib.cut s.data.toList (⟨#[46]⟩ : ByteArray).data.toList = t at hcl hcut
  obtain ⟨x, y, ok⟩ := t
  simp only at hcl hcut
  rw [← size_list] at hcl
  obtain ⟨K1, g1⟩ := Ev.pick (num_impl ⟨x.toArray⟩ (by rw [mk_size]; omega))
  generalize hv : numV ⟨x.toArray⟩ = v at g1
  obtain ⟨h, one⟩ := v
  have nope : ∀ k, impl_ReadPrice.j0 (k + 1) s h true = some (0, false) := fun k => by simp only [impl_ReadPrice.j0, if_true]
  by_cases c : ok = true ∧ one = true ∧ (0 ≤ h ∧ h ≤ 1000000) ∧ y.length = 2
  · obtain ⟨rfl, rfl, ⟨h0, h1⟩, hy⟩ := c
    obtain ⟨m, rfl⟩ : ∃ m : Nat, h = (m : Int) := ⟨h.toNat, by omega⟩
    obtain ⟨K2, g2⟩ := Ev.pick (loop_miss s m (by omega) 100 (100 * m) (by omega) (fun j _ _ g => by
      unfold priceOr at g
      by_cases c : j ≤ 100000000
      · rw [if_pos c] at g; exact hn j c g
      · rw [if_neg c] at g
        have := congrArg ByteArray.size g
        rw [show (⟨#[]⟩ : ByteArray).size = 0 from rfl] at this
        omega))
    refine Ev.intro (K1 + K2 + 1) fun k hk => ?_
    obtain ⟨q, rfl⟩ : ∃ q, k = q + 1 := ⟨k - 1, by omega⟩
    unfold impl_ReadPrice.f impl_within.f
    rw [hcut]
    simp only [Option.bind_some]
    rw [g1 _ (by omega)]
    simp only [Option.bind_some, if_true]
    rw [if_pos (by omega)]
    simp only [Option.bind_some, decide_eq_true_eq]
    rw [if_pos (by omega)]
    simp only [mk_size, hy, impl_ReadPrice.j0]
    rw [if_neg (by decide), w64 (by omega) (by omega)]
    have := g2 q (by omega)
    rw [show ((100 * m : Nat) : Int) = (m : Int) * 100 by omega] at this
    exact this
  · refine Ev.intro (K1 + 1) fun k hk => ?_
    obtain ⟨q, rfl⟩ : ∃ q, k = q + 1 := ⟨k - 1, by omega⟩
    unfold impl_ReadPrice.f impl_within.f
    rw [hcut]
    simp only [Option.bind_some]
    rw [g1 _ (by omega)]
    simp only [Option.bind_some]
    by_cases c1 : ok = true
    · rw [if_pos c1]
      by_cases c2 : one = true
      · rw [if_pos c2]
        by_cases c3 : h ≥ 0
        · rw [if_pos c3]
          simp only [Option.bind_some, decide_eq_true_eq]
          by_cases c4 : h ≤ 1000000
          · rw [if_pos c4, mk_size, show ((y.length : Int) != 2) = true from bne_iff_ne.2 (fun g => c ⟨c1, c2, ⟨c3, c4⟩, by omega⟩)]
            exact nope q
          · rw [if_neg c4]; exact nope q
        · rw [if_neg c3]
          simp only [Option.bind_some, Bool.false_eq_true, if_false]
          exact nope q
      · rw [if_neg c2]; exact nope q
    · rw [if_neg c1]; exact nope q
/-- Two digits, told by a text's bytes. -/
theorem two_bytes (y : ByteArray) (h : y.size = 2) : ∃ b0 b1, y.data.toList = [b0, b1] ∧ bt y 0 = (b0.toNat : Int) ∧ bt y 1 = (b1.toNat : Int) := by
  have hl : y.data.toList.length = 2 := by rw [← size_list]; exact h
  match hy : y.data.toList, hl with
  | [b0, b1], _ =>
    refine ⟨b0, b1, rfl, ?_, ?_⟩
    · have := bt_byte hy 0 (by simp)
      exact this
    · have := bt_byte hy 1 (by simp)
      exact this
def backN (x y : ByteArray) : Int := 100 * (numV x).1 + 10 * (bt y 0 - 48) + (bt y 1 - 48)
def backV (x y : ByteArray) : Int × Bool := if y.size = 2 ∧ digitB (bt y 0) = true ∧ digitB (bt y 1) = true ∧ (numV x).2 = true ∧ (0 ≤ (numV x).1 ∧ (numV x).1 ≤ 100000000) ∧ backN x y ≤ 100000000 then (backN x y, true) else (0, false)
theorem as_back (b : ByteArray) : asText b.data.toList = b := bytes_ext rfl
/-- A net price with its tax. -/
def gross (n p : Int) : Int := n + (n * p + 50) / 100
theorem gross_mono {n m p : Int} (h : n ≤ m) (hp : 0 ≤ p) : gross n p ≤ gross m p := by
  unfold gross
  have := Int.mul_le_mul_of_nonneg_right h hp
  omega
/-- The least net price within bounds whose price with tax is not less than c. -/
def IsNet (c p r : Int) : Prop := 0 ≤ r ∧ r ≤ c ∧ c ≤ gross r p ∧ (r = 0 ∨ gross (r - 1) p < c)
theorem isNet_one {c p r q : Int} (hp : 0 ≤ p) (h : IsNet c p r) (k : IsNet c p q) : r = q := by
  obtain ⟨h0, h1, h2, h3⟩ := h
  obtain ⟨k0, k1, k2, k3⟩ := k
  rcases Int.lt_trichotomy r q with e | e | e
  · rcases k3 with k3 | k3
    · omega
    · have := gross_mono (n := r) (m := q - 1) (p := p) (by omega) hp; omega
  · exact e
  · rcases h3 with h3 | h3
    · omega
    · have := gross_mono (n := q) (m := r - 1) (p := p) (by omega) hp; omega
theorem gross_impl (n p : Int) (hn : 0 ≤ n) (hn1 : n ≤ 100000000) (hp : 0 ≤ p) (hp1 : p ≤ 100) : wrap64 (n + wrap64 (Int.tdiv (wrap64 (wrap64 (n * p) + 50)) 100)) = gross n p := by
  obtain ⟨q0, q1⟩ := mul_range hn hn1 hp hp1
  unfold gross
  generalize n * p = q at *
  rw [w64 (x := q) (by omega) (by omega), w64 (x := q + 50) (by omega) (by omega), tdiv_nn (by omega), w64 (x := (q + 50) / 100) (by omega) (by omega), w64 (by omega) (by omega)]
theorem net_impl (c p : Int) (hc : c ≤ 100000000) (hp : 0 ≤ p) (hp1 : p ≤ 100) : ∀ (k : Nat) (low high : Int), 0 ≤ low → low ≤ high → high ≤ c → high - low < k → c ≤ gross high p → (low = 0 ∨ gross (low - 1) p < c) → ∃ r, impl_NetOf.l0 k c p low high = some (r, 0) ∧ IsNet c p r := by
  intro k
  induction k with
  | zero => intro low high h0 h1 h2 h3; omega
  | succ k ih =>
    intro low high h0 h1 h2 h3 h4 h5
    simp only [impl_NetOf.l0]
    by_cases h : low < high
    · rw [if_pos h, w64 (x := low + high) (by omega) (by omega), tdiv_nn (by omega), w64 (x := (low + high) / 2) (by omega) (by omega)]
      generalize hm : (low + high) / 2 = mid
      rw [gross_impl mid p (by omega) (by omega) hp hp1]
      by_cases g : gross mid p ≥ c
      · rw [if_pos g]
        exact ih low mid h0 (by omega) (by omega) (by omega) g h5
      · rw [if_neg g, w64 (x := mid + 1) (by omega) (by omega)]
        exact ih (mid + 1) high (by omega) (by omega) h2 (by omega) h4 (.inr (by rw [Int.add_sub_cancel]; omega))
    · rw [if_neg h]
      obtain rfl : low = high := by omega
      exact ⟨low, rfl, h0, h2, h4, h5⟩
theorem net_f_impl (c p : Int) (h1 : 0 ≤ c ∧ c ≤ 100000000) (h2 : 0 ≤ p ∧ p ≤ 100) : ∃ r, Ev (fun k => impl_NetOf.f k c p) (r, 0) ∧ IsNet c p r := by
  have hg : c ≤ gross c p := by
    unfold gross
    have := (mul_range h1.1 h1.2 h2.1 h2.2).1
    omega
  obtain ⟨r, hr, hr1⟩ := net_impl c p h1.2 h2.1 h2.2 (c.toNat + 5) 0 c (by omega) (by omega) (by omega) (by omega) hg (.inl rfl)
  refine ⟨r, Ev.of (k := c.toNat + 6) (fun k => impl_NetOf.mono c p k) ?_, hr1⟩
  unfold impl_NetOf.f
  rw [within_eq, within_eq]
  simp only [h1, h2, Option.bind_some, decide_true, and_self, if_true, Bool.not_true]
  simp only [impl_NetOf.j0, Bool.false_eq_true, if_false]
  exact hr
theorem gross_law (n p : Int) (hn : 0 ≤ n) (hn1 : n ≤ 100000000) (hp : 0 ≤ p) (hp1 : p ≤ 100) : laws_a2Gross.f n p = some (gross n p) := by
  obtain ⟨q0, q1⟩ := mul_range hn hn1 hp hp1
  unfold laws_a2Gross.f gross
  rw [w64 (x := 2 * n) (by omega) (by omega), Int.mul_assoc]
  generalize n * p = q at *
  rw [w64 (x := 2 * q) (by omega) (by omega), w64 (x := 2 * q + 100) (by omega) (by omega), tdiv_nn (by omega), w64 (x := (2 * q + 100) / 200) (by omega) (by omega), w64 (by omega) (by omega)]
  congr 1
  omega
theorem sum_a2 (l : List Int) (A : Int) (hA : 0 ≤ A) (h : ∀ x ∈ l, 0 ≤ x ∧ x ≤ A) (hb : A * l.length ≤ 9223372036854775807) (hl : l.length ≤ 35184372088832) : Ev (fun k => laws_a2Sum.f k l) l.sum := by
  have := for_to l.length (fun k (s : Int) i => laws_a2Sum.l0 k l s i) (fun i => (l.take i).sum) l.sum (fun i hi => ⟨0, fun k _ => ?_⟩) (Ev.const fun k => ?_) l.length 0 (by omega)
  · exact this
  · have b1 := sum_take_bound h (i + 1) (by omega)
    have b2 : A * ((i + 1 : Nat) : Int) ≤ A * l.length := Int.mul_le_mul_of_nonneg_left (by omega) hA
    rw [sum_take_succ l i hi] at b1
    simp only [laws_a2Sum.l0]
    rw [if_pos (by omega), if_pos (by omega), rd_nat l i hi, w64 (x := (i : Int) + 1) (by omega) (by omega), w64 (by omega) (by omega), sum_take_succ l i hi]
  · simp only [laws_a2Sum.l0]
    rw [if_neg (by omega), List.take_of_length_le (by omega)]

theorem out_bound (c S : Int) {ws out r' : List Int} (hD : Dist S (shares c S ws) (rests c S ws) out r') : ∀ x ∈ out, 0 ≤ x ∧ x ≤ 1000000000001 := by
  intro x hx
  obtain ⟨i, hi, rfl⟩ := List.getElem_of_mem hx
  have hlo := hD.lo
  have hb := hD.ob i (by omega)
  rw [← rd_nat out i hi]
  rcases hD.A i (by omega) with ⟨_, h, _⟩ | ⟨_, h⟩
  · omega
  · omega
theorem last_ok {b : List Int} (hb : Bytes b) (c : Int) (hc : 0 ≤ c ∧ c ≤ 100000) (ws out : List Int) (S : Int) (ho : out.length = ws.length) : Ev (fun k => laws_FnSplitPrices.l0 k b ws c out S (ws.length : Int)) true := by
  obtain ⟨p, e2, p0, p1⟩ := at_ok hb 2 30 (by omega) (by omega)
  obtain ⟨r, hr, n0, n1, n2, n3⟩ := net_f_impl c p (by omega) (by omega)
  obtain ⟨K1, g1⟩ := Ev.pick hr
  obtain ⟨m, rfl⟩ : ∃ m : Nat, c = (m : Int) := ⟨c.toNat, by omega⟩
  obtain ⟨K2, g2⟩ := Ev.pick (impl_hit m (by omega))
  have hpt := price_impl m (by omega)
  have hpo : priceOr m = priceT m := if_pos (by omega)
  rw [hpo] at hpt
  refine Ev.intro (K1 + K2 + 1) fun k hk => ?_
  obtain ⟨q, rfl⟩ : ∃ q, k = q + 1 := ⟨k - 1, by omega⟩
  simp only [laws_FnSplitPrices.l0]
  rw [if_neg (by omega), e2]
  simp only [Option.bind_some]
  rw [g1 q (by omega)]
  simp only [Option.bind_some]
  rw [hpt]
  simp only [Option.bind_some]
  rw [g2 q (by omega)]
  simp only [Option.bind_some, if_true]
  rw [if_pos (show r ≥ 0 from n0), if_pos n1, gross_law r p n0 (by omega) p0 (by omega), Option.bind_some, if_pos (show gross r p ≥ (m : Int) from n2)]
  by_cases z : r = 0
  · rw [if_pos z, beq_self_eq_true]
  · rw [if_neg z, w64 (x := r - 1) (by omega) (by omega), gross_law (r - 1) p (by omega) (by omega) p0 (by omega), Option.bind_some, if_pos (by omega), beq_self_eq_true]
end FnSplitPrices_
open FnSplitPrices_ in
theorem FnSplitPrices : ∀ (l0 : List Int) (l1 : List Int), (l0.length ≤ maxLen ∧ ∀ x ∈ l0, (Lit.int .u8 x).wf = true) → (l1.length ≤ maxLen ∧ ∀ x ∈ l1, (Lit.int .u8 x).wf = true) → ∃ k, laws_FnSplitPrices.f k l0 l1 = some true := by
  intro l0 l1 ⟨_, hb0⟩ ⟨_, hb1⟩
  by_cases c : laws_a2Long.f l0 l1 = some true
  · refine ⟨0, ?_⟩
    unfold laws_FnSplitPrices.f
    rw [c]
    rfl
  · have hlen : l0.length ≤ 3000 ∧ l1.length ≤ 3000 := by
      unfold laws_a2Long.f at c
      by_cases c1 : (l0.length : Int) > 3000
      · rw [if_pos c1] at c; exact absurd rfl c
      · rw [if_neg c1] at c
        by_cases c2 : (l1.length : Int) > 3000
        · rw [decide_eq_true c2] at c; exact absurd rfl c
        · omega
    have hlong : laws_a2Long.f l0 l1 = some false := by
      unfold laws_a2Long.f
      rw [if_neg (by omega), decide_eq_false (by omega)]
    have hB0 := bytes_wf hb0
    have hB1 := bytes_wf hb1
    obtain ⟨ws, ⟨w1, w6, hw, hs1⟩, hws⟩ := weights_ok hB0 hlen.1
    obtain ⟨r0, e0, r00, r01⟩ := at_ok hB1 0 250 (by omega) (by omega)
    obtain ⟨r1, e1, r10, r11⟩ := at_ok hB1 1 17 (by omega) (by omega)
    obtain ⟨cc, hcc⟩ : ∃ cc, cc = r0 * 17 + r1 := ⟨_, rfl⟩
    have ec : wrap64 (wrap64 (r0 * 17) + r1) = cc := by rw [w64 (x := r0 * 17) (by omega) (by omega), w64 (by omega) (by omega), hcc]
    have hc : 0 ≤ cc ∧ cc ≤ 100000 := by omega
    clear hcc
    have hSb := sum_take_bound hw ws.length (Nat.le_refl _)
    rw [List.take_length] at hSb
    have hS : 0 < ws.sum ∧ ws.sum ≤ 1000000000 := by omega
    have hc2 : 0 ≤ cc ∧ cc ≤ 100000000 := by omega
    obtain ⟨r', hD, hsum⟩ := split_fair hc2 hS hw rfl w1
    have hans : splitAns cc ws = (dist (cc - (shares cc ws.sum ws).sum).toNat (shares cc ws.sum ws) (rests cc ws.sum ws), 0) := by
      unfold splitAns
      rw [if_pos (List.all_eq_true.2 fun x hx => decide_eq_true (hw x hx)), if_pos ⟨hc2, by omega, by omega⟩, if_neg (by omega)]
    obtain ⟨K1, g1⟩ := Ev.pick hws
    obtain ⟨K2, g2⟩ := Ev.pick (split_impl cc ws (by omega))
    rw [hans] at g2
    generalize dist (cc - (shares cc ws.sum ws).sum).toNat (shares cc ws.sum ws) (rests cc ws.sum ws) = out at hD hsum g2
    have hol : out.length = ws.length := by rw [hD.lo]; simp [shares]
    obtain ⟨K3, g3⟩ := Ev.pick (sum_a2 out 1000000000001 (by omega) (out_bound cc ws.sum hD) (by omega) (by omega))
    obtain ⟨K4, g4⟩ := Ev.pick (sum_a2 ws 10000 (by omega) hw (by omega) (by omega))
    obtain ⟨K5, g5⟩ := Ev.pick (outer_ok hc2 hS hw (x1 := l1) hD (by omega) true (last_ok hB1 cc hc ws out ws.sum hol) ws.length 0 (by omega))
    rw [hsum] at g3
    refine ⟨K1 + K2 + K3 + K4 + K5 + 1, ?_⟩
    have q1 := g1 (K1 + K2 + K3 + K4 + K5 + 1) (by omega)
    have q2 := g2 (K1 + K2 + K3 + K4 + K5 + 1) (by omega)
    have q3 := g3 (K1 + K2 + K3 + K4 + K5 + 1) (by omega)
    have q4 := g4 (K1 + K2 + K3 + K4 + K5) (by omega)
    have q5 := g5 (K1 + K2 + K3 + K4 + K5) (by omega)
    clear g1 g2 g3 g4 g5
    generalize K1 + K2 + K3 + K4 + K5 = K at q1 q2 q3 q4 q5 ⊢
    unfold laws_FnSplitPrices.f
    rw [hlong, Option.bind_some, if_neg (by simp), q1, Option.bind_some, e0, Option.bind_some, e1, Option.bind_some, ec, q2]
    simp only [Option.bind_some]
    simp only [if_true]
    rw [if_pos (by omega), q3, Option.bind_some]
    simp only [bne_self_eq_false, laws_FnSplitPrices.j0, Bool.false_eq_true, if_false]
    rw [q4, Option.bind_some]
    exact q5

end Go.Proofs.YtajjnpcpeaiieaaDoor.Pure
