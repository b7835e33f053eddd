/- For all bytes: the tiers that are drawn hold, with rising percents; the prices lie between their bounds, the next cheaper number is the first. -/
import Derived.Test.YtajjnpcpeaiieaaQFnPiecesx5
import Derived.Test.YtajjnpcpeaiieaaBase
namespace Go.Proofs.Ytajjnpcpeaiieaa.Pure
open Go.RowKit Go.Proofs.Ytajjnpcpeaiieaa.QFnPieces Go.Proofs.YtajjnpcpeaiieaaW.PrintWords Go.Proofs.YtajjnpcpeaiieaaW.PrintLast Go.Proofs.Ytajjnpcpeaiieaa.Base
set_option linter.unusedVariables false
set_option linter.unusedSimpArgs false

namespace FnPieces_
theorem within_eq (a b c : Int) : impl_within.f a b c = some (decide (b ≤ a ∧ a ≤ c)) := by
  unfold impl_within.f
  by_cases h : a ≥ b
  · rw [if_pos h]; congr 1; apply Bool.eq_iff_iff.mpr; simp; omega
  · rw [if_neg h]; congr 1; apply Bool.eq_iff_iff.mpr; simp; omega
theorem in_eq (a b c : Int) : spec_l00In.f a b c = some (decide (b ≤ a ∧ a ≤ c)) := by
  unfold spec_l00In.f
  by_cases h : a ≥ b
  · rw [if_pos h]; congr 1; apply Bool.eq_iff_iff.mpr; simp; omega
  · rw [if_neg h]; congr 1; apply Bool.eq_iff_iff.mpr; simp; omega

abbrev IT := S55
theorem rdI (xs : List IT) (i : Nat) (h : i < xs.length) : rd_T55 xs (i : Int) = xs[i] := by
  unfold rd_T55; rw [Int.toNat_natCast, List.getD_eq_getElem?_getD, List.getElem?_eq_getElem h]; rfl
theorem many_eq (a : Int) : spec_l25Many.f a = some (decide (1 ≤ a ∧ a ≤ 10000)) := by
  unfold spec_l25Many.f; rw [in_eq]; rfl
theorem percent_eq (a : Int) : spec_l25Percent.f a = some (decide (0 ≤ a ∧ a ≤ 100)) := by
  unfold spec_l25Percent.f; rw [in_eq]; rfl
/-- Place i holds a tier that may stand there. -/
def fits (l : List IT) (i : Nat) : Prop := (1 ≤ (rd_T55 l i).f0 ∧ (rd_T55 l i).f0 ≤ 10000) ∧ (0 ≤ (rd_T55 l i).f1 ∧ (rd_T55 l i).f1 ≤ 100) ∧ (0 < i → (rd_T55 l ((i : Int) - 1)).f0 < (rd_T55 l i).f0)
instance (l : List IT) (i : Nat) : Decidable (fits l i) := by unfold fits; exact inferInstance
def tiersOk (l : List IT) : Bool := (List.range l.length).all (fun i => decide (fits l i)) && decide (l.length ≤ 6)
theorem ok_spec (l : List IT) (h : l.length ≤ 1048576) : Ev (fun k => spec_l25Ok.f k l) (tiersOk l) := by
  have := all_lt l.length (fun i => decide (fits l i)) (fun k i => spec_l25Ok.l0 k l i) (decide (l.length ≤ 6)) false (fun i hi hp => ⟨0, fun k _ => ?_⟩) (fun i hi hp => Ev.const fun k => ?_) (fun hp => Ev.const fun k => ?_)
  · unfold tiersOk
    cases ha : (List.range l.length).all (fun i => decide (fits l i)) with
    | true => rw [ha] at this; exact this
    | false => rw [ha] at this; exact this
  · obtain ⟨h1, h2, h3⟩ := of_decide_eq_true hp
    simp only [spec_l25Ok.l0]
    rw [if_pos (by omega), if_pos (by omega), many_eq, decide_eq_true h1, percent_eq, decide_eq_true h2]
    simp only [Option.bind_some, if_true]
    rw [w64 (x := (i : Int) + 1) (by omega) (by omega)]
    by_cases h0 : 0 < i
    · have h3' := h3 h0
      rw [if_pos (by omega), w64 (x := (i : Int) - 1) (by omega) (by omega), if_pos (by omega), if_pos (by omega), if_neg (by omega)]
    · rw [if_neg (by omega)]
  · have hn : ¬ fits l i := of_decide_eq_false hp
    simp only [spec_l25Ok.l0]
    rw [if_pos (by omega), if_pos (by omega), many_eq, percent_eq]
    by_cases h1 : 1 ≤ (rd_T55 l i).f0 ∧ (rd_T55 l i).f0 ≤ 10000
    · by_cases h2 : 0 ≤ (rd_T55 l i).f1 ∧ (rd_T55 l i).f1 ≤ 100
      · rw [decide_eq_true h1, decide_eq_true h2]
        simp only [Option.bind_some, if_true]
        by_cases h0 : 0 < i
        · have h3 : ¬ (rd_T55 l ((i : Int) - 1)).f0 < (rd_T55 l i).f0 := fun h3 => hn ⟨h1, h2, fun _ => h3⟩
          rw [if_pos (by omega), w64 (x := (i : Int) - 1) (by omega) (by omega), if_pos (by omega), if_pos (by omega), if_pos (by omega)]
        · exact absurd ⟨h1, h2, fun h => absurd h h0⟩ hn
      · rw [decide_eq_true h1, decide_eq_false h2]
        simp only [Option.bind_some, if_true, Bool.false_eq_true, if_false]
    · rw [decide_eq_false h1]
      simp only [Option.bind_some, Bool.false_eq_true, if_false]
  · simp only [spec_l25Ok.l0]
    rw [if_neg (by omega)]
    congr 1
    apply Bool.eq_iff_iff.mpr
    simp only [decide_eq_true_eq]
    omega
theorem ok_impl (l : List IT) (h : l.length ≤ 1048576) : Ev (fun k => impl_ValidTiers.f k l) (tiersOk l) := by
  by_cases h6 : l.length ≤ 6
  · have := all_lt l.length (fun i => decide (fits l i)) (fun k i => impl_ValidTiers.l0 k l l l.length i) true false (fun i hi hp => ⟨0, fun k _ => ?_⟩) (fun i hi hp => Ev.const fun k => ?_) (fun hp => Ev.const fun k => ?_)
    · rw [ite_bool] at this
      unfold tiersOk
      rw [decide_eq_true h6, Bool.and_true]
      refine Ev.congr (fun k => ?_) this
      unfold impl_ValidTiers.f
      rw [if_neg (by omega)]
    · obtain ⟨h1, h2, h3⟩ := of_decide_eq_true hp
      simp only [impl_ValidTiers.l0]
      rw [if_pos (by omega), if_pos (by omega), if_pos (by omega), within_eq, within_eq, decide_eq_true h1, decide_eq_true h2]
      simp only [Option.bind_some, if_true]
      rw [w64 (x := (i : Int) + 1) (by omega) (by omega)]
      by_cases h0 : 0 < i
      · have h3' := h3 h0
        rw [if_pos (by omega), w64 (x := (i : Int) - 1) (by omega) (by omega), if_pos (by omega), if_pos (by omega), if_neg (by omega)]
      · rw [if_neg (by omega)]
    · have hn : ¬ fits l i := of_decide_eq_false hp
      simp only [impl_ValidTiers.l0]
      rw [if_pos (by omega), if_pos (by omega), if_pos (by omega), within_eq, within_eq]
      by_cases h1 : 1 ≤ (rd_T55 l i).f0 ∧ (rd_T55 l i).f0 ≤ 10000
      · by_cases h2 : 0 ≤ (rd_T55 l i).f1 ∧ (rd_T55 l i).f1 ≤ 100
        · rw [decide_eq_true h1, decide_eq_true h2]
          simp only [Option.bind_some, if_true]
          by_cases h0 : 0 < i
          · have h3 : ¬ (rd_T55 l ((i : Int) - 1)).f0 < (rd_T55 l i).f0 := fun h3 => hn ⟨h1, h2, fun _ => h3⟩
            rw [if_pos (by omega), w64 (x := (i : Int) - 1) (by omega) (by omega), if_pos (by omega), if_pos (by omega), if_pos (by omega)]
          · exact absurd ⟨h1, h2, fun h => absurd h h0⟩ hn
        · rw [decide_eq_true h1, decide_eq_false h2]
          simp only [Option.bind_some, if_true, Bool.false_eq_true, if_false]
      · rw [decide_eq_false h1]
        simp only [Option.bind_some, Bool.false_eq_true, if_false]
    · simp only [impl_ValidTiers.l0]
      rw [if_neg (by omega)]
  · unfold tiersOk
    rw [decide_eq_false h6, Bool.and_false]
    refine Ev.all fun k => ?_
    unfold impl_ValidTiers.f
    rw [if_pos (by omega)]

def disc (l : List IT) (m : Int) : Int := l.foldl (fun a t => if t.f0 ≤ m then t.f1 else a) 0
theorem disc_take (l : List IT) (m : Int) (i : Nat) (h : i < l.length) : disc (l.take (i + 1)) m = if l[i].f0 ≤ m then l[i].f1 else disc (l.take i) m := by
  unfold disc
  rw [List.take_succ_eq_append_getElem h, List.foldl_append]
  rfl
theorem disc_spec (l : List IT) (m : Int) (h : l.length ≤ 1048576) : Ev (fun k => spec_l25Discount.f k l m) (disc l m) := by
  have := for_to l.length (fun k (s : Int) i => spec_l25Discount.l0 k l m s i) (fun i => disc (l.take i) m) (disc l m) (fun i hi => ⟨0, fun k _ => ?_⟩) (Ev.const fun k => ?_) l.length 0 (by omega)
  · exact this
  · simp only [spec_l25Discount.l0]
    rw [if_pos (by omega), if_pos (by omega), rdI l i hi, w64 (x := (i : Int) + 1) (by omega) (by omega), disc_take l m i hi]
    by_cases c : l[i].f0 ≤ m
    · rw [if_pos c, if_pos c]
    · rw [if_neg c, if_neg c]
  · simp only [spec_l25Discount.l0]
    rw [if_neg (by omega), List.take_of_length_le (by omega)]
theorem disc_impl (l : List IT) (m : Int) (h : l.length ≤ 1048576) : Ev (fun k => impl_discountFor.f k l m) (disc l m) := by
  have := for_to l.length (fun k (s : Int) i => impl_discountFor.l0 k m s l l.length i) (fun i => disc (l.take i) m) (disc l m) (fun i hi => ⟨0, fun k _ => ?_⟩) (Ev.const fun k => ?_) l.length 0 (by omega)
  · exact this
  · simp only [impl_discountFor.l0]
    rw [if_pos (by omega), if_pos (by omega), if_pos (by omega), rdI l i hi, w64 (x := (i : Int) + 1) (by omega) (by omega), disc_take l m i hi]
    by_cases c : l[i].f0 ≤ m
    · rw [if_pos c, if_pos c]
    · rw [if_neg c, if_neg c]
  · simp only [impl_discountFor.l0]
    rw [if_neg (by omega), List.take_of_length_le (by omega)]


theorem cents_eq (a : Int) : spec_l25Cents.f a = some (decide (0 ≤ a ∧ a ≤ 100000000)) := by
  unfold spec_l25Cents.f; rw [in_eq]; rfl

def priceOf (l : List IT) (c m : Int) : Int := wrap64 ((wrap64 (c * m)) - (wrap64 (Int.tdiv (wrap64 ((wrap64 (c * m)) * disc l m)) 100)))
theorem price_spec (l : List IT) (c m : Int) (h : l.length ≤ 1048576) : Ev (fun k => spec_l25Price.f k l c m) (priceOf l c m) := by
  obtain ⟨K, hK⟩ := disc_spec l m h
  dsimp only at hK
  refine ⟨K, fun k hk => ?_⟩
  dsimp only
  unfold spec_l25Price.f
  rw [hK k hk]
  rfl
theorem price_impl (l : List IT) (c m : Int) (h : l.length ≤ 1048576) : Ev (fun k => impl_priceOfPieces.f k l c m) (priceOf l c m) := by
  obtain ⟨K, hK⟩ := disc_impl l m h
  dsimp only at hK
  refine ⟨K, fun k hk => ?_⟩
  dsimp only
  unfold impl_priceOfPieces.f
  rw [hK k hk]
  rfl
def codeOf (l : List IT) (c m : Int) : Int := if tiersOk l = true then (if (1 ≤ m ∧ m ≤ 10000) ∧ (0 ≤ c ∧ c ≤ 100000000) then 0 else 2) else 1
theorem code_spec (l : List IT) (c m : Int) (h : l.length ≤ 1048576) : Ev (fun k => spec_l25Code.f k l c m) (codeOf l c m) := by
  obtain ⟨K, hK⟩ := ok_spec l h
  dsimp only at hK
  refine ⟨K, fun k hk => ?_⟩
  dsimp only
  unfold spec_l25Code.f codeOf
  rw [hK k hk, many_eq, cents_eq]
  cases tiersOk l with
  | false => rfl
  | true =>
    by_cases h1 : 1 ≤ m ∧ m ≤ 10000 <;> by_cases h2 : 0 ≤ c ∧ c ≤ 100000000 <;> simp [h1, h2]

def discAns (l : List IT) (m : Int) : Int × Int := if tiersOk l = true then (if 1 ≤ m ∧ m ≤ 10000 then (disc l m, 0) else (0, 2)) else (0, 1)
theorem disc_f_impl (l : List IT) (m : Int) (h : l.length ≤ 1048576) : Ev (fun k => impl_DiscountFor.f k l m) (discAns l m) := by
  obtain ⟨K, hK⟩ := ok_impl l h
  obtain ⟨J, hJ⟩ := disc_impl l m h
  dsimp only at hK hJ
  refine ⟨max K J, fun k hk => ?_⟩
  dsimp only
  unfold impl_DiscountFor.f discAns
  rw [hK k (by omega), hJ k (by omega), within_eq]
  cases tiersOk l with
  | false => rfl
  | true => by_cases h1 : 1 ≤ m ∧ m ≤ 10000 <;> simp [h1]

def priceAns (l : List IT) (c m : Int) : Int × Int := if codeOf l c m = 0 then (priceOf l c m, 0) else (0, codeOf l c m)
theorem price_f_spec (l : List IT) (c m : Int) (h : l.length ≤ 1048576) : Ev (fun k => spec_PriceOfPieces.f k l c m) (priceAns l c m) := by
  obtain ⟨K, hK⟩ := code_spec l c m h
  obtain ⟨J, hJ⟩ := price_spec l c m h
  dsimp only at hK hJ
  refine ⟨max K J, fun k hk => ?_⟩
  dsimp only
  unfold spec_PriceOfPieces.f priceAns
  rw [hK k (by omega), hJ k (by omega)]
  simp only [Option.bind_some]
  split <;> rfl
theorem price_f_impl (l : List IT) (c m : Int) (h : l.length ≤ 1048576) : Ev (fun k => impl_PriceOfPieces.f k l c m) (priceAns l c m) := by
  obtain ⟨K, hK⟩ := ok_impl l h
  obtain ⟨J, hJ⟩ := price_impl l c m h
  dsimp only at hK hJ
  refine ⟨max K J, fun k hk => ?_⟩
  dsimp only
  unfold impl_PriceOfPieces.f priceAns codeOf
  rw [hK k (by omega), hJ k (by omega), within_eq, within_eq]
  cases tiersOk l with
  | false => rfl
  | true => by_cases h1 : 1 ≤ m ∧ m ≤ 10000 <;> by_cases h2 : 0 ≤ c ∧ c ≤ 100000000 <;> simp [h1, h2]

/-- The first of d numbers from n on that costs less. -/
def cheap (l : List IT) (c now : Int) : Nat → Int → Int × Int
  | 0, _ => (0, 3)
  | d + 1, n => if priceOf l c n < now then (n, 0) else cheap l c now d (n + 1)
theorem cheap_impl (l : List IT) (c now : Int) (h : l.length ≤ 1048576) : ∀ (d : Nat) (n : Int), 0 ≤ n → n + d = 10001 → Ev (fun k => impl_CheaperMore.l0 k l c now n) (cheap l c now d n) := by
  intro d
  induction d with
  | zero =>
    intro n h0 hn
    refine Ev.const fun k => ?_
    simp only [impl_CheaperMore.l0]
    rw [if_neg (by omega)]
    rfl
  | succ d ih =>
    intro n h0 hn
    obtain ⟨K, hK⟩ := price_impl l c n h
    obtain ⟨J, hJ⟩ := ih (n + 1) (by omega) (by omega)
    dsimp only at hK hJ
    refine ⟨max K J + 1, fun k hk => ?_⟩
    obtain ⟨m, rfl⟩ : ∃ m, k = m + 1 := ⟨k - 1, by omega⟩
    dsimp only
    simp only [impl_CheaperMore.l0]
    rw [if_pos (by omega), hK m (by omega), w64 (x := n + 1) (by omega) (by omega), hJ m (by omega)]
    rw [show cheap l c now (d + 1) n = if priceOf l c n < now then (n, 0) else cheap l c now d (n + 1) from rfl]
    simp only [Option.bind_some]
    split <;> rfl
def cheapAns (l : List IT) (c m : Int) : Int × Int := if codeOf l c m = 0 then cheap l c (priceOf l c m) (10000 - m).toNat (m + 1) else (0, codeOf l c m)
theorem codeOf_ok {l : List IT} {c m : Int} (h : codeOf l c m = 0) : tiersOk l = true ∧ (1 ≤ m ∧ m ≤ 10000) ∧ (0 ≤ c ∧ c ≤ 100000000) := by
  unfold codeOf at h
  split at h
  · split at h
    · rename_i h1 h2; exact ⟨h1, h2⟩
    · omega
  · omega
theorem cheap_f_impl (l : List IT) (c m : Int) (h : l.length ≤ 1048576) : Ev (fun k => impl_CheaperMore.f k l c m) (cheapAns l c m) := by
  obtain ⟨K, hK⟩ := ok_impl l h
  obtain ⟨J, hJ⟩ := price_impl l c m h
  dsimp only at hK hJ
  unfold cheapAns
  by_cases h0 : codeOf l c m = 0
  · obtain ⟨h3, h1, h2⟩ := codeOf_ok h0
    obtain ⟨M, hM⟩ := cheap_impl l c (priceOf l c m) h (10000 - m).toNat (m + 1) (by omega) (by omega)
    dsimp only at hM
    refine ⟨K + J + M + 1, fun k hk => ?_⟩
    obtain ⟨q, rfl⟩ : ∃ q, k = q + 1 := ⟨k - 1, by omega⟩
    dsimp only
    unfold impl_CheaperMore.f
    rw [hK (q + 1) (by omega), h3, within_eq, within_eq, decide_eq_true h1, decide_eq_true h2, if_pos h0]
    simp only [Option.bind_some, if_true, Bool.not_true, impl_CheaperMore.j0, Bool.false_eq_true, if_false]
    rw [hJ q (by omega)]
    simp only [Option.bind_some]
    rw [w64 (by omega) (by omega), hM q (by omega)]
  · refine ⟨K + 1, fun k hk => ?_⟩
    obtain ⟨q, rfl⟩ : ∃ q, k = q + 1 := ⟨k - 1, by omega⟩
    dsimp only
    rw [if_neg h0]
    unfold impl_CheaperMore.f codeOf
    rw [hK (q + 1) (by omega), within_eq, within_eq]
    unfold codeOf at h0
    cases h3 : tiersOk l with
    | false => rfl
    | true =>
      rw [h3] at h0
      by_cases h1 : 1 ≤ m ∧ m ≤ 10000
      · by_cases h2 : 0 ≤ c ∧ c ≤ 100000000
        · exact absurd (by simp [h1, h2]) h0
        · simp [h1, h2, impl_CheaperMore.j0]
      · simp [h1, impl_CheaperMore.j0]

def roundAns (a b : Int) : Int × Int := if 0 ≤ a ∧ a ≤ 100000000 then (if 1 ≤ b ∧ b ≤ 100000 then (wrap64 ((wrap64 (Int.tdiv (wrap64 ((wrap64 (a + b)) - 1)) b)) * b), 0) else (0, 2)) else (0, 2)
theorem round_impl (a b : Int) : impl_RoundPrice.f a b = some (roundAns a b) := by
  unfold impl_RoundPrice.f roundAns impl_ceilDiv.f
  rw [within_eq, within_eq]
  by_cases h1 : 0 ≤ a ∧ a ≤ 100000000
  · by_cases h2 : 1 ≤ b ∧ b ≤ 100000
    · have hb : ¬ b = 0 := by omega
      simp [h1, h2, hb]
    · simp [h1, h2]
  · simp [h1]

def makingAns (a b c d : Int) : Int × Int := if (0 ≤ a ∧ a ≤ 100000000) ∧ (0 ≤ b ∧ b ≤ 10000) ∧ (0 ≤ c ∧ c ≤ 100000000) ∧ (0 ≤ d ∧ d ≤ 1000) then (((a + b * c) * (100 + d) + 99) / 100, 0) else (0, 2)
theorem making_impl (a b c d : Int) : impl_MakingPrice.f a b c d = some (makingAns a b c d) := by
  unfold impl_MakingPrice.f makingAns impl_ceilDiv.f
  rw [within_eq, within_eq, within_eq, within_eq]
  by_cases h1 : 0 ≤ a ∧ a ≤ 100000000
  · by_cases h2 : 0 ≤ b ∧ b ≤ 10000
    · by_cases h3 : 0 ≤ c ∧ c ≤ 100000000
      · by_cases h4 : 0 ≤ d ∧ d ≤ 1000
        · obtain ⟨p0, p1⟩ := mul_range h2.1 h2.2 h3.1 h3.2
          obtain ⟨q0, q1⟩ := mul_range (a := a + b * c) (b := d) (A := 1000100000000) (B := 1000) (by omega) (by omega) (by omega) (by omega)
          have e : (a + b * c) * (100 + d) = 100 * (a + b * c) + (a + b * c) * d := by rw [Int.mul_add, Int.mul_comm _ 100]
          rw [w64 (x := b * c) (by omega) (by omega), w64 (x := a + b * c) (by omega) (by omega), w64 (x := (a + b * c) * d) (by omega) (by omega), w64 (x := (a + b * c) * d + 100) (by omega) (by omega), w64 (x := (a + b * c) * d + 100 - 1) (by omega) (by omega), tdiv_nn (by omega), w64 (x := ((a + b * c) * d + 100 - 1) / 100) (by omega) (by omega), e]
          have e2 : wrap64 (a + b * c + ((a + b * c) * d + 100 - 1) / 100) = (100 * (a + b * c) + (a + b * c) * d + 99) / 100 := by
            generalize (a + b * c) * d = q at *
            generalize b * c = p at *
            rw [w64 (by omega) (by omega)]; omega
          simp [h1, h2, h3, h4, e2]
        · simp [h1, h2, h3, h4]
      · simp [h1, h2, h3]
    · simp [h1, h2]
  · simp [h1]

theorem and255 (x : Int) : 0 ≤ Go.bits .and .u64 x 255 ∧ Go.bits .and .u64 x 255 ≤ 255 := by
  unfold Go.bits
  have h : (BitVec.ofInt 64 x &&& BitVec.ofInt 64 255).toNat ≤ 255 := by
    rw [BitVec.toNat_and]
    exact Nat.and_le_right
  have e : IntKind.u64.wrap (((BitVec.ofInt 64 x &&& BitVec.ofInt 64 255).toNat : Nat) : Int) = (((BitVec.ofInt 64 x &&& BitVec.ofInt 64 255).toNat : Nat) : Int) := by
    simp only [IntKind.wrap, IntKind.bits, IntKind.signed, Bool.false_and, Bool.false_eq_true, if_false]
    omega
  show 0 ≤ IntKind.u64.wrap (((BitVec.ofInt 64 x &&& BitVec.ofInt 64 255).toNat : Nat) : Int) ∧ IntKind.u64.wrap (((BitVec.ofInt 64 x &&& BitVec.ofInt 64 255).toNat : Nat) : Int) ≤ 255
  rw [e]
  omega
def Bytes (l : List Int) : Prop := ∀ x ∈ l, 0 ≤ x ∧ x ≤ 255
theorem bytes_wf {l : List Int} (h : ∀ x ∈ l, (Lit.int .u8 x).wf = true) : Bytes l := by
  intro x hx
  have := h x hx
  simp only [Lit.wf, IntKind.min, IntKind.max, IntKind.signed, IntKind.bits, Bool.and_eq_true, decide_eq_true_eq, Bool.false_eq_true, if_false] at this
  omega
theorem bytes_rd {l : List Int} (h : Bytes l) {i : Int} (h0 : 0 ≤ i) (h1 : i < l.length) : 0 ≤ rd l i ∧ rd l i ≤ 255 := by
  obtain ⟨n, rfl⟩ := Int.eq_ofNat_of_zero_le h0
  rw [rd_nat l n (by omega)]
  exact h _ (List.getElem_mem _)
theorem next_ok {l : List Int} (h : Bytes l) (hl : l.length ≤ 3000) (p s : Int) (h0 : 0 ≤ p) (h1 : p ≤ 1000000) : ∃ v s', spec_l00Src_next.f l p s = some (v, p + 1, s') ∧ 0 ≤ v ∧ v ≤ 255 := by
  unfold spec_l00Src_next.f
  rw [w64 (x := p + 1) (by omega) (by omega)]
  by_cases c : p < (l.length : Int)
  · have hb := bytes_rd h h0 c
    rw [if_pos c, if_pos h0, if_pos (by omega)]
    exact ⟨_, _, rfl, by rw [w64 (by omega) (by omega)]; exact hb⟩
  · rw [if_neg c, if_neg (by omega)]
    refine ⟨_, _, rfl, ?_⟩
    have := and255 (IntKind.u64.wrap (IntKind.u64.wrap (IntKind.u64.wrap (s * 6364136223846793005) + 0) + 1442695040888963407) / 1099511627776)
    rw [w64 (by omega) (by omega)]
    exact this
theorem tmod_range {a n : Int} (h0 : 0 ≤ a) (hn : 1 ≤ n) : 0 ≤ Int.tmod a n ∧ Int.tmod a n < n := by
  rw [tmod_nn h0]
  exact ⟨Int.emod_nonneg _ (by omega), Int.emod_lt_of_pos _ (by omega)⟩
theorem pick_ok {l : List Int} (h : Bytes l) (hl : l.length ≤ 3000) (p s n : Int) (h0 : 0 ≤ p) (h1 : p ≤ 999999) (hn : 1 ≤ n) : ∃ r p' s', spec_l00Src_pick.f l p s n = some (r, p', s') ∧ (0 ≤ r ∧ r < n) ∧ p ≤ p' ∧ p' ≤ p + 2 := by
  unfold spec_l00Src_pick.f
  by_cases c : n ≤ 1
  · rw [if_pos c]
    exact ⟨_, _, _, rfl, by omega, by omega, by omega⟩
  · obtain ⟨v, s1, e1, v0, v1⟩ := next_ok h hl p s h0 (by omega)
    rw [if_neg c, e1]
    simp only [Option.bind_some]
    by_cases c2 : n > 200
    · obtain ⟨u, s2, e2, u0, u1⟩ := next_ok h hl (p + 1) s1 (by omega) (by omega)
      rw [if_pos c2, e2]
      simp only [Option.bind_some]
      rw [if_neg (by omega), w64 (x := v * 256) (by omega) (by omega), w64 (x := v * 256 + u) (by omega) (by omega)]
      exact ⟨_, _, _, rfl, tmod_range (by omega) hn, by omega, by omega⟩
    · rw [if_neg c2, if_neg (by omega)]
      exact ⟨_, _, _, rfl, tmod_range v0 hn, by omega, by omega⟩
theorem at_ok {l : List Int} (h : Bytes l) (i n : Int) (h0 : 0 ≤ i) (hn : 1 ≤ n) : ∃ r, laws_a2At.f l i n = some r ∧ 0 ≤ r ∧ r < n := by
  unfold laws_a2At.f
  by_cases c : i ≥ (l.length : Int)
  · rw [if_pos c]
    exact ⟨0, rfl, by omega, by omega⟩
  · have hb := bytes_rd h h0 (show i < l.length by omega)
    rw [if_neg c, if_neg (by omega), if_pos h0, if_pos (by omega), if_neg (by omega), w64 (by omega) (by omega)]
    exact ⟨_, rfl, tmod_range hb.1 hn⟩

def goodT (l : List IT) : Prop := l.Pairwise (fun a b => a.f0 < b.f0 ∧ a.f1 ≤ b.f1) ∧ ∀ x ∈ l, (1 ≤ x.f0 ∧ x.f0 ≤ 1000) ∧ 0 ≤ x.f1 ∧ x.f1 ≤ 100
theorem tiers_ok {l : List IT} (h : goodT l) (hn : l.length ≤ 6) : tiersOk l = true := by
  unfold tiersOk
  rw [Bool.and_eq_true, decide_eq_true_eq]
  refine ⟨List.all_eq_true.2 fun i hi => decide_eq_true ?_, hn⟩
  have hi := List.mem_range.1 hi
  unfold fits
  rw [rdI l i hi]
  have hx := h.2 _ (List.getElem_mem hi)
  refine ⟨by omega, by omega, fun h0 => ?_⟩
  obtain ⟨j, rfl⟩ : ∃ j, i = j + 1 := ⟨i - 1, by omega⟩
  rw [show ((j + 1 : Nat) : Int) - 1 = (j : Int) by omega, rdI l j (by omega)]
  exact (List.pairwise_iff_getElem.1 h.1 j (j + 1) (by omega) hi (by omega)).1
theorem draw_tiers {b : List Int} (hb : Bytes b) (hl : b.length ≤ 3000) : ∀ (n : Nat) (xs : List IT) (fr pc p s : Int), n ≤ 3 → xs.length + n ≤ 3 → goodT xs → (∀ x ∈ xs, x.f0 < fr ∧ x.f1 ≤ pc) → 1 ≤ fr → fr + 30 * n ≤ 1000 → 0 ≤ pc → pc ≤ 100 → 0 ≤ p → p + 4 * n ≤ 1000 →
    ∃ r, (goodT r ∧ r.length ≤ 3) ∧ Ev (fun k => spec_A2Tiers.l0 k xs fr pc (n : Int) b p s) r := by
  intro n
  induction n with
  | zero =>
    intro xs fr pc p s _ hx hg _ _ _ _ _ _ _
    refine ⟨xs, ⟨hg, by omega⟩, Ev.const fun k => ?_⟩
    simp only [spec_A2Tiers.l0]
    rw [if_neg (by omega)]
  | succ n ih =>
    intro xs fr pc p s hn hx hg hlt h1 h2 h3 h4 h5 h6
    obtain ⟨r1, p1, s1, e1, hr1, hp1⟩ := pick_ok hb hl p s 30 h5 (by omega) (by omega)
    obtain ⟨r2, p2, s2, e2, hr2, hp2⟩ := pick_ok hb hl p1 s1 30 (by omega) (by omega) (by omega)
    obtain ⟨q, eq, hq⟩ : ∃ q, spec_l00Min.f 100 (wrap64 (pc + r2)) = some q ∧ pc ≤ q ∧ q ≤ 100 := by
      unfold spec_l00Min.f
      rw [w64 (by omega) (by omega)]
      by_cases c : (100 : Int) < pc + r2
      · rw [if_pos c]; exact ⟨_, rfl, by omega, by omega⟩
      · rw [if_neg c]; exact ⟨_, rfl, by omega, by omega⟩
    have hg2 : goodT (xs ++ [(⟨fr, pc⟩ : IT)]) := by
      refine ⟨List.pairwise_append.2 ⟨hg.1, List.pairwise_singleton _ _, fun a ha c hc => ?_⟩, fun x hx => ?_⟩
      · rw [List.mem_singleton.1 hc]
        exact hlt a ha
      · rcases List.mem_append.1 hx with h | h
        · exact hg.2 x h
        · rw [List.mem_singleton.1 h]
          exact ⟨⟨h1, by show fr ≤ 1000; omega⟩, h3, h4⟩
    obtain ⟨r, hr, hE⟩ := ih (xs ++ [(⟨fr, pc⟩ : IT)]) (fr + (1 + r1)) q p2 s2 (by omega) (by simp; omega) hg2 (fun x hx => by
      rcases List.mem_append.1 hx with h | h
      · have := hlt x h; omega
      · rw [List.mem_singleton.1 h]
        exact ⟨by show fr < fr + (1 + r1); omega, by show pc ≤ q; omega⟩) (by omega) (by omega) (by omega) (by omega) (by omega) (by omega)
    obtain ⟨K, hK⟩ := Ev.pick hE
    refine ⟨r, hr, Ev.intro (K + 1) fun k hk => ?_⟩
    obtain ⟨m, rfl⟩ : ∃ m, k = m + 1 := ⟨k - 1, by omega⟩
    have := hK m (by omega)
    simp only [spec_A2Tiers.l0]
    rw [if_pos (by omega), if_pos (by omega), e1]
    simp only [Option.bind_some]
    rw [e2]
    simp only [Option.bind_some]
    rw [eq]
    simp only [Option.bind_some]
    rw [w64 (x := 1 + r1) (by omega) (by omega), w64 (x := fr + _) (by omega) (by omega), show wrap64 (((n + 1 : Nat) : Int) - 1) = (n : Int) by rw [w64 (by omega) (by omega)]; omega]
    exact this
theorem tiers_draw {b : List Int} (hb : Bytes b) (hl : b.length ≤ 3000) : ∃ r, (goodT r ∧ r.length ≤ 3) ∧ Ev (fun k => spec_A2Tiers.f k b) r := by
  obtain ⟨r1, p1, s1, e1, hr1, hp1⟩ := pick_ok hb hl 0 0 10 (by omega) (by omega) (by omega)
  obtain ⟨r2, p2, s2, e2, hr2, hp2⟩ := pick_ok hb hl p1 s1 8 (by omega) (by omega) (by omega)
  obtain ⟨r3, p3, s3, e3, hr3, hp3⟩ := pick_ok hb hl p2 s2 4 (by omega) (by omega) (by omega)
  obtain ⟨n, rfl⟩ := Int.eq_ofNat_of_zero_le hr3.1
  obtain ⟨r, hr, h⟩ := draw_tiers hb hl n [] (1 + r1) r2 p3 s3 (by omega) (by simp; omega) ⟨List.Pairwise.nil, by simp⟩ (by simp) (by omega) (by omega) (by omega) (by omega) (by omega) (by omega)
  refine ⟨r, hr, Ev.congr (fun k => ?_) h⟩
  unfold spec_A2Tiers.f spec_l00From.f
  simp only [Option.bind_some]
  rw [e1]
  simp only [Option.bind_some]
  rw [e2]
  simp only [Option.bind_some]
  rw [e3]
  simp only [Option.bind_some]
  rw [w64 (x := 1 + r1) (by omega) (by omega)]
theorem fold_mono (m m' : Int) (hm : m ≤ m') : ∀ (l : List IT) (a c : Int), l.Pairwise (fun a b => a.f0 < b.f0 ∧ a.f1 ≤ b.f1) → (∀ x ∈ l, c ≤ x.f1) → a ≤ c → l.foldl (fun a t => if t.f0 ≤ m then t.f1 else a) a ≤ l.foldl (fun a t => if t.f0 ≤ m' then t.f1 else a) c := by
  intro l
  induction l with
  | nil => intro a c _ _ h; exact h
  | cons x xs ih =>
    intro a c hp hc hac
    rw [List.foldl_cons, List.foldl_cons]
    have hp2 := List.pairwise_cons.1 hp
    have hx := hc x (by simp)
    by_cases c1 : x.f0 ≤ m
    · rw [if_pos c1, if_pos (by omega)]
      exact ih _ _ hp2.2 (fun y hy => (hp2.1 y hy).2) (Int.le_refl _)
    · rw [if_neg c1]
      by_cases c2 : x.f0 ≤ m'
      · rw [if_pos c2]
        exact ih _ _ hp2.2 (fun y hy => (hp2.1 y hy).2) (by omega)
      · rw [if_neg c2]
        exact ih _ _ hp2.2 (fun y hy => hc y (by simp [hy])) hac
theorem fold_range (m : Int) : ∀ (l : List IT) (a : Int), (∀ x ∈ l, 0 ≤ x.f1 ∧ x.f1 ≤ 100) → 0 ≤ a ∧ a ≤ 100 → 0 ≤ l.foldl (fun a t => if t.f0 ≤ m then t.f1 else a) a ∧ l.foldl (fun a t => if t.f0 ≤ m then t.f1 else a) a ≤ 100 := by
  intro l
  induction l with
  | nil => intro a _ h; exact h
  | cons x xs ih =>
    intro a hc ha
    rw [List.foldl_cons]
    refine ih _ (fun y hy => hc y (by simp [hy])) ?_
    split
    · exact hc x (by simp)
    · exact ha
theorem disc_mono {l : List IT} (h : goodT l) (m : Int) : disc l m ≤ disc l (m + 1) := fold_mono m (m + 1) (by omega) l 0 0 h.1 (fun x hx => (h.2 x hx).2.1) (Int.le_refl _)
theorem disc_range {l : List IT} (h : goodT l) (m : Int) : 0 ≤ disc l m ∧ disc l m ≤ 100 := fold_range m l 0 (fun x hx => (h.2 x hx).2) (by omega)
theorem price_eq {l : List IT} (h : goodT l) (c m : Int) (c0 : 0 ≤ c) (c1 : c ≤ 1000000) (m0 : 0 ≤ m) (m1 : m ≤ 10000) : priceOf l c m = c * m - c * m * disc l m / 100 := by
  have hd := disc_range h m
  have h1 := mul_range c0 c1 m0 m1
  have h2 := mul_range h1.1 h1.2 hd.1 hd.2
  unfold priceOf
  rw [w64 (x := c * m) (by omega) (by omega), w64 (x := c * m * disc l m) (by omega) (by omega), tdiv_nn h2.1, w64 (x := _ / 100) (by omega) (by omega), w64 (by omega) (by omega)]
theorem cheap_char (l : List IT) (c now : Int) : ∀ (d : Nat) (n : Int), cheap l c now d n = (0, 3) ∨ ∃ q, cheap l c now d n = (q, 0) ∧ n ≤ q ∧ q < n + d ∧ priceOf l c q < now ∧ (n < q → ¬ priceOf l c (q - 1) < now) := by
  intro d
  induction d with
  | zero => intro n; exact .inl rfl
  | succ d ih =>
    intro n
    unfold cheap
    by_cases h : priceOf l c n < now
    · rw [if_pos h]
      exact .inr ⟨n, rfl, by omega, by omega, h, fun hh => absurd hh (by omega)⟩
    · rw [if_neg h]
      rcases ih (n + 1) with e | ⟨q, e, h1, h2, h3, h4⟩
      · exact .inl e
      · refine .inr ⟨q, e, by omega, by omega, h3, fun _ => ?_⟩
        by_cases c2 : n + 1 < q
        · exact h4 c2
        · have : q - 1 = n := by omega
          rw [this]; exact h
theorem codeOf_good {l : List IT} (h : goodT l) (hn : l.length ≤ 6) {c m : Int} (hc : 0 ≤ c ∧ c ≤ 100000000) (hm : 1 ≤ m ∧ m ≤ 10000) : codeOf l c m = 0 := by
  unfold codeOf
  rw [tiers_ok h hn, if_pos rfl, if_pos ⟨hm, hc⟩]

/-- The last part: the round price and the making price. -/
theorem last_ok {b : List Int} (hb : Bytes b) (c : Int) (hc : 0 ≤ c ∧ c ≤ 100000) (k : Nat) : laws_FnPieces.j2 (k + 1) b c = some true := by
  obtain ⟨r, e1, r0, r1⟩ := at_ok hb 2 200 (by omega) (by omega)
  obtain ⟨w, e2, w0, w1⟩ := at_ok hb 3 40 (by omega) (by omega)
  obtain ⟨e, e3, x0, x1⟩ := at_ok hb 4 60 (by omega) (by omega)
  simp only [laws_FnPieces.j2]
  rw [e1, e2, e3]
  simp only [Option.bind_some]
  rw [w64 (x := 1 + r) (by omega) (by omega)]
  have hn : 1 ≤ 1 + r ∧ 1 + r ≤ 200 := by omega
  revert hn
  generalize 1 + r = n
  intro hn
  rw [round_impl, making_impl, w64 (x := 10 * n) (by omega) (by omega)]
  simp only [Option.bind_some]
  have hq : 0 ≤ (c + n - 1) / n := Int.ediv_nonneg (by omega) (by omega)
  have hq1 := Int.ediv_mul_le (c + n - 1) (b := n) (by omega)
  have hq2 := Int.lt_ediv_add_one_mul_self (c + n - 1) (b := n) (by omega)
  rw [Int.add_mul, Int.one_mul] at hq2
  have hq3 : (c + n - 1) / n ≤ c + n - 1 := Int.ediv_le_self n (by omega)
  have hR : roundAns c n = ((c + n - 1) / n * n, 0) := by
    unfold roundAns
    rw [if_pos (by omega), if_pos (by omega), w64 (x := c + n) (by omega) (by omega), w64 (x := c + n - 1) (by omega) (by omega), tdiv_nn (by omega), w64 (x := (c + n - 1) / n) (by omega) (by omega), w64 (by omega) (by omega)]
  rw [hR]
  revert hq hq1 hq2 hq3
  generalize (c + n - 1) / n = q
  intro hq hq1 hq2 hq3
  have hwn := mul_range (a := w) (b := 10 * n) (A := 39) (B := 2000) (by omega) (by omega) (by omega) (by omega)
  have hw10 : w * 10 * n = w * (10 * n) := by rw [Int.mul_assoc]
  have hM : makingAns c w (10 * n) e = (((c + w * (10 * n)) * (100 + e) + 99) / 100, 0) := by
    unfold makingAns
    rw [if_pos (by omega)]
  rw [hM]
  rw [w64 (x := w * 10) (by omega) (by omega), hw10]
  revert hwn
  generalize w * (10 * n) = u
  intro hwn
  have hz := mul_range (a := c + u) (b := 100 + e) (A := 178000) (B := 159) (by omega) (by omega) (by omega) (by omega)
  rw [w64 (x := u) (by omega) (by omega), w64 (x := c + u) (by omega) (by omega), w64 (x := 100 + e) (by omega) (by omega)]
  revert hz
  generalize (c + u) * (100 + e) = z
  intro hz
  simp only [if_true]
  rw [if_neg (by omega), if_pos (Int.mul_tmod_left _ _), if_pos (by omega), w64 (x := q * n - c) (by omega) (by omega), if_pos (by omega), w64 (x := z) (by omega) (by omega), w64 (x := 100 * ((z + 99) / 100)) (by omega) (by omega), if_pos (by omega), w64 (x := (z + 99) / 100 - 1) (by omega) (by omega), w64 (x := 100 * ((z + 99) / 100 - 1)) (by omega) (by omega), decide_eq_true (by omega)]

end FnPieces_
open FnPieces_ in
theorem FnPieces : ∀ (l0 : List Int) (l1 : List Int), (l0.length ≤ maxLen ∧ ∀ x ∈ l0, (Lit.int .u8 x).wf = true) → (l1.length ≤ maxLen ∧ ∀ x ∈ l1, (Lit.int .u8 x).wf = true) → ∃ k, laws_FnPieces.f k l0 l1 = some true := by
  intro l0 l1 ⟨_, hb0⟩ ⟨_, hb1⟩
  by_cases c : laws_a2Long.f l0 l1 = some true
  · refine ⟨0, ?_⟩
    unfold laws_FnPieces.f
    rw [c]
    rfl
  · have hlen : l0.length ≤ 3000 ∧ l1.length ≤ 3000 := by
      unfold laws_a2Long.f at c
      by_cases c1 : (l0.length : Int) > 3000
      · rw [if_pos c1] at c; exact absurd rfl c
      · rw [if_neg c1] at c
        by_cases c2 : (l1.length : Int) > 3000
        · rw [decide_eq_true c2] at c; exact absurd rfl c
        · omega
    have hlong : laws_a2Long.f l0 l1 = some false := by
      unfold laws_a2Long.f
      rw [if_neg (by omega), decide_eq_false (by omega)]
    have hB0 := bytes_wf hb0
    have hB1 := bytes_wf hb1
    obtain ⟨ts, ⟨hg, hn⟩, hts⟩ := tiers_draw hB0 hlen.1
    obtain ⟨KT, hT⟩ := Ev.pick hts
    obtain ⟨r0, e0, r00, r01⟩ := at_ok hB1 0 60 (by omega) (by omega)
    obtain ⟨r1, e1, r10, r11⟩ := at_ok hB1 1 250 (by omega) (by omega)
    obtain ⟨m, hm⟩ : ∃ m, m = 1 + r0 := ⟨_, rfl⟩
    obtain ⟨cc, hcc⟩ : ∃ cc, cc = r1 * 40 := ⟨_, rfl⟩
    have em : wrap64 (1 + r0) = m := by rw [w64 (by omega) (by omega), hm]
    have em1 : wrap64 (m + 1) = m + 1 := w64 (by omega) (by omega)
    have ec : wrap64 (r1 * 40) = cc := by rw [w64 (by omega) (by omega), hcc]
    have hok := tiers_ok hg (by omega)
    have hts1 : ts.length ≤ 1048576 := by omega
    obtain ⟨K1, h1⟩ := Ev.pick (disc_f_impl ts m hts1)
    obtain ⟨K2, h2⟩ := Ev.pick (disc_f_impl ts (m + 1) hts1)
    obtain ⟨K3, h3⟩ := Ev.pick (price_f_impl ts cc m hts1)
    obtain ⟨K4, h4⟩ := Ev.pick (cheap_f_impl ts cc m hts1)
    have a1 : discAns ts m = (disc ts m, 0) := by unfold discAns; rw [if_pos hok, if_pos (by omega)]
    have a2 : discAns ts (m + 1) = (disc ts (m + 1), 0) := by unfold discAns; rw [if_pos hok, if_pos (by omega)]
    have a3 : ∀ q, 1 ≤ q → q ≤ 10000 → priceAns ts cc q = (priceOf ts cc q, 0) := fun q hq0 hq1 => by unfold priceAns; rw [if_pos (codeOf_good hg (by omega) (by omega) ⟨hq0, hq1⟩)]
    have a4 : cheapAns ts cc m = cheap ts cc (priceOf ts cc m) (10000 - m).toNat (m + 1) := by unfold cheapAns; rw [if_pos (codeOf_good hg (by omega) (by omega) (by omega))]
    have d1 := disc_range hg m
    have d2 := disc_range hg (m + 1)
    have d3 := disc_mono hg m
    have hY := mul_range (a := cc) (b := m) (A := 10000) (B := 60) (by omega) (by omega) (by omega) (by omega)
    have hX := mul_range hY.1 hY.2 d1.1 d1.2
    have hp : priceOf ts cc m = cc * m - cc * m * disc ts m / 100 := price_eq hg cc m (by omega) (by omega) (by omega) (by omega)
    have hle : cc * m * disc ts m ≤ cc * m * 100 := Int.mul_le_mul_of_nonneg_left d1.2 hY.1
    have hsub : cc * m * (100 - disc ts m) = cc * m * 100 - cc * m * disc ts m := Int.mul_sub _ _ _
    obtain ⟨KC, hC⟩ : ∃ K, ∀ k, K ≤ k → laws_FnPieces.j0 k l1 ts m cc (priceOf ts cc m) false = some true := by
      rcases cheap_char ts cc (priceOf ts cc m) (10000 - m).toNat (m + 1) with e | ⟨q, e, q0, q1, q2, q3⟩
      · refine ⟨K4 + 3, fun k hk => ?_⟩
        obtain ⟨n, rfl⟩ : ∃ n, k = n + 2 := ⟨k - 2, by omega⟩
        simp only [laws_FnPieces.j0]
        rw [h4 (n + 1) (by omega), a4, e]
        simp only [Option.bind_some, Bool.false_eq_true, if_false, if_true]
        rw [if_neg (by omega)]
        exact last_ok hB1 cc (by omega) n
      · obtain ⟨K5, h5⟩ := Ev.pick (price_f_impl ts cc q hts1)
        obtain ⟨K6, h6⟩ := Ev.pick (price_f_spec ts cc (q - 1) hts1)
        refine ⟨K4 + K5 + K6 + 4, fun k hk => ?_⟩
        obtain ⟨n, rfl⟩ : ∃ n, k = n + 3 := ⟨k - 3, by omega⟩
        simp only [laws_FnPieces.j0]
        rw [h4 (n + 2) (by omega), a4, e]
        simp only [Option.bind_some, Bool.false_eq_true, if_false, if_true]
        rw [h5 (n + 2) (by omega), a3 q (by omega) (by omega)]
        simp only [Option.bind_some, if_true]
        rw [if_neg (by omega), if_neg (by omega), decide_eq_false (by omega)]
        simp only [laws_FnPieces.j1, Bool.false_eq_true, if_false]
        rw [w64 (x := q - 1) (by omega) (by omega), h6 (n + 1) (by omega), a3 (q - 1) (by omega) (by omega)]
        simp only [Option.bind_some, if_true]
        by_cases c2 : q - 1 > m
        · rw [if_pos c2, if_neg (q3 (by omega))]
          exact last_ok hB1 cc (by omega) n
        · rw [if_neg c2]
          exact last_ok hB1 cc (by omega) n
    refine ⟨KT + K1 + K2 + K3 + KC, ?_⟩
    unfold laws_FnPieces.f
    rw [hlong]
    simp only [Option.bind_some, Bool.false_eq_true, if_false]
    rw [hT _ (by omega), e0, e1]
    simp only [Option.bind_some]
    rw [em, em1, ec]
    rw [h1 _ (by omega), h2 _ (by omega), h3 _ (by omega), a1, a2, a3 m (by omega) (by omega)]
    simp only [Option.bind_some, if_true]
    rw [w64 (x := cc * m) (by omega) (by omega), w64 (x := 100 - disc ts m) (by omega) (by omega), hsub, w64 (x := cc * m * 100 - cc * m * disc ts m) (by omega) (by omega)]
    have hC2 := hC (KT + K1 + K2 + K3 + KC) (by omega)
    revert hC2
    generalize KT + K1 + K2 + K3 + KC = kk
    intro hC2
    rw [w64 (x := 100 * priceOf ts cc m) (by omega) (by omega), w64 (x := priceOf ts cc m - 1) (by omega) (by omega), w64 (x := 100 * (priceOf ts cc m - 1)) (by omega) (by omega)]
    rw [if_neg (by omega), if_neg (by omega), if_neg (by omega), if_neg (by omega), if_neg (by omega), if_neg (by omega), decide_eq_false (by omega)]
    exact hC2

end Go.Proofs.Ytajjnpcpeaiieaa.Pure
