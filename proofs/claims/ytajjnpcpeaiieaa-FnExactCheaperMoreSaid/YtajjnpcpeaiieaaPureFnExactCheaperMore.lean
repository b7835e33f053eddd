/- For all tiers and numbers the program's CheaperMore and the reference's CheaperMore tell the same: both look at each greater number in turn; the tiers stay as they are. -/
import Derived.Test.YtajjnpcpeaiieaaPFnExactCheaperMorex4
import Derived.Test.YtajjnpcpeaiieaaBase
namespace Go.Proofs.Ytajjnpcpeaiieaa.Pure
open Go.RowKit Go.Proofs.Ytajjnpcpeaiieaa.PFnExactCheaperMore Go.Proofs.YtajjnpcpeaiieaaW.PrintWords Go.Proofs.YtajjnpcpeaiieaaW.PrintLast Go.Proofs.Ytajjnpcpeaiieaa.Base
set_option linter.unusedVariables false
set_option linter.unusedSimpArgs false

def G57 (x : S57) : Prop := (Lit.int .i64 x.f0).wf = true ∧ (Lit.int .i64 x.f1).wf = true
namespace FnExactCheaperMore_
theorem within_eq (a b c : Int) : impl_within.f a b c = some (decide (b ≤ a ∧ a ≤ c)) := by
  unfold impl_within.f
  by_cases h : a ≥ b
  · rw [if_pos h]; congr 1; apply Bool.eq_iff_iff.mpr; simp; omega
  · rw [if_neg h]; congr 1; apply Bool.eq_iff_iff.mpr; simp; omega
theorem in_eq (a b c : Int) : spec_l00In.f a b c = some (decide (b ≤ a ∧ a ≤ c)) := by
  unfold spec_l00In.f
  by_cases h : a ≥ b
  · rw [if_pos h]; congr 1; apply Bool.eq_iff_iff.mpr; simp; omega
  · rw [if_neg h]; congr 1; apply Bool.eq_iff_iff.mpr; simp; omega

abbrev LT := S57
abbrev IT := S55
def conv (x : LT) : IT := ⟨x.f0, x.f1⟩
theorem rdL (xs : List LT) (i : Nat) (h : i < xs.length) : rd_T57 xs (i : Int) = xs[i] := by
  unfold rd_T57; rw [Int.toNat_natCast, List.getD_eq_getElem?_getD, List.getElem?_eq_getElem h]; rfl
theorem rdI (xs : List IT) (i : Nat) (h : i < xs.length) : rd_T55 xs (i : Int) = xs[i] := by
  unfold rd_T55; rw [Int.toNat_natCast, List.getD_eq_getElem?_getD, List.getElem?_eq_getElem h]; rfl
theorem to_ev (l : List LT) (h : l.length ≤ 1048576) : Ev (fun k => laws_toTierS.f k l) (l.map conv) := by
  have round : ∀ k acc (i : Nat) (h : i < l.length), acc.length = l.length → laws_toTierS.l0 (k + 1) l acc (i : Int) = laws_toTierS.l0 k l (acc.set i (conv l[i])) ((i : Int) + 1) := by
    intro k acc i hi hl
    simp only [laws_toTierS.l0, laws_toTier.f, Option.bind_some]
    rw [if_pos (by omega), if_pos (by omega), if_pos (by omega), w64 (by omega) (by omega), rdL l i hi, Int.toNat_natCast]
    rfl
  have fin : ∀ k acc, laws_toTierS.l0 (k + 1) l acc (l.length : Int) = some acc := by
    intro k acc
    simp only [laws_toTierS.l0]
    rw [if_neg (by omega)]
  have := fill_to l conv (fun k acc i => laws_toTierS.l0 k l acc i) round fin (List.replicate l.length z55) (by simp)
  refine Ev.congr (fun k => ?_) this
  unfold laws_toTierS.f
  rw [if_pos (by omega), if_pos (by rw [Int.toNat_natCast]; omega), Int.toNat_natCast]
theorem eq_ev (l : List IT) (h : l.length ≤ 1048576) : Ev (fun k => laws_eqTierS.f k l l) true := by
  refine Ev.congr (f := fun k => laws_eqTierS.l0 k l l 0) (fun k => by unfold laws_eqTierS.f; rw [if_pos rfl]) ?_
  refine go_to l.length (fun k i => laws_eqTierS.l0 k l l i) true (fun i hi => ⟨0, fun k _ => ?_⟩) (Ev.const fun k => ?_)
  · simp only [laws_eqTierS.l0, laws_eqTier.f, if_true, Option.bind_some]
    rw [if_pos (by omega), if_pos (by omega), if_pos (by omega), w64 (by omega) (by omega)]
  · simp only [laws_eqTierS.l0]
    rw [if_neg (by omega)]
theorem sz_eq (l : List LT) (h : l.length ≤ maxLen) : laws_szTierS.f l 1048576 = some (if 1048576 < l.length then -1 else 1048576 - (l.length : Int)) := by
  unfold maxLen at h
  unfold laws_szTierS.f
  rw [w64 (by omega) (by omega)]
  by_cases c : 1048576 < l.length
  · rw [if_pos (by omega), if_pos c]
  · rw [if_neg (by omega), if_neg c]
theorem many_eq (a : Int) : spec_l25Many.f a = some (decide (1 ≤ a ∧ a ≤ 10000)) := by
  unfold spec_l25Many.f; rw [in_eq]; rfl
theorem percent_eq (a : Int) : spec_l25Percent.f a = some (decide (0 ≤ a ∧ a ≤ 100)) := by
  unfold spec_l25Percent.f; rw [in_eq]; rfl
/-- Place i holds a tier that may stand there. -/
def fits (l : List IT) (i : Nat) : Prop := (1 ≤ (rd_T55 l i).f0 ∧ (rd_T55 l i).f0 ≤ 10000) ∧ (0 ≤ (rd_T55 l i).f1 ∧ (rd_T55 l i).f1 ≤ 100) ∧ (0 < i → (rd_T55 l ((i : Int) - 1)).f0 < (rd_T55 l i).f0)
instance (l : List IT) (i : Nat) : Decidable (fits l i) := by unfold fits; exact inferInstance
def tiersOk (l : List IT) : Bool := (List.range l.length).all (fun i => decide (fits l i)) && decide (l.length ≤ 6)
theorem ok_spec (l : List IT) (h : l.length ≤ 1048576) : Ev (fun k => spec_l25Ok.f k l) (tiersOk l) := by
  have := all_lt l.length (fun i => decide (fits l i)) (fun k i => spec_l25Ok.l0 k l i) (decide (l.length ≤ 6)) false (fun i hi hp => ⟨0, fun k _ => ?_⟩) (fun i hi hp => Ev.const fun k => ?_) (fun hp => Ev.const fun k => ?_)
  · unfold tiersOk
    cases ha : (List.range l.length).all (fun i => decide (fits l i)) with
    | true => rw [ha] at this; exact this
    | false => rw [ha] at this; exact this
  · obtain ⟨h1, h2, h3⟩ := of_decide_eq_true hp
    simp only [spec_l25Ok.l0]
    rw [if_pos (by omega), if_pos (by omega), many_eq, decide_eq_true h1, percent_eq, decide_eq_true h2]
    simp only [Option.bind_some, if_true]
    rw [w64 (x := (i : Int) + 1) (by omega) (by omega)]
    by_cases h0 : 0 < i
    · have h3' := h3 h0
      rw [if_pos (by omega), w64 (x := (i : Int) - 1) (by omega) (by omega), if_pos (by omega), if_pos (by omega), if_neg (by omega)]
    · rw [if_neg (by omega)]
  · have hn : ¬ fits l i := of_decide_eq_false hp
    simp only [spec_l25Ok.l0]
    rw [if_pos (by omega), if_pos (by omega), many_eq, percent_eq]
    by_cases h1 : 1 ≤ (rd_T55 l i).f0 ∧ (rd_T55 l i).f0 ≤ 10000
    · by_cases h2 : 0 ≤ (rd_T55 l i).f1 ∧ (rd_T55 l i).f1 ≤ 100
      · rw [decide_eq_true h1, decide_eq_true h2]
        simp only [Option.bind_some, if_true]
        by_cases h0 : 0 < i
        · have h3 : ¬ (rd_T55 l ((i : Int) - 1)).f0 < (rd_T55 l i).f0 := fun h3 => hn ⟨h1, h2, fun _ => h3⟩
          rw [if_pos (by omega), w64 (x := (i : Int) - 1) (by omega) (by omega), if_pos (by omega), if_pos (by omega), if_pos (by omega)]
        · exact absurd ⟨h1, h2, fun h => absurd h h0⟩ hn
      · rw [decide_eq_true h1, decide_eq_false h2]
        simp only [Option.bind_some, if_true, Bool.false_eq_true, if_false]
    · rw [decide_eq_false h1]
      simp only [Option.bind_some, Bool.false_eq_true, if_false]
  · simp only [spec_l25Ok.l0]
    rw [if_neg (by omega)]
    congr 1
    apply Bool.eq_iff_iff.mpr
    simp only [decide_eq_true_eq]
    omega
theorem ok_impl (l : List IT) (h : l.length ≤ 1048576) : Ev (fun k => impl_ValidTiers.f k l) (tiersOk l) := by
  by_cases h6 : l.length ≤ 6
  · have := all_lt l.length (fun i => decide (fits l i)) (fun k i => impl_ValidTiers.l0 k l l l.length i) true false (fun i hi hp => ⟨0, fun k _ => ?_⟩) (fun i hi hp => Ev.const fun k => ?_) (fun hp => Ev.const fun k => ?_)
    · rw [ite_bool] at this
      unfold tiersOk
      rw [decide_eq_true h6, Bool.and_true]
      refine Ev.congr (fun k => ?_) this
      unfold impl_ValidTiers.f
      rw [if_neg (by omega)]
    · obtain ⟨h1, h2, h3⟩ := of_decide_eq_true hp
      simp only [impl_ValidTiers.l0]
      rw [if_pos (by omega), if_pos (by omega), if_pos (by omega), within_eq, within_eq, decide_eq_true h1, decide_eq_true h2]
      simp only [Option.bind_some, if_true]
      rw [w64 (x := (i : Int) + 1) (by omega) (by omega)]
      by_cases h0 : 0 < i
      · have h3' := h3 h0
        rw [if_pos (by omega), w64 (x := (i : Int) - 1) (by omega) (by omega), if_pos (by omega), if_pos (by omega), if_neg (by omega)]
      · rw [if_neg (by omega)]
    · have hn : ¬ fits l i := of_decide_eq_false hp
      simp only [impl_ValidTiers.l0]
      rw [if_pos (by omega), if_pos (by omega), if_pos (by omega), within_eq, within_eq]
      by_cases h1 : 1 ≤ (rd_T55 l i).f0 ∧ (rd_T55 l i).f0 ≤ 10000
      · by_cases h2 : 0 ≤ (rd_T55 l i).f1 ∧ (rd_T55 l i).f1 ≤ 100
        · rw [decide_eq_true h1, decide_eq_true h2]
          simp only [Option.bind_some, if_true]
          by_cases h0 : 0 < i
          · have h3 : ¬ (rd_T55 l ((i : Int) - 1)).f0 < (rd_T55 l i).f0 := fun h3 => hn ⟨h1, h2, fun _ => h3⟩
            rw [if_pos (by omega), w64 (x := (i : Int) - 1) (by omega) (by omega), if_pos (by omega), if_pos (by omega), if_pos (by omega)]
          · exact absurd ⟨h1, h2, fun h => absurd h h0⟩ hn
        · rw [decide_eq_true h1, decide_eq_false h2]
          simp only [Option.bind_some, if_true, Bool.false_eq_true, if_false]
      · rw [decide_eq_false h1]
        simp only [Option.bind_some, Bool.false_eq_true, if_false]
    · simp only [impl_ValidTiers.l0]
      rw [if_neg (by omega)]
  · unfold tiersOk
    rw [decide_eq_false h6, Bool.and_false]
    refine Ev.all fun k => ?_
    unfold impl_ValidTiers.f
    rw [if_pos (by omega)]

def disc (l : List IT) (m : Int) : Int := l.foldl (fun a t => if t.f0 ≤ m then t.f1 else a) 0
theorem disc_take (l : List IT) (m : Int) (i : Nat) (h : i < l.length) : disc (l.take (i + 1)) m = if l[i].f0 ≤ m then l[i].f1 else disc (l.take i) m := by
  unfold disc
  rw [List.take_succ_eq_append_getElem h, List.foldl_append]
  rfl
theorem disc_spec (l : List IT) (m : Int) (h : l.length ≤ 1048576) : Ev (fun k => spec_l25Discount.f k l m) (disc l m) := by
  have := for_to l.length (fun k (s : Int) i => spec_l25Discount.l0 k l m s i) (fun i => disc (l.take i) m) (disc l m) (fun i hi => ⟨0, fun k _ => ?_⟩) (Ev.const fun k => ?_) l.length 0 (by omega)
  · exact this
  · simp only [spec_l25Discount.l0]
    rw [if_pos (by omega), if_pos (by omega), rdI l i hi, w64 (x := (i : Int) + 1) (by omega) (by omega), disc_take l m i hi]
    by_cases c : l[i].f0 ≤ m
    · rw [if_pos c, if_pos c]
    · rw [if_neg c, if_neg c]
  · simp only [spec_l25Discount.l0]
    rw [if_neg (by omega), List.take_of_length_le (by omega)]
theorem disc_impl (l : List IT) (m : Int) (h : l.length ≤ 1048576) : Ev (fun k => impl_discountFor.f k l m) (disc l m) := by
  have := for_to l.length (fun k (s : Int) i => impl_discountFor.l0 k m s l l.length i) (fun i => disc (l.take i) m) (disc l m) (fun i hi => ⟨0, fun k _ => ?_⟩) (Ev.const fun k => ?_) l.length 0 (by omega)
  · exact this
  · simp only [impl_discountFor.l0]
    rw [if_pos (by omega), if_pos (by omega), if_pos (by omega), rdI l i hi, w64 (x := (i : Int) + 1) (by omega) (by omega), disc_take l m i hi]
    by_cases c : l[i].f0 ≤ m
    · rw [if_pos c, if_pos c]
    · rw [if_neg c, if_neg c]
  · simp only [impl_discountFor.l0]
    rw [if_neg (by omega), List.take_of_length_le (by omega)]


theorem cents_eq (a : Int) : spec_l25Cents.f a = some (decide (0 ≤ a ∧ a ≤ 100000000)) := by
  unfold spec_l25Cents.f; rw [in_eq]; rfl

def priceOf (l : List IT) (c m : Int) : Int := wrap64 ((wrap64 (c * m)) - (wrap64 (Int.tdiv (wrap64 ((wrap64 (c * m)) * disc l m)) 100)))
theorem price_spec (l : List IT) (c m : Int) (h : l.length ≤ 1048576) : Ev (fun k => spec_l25Price.f k l c m) (priceOf l c m) := by
  obtain ⟨K, hK⟩ := disc_spec l m h
  dsimp only at hK
  refine ⟨K, fun k hk => ?_⟩
  dsimp only
  unfold spec_l25Price.f
  rw [hK k hk]
  rfl
theorem price_impl (l : List IT) (c m : Int) (h : l.length ≤ 1048576) : Ev (fun k => impl_priceOfPieces.f k l c m) (priceOf l c m) := by
  obtain ⟨K, hK⟩ := disc_impl l m h
  dsimp only at hK
  refine ⟨K, fun k hk => ?_⟩
  dsimp only
  unfold impl_priceOfPieces.f
  rw [hK k hk]
  rfl
def codeOf (l : List IT) (c m : Int) : Int := if tiersOk l = true then (if (1 ≤ m ∧ m ≤ 10000) ∧ (0 ≤ c ∧ c ≤ 100000000) then 0 else 2) else 1
theorem code_spec (l : List IT) (c m : Int) (h : l.length ≤ 1048576) : Ev (fun k => spec_l25Code.f k l c m) (codeOf l c m) := by
  obtain ⟨K, hK⟩ := ok_spec l h
  dsimp only at hK
  refine ⟨K, fun k hk => ?_⟩
  dsimp only
  unfold spec_l25Code.f codeOf
  rw [hK k hk, many_eq, cents_eq]
  cases tiersOk l with
  | false => rfl
  | true =>
    by_cases h1 : 1 ≤ m ∧ m ≤ 10000 <;> by_cases h2 : 0 ≤ c ∧ c ≤ 100000000 <;> simp [h1, h2]

/-- The first of d numbers from n on that costs less. -/
def cheap (l : List IT) (c now : Int) : Nat → Int → Int × Int
  | 0, _ => (0, 3)
  | d + 1, n => if priceOf l c n < now then (n, 0) else cheap l c now d (n + 1)
theorem cheap_spec (l : List IT) (c now : Int) (h : l.length ≤ 1048576) : ∀ (d : Nat) (n : Int), 0 ≤ n → n + d = 10001 → Ev (fun k => spec_CheaperMore.l0 k l c now n) (cheap l c now d n) := by
  intro d
  induction d with
  | zero =>
    intro n h0 hn
    refine Ev.const fun k => ?_
    simp only [spec_CheaperMore.l0]
    rw [if_neg (by omega)]
    rfl
  | succ d ih =>
    intro n h0 hn
    obtain ⟨K, hK⟩ := price_spec l c n h
    obtain ⟨J, hJ⟩ := ih (n + 1) (by omega) (by omega)
    dsimp only at hK hJ
    refine ⟨max K J + 1, fun k hk => ?_⟩
    obtain ⟨m, rfl⟩ : ∃ m, k = m + 1 := ⟨k - 1, by omega⟩
    dsimp only
    simp only [spec_CheaperMore.l0]
    rw [if_pos (by omega), hK m (by omega), w64 (x := n + 1) (by omega) (by omega), hJ m (by omega)]
    rw [show cheap l c now (d + 1) n = if priceOf l c n < now then (n, 0) else cheap l c now d (n + 1) from rfl]
    simp only [Option.bind_some]
    split <;> rfl
theorem cheap_impl (l : List IT) (c now : Int) (h : l.length ≤ 1048576) : ∀ (d : Nat) (n : Int), 0 ≤ n → n + d = 10001 → Ev (fun k => impl_CheaperMore.l0 k l c now n) (cheap l c now d n) := by
  intro d
  induction d with
  | zero =>
    intro n h0 hn
    refine Ev.const fun k => ?_
    simp only [impl_CheaperMore.l0]
    rw [if_neg (by omega)]
    rfl
  | succ d ih =>
    intro n h0 hn
    obtain ⟨K, hK⟩ := price_impl l c n h
    obtain ⟨J, hJ⟩ := ih (n + 1) (by omega) (by omega)
    dsimp only at hK hJ
    refine ⟨max K J + 1, fun k hk => ?_⟩
    obtain ⟨m, rfl⟩ : ∃ m, k = m + 1 := ⟨k - 1, by omega⟩
    dsimp only
    simp only [impl_CheaperMore.l0]
    rw [if_pos (by omega), hK m (by omega), w64 (x := n + 1) (by omega) (by omega), hJ m (by omega)]
    rw [show cheap l c now (d + 1) n = if priceOf l c n < now then (n, 0) else cheap l c now d (n + 1) from rfl]
    simp only [Option.bind_some]
    split <;> rfl
def cheapAns (l : List IT) (c m : Int) : Int × Int := if codeOf l c m = 0 then cheap l c (priceOf l c m) (10000 - m).toNat (m + 1) else (0, codeOf l c m)
theorem codeOf_ok {l : List IT} {c m : Int} (h : codeOf l c m = 0) : tiersOk l = true ∧ (1 ≤ m ∧ m ≤ 10000) ∧ (0 ≤ c ∧ c ≤ 100000000) := by
  unfold codeOf at h
  split at h
  · split at h
    · rename_i h1 h2; exact ⟨h1, h2⟩
    · omega
  · omega
theorem cheap_f_spec (l : List IT) (c m : Int) (h : l.length ≤ 1048576) : Ev (fun k => spec_CheaperMore.f k l c m) (cheapAns l c m) := by
  obtain ⟨K, hK⟩ := code_spec l c m h
  obtain ⟨J, hJ⟩ := price_spec l c m h
  dsimp only at hK hJ
  unfold cheapAns
  by_cases h0 : codeOf l c m = 0
  · obtain ⟨_, h1, h2⟩ := codeOf_ok h0
    obtain ⟨M, hM⟩ := cheap_spec l c (priceOf l c m) h (10000 - m).toNat (m + 1) (by omega) (by omega)
    dsimp only at hM
    refine ⟨K + J + M, fun k hk => ?_⟩
    dsimp only
    unfold spec_CheaperMore.f
    rw [hK k (by omega)]
    simp only [Option.bind_some]
    rw [if_pos h0, if_pos h0, hJ k (by omega)]
    simp only [Option.bind_some]
    rw [w64 (by omega) (by omega), hM k (by omega)]
  · refine ⟨K, fun k hk => ?_⟩
    dsimp only
    unfold spec_CheaperMore.f
    rw [hK k (by omega)]
    simp only [Option.bind_some]
    rw [if_neg h0, if_neg h0]
theorem cheap_f_impl (l : List IT) (c m : Int) (h : l.length ≤ 1048576) : Ev (fun k => impl_CheaperMore.f k l c m) (cheapAns l c m) := by
  obtain ⟨K, hK⟩ := ok_impl l h
  obtain ⟨J, hJ⟩ := price_impl l c m h
  dsimp only at hK hJ
  unfold cheapAns
  by_cases h0 : codeOf l c m = 0
  · obtain ⟨h3, h1, h2⟩ := codeOf_ok h0
    obtain ⟨M, hM⟩ := cheap_impl l c (priceOf l c m) h (10000 - m).toNat (m + 1) (by omega) (by omega)
    dsimp only at hM
    refine ⟨K + J + M + 1, fun k hk => ?_⟩
    obtain ⟨q, rfl⟩ : ∃ q, k = q + 1 := ⟨k - 1, by omega⟩
    dsimp only
    unfold impl_CheaperMore.f
    rw [hK (q + 1) (by omega), h3, within_eq, within_eq, decide_eq_true h1, decide_eq_true h2, if_pos h0]
    simp only [Option.bind_some, if_true, Bool.not_true, impl_CheaperMore.j0, Bool.false_eq_true, if_false]
    rw [hJ q (by omega)]
    simp only [Option.bind_some]
    rw [w64 (by omega) (by omega), hM q (by omega)]
  · refine ⟨K + 1, fun k hk => ?_⟩
    obtain ⟨q, rfl⟩ : ∃ q, k = q + 1 := ⟨k - 1, by omega⟩
    dsimp only
    rw [if_neg h0]
    unfold impl_CheaperMore.f codeOf
    rw [hK (q + 1) (by omega), within_eq, within_eq]
    unfold codeOf at h0
    cases h3 : tiersOk l with
    | false => rfl
    | true =>
      rw [h3] at h0
      by_cases h1 : 1 ≤ m ∧ m ≤ 10000
      · by_cases h2 : 0 ≤ c ∧ c ≤ 100000000
        · exact absurd (by simp [h1, h2]) h0
        · simp [h1, h2, impl_CheaperMore.j0]
      · simp [h1, impl_CheaperMore.j0]

end FnExactCheaperMore_
open FnExactCheaperMore_ in
theorem FnExactCheaperMore : ∀ (l0 : List S57) (a1 : Int) (a2 : Int), (l0.length ≤ maxLen ∧ ∀ x ∈ l0, G57 x) → (Lit.int .i64 a1).wf = true → (Lit.int .i64 a2).wf = true → ∃ k, laws_FnExactCheaperMore.f k l0 a1 a2 = some true := by
  intro l0 a1 a2 hl g0 g1
  by_cases c : 1048576 < l0.length
  · refine ⟨0, ?_⟩
    unfold laws_FnExactCheaperMore.f
    rw [sz_eq l0 hl.1, if_pos c]
    rfl
  · have hn : (l0.map conv).length ≤ 1048576 := by rw [List.length_map]; omega
    obtain ⟨K1, h1⟩ := to_ev l0 (by omega)
    obtain ⟨K2, h2⟩ := eq_ev (l0.map conv) hn
    obtain ⟨K3, h3⟩ := cheap_f_spec (l0.map conv) a1 a2 hn
    obtain ⟨K4, h4⟩ := cheap_f_impl (l0.map conv) a1 a2 hn
    dsimp only at h1 h2 h3 h4
    refine ⟨K1 + K2 + K3 + K4 + 3, ?_⟩
    unfold laws_FnExactCheaperMore.f
    rw [sz_eq l0 hl.1, if_neg c]
    simp only [Option.bind_some]
    rw [if_neg (by omega)]
    simp (disch := omega) only [h1, h2, h3, h4, Option.bind_some, if_true, bne_self_eq_false, Bool.false_eq_true, if_false, laws_FnExactCheaperMore.j0]

end Go.Proofs.Ytajjnpcpeaiieaa.Pure
