/- For all bytes: the cheapest hands have enough minutes, no drawn ones with enough cost less, and the busiest day has the most minutes. -/
import Derived.Test.YtdamlohbplfdgaaDoorQFnCheapHandsx7
import Derived.Test.YtdamlohbplfdgaaDoorQFnCheapHandsx6
import Derived.Test.YtdamlohbplfdgaaDoorQFnCheapHandsx5
import Derived.Test.YtdamlohbplfdgaaDoorBase
import Derived.Lib.ItoaLen
namespace Go.Proofs.YtdamlohbplfdgaaDoor.Pure
open Go.RowKit Go.Proofs.YtdamlohbplfdgaaDoor.QFnCheapHands Go.Proofs.YtdamlohbplfdgaaDoorW.PrintWords Go.Proofs.YtdamlohbplfdgaaDoorW.PrintLast Go.Proofs.YtdamlohbplfdgaaDoor.Base
set_option linter.unusedVariables false
set_option linter.unusedSimpArgs false

namespace FnCheapHands_
abbrev IT := S33
theorem rdI (xs : List IT) (i : Nat) (h : i < xs.length) : rd_T33 xs (i : Int) = xs[i] := by
  unfold rd_T33; rw [Int.toNat_natCast, List.getD_eq_getElem?_getD, List.getElem?_eq_getElem h]; rfl
theorem and255 (x : Int) : 0 ≤ Go.bits .and .u64 x 255 ∧ Go.bits .and .u64 x 255 ≤ 255 := by
  unfold Go.bits
  have h : (BitVec.ofInt 64 x &&& BitVec.ofInt 64 255).toNat ≤ 255 := by
    rw [BitVec.toNat_and]
    exact Nat.and_le_right
  have e : IntKind.u64.wrap (((BitVec.ofInt 64 x &&& BitVec.ofInt 64 255).toNat : Nat) : Int) = (((BitVec.ofInt 64 x &&& BitVec.ofInt 64 255).toNat : Nat) : Int) := by
    simp only [IntKind.wrap, IntKind.bits, IntKind.signed, Bool.false_and, Bool.false_eq_true, if_false]
    omega
  show 0 ≤ IntKind.u64.wrap (((BitVec.ofInt 64 x &&& BitVec.ofInt 64 255).toNat : Nat) : Int) ∧ IntKind.u64.wrap (((BitVec.ofInt 64 x &&& BitVec.ofInt 64 255).toNat : Nat) : Int) ≤ 255
  rw [e]
  omega
def Bytes (l : List Int) : Prop := ∀ x ∈ l, 0 ≤ x ∧ x ≤ 255
theorem bytes_wf {l : List Int} (h : ∀ x ∈ l, (Lit.int .u8 x).wf = true) : Bytes l := by
  intro x hx
  have := h x hx
  simp only [Lit.wf, IntKind.min, IntKind.max, IntKind.signed, IntKind.bits, Bool.and_eq_true, decide_eq_true_eq, Bool.false_eq_true, if_false] at this
  omega
theorem bytes_rd {l : List Int} (h : Bytes l) {i : Int} (h0 : 0 ≤ i) (h1 : i < l.length) : 0 ≤ rd l i ∧ rd l i ≤ 255 := by
  obtain ⟨n, rfl⟩ := Int.eq_ofNat_of_zero_le h0
  rw [rd_nat l n (by omega)]
  exact h _ (List.getElem_mem _)
theorem next_ok {l : List Int} (h : Bytes l) (hl : l.length ≤ 3000) (p s : Int) (h0 : 0 ≤ p) (h1 : p ≤ 1000000) : ∃ v s', spec_l00Src_next.f l p s = some (v, p + 1, s') ∧ 0 ≤ v ∧ v ≤ 255 := by
  unfold spec_l00Src_next.f
  rw [w64 (x := p + 1) (by omega) (by omega)]
  by_cases c : p < (l.length : Int)
  · have hb := bytes_rd h h0 c
    rw [if_pos c, if_pos h0, if_pos (by omega)]
    exact ⟨_, _, rfl, by rw [w64 (by omega) (by omega)]; exact hb⟩
  · rw [if_neg c, if_neg (by omega)]
    refine ⟨_, _, rfl, ?_⟩
    have := and255 (IntKind.u64.wrap (IntKind.u64.wrap (IntKind.u64.wrap (s * 6364136223846793005) + 0) + 1442695040888963407) / 1099511627776)
    rw [w64 (by omega) (by omega)]
    exact this
theorem tmod_range {a n : Int} (h0 : 0 ≤ a) (hn : 1 ≤ n) : 0 ≤ Int.tmod a n ∧ Int.tmod a n < n := by
  rw [tmod_nn h0]
  exact ⟨Int.emod_nonneg _ (by omega), Int.emod_lt_of_pos _ (by omega)⟩
theorem pick_ok {l : List Int} (h : Bytes l) (hl : l.length ≤ 3000) (p s n : Int) (h0 : 0 ≤ p) (h1 : p ≤ 999999) (hn : 1 ≤ n) : ∃ r p' s', spec_l00Src_pick.f l p s n = some (r, p', s') ∧ (0 ≤ r ∧ r < n) ∧ p ≤ p' ∧ p' ≤ p + 2 := by
  unfold spec_l00Src_pick.f
  by_cases c : n ≤ 1
  · rw [if_pos c]
    exact ⟨_, _, _, rfl, by omega, by omega, by omega⟩
  · obtain ⟨v, s1, e1, v0, v1⟩ := next_ok h hl p s h0 (by omega)
    rw [if_neg c, e1]
    simp only [Option.bind_some]
    by_cases c2 : n > 200
    · obtain ⟨u, s2, e2, u0, u1⟩ := next_ok h hl (p + 1) s1 (by omega) (by omega)
      rw [if_pos c2, e2]
      simp only [Option.bind_some]
      rw [if_neg (by omega), w64 (x := v * 256) (by omega) (by omega), w64 (x := v * 256 + u) (by omega) (by omega)]
      exact ⟨_, _, _, rfl, tmod_range (by omega) hn, by omega, by omega⟩
    · rw [if_neg c2, if_neg (by omega)]
      exact ⟨_, _, _, rfl, tmod_range v0 hn, by omega, by omega⟩
theorem at_ok {l : List Int} (h : Bytes l) (i n : Int) (h0 : 0 ≤ i) (hn : 1 ≤ n) : ∃ r, laws_a2At.f l i n = some r ∧ 0 ≤ r ∧ r < n := by
  unfold laws_a2At.f
  by_cases c : i ≥ (l.length : Int)
  · rw [if_pos c]
    exact ⟨0, rfl, by omega, by omega⟩
  · have hb := bytes_rd h h0 (show i < l.length by omega)
    rw [if_neg c, if_neg (by omega), if_pos h0, if_pos (by omega), if_neg (by omega), w64 (by omega) (by omega)]
    exact ⟨_, rfl, tmod_range hb.1 hn⟩

theorem sum_a2 (l : List Int) (A : Int) (hA : 0 ≤ A) (h : ∀ x ∈ l, 0 ≤ x ∧ x ≤ A) (hb : A * l.length ≤ 9223372036854775807) (hl : l.length ≤ 35184372088832) : Ev (fun k => laws_a2Sum.f k l) l.sum := by
  have := for_to l.length (fun k (s : Int) i => laws_a2Sum.l0 k l s i) (fun i => (l.take i).sum) l.sum (fun i hi => ⟨0, fun k _ => ?_⟩) (Ev.const fun k => ?_) l.length 0 (by omega)
  · exact this
  · have b1 := sum_take_bound h (i + 1) (by omega)
    have b2 : A * ((i + 1 : Nat) : Int) ≤ A * l.length := Int.mul_le_mul_of_nonneg_left (by omega) hA
    rw [sum_take_succ l i hi] at b1
    simp only [laws_a2Sum.l0]
    rw [if_pos (by omega), if_pos (by omega), rd_nat l i hi, w64 (x := (i : Int) + 1) (by omega) (by omega), w64 (by omega) (by omega), sum_take_succ l i hi]
  · simp only [laws_a2Sum.l0]
    rw [if_neg (by omega), List.take_of_length_le (by omega)]

def nms : List ByteArray := [(⟨#[109, 101, 103]⟩ : ByteArray), (⟨#[116, 111, 109]⟩ : ByteArray), (⟨#[97, 100, 97, 45, 50]⟩ : ByteArray), (⟨#[106, 111, 101]⟩ : ByteArray), (⟨#[101, 118, 101]⟩ : ByteArray), (⟨#[115, 97, 109]⟩ : ByteArray)]
theorem nms_len : nms.length = 6 := rfl
theorem nms_name : ∀ i : Nat, i < 6 → isNameB (nms.getD i ByteArray.empty) = true := by decide
theorem nms_ne : ∀ i : Nat, i < 6 → ∀ k : Nat, k < i → (decide (nms.getD k ByteArray.empty = nms.getD i ByteArray.empty)) = false := by decide
def goodM (l : List Int) : Prop := l.length ≤ 6 ∧ ∀ x ∈ l, 0 ≤ x ∧ x ≤ 690
def goodH (x : IT) : Prop := goodM x.f1 ∧ 0 ≤ x.f2 ∧ x.f2 ≤ 3900
theorem draw_m {b : List Int} (hb : Bytes b) (hl : b.length ≤ 3000) (nm : ByteArray) : ∀ (n : Nat) (xs : List Int) (p s : Int), n ≤ 6 → xs.length + n ≤ 6 → goodM xs → 0 ≤ p → p + 4 * n + 2 ≤ 900000 →
    ∃ r w p' s', (goodM r ∧ 0 ≤ w ∧ w ≤ 3900 ∧ p ≤ p' ∧ p' ≤ p + 4 * n + 2) ∧ Ev (fun k => spec_l26New.l0 k (n : Int) b p s nm xs 0) (nm, r, w, p', s') := by
  intro n
  induction n with
  | zero =>
    intro xs p s _ hx hg h3 h4
    obtain ⟨r2, p2, s2, e2, hr2, hp2⟩ := pick_ok hb hl p s 40 h3 (by omega) (by omega)
    refine ⟨xs, 100 * r2, p2, s2, ⟨hg, by omega, by omega, by omega, by omega⟩, Ev.const fun k => ?_⟩
    simp only [spec_l26New.l0]
    rw [if_neg (by omega), e2]
    simp only [Option.bind_some]
    rw [w64 (by omega) (by omega)]
  | succ n ih =>
    intro xs p s hn hx hg h3 h4
    obtain ⟨r1, p1, s1, e1, hr1, hp1⟩ := pick_ok hb hl p s 4 h3 (by omega) (by omega)
    have hcast : wrap64 (((n + 1 : Nat) : Int) - 1) = (n : Int) := by rw [w64 (by omega) (by omega)]; omega
    have app : ∀ v : Int, 0 ≤ v ∧ v ≤ 690 → goodM (xs ++ [v]) := fun v hv => ⟨by rw [List.length_append, List.length_cons, List.length_nil]; omega, fun x hx => by
      rcases List.mem_append.1 hx with h | h
      · exact hg.2 x h
      · rw [List.mem_singleton.1 h]; exact hv⟩
    cases hc : (r1 == 0) with
    | true =>
      obtain ⟨r, w, p', s', hr, hE⟩ := ih (xs ++ [0]) p1 s1 (by omega) (by rw [List.length_append, List.length_cons, List.length_nil]; omega) (app 0 (by omega)) (by omega) (by omega)
      refine ⟨r, w, p', s', ⟨hr.1, hr.2.1, hr.2.2.1, by omega, by omega⟩, Ev.step (fun k => ?_) hE⟩
      simp only [spec_l26New.l0, spec_l00Src_one.f]
      rw [if_pos (by omega), e1]
      simp only [Option.bind_some, hc, if_true]
      rw [if_pos (by omega), hcast]
    | false =>
      obtain ⟨r2, p2, s2, e2, hr2, hp2⟩ := pick_ok hb hl p1 s1 24 (by omega) (by omega) (by omega)
      obtain ⟨r, w, p', s', hr, hE⟩ := ih (xs ++ [30 * r2]) p2 s2 (by omega) (by rw [List.length_append, List.length_cons, List.length_nil]; omega) (app _ (by omega)) (by omega) (by omega)
      refine ⟨r, w, p', s', ⟨hr.1, hr.2.1, hr.2.2.1, by omega, by omega⟩, Ev.step (fun k => ?_) hE⟩
      simp only [spec_l26New.l0, spec_l00Src_one.f]
      rw [if_pos (by omega), e1]
      simp only [Option.bind_some, hc, Bool.false_eq_true, if_false]
      rw [e2]
      simp only [Option.bind_some]
      rw [if_pos (by omega), hcast, w64 (x := 30 * r2) (by omega) (by omega)]
theorem new_hand {b : List Int} (hb : Bytes b) (hl : b.length ≤ 3000) (nm : ByteArray) (p s : Int) (h0 : 0 ≤ p) (h1 : p ≤ 800000) : ∃ r w p' s', (goodM r ∧ 0 ≤ w ∧ w ≤ 3900 ∧ p ≤ p' ∧ p' ≤ p + 30) ∧ Ev (fun k => spec_l26New.f k b p s nm) (nm, r, w, p', s') := by
  obtain ⟨r1, p1, s1, e1, hr1, hp1⟩ := pick_ok hb hl p s 7 h0 (by omega) (by omega)
  obtain ⟨n, rfl⟩ := Int.eq_ofNat_of_zero_le hr1.1
  obtain ⟨r, w, p', s', hr, hE⟩ := draw_m hb hl nm n [] p1 s1 (by omega) (by simp; omega) ⟨by simp, by simp⟩ (by omega) (by omega)
  refine ⟨r, w, p', s', ⟨hr.1, hr.2.1, hr.2.2.1, by omega, by omega⟩, Ev.congr (fun k => ?_) hE⟩
  unfold spec_l26New.f
  rw [e1]
  rfl
def goodHs (l : List IT) : Prop := l.length ≤ 6 ∧ (∀ x ∈ l, goodH x) ∧ ∀ (i : Nat) (hi : i < l.length), (l[i]).f0 = nms.getD i ByteArray.empty
theorem draw_h {b : List Int} (hb : Bytes b) (hl : b.length ≤ 3000) : ∀ (n : Nat) (xs : List IT) (p s : Int), n ≤ 6 → xs.length + n ≤ 6 → goodHs xs → 0 ≤ p → p + 40 * n ≤ 1000 →
    ∃ r p' s', goodHs r ∧ Ev (fun k => spec_l26Draw.l0 k nms xs (n : Int) b p s) (r, p', s') := by
  intro n
  induction n with
  | zero =>
    intro xs p s _ hx hg h3 h4
    refine ⟨xs, p, s, hg, Ev.const fun k => ?_⟩
    simp only [spec_l26Draw.l0]
    rw [if_neg (by omega)]
  | succ n ih =>
    intro xs p s hn hx hg h3 h4
    have hlt : xs.length < 6 := by omega
    obtain ⟨r, w, p1, s1, hr, hE⟩ := new_hand hb hl (nms.getD xs.length ByteArray.empty) p s h3 (by omega)
    have hg2 : goodHs (xs ++ [(⟨nms.getD xs.length ByteArray.empty, r, w⟩ : IT)]) := by
      refine ⟨by rw [List.length_append, List.length_cons, List.length_nil]; omega, fun x hx => ?_, fun i hi => ?_⟩
      · rcases List.mem_append.1 hx with h | h
        · exact hg.2.1 x h
        · rw [List.mem_singleton.1 h]; exact ⟨hr.1, hr.2.1, hr.2.2.1⟩
      · rw [List.length_append, List.length_cons, List.length_nil] at hi
        by_cases c : i < xs.length
        · rw [List.getElem_append_left c]; exact hg.2.2 i c
        · obtain rfl : i = xs.length := by omega
          rw [List.getElem_append_right (Nat.le_refl _)]
          simp
    obtain ⟨r3, p3, s3, hg3, hE3⟩ := ih (xs ++ [(⟨nms.getD xs.length ByteArray.empty, r, w⟩ : IT)]) p1 s1 (by omega) (by rw [List.length_append, List.length_cons, List.length_nil]; omega) hg2 (by omega) (by omega)
    obtain ⟨K1, g1⟩ := Ev.pick hE
    obtain ⟨K2, g2⟩ := Ev.pick hE3
    refine ⟨r3, p3, s3, hg3, Ev.intro (K1 + K2 + 1) fun k hk => ?_⟩
    obtain ⟨m, rfl⟩ : ∃ m, k = m + 1 := ⟨k - 1, by omega⟩
    have hcast : wrap64 (((n + 1 : Nat) : Int) - 1) = (n : Int) := by rw [w64 (by omega) (by omega)]; omega
    have hrd : rdOf ByteArray.empty nms (xs.length : Int) = nms.getD xs.length ByteArray.empty := by unfold rdOf; rw [Int.toNat_natCast]
    have hnl := nms_len
    simp only [spec_l26Draw.l0]
    rw [if_pos (by omega), if_pos (by omega), if_pos (by omega), hrd, g1 m (by omega)]
    simp only [Option.bind_some]
    rw [if_pos (by omega), hcast]
    exact g2 m (by omega)
theorem hands_drawn {b : List Int} (hb : Bytes b) (hl : b.length ≤ 3000) : ∃ r, goodHs r ∧ Ev (fun k => spec_A2Hands.f k b) r := by
  obtain ⟨r1, p1, s1, e1, hr1, hp1⟩ := pick_ok hb hl 0 0 7 (by omega) (by omega) (by omega)
  obtain ⟨n, rfl⟩ := Int.eq_ofNat_of_zero_le hr1.1
  obtain ⟨r, p', s', hg, hE⟩ := draw_h hb hl n [] p1 s1 (by omega) (by simp; omega) ⟨by simp, by simp, fun i hi => absurd hi (by simp)⟩ (by omega) (by omega)
  obtain ⟨K, g⟩ := Ev.pick hE
  refine ⟨r, hg, Ev.intro K fun k hk => ?_⟩
  unfold spec_A2Hands.f spec_l00From.f spec_l26Draw.f
  simp only [Option.bind_some]
  rw [e1]
  simp only [Option.bind_some]
  have := g k hk
  unfold nms at this
  rw [this]
  rfl
theorem good_valid {x : IT} (h : goodH x) (hn : isNameB x.f0 = true) : handV x.f0 x.f1 x.f2 = true := by
  obtain ⟨⟨a, b⟩, c, d⟩ := h
  unfold handV
  rw [hn, decide_eq_true (by omega), decide_eq_true (show 0 ≤ x.f2 ∧ x.f2 ≤ 100000 by omega), Bool.and_true, Bool.and_true, Bool.and_true, List.all_eq_true]
  intro y hy
  have := b y hy
  exact decide_eq_true (by omega)
theorem good_ok {l : List IT} (h : goodHs l) : handsOk (hdI l) l.length = true := by
  rw [handsOk_yes, decide_eq_true_eq]
  · have := h.1; omega
  · intro j hj
    have hl := h.1
    have ej : rd_T33 l (j : Int) = l[j] := rdI l j hj
    unfold fitH hdI
    rw [ej, Bool.and_eq_true]
    refine ⟨good_valid (h.2.1 _ (List.getElem_mem hj)) (by rw [h.2.2 j hj]; exact nms_name j (by omega)), List.all_eq_true.2 fun k hk => ?_⟩
    have hk := List.mem_range.1 hk
    have ek : rd_T33 l (k : Int) = l[k] := rdI l k (by omega)
    simp only
    rw [ek, h.2.2 j hj, h.2.2 k (by omega), nms_ne j (by omega) k hk]
    rfl

/-- The digits of a number, as numbers of bytes; none for 0. -/
def decL (u : Nat) : List Int := if h : u = 0 then [] else decL (u / 10) ++ [(48 + (u % 10 : Nat) : Int)]
termination_by u
decreasing_by omega
theorem decL_zero : decL 0 = [] := by unfold decL; rfl
theorem decL_pos {u : Nat} (h : ¬ u = 0) : decL u = decL (u / 10) ++ [(48 + (u % 10 : Nat) : Int)] := by rw [decL, dif_neg h]
theorem decL_bytes (u : Nat) (h : 0 < u) : (decL u).map (fun n : Int => UInt8.ofNat n.toNat) = Lib.decDigits u := by
  induction u using Nat.strongRecOn with
  | _ u ih =>
    rw [decL_pos (by omega), Lib.decDigits]
    have e : (48 + ((u % 10 : Nat) : Int)).toNat = 48 + u % 10 := by omega
    by_cases h10 : u < 10
    · rw [dif_pos h10, Nat.div_eq_of_lt h10, decL_zero]
      simp only [List.nil_append, List.map_cons, List.map_nil, e]
      rw [Nat.mod_eq_of_lt h10]
    · rw [dif_neg h10, List.map_append, ih (u / 10) (by omega) (by omega)]
      simp only [List.map_cons, List.map_nil, e]
theorem strOfNums_size (xs : List Int) : (strOfNums xs).size = xs.length := by unfold strOfNums; show (Array.size _) = _; simp
def finD (n : Int) (xs : List Int) : ByteArray := if (xs.length : Int) = 0 then (⟨#[48]⟩ : ByteArray) else if n < 0 then (⟨#[45]⟩ : ByteArray) ++ strOfNums xs else strOfNums xs
theorem mod256 {x : Int} (h0 : 0 ≤ x) (h1 : x < 256) : x % 256 = x := Int.emod_eq_of_lt h0 h1
theorem finD_itoa (n : Int) : finD n (decL n.natAbs) = ⟨(Lib.itoa n).toArray⟩ := by
  unfold finD Lib.itoa
  by_cases h0 : n = 0
  · subst h0
    rw [show (0 : Int).natAbs = 0 from rfl, decL_zero]
    rw [if_pos (show (([] : List Int).length : Int) = 0 from rfl), if_neg (by omega)]
    rw [show (0 : Int).toNat = 0 from rfl, Lib.decDigits]
    rfl
  · have hpos : 0 < n.natAbs := by omega
    have hlen : ¬ ((decL n.natAbs).length : Int) = 0 := by
      rw [decL_pos (by omega), List.length_append]
      simp only [List.length_cons, List.length_nil]
      omega
    rw [if_neg hlen]
    have hs : strOfNums (decL n.natAbs) = ⟨(Lib.decDigits n.natAbs).toArray⟩ := by
      unfold strOfNums
      rw [decL_bytes _ hpos]
    rw [hs]
    by_cases hn : n < 0
    · rw [if_pos hn, if_pos hn]
      apply ByteArray.ext
      rw [ByteArray.data_append]
      simp
    · rw [if_neg hn, if_neg hn]
      have : n.toNat = n.natAbs := by omega
      rw [this]
/-- A number in decimal. -/
def dec (n : Int) : ByteArray := ⟨(Lib.itoa n).toArray⟩
theorem dec_size (n : Int) (h0 : -9223372036854775808 ≤ n) (h1 : n ≤ 9223372036854775807) : (dec n).size ≤ 21 := by
  have := Lib.itoa_length_le n h0 h1
  show (Lib.itoa n).toArray.size ≤ 21
  rw [List.size_toArray]
  exact this

theorem dec_impl (n : Int) (h0 : -9223372036854775808 ≤ n) (h1 : n ≤ 9223372036854775807) : impl_Decimal.f n = some (dec n) := by
  unfold impl_Decimal.f strconv_FormatInt.f
  rw [if_pos ⟨rfl, h0, h1⟩]
  rfl

/-- A number, a sign and two digits. -/
def twoT (c : ByteArray) (q a b : Nat) : ByteArray := ((dec (q : Int) ++ c) ++ dec (a : Int)) ++ dec (b : Int)
theorem dec_sz (n : Nat) (h : n ≤ 100000000) : (dec (n : Int)).size ≤ 21 := dec_size _ (by omega) (by omega)

def clockT (n : Nat) : ByteArray := twoT ⟨#[58]⟩ (n / 60) (n % 60 / 10) (n % 10)
def clockOr (n : Nat) : ByteArray := if n ≤ 20000 then clockT n else ⟨#[]⟩
theorem clock_impl (n : Nat) (hn : n ≤ 200000000) : impl_ClockText.f (n : Int) = some (clockOr n) := by
  unfold clockOr
  by_cases h : n ≤ 20000
  · rw [if_pos h]
    have z1 := dec_sz (n / 60) (by omega)
    have z2 := dec_sz (n % 60 / 10) (by omega)
    have z3 := dec_sz (n % 10) (by omega)
    have e1 : wrap64 (Int.tdiv (n : Int) 60) = ((n / 60 : Nat) : Int) := by rw [tdiv_nn (by omega)]; rw [w64 (by omega) (by omega)]; omega
    have e2 : wrap64 (Int.tdiv (Int.tmod (n : Int) 60) 10) = ((n % 60 / 10 : Nat) : Int) := by rw [tmod_nn (by omega), tdiv_nn (by omega), w64 (by omega) (by omega)]; omega
    have e3 : Int.tmod (Int.tmod (n : Int) 60) 10 = ((n % 10 : Nat) : Int) := by rw [show Int.tmod (n : Int) 60 = ((n % 60 : Nat) : Int) by rw [tmod_nn (by omega)]; omega, tmod_nn (by omega)]; omega
    have s1 : (⟨#[58]⟩ : ByteArray).size = 1 := rfl
    unfold impl_ClockText.f impl_within.f impl_twoDigits.f
    rw [if_pos (show (n : Int) ≥ 0 by omega), e1, e2, e3, dec_impl _ (by omega) (by omega), dec_impl _ (by omega) (by omega), dec_impl _ (by omega) (by omega)]
    simp only [Option.bind_some, decide_eq_true_eq, ByteArray.size_append, s1]
    rw [if_pos (by omega), if_pos (by omega), if_pos (by omega)]
    simp only [Option.bind_some, ByteArray.size_append, s1]
    rw [if_pos (by omega)]
    unfold clockT twoT
    rw [ByteArray.append_assoc, ByteArray.append_assoc, ByteArray.append_assoc]
  · rw [if_neg h]
    unfold impl_ClockText.f impl_within.f
    rw [if_pos (show (n : Int) ≥ 0 by omega)]
    simp only [Option.bind_some, decide_eq_true_eq]
    rw [if_neg (by omega)]

theorem bt_list (s : ByteArray) (i : Nat) (h : i < s.data.toList.length) : bt s (i : Int) = ((s.data.toList[i]).toNat : Int) := by
  unfold bt
  have h2 : i < s.size := by simpa using h
  rw [dif_pos (by simpa using h2)]
  rfl
theorem size_list (s : ByteArray) : s.size = s.data.toList.length := by rw [Array.length_toList]; rfl
/-- Two texts are one where their bytes are. -/
theorem bytes_ext {a b : ByteArray} (h : a.data.toList = b.data.toList) : a = b := by
  have h3 : a.data = b.data := Array.toList_inj.mp h
  cases a; cases b; exact congrArg ByteArray.mk h3
theorem toList_iff {a b : ByteArray} : a.toList = b.toList ↔ a = b := by
  constructor
  · intro h
    rw [ByteArray.toList_eq, ByteArray.toList_eq] at h
    exact bytes_ext h
  · intro h; rw [h]
def valL (l : List UInt8) : Int := l.foldl (fun a b => 10 * a + ((b.toNat : Int) - 48)) 0
theorem valL_snoc (l : List UInt8) (b : UInt8) : valL (l ++ [b]) = 10 * valL l + ((b.toNat : Int) - 48) := by unfold valL; rw [List.foldl_append]; rfl
def valD (t : ByteArray) (i : Nat) : Int := valL (t.data.toList.take i)
theorem valD_succ (t : ByteArray) (i : Nat) (h : i < t.size) : valD t (i + 1) = 10 * valD t i + (bt t (i : Int) - 48) := by
  have h2 : i < t.data.toList.length := by rw [← size_list]; exact h
  unfold valD
  rw [List.take_succ_eq_append_getElem h2, valL_snoc, bt_list t i h2]
def digitB (b : Int) : Bool := decide (48 ≤ b ∧ b ≤ 57)
def allD (t : ByteArray) : Bool := (List.range t.size).all fun i => digitB (bt t (i : Int))
theorem valD_bd (t : ByteArray) : ∀ (i : Nat), i ≤ t.size → (∀ j, j < i → digitB (bt t (j : Int)) = true) → 0 ≤ valD t i ∧ valD t i < (10 ^ i : Nat)
  | 0, _, _ => by simp [valD, valL]
  | i + 1, hi, hd => by
    have ih := valD_bd t i (by omega) (fun j hj => hd j (by omega))
    have h := of_decide_eq_true (hd i (by omega))
    rw [valD_succ t i (by omega), Nat.pow_succ]
    omega
theorem pow_le18 {i : Nat} (h : i ≤ 18) : 10 ^ i ≤ 1000000000000000000 := by
  have := Nat.pow_le_pow_right (n := 10) (by omega) h
  simpa using this
/-- What stands behind a sign. -/
def bare (s : ByteArray) : ByteArray := if 0 < s.size ∧ bt s 0 = 45 then s.extract 1 s.size else s
theorem bare_size (s : ByteArray) : (bare s).size ≤ s.size := by
  unfold bare
  split
  · rw [ByteArray.size_extract]; omega
  · exact Nat.le_refl _
def numAt (s : ByteArray) (n : Int) : Int × Bool := if dec n = s then (n, true) else (0, false)
def numEnd (s t : ByteArray) : Int × Bool := numAt s (if t.size < s.size then -valD t t.size else valD t t.size)
/-- The number with a decimal form. -/
def numV (s : ByteArray) : Int × Bool := if (bare s).size < 1 ∨ 18 < (bare s).size then (0, false) else if allD (bare s) = true then numEnd s (bare s) else (0, false)
theorem numAt_sound {s : ByteArray} {n : Int} (h : (numAt s n).2 = true) : dec (numAt s n).1 = s := by
  unfold numAt at h ⊢
  by_cases c : dec n = s
  · rw [if_pos c]; exact c
  · rw [if_neg c] at h; cases h
theorem numV_sound {s : ByteArray} (h : (numV s).2 = true) : dec (numV s).1 = s := by
  unfold numV at h ⊢
  by_cases c : (bare s).size < 1 ∨ 18 < (bare s).size
  · rw [if_pos c] at h; cases h
  · rw [if_neg c] at h ⊢
    by_cases c2 : allD (bare s) = true
    · rw [if_pos c2] at h ⊢
      exact numAt_sound h
    · rw [if_neg c2] at h; cases h
theorem numAt_bd {s : ByteArray} {n : Int} (h0 : -1000000000000000000 ≤ n) (h1 : n ≤ 1000000000000000000) : -1000000000000000000 ≤ (numAt s n).1 ∧ (numAt s n).1 ≤ 1000000000000000000 := by
  unfold numAt
  by_cases c : dec n = s
  · rw [if_pos c]; exact ⟨h0, h1⟩
  · rw [if_neg c]; simp
theorem numV_bd (s : ByteArray) : -1000000000000000000 ≤ (numV s).1 ∧ (numV s).1 ≤ 1000000000000000000 := by
  unfold numV
  by_cases c : (bare s).size < 1 ∨ 18 < (bare s).size
  · rw [if_pos c]; simp
  · rw [if_neg c]
    by_cases c2 : allD (bare s) = true
    · rw [if_pos c2]
      have h := valD_bd (bare s) (bare s).size (Nat.le_refl _) (fun j hj => List.all_eq_true.1 c2 j (List.mem_range.2 hj))
      have hp := pow_le18 (i := (bare s).size) (by omega)
      unfold numEnd
      split
      · exact numAt_bd (by omega) (by omega)
      · exact numAt_bd (by omega) (by omega)
    · rw [if_neg c2]; simp
theorem dec_digits {u : Nat} : ∀ b ∈ Lib.decDigits u, 48 ≤ b.toNat ∧ b.toNat ≤ 57 := by
  induction u using Nat.strongRecOn with
  | _ u ih =>
    intro b hb
    rw [Lib.decDigits] at hb
    split at hb
    · rename_i h10
      rw [List.mem_singleton] at hb
      subst hb
      rw [UInt8.toNat_ofNat']
      omega
    · rename_i h10
      rw [List.mem_append] at hb
      rcases hb with hb | hb
      · exact ih (u / 10) (by omega) b hb
      · rw [List.mem_singleton] at hb
        subst hb
        rw [UInt8.toNat_ofNat']
        omega
theorem dec_val (u : Nat) : valL (Lib.decDigits u) = u := by
  induction u using Nat.strongRecOn with
  | _ u ih =>
    rw [Lib.decDigits]
    split
    · rename_i h10
      show 10 * 0 + (((UInt8.ofNat (48 + u)).toNat : Int) - 48) = u
      rw [UInt8.toNat_ofNat']
      omega
    · rename_i h10
      rw [valL_snoc, ih (u / 10) (by omega), UInt8.toNat_ofNat']
      omega
theorem nDigits_le : ∀ (m u : Nat), u < 10 ^ (m + 1) → Lib.nDigits u ≤ m + 1
  | 0, u, h => by rw [Lib.nDigits_small (by simpa using h)]; omega
  | m + 1, u, h => by
    by_cases h10 : u < 10
    · rw [Lib.nDigits_small h10]; omega
    · rw [Lib.nDigits_big h10]
      rw [Nat.pow_succ] at h
      have := nDigits_le m (u / 10) (by omega)
      omega
/-- A number that is not negative, written and read back. -/
theorem numV_dec (n : Nat) (h : n < 1000000000000000000) : numV (dec (n : Int)) = ((n : Int), true) := by
  have hl : (dec (n : Int)).data.toList = Lib.decDigits n := by
    show (Lib.itoa (n : Int)).toArray.toList = _
    rw [Lib.itoa_nonneg]
  have hsz : (dec (n : Int)).size = Lib.nDigits n := by rw [size_list, hl, Lib.decDigits_length]
  have hn18 := nDigits_le 17 n (by omega)
  have hn1 := Lib.nDigits_pos n
  have hd : ∀ j, j < (dec (n : Int)).size → digitB (bt (dec (n : Int)) (j : Int)) = true := by
    intro j hj
    have hj2 : j < (dec (n : Int)).data.toList.length := by rw [← size_list]; exact hj
    rw [bt_list _ j hj2]
    have := dec_digits (u := n) ((dec (n : Int)).data.toList[j]) (by rw [← hl]; exact List.getElem_mem hj2)
    exact decide_eq_true (by omega)
  have hb : bare (dec (n : Int)) = dec (n : Int) := by
    unfold bare
    rw [if_neg]
    rintro ⟨g0, g1⟩
    have := of_decide_eq_true (hd 0 g0)
    rw [show ((0 : Nat) : Int) = 0 from rfl] at this
    omega
  have hv : valD (dec (n : Int)) (dec (n : Int)).size = n := by
    unfold valD
    rw [size_list, List.take_length, hl, dec_val]
  unfold numV
  rw [hb, if_neg (by omega), if_pos (show allD (dec (n : Int)) = true from List.all_eq_true.2 fun j hj => hd j (List.mem_range.1 hj))]
  unfold numEnd numAt
  rw [if_neg (Nat.lt_irrefl _), hv, if_pos rfl]

theorem num_loop_impl (s t : ByteArray) (h18 : t.size ≤ 18) (hts : t.size ≤ s.size) : Ev (fun k => impl_ReadDecimal.l0 k s t 0 0) (if allD t = true then numEnd s t else (0, false)) := by
  have key : ∀ (d i : Nat), i + d = t.size → (∀ j, j < i → digitB (bt t (j : Int)) = true) → Ev (fun k => impl_ReadDecimal.l0 k s t (valD t i) i) (if allD t = true then numEnd s t else (0, false)) := by
    intro d
    induction d with
    | zero =>
      intro i hi hd
      obtain rfl : i = t.size := by omega
      have ha : allD t = true := List.all_eq_true.2 fun j hj => hd j (List.mem_range.1 hj)
      have hb := valD_bd t t.size (Nat.le_refl _) hd
      have hp := pow_le18 h18
      rw [if_pos ha]
      unfold numEnd numAt
      by_cases c : t.size < s.size
      · rw [if_pos c]
        refine Ev.const fun k => ?_
        simp only [impl_ReadDecimal.l0]
        rw [if_neg (by omega), if_pos (by omega), w64 (x := -valD t t.size) (by omega) (by omega), dec_impl (-valD t t.size) (by omega) (by omega)]
        simp only [Option.bind_some, toList_iff]
        split <;> rfl
      · rw [if_neg c]
        refine Ev.const fun k => ?_
        simp only [impl_ReadDecimal.l0]
        rw [if_neg (by omega), if_neg (by omega), dec_impl (valD t t.size) (by omega) (by omega)]
        simp only [Option.bind_some, toList_iff]
        split <;> rfl
    | succ d ih =>
      intro i hi hd
      have hb := valD_bd t i (by omega) hd
      have hp := pow_le18 (i := i) (by omega)
      have hr := bt_range t (i : Int)
      cases hdi : digitB (bt t (i : Int)) with
      | true =>
        have hdig := of_decide_eq_true hdi
        have ih2 := ih (i + 1) (by omega) (fun j hj => by
          by_cases e : j = i
          · subst e; exact hdi
          · exact hd j (by omega))
        refine Ev.step (fun k => ?_) ih2
        simp only [impl_ReadDecimal.l0]
        rw [if_pos (by omega), if_pos (by omega), if_neg (by omega), if_neg (by omega)]
        have hps : (10 ^ i : Nat) ≤ 100000000000000000 := by
          have := Nat.pow_le_pow_right (n := 10) (by omega) (show i ≤ 17 by omega)
          simpa using this
        rw [valD_succ t i (by omega), mod256 (by omega) (by omega), w64 (x := 10 * valD t i) (by omega) (by omega), w64 (x := 10 * valD t i + _) (by omega) (by omega), w64 (x := (i : Int) + 1) (by omega) (by omega)]
        rfl
      | false =>
        have ha : ¬ allD t = true := fun g => by
          have := List.all_eq_true.1 g i (List.mem_range.2 (by omega))
          rw [hdi] at this
          cases this
        rw [if_neg ha]
        have hdig := of_decide_eq_false hdi
        refine Ev.const fun k => ?_
        simp only [impl_ReadDecimal.l0]
        rw [if_pos (by omega), if_pos (by omega)]
        by_cases c : bt t (i : Int) < 48
        · rw [if_pos c]
        · rw [if_neg c, if_pos (by omega)]
  exact key t.size 0 (by omega) (fun j hj => absurd hj (Nat.not_lt_zero _))
theorem prefix_one (s : ByteArray) : strings_TrimPrefix.f s (⟨#[45]⟩ : ByteArray) = some (bare s) := by
  unfold strings_TrimPrefix.f stringslite_TrimPrefix.f stringslite_HasPrefix.f
  have z : (⟨#[45]⟩ : ByteArray).size = 1 := rfl
  rw [z]
  by_cases h0 : s.size = 0
  · rw [if_neg (by omega)]
    simp only [Option.bind_some, Bool.false_eq_true, if_false]
    unfold bare
    rw [if_neg (by omega)]
  · rw [if_pos (by omega), if_pos (by omega), if_pos (by omega)]
    simp only [Option.bind_some]
    have e1 : ((1 : Nat) : Int).toNat = 1 := rfl
    rw [e1]
    have hl : 0 < s.data.toList.length := by rw [← size_list]; omega
    have hb0 := bt_list s 0 hl
    have key : (((s.extract 0 1).toList == (⟨#[45]⟩ : ByteArray).toList) = true) ↔ bt s 0 = 45 := by
      rw [beq_iff_eq, toList_iff]
      have hx : (s.extract 0 1).data.toList = [s.data.toList[0]] := by
        rw [Lib.extract_data]
        rw [List.drop_zero, Nat.sub_zero, List.take_succ_eq_append_getElem hl, List.take_zero]
        rfl
      rw [show (0 : Int) = ((0 : Nat) : Int) from rfl, hb0]
      constructor
      · intro g
        rw [g] at hx
        have h2 : [(45 : UInt8)] = [s.data.toList[0]] := hx
        have h3 : (45 : UInt8) = s.data.toList[0] := by simpa using h2
        rw [← h3]; rfl
      · intro g
        apply bytes_ext
        rw [hx]
        show [s.data.toList[0]] = [(45 : UInt8)]
        have h3 : s.data.toList[0] = 45 := UInt8.toNat_inj.mp (by
          have : (s.data.toList[0]).toNat = 45 := by omega
          rw [this]; rfl)
        rw [h3]
    unfold bare
    by_cases h45 : bt s 0 = 45
    · have hb := key.mpr h45
      rw [hb]
      simp only [if_true]
      rw [if_pos (by omega), if_pos (by omega), if_pos ⟨by omega, h45⟩]
      rfl
    · have hb : ((s.extract 0 1).toList == (⟨#[45]⟩ : ByteArray).toList) = false := Bool.eq_false_iff.mpr fun g => h45 (key.mp g)
      rw [hb]
      simp only [Bool.false_eq_true, if_false]
      rw [if_neg (fun g => h45 g.2)]
      rfl
theorem num_impl (s : ByteArray) (hs : s.size ≤ 140737488351232) : Ev (fun k => impl_ReadDecimal.f k s) (numV s) := by
  have ht := bare_size s
  unfold numV
  have h1 : ∀ k, impl_ReadDecimal.f k s = if ((bare s).size : Int) < 1 then impl_ReadDecimal.j0 k s (bare s) true else impl_ReadDecimal.j0 k s (bare s) (decide (((bare s).size : Int) > 18)) := by
    intro k
    unfold impl_ReadDecimal.f
    rw [prefix_one]
    rfl
  generalize bare s = t at *
  by_cases c1 : t.size < 1
  · rw [if_pos (.inl c1)]
    refine Ev.const fun k => ?_
    rw [h1, if_pos (by omega)]
    simp only [impl_ReadDecimal.j0, if_true]
  · by_cases c2 : 18 < t.size
    · rw [if_pos (.inr c2)]
      refine Ev.const fun k => ?_
      rw [h1, if_neg (by omega), decide_eq_true (by omega)]
      simp only [impl_ReadDecimal.j0, if_true]
    · rw [if_neg (by omega)]
      refine Ev.step (fun k => ?_) (num_loop_impl s t (by omega) ht)
      rw [h1, if_neg (by omega), decide_eq_false (by omega)]
      simp only [impl_ReadDecimal.j0, Bool.false_eq_true, if_false]

theorem app_list (a b : ByteArray) : (a ++ b).data.toList = a.data.toList ++ b.data.toList := by rw [ByteArray.data_append, Array.toList_append]
theorem ext_list (s : ByteArray) (i j : Nat) : (s.extract i j).data.toList = (s.data.toList.drop i).take (j - i) := Lib.extract_data s i j
theorem dec_list (n : Nat) : (dec (n : Int)).data.toList = Lib.decDigits n := by
  show (Lib.itoa (n : Int)).toArray.toList = _
  rw [Lib.itoa_nonneg]
theorem digit_ne {u : Nat} {b c : UInt8} (hb : b ∈ Lib.decDigits u) (hc : c.toNat < 48 ∨ 57 < c.toNat) : ¬ b = c := by
  intro e
  have := dec_digits b hb
  subst e
  omega
theorem bt_byte {s : ByteArray} {l : List UInt8} (h : s.data.toList = l) (j : Nat) (hj : j < l.length) : bt s (j : Int) = ((l[j]).toNat : Int) := by
  subst h
  exact bt_list s j hj
theorem index_at (D R : List UInt8) (c : UInt8) (h : ∀ b ∈ D, ¬ b = c) : Lib.index (D ++ c :: R) [c] = (D.length : Int) := by
  induction D with
  | nil => simp [Lib.index]
  | cons b D ih =>
    have hb : ¬ b = c := h b List.mem_cons_self
    have ih := ih (fun x hx => h x (List.mem_cons_of_mem _ hx))
    rw [List.cons_append, Lib.index]
    have hp : [c].isPrefixOf (b :: (D ++ c :: R)) = false := by
      simp only [List.isPrefixOf, Bool.and_true]
      exact beq_eq_false_iff_ne.mpr fun e => hb e.symm
    rw [hp, ih]
    have h1 : (((D.length : Int)) == -1) = false := by
      apply beq_eq_false_iff_ne.mpr
      omega
    rw [h1]
    simp
theorem cut_hit (D R : List UInt8) (c : UInt8) (h : ∀ b ∈ D, ¬ b = c) : Lib.cut (D ++ c :: R) [c] = (D, R, true) := by
  unfold Lib.cut
  rw [index_at D R c h, if_pos (by omega)]
  rw [Int.toNat_natCast, List.take_left]
  rw [show D ++ c :: R = (D ++ [c]) ++ R by simp, show D.length + [c].length = (D ++ [c]).length by simp, List.drop_left]
theorem cut_len (l : List UInt8) (c : List UInt8) : (Lib.cut l c).1.length ≤ l.length ∧ (Lib.cut l c).2.1.length ≤ l.length := by
  unfold Lib.cut
  split
  · exact ⟨by simp only [List.length_take]; omega, by simp only [List.length_drop]; omega⟩
  · simp
theorem mk_size (l : List UInt8) : (⟨l.toArray⟩ : ByteArray).size = l.length := by show l.toArray.size = _; rw [List.size_toArray]
theorem mk_list (l : List UInt8) : (⟨l.toArray⟩ : ByteArray).data.toList = l := rfl
/-- A text's parts between signs, the part that is under way ahead. -/
def splitA : List UInt8 → List UInt8 → UInt8 → List (List UInt8)
  | P, [], _ => [P]
  | P, b :: r, c => if b = c then P :: splitA [] r c else splitA (P ++ [b]) r c
theorem splitA_ne (c : UInt8) : ∀ (l P : List UInt8), splitA P l c ≠ []
  | [], P => by unfold splitA; exact List.cons_ne_nil _ _
  | b :: r, P => by
    unfold splitA
    split
    · exact List.cons_ne_nil _ _
    · exact splitA_ne c r _
theorem splitA_len (c : UInt8) : ∀ (l P : List UInt8), (splitA P l c).length ≤ l.length + 1
  | [], P => by simp [splitA]
  | b :: r, P => by
    unfold splitA
    split
    · have := splitA_len c r []
      simp only [List.length_cons]; omega
    · have := splitA_len c r (P ++ [b])
      simp only [List.length_cons]; omega
theorem splitA_no (c : UInt8) : ∀ (l P : List UInt8), (∀ b ∈ l, ¬ b = c) → splitA P l c = [P ++ l]
  | [], P, _ => by simp [splitA]
  | b :: r, P, h => by
    rw [splitA, if_neg (h b List.mem_cons_self), splitA_no c r _ (fun x hx => h x (List.mem_cons_of_mem _ hx))]
    simp
theorem splitA_hit (c : UInt8) (R : List UInt8) : ∀ (D P : List UInt8), (∀ b ∈ D, ¬ b = c) → splitA P (D ++ c :: R) c = (P ++ D) :: splitA [] R c
  | [], P, _ => by rw [List.nil_append, splitA, if_pos rfl, List.append_nil]
  | b :: D, P, h => by
    rw [List.cons_append, splitA, if_neg (h b List.mem_cons_self), splitA_hit c R D _ (fun x hx => h x (List.mem_cons_of_mem _ hx))]
    simp
theorem splitA_one (c : UInt8) : ∀ (l P x : List UInt8), splitA P l c = [x] → x = P ++ l
  | [], P, x, h => by
    rw [splitA] at h
    rw [List.append_nil]
    exact (List.cons.inj h).1.symm
  | b :: r, P, x, h => by
    rw [splitA] at h
    by_cases e : b = c
    · rw [if_pos e] at h
      exact absurd (List.cons.inj h).2 (splitA_ne c r [])
    · rw [if_neg e] at h
      rw [splitA_one c r _ x h]
      simp
theorem splitA_two (c : UInt8) : ∀ (l P x y : List UInt8), splitA P l c = [x, y] → P ++ l = x ++ c :: y
  | [], P, x, y, h => by rw [splitA] at h; exact absurd (congrArg List.length h) (by simp)
  | b :: r, P, x, y, h => by
    rw [splitA] at h
    by_cases e : b = c
    · rw [if_pos e] at h
      have h2 := List.cons.inj h
      have := splitA_one c r [] y h2.2
      rw [this, h2.1, e, List.nil_append]
    · rw [if_neg e] at h
      have := splitA_two c r _ x y h
      rw [← this]
      simp
def asText (l : List UInt8) : ByteArray := ⟨l.toArray⟩
theorem dec_one (a : Nat) (h : a < 10) : (dec (a : Int)).data.toList = [UInt8.ofNat (48 + a)] := by
  rw [dec_list, Lib.decDigits, dif_pos h]
theorem two_list (c q a b : Nat) (cs : ByteArray) (cb : UInt8) (hc : cs.data.toList = [cb]) (ha : a < 10) (hb : b < 10) : (twoT cs q a b).data.toList = Lib.decDigits q ++ cb :: [UInt8.ofNat (48 + a), UInt8.ofNat (48 + b)] := by
  unfold twoT
  rw [app_list, app_list, app_list, dec_list, hc, dec_one a ha, dec_one b hb]
  simp
theorem clock_list (n : Nat) : (clockT n).data.toList = Lib.decDigits (n / 60) ++ 58 :: [UInt8.ofNat (48 + n % 60 / 10), UInt8.ofNat (48 + n % 10)] :=
  two_list 0 _ _ _ _ 58 rfl (by omega) (by omega)
theorem of_inj {a b : Nat} (ha : a < 10) (hb : b < 10) (h : UInt8.ofNat (48 + a) = UInt8.ofNat (48 + b)) : a = b := by
  have := congrArg UInt8.toNat h
  rw [UInt8.toNat_ofNat', UInt8.toNat_ofNat'] at this
  omega
theorem clock_inj {n m : Nat} (hq : n / 60 = m / 60) (h : clockT n = clockT m) : n = m := by
  have := congrArg (fun x : ByteArray => x.data.toList) h
  simp only [clock_list] at this
  rw [hq] at this
  have h2 := List.append_cancel_left this
  have h3 := (List.cons.inj h2).2
  have h4 := List.cons.inj h3
  have h5 := (List.cons.inj h4.2).1
  have e1 := of_inj (by omega) (by omega) h4.1
  have e2 := of_inj (by omega) (by omega) h5
  omega
theorem loop_miss (s : ByteArray) (h : Nat) (hh : h ≤ 333) : ∀ (d c : Nat), c + d = 60 * h + 60 → (∀ j, c ≤ j → j < 60 * h + 60 → ¬ clockOr j = s) → Ev (fun k => impl_ReadClock.l0 k s (h : Int) (c : Int)) (0, false)
  | 0, c, hc, _ => by
    refine Ev.const fun k => ?_
    simp only [impl_ReadClock.l0]
    rw [w64 (x := (h : Int) * 60) (by omega) (by omega), w64 (by omega) (by omega), if_neg (by omega)]
  | d + 1, c, hc, hn => by
    refine Ev.step (fun k => ?_) (loop_miss s h hh d (c + 1) (by omega) (fun j h1 h2 => hn j (by omega) h2))
    simp only [impl_ReadClock.l0]
    rw [w64 (x := (h : Int) * 60) (by omega) (by omega), w64 (x := (h : Int) * 60 + 60) (by omega) (by omega), if_pos (by omega), clock_impl c (by omega), Option.bind_some, if_neg (fun g => hn c (Nat.le_refl _) (by omega) (toList_iff.1 g)), w64 (by omega) (by omega)]
    rfl
theorem loop_hit (s : ByteArray) (h n : Nat) (hh : h ≤ 333) (hn : n < 60 * h + 60) (hs : clockOr n = s) : ∀ (d c : Nat), c + d = n → (∀ j, c ≤ j → j < n → ¬ clockOr j = s) → Ev (fun k => impl_ReadClock.l0 k s (h : Int) (c : Int)) ((n : Int), true)
  | 0, c, hc, _ => by
    obtain rfl : c = n := by omega
    refine Ev.const fun k => ?_
    simp only [impl_ReadClock.l0]
    rw [w64 (x := (h : Int) * 60) (by omega) (by omega), w64 (x := (h : Int) * 60 + 60) (by omega) (by omega), if_pos (by omega), clock_impl c (by omega), Option.bind_some, if_pos (toList_iff.2 hs)]
  | d + 1, c, hc, hno => by
    refine Ev.step (fun k => ?_) (loop_hit s h n hh hn hs d (c + 1) (by omega) (fun j h1 h2 => hno j (by omega) h2))
    simp only [impl_ReadClock.l0]
    rw [w64 (x := (h : Int) * 60) (by omega) (by omega), w64 (x := (h : Int) * 60 + 60) (by omega) (by omega), if_pos (by omega), clock_impl c (by omega), Option.bind_some, if_neg (fun g => hno c (Nat.le_refl _) (by omega) (toList_iff.1 g)), w64 (by omega) (by omega)]
    rfl
theorem impl_hit (n : Nat) (hn : n ≤ 20000) : Ev (fun k => impl_ReadClock.f k (clockT n)) ((n : Int), true) := by
  have hl := clock_list n
  have hcut := cut_hit (Lib.decDigits (n / 60)) [UInt8.ofNat (48 + n % 60 / 10), UInt8.ofNat (48 + n % 10)] 58 (fun b hb => digit_ne hb (Or.inr (by decide)))
  have hx : (⟨(Lib.decDigits (n / 60)).toArray⟩ : ByteArray) = dec ((n / 60 : Nat) : Int) := bytes_ext (by rw [dec_list])
  have hz1 := dec_sz (n / 60) (by omega)
  have hs : (clockT n).size < 4294967281 := by
    have := dec_sz (n % 60 / 10) (by omega)
    have := dec_sz (n % 10) (by omega)
    unfold clockT twoT
    rw [ByteArray.size_append, ByteArray.size_append, ByteArray.size_append, show (⟨#[58]⟩ : ByteArray).size = 1 from rfl]
    omega
  obtain ⟨K1, g1⟩ := Ev.pick (num_impl (dec ((n / 60 : Nat) : Int)) (by omega))
  rw [numV_dec _ (by omega)] at g1
  have e : ∀ m, m ≤ 20000 → clockOr m = clockT m := fun m hm => if_pos hm
  obtain ⟨K2, g2⟩ := Ev.pick (loop_hit (clockT n) (n / 60) n (by omega) (by omega) (e n hn) (n - 60 * (n / 60)) (60 * (n / 60)) (by omega) (fun j h1 h2 g => by
    rw [e j (by omega)] at g
    have := clock_inj (by omega) g
    omega))
  refine Ev.intro (K1 + K2 + 1) fun k hk => ?_
  obtain ⟨q, rfl⟩ : ∃ q, k = q + 1 := ⟨k - 1, by omega⟩
  unfold impl_ReadClock.f strings_Cut.f impl_within.f
  rw [if_pos hs, hl, show (⟨#[58]⟩ : ByteArray).data.toList = [58] from rfl, hcut]
  simp only [Option.bind_some]
  rw [hx, g1 _ (by omega)]
  simp only [Option.bind_some, if_true]
  rw [if_pos (by omega)]
  simp only [Option.bind_some, decide_eq_true_eq]
  rw [if_pos (by omega)]
  simp only [mk_size, List.length_cons, List.length_nil, impl_ReadClock.j0]
  rw [if_neg (by decide), w64 (by omega) (by omega)]
  have := g2 q (by omega)
  rw [show ((60 * (n / 60) : Nat) : Int) = ((n / 60 : Nat) : Int) * 60 by omega] at this
  exact this

/-- Rising numbers from lo on, below b. -/
def Up (b : Nat) : Nat → List Int → Prop
  | _, [] => True
  | lo, x :: t => ∃ i : Nat, x = (i : Int) ∧ lo ≤ i ∧ i < b ∧ Up b (i + 1) t
def sumOf (F : Nat → Int) (t : List Int) : Int := (t.map fun x => F x.toNat).sum
theorem sumOf_cons (F : Nat → Int) (i : Nat) (t : List Int) : sumOf F ((i : Int) :: t) = F i + sumOf F t := by simp [sumOf]
theorem sumOf_snoc (F : Nat → Int) (t : List Int) (i : Nat) : sumOf F (t ++ [(i : Int)]) = sumOf F t + F i := by simp [sumOf]
theorem Up.low {b : Nat} : ∀ {t : List Int} {lo lo' : Nat}, Up b lo t → lo' ≤ lo → Up b lo' t
  | [], _, _, _, _ => trivial
  | _ :: _, _, _, ⟨i, h1, h2, h3, h4⟩, h => ⟨i, h1, by omega, h3, h4⟩
theorem Up.wide {b b' : Nat} (hb : b ≤ b') : ∀ {t : List Int} {lo : Nat}, Up b lo t → Up b' lo t
  | [], _, _ => trivial
  | _ :: _, _, ⟨i, h1, h2, h3, h4⟩ => ⟨i, h1, h2, by omega, Up.wide hb h4⟩
theorem Up.snoc {b : Nat} : ∀ {t : List Int} {lo : Nat}, Up b lo t → lo ≤ b → Up (b + 1) lo (t ++ [(b : Int)])
  | [], lo, _, hl => ⟨b, rfl, hl, by omega, trivial⟩
  | _ :: _, lo, ⟨i, h1, h2, h3, h4⟩, hl => ⟨i, h1, h2, by omega, Up.snoc h4 (by omega)⟩
theorem Up.len {b : Nat} : ∀ {t : List Int} {lo : Nat}, Up b lo t → lo ≤ b → t.length + lo ≤ b
  | [], lo, _, h => by simp only [List.length_nil]; omega
  | _ :: t, lo, ⟨i, h1, h2, h3, h4⟩, h => by
    have := Up.len h4 (by omega)
    simp only [List.length_cons]; omega
theorem Up.at_ {b : Nat} : ∀ {t : List Int} {lo : Nat}, Up b lo t → ∀ (j : Nat) (h : j < t.length), ∃ i : Nat, t[j] = (i : Int) ∧ lo ≤ i ∧ i < b
  | [], _, _, j, h => absurd h (by simp)
  | _ :: t, lo, ⟨i, h1, h2, h3, h4⟩, 0, _ => ⟨i, h1, h2, h3⟩
  | _ :: t, lo, ⟨i, h1, h2, h3, h4⟩, j + 1, h => by
    obtain ⟨q, e, e1, e2⟩ := Up.at_ h4 j (by simpa using h)
    exact ⟨q, by simpa using e, by omega, e2⟩
theorem Up.next {b : Nat} : ∀ {t : List Int} {lo : Nat}, Up b lo t → ∀ (j : Nat) (h : j + 1 < t.length), t[j] < t[j + 1]
  | [], _, _, j, h => absurd h (by simp)
  | _ :: t, lo, ⟨i, h1, h2, h3, h4⟩, 0, h => by
    obtain ⟨q, e, e1, e2⟩ := Up.at_ h4 0 (by simpa using h)
    subst h1
    have e' : t[0]'(by simpa using h) = (q : Int) := e
    simp only [List.getElem_cons_zero, List.getElem_cons_succ, e']
    omega
  | _ :: t, lo, ⟨i, h1, h2, h3, h4⟩, j + 1, h => by
    have := Up.next h4 j (by simpa using h)
    simpa using this
/-- All from n - d on. -/
def totD (F : Nat → Int) (n : Nat) : Nat → Int
  | 0 => 0
  | d + 1 => F (n - (d + 1)) + totD F n d
def allD_ (n : Nat) : Nat → List Int
  | 0 => []
  | d + 1 => ((n - (d + 1) : Nat) : Int) :: allD_ n d
theorem allD_up (n : Nat) : ∀ d, d ≤ n → Up n (n - d) (allD_ n d)
  | 0, _ => trivial
  | d + 1, h => ⟨n - (d + 1), rfl, Nat.le_refl _, by omega, (allD_up n d (by omega)).low (by omega)⟩
theorem allD_sum (F : Nat → Int) (n : Nat) : ∀ d, sumOf F (allD_ n d) = totD F n d
  | 0 => rfl
  | d + 1 => by
    show sumOf F (((n - (d + 1) : Nat) : Int) :: allD_ n d) = _
    rw [sumOf_cons, allD_sum F n d]; rfl
theorem sum_le_tot {F : Nat → Int} {n : Nat} (hF : ∀ i, i < n → 0 ≤ F i) : ∀ (d : Nat) (t : List Int), d ≤ n → Up n (n - d) t → 0 ≤ sumOf F t ∧ sumOf F t ≤ totD F n d := by
  intro d
  induction d with
  | zero =>
    intro t _ h
    cases t with
    | nil => exact ⟨Int.le_refl _, Int.le_refl _⟩
    | cons x t => obtain ⟨i, h1, h2, h3, h4⟩ := h; omega
  | succ d ih =>
    intro t hd h
    have hq := hF (n - (d + 1)) (by omega)
    cases t with
    | nil =>
      have := ih [] (by omega) trivial
      exact ⟨Int.le_refl _, by simp only [totD]; omega⟩
    | cons x t =>
      obtain ⟨i, rfl, h2, h3, h4⟩ := h
      by_cases e : i = n - (d + 1)
      · have := ih t (by omega) (h4.low (by omega))
        rw [sumOf_cons, e]
        simp only [totD]
        omega
      · have := ih ((i : Int) :: t) (by omega) ⟨i, rfl, by omega, h3, h4⟩
        simp only [totD]
        omega
theorem tot_mono {F : Nat → Int} {n : Nat} {B : Int} (hF : ∀ i, i < n → 0 ≤ F i ∧ F i ≤ B) : ∀ d, d ≤ n → 0 ≤ totD F n d ∧ totD F n d ≤ B * d
  | 0, _ => by simp [totD]
  | d + 1, h => by
    have h1 := tot_mono hF d (by omega)
    have h2 := hF (n - (d + 1)) (by omega)
    simp only [totD, Int.natCast_add, Int.mul_add, Int.natCast_one, Int.mul_one]
    omega
section
variable {M P : Nat → Int} {need : Int} {n : Nat} (hM : ∀ i, i < n → 0 ≤ M i) (hP : ∀ i, i < n → 0 ≤ P i)
/-- What was found: nothing, or rising hands with enough minutes, and their pay. -/
def Found (M P : Nat → Int) (need : Int) (n : Nat) (s : List Int × Int) : Prop := (s.2 < 0) ∨ (Up n 0 s.1 ∧ need ≤ sumOf M s.1 ∧ s.2 = sumOf P s.1)
theorem best_found {set : List Int} {s : List Int × Int} (hs : Up n 0 set) (h : Found M P need n s) : Found M P need n (bestS need set (sumOf M set) (sumOf P set) s) := by
  unfold bestS
  split
  · rename_i hc
    exact .inr ⟨hs, hc.1, rfl⟩
  · exact h
theorem sets_found : ∀ (d : Nat) (set : List Int) (s : List Int × Int), d ≤ n → Up (n - d) 0 set → Found M P need n s → Found M P need n (setsI M P need n d set (sumOf M set) (sumOf P set) s)
  | 0, _, _, _, _, h => h
  | d + 1, set, s, hd, hs, h => by
    have h1 := hs.snoc (Nat.zero_le _)
    have e : n - (d + 1) + 1 = n - d := by omega
    rw [e] at h1
    simp only [setsI]
    refine sets_found d set _ (by omega) (hs.wide (by omega)) ?_
    rw [← sumOf_snoc, ← sumOf_snoc]
    exact sets_found d _ _ (by omega) h1 (best_found (h1.wide (by omega)) h)
theorem best_keeps {set : List Int} {m p q : Int} {s : List Int × Int} (hp : 0 ≤ p) (h0 : 0 ≤ s.2) (h1 : s.2 ≤ q) : 0 ≤ (bestS need set m p s).2 ∧ (bestS need set m p s).2 ≤ q := by
  unfold bestS
  split
  · rename_i hc
    simp only
    omega
  · exact ⟨h0, h1⟩
include hP in
theorem sets_keeps : ∀ (d : Nat) (set : List Int) (m p q : Int) (s : List Int × Int), d ≤ n → 0 ≤ p → 0 ≤ s.2 → s.2 ≤ q → 0 ≤ (setsI M P need n d set m p s).2 ∧ (setsI M P need n d set m p s).2 ≤ q
  | 0, _, _, _, _, _, _, _, h0, h1 => ⟨h0, h1⟩
  | d + 1, set, m, p, q, s, hd, hp, h0, h1 => by
    have hq := hP (n - (d + 1)) (by omega)
    simp only [setsI]
    have a := best_keeps (need := need) (set := set ++ [((n - (d + 1) : Nat) : Int)]) (m := m + M (n - (d + 1))) (show 0 ≤ p + P (n - (d + 1)) by omega) h0 h1
    have b := sets_keeps d (set ++ [((n - (d + 1) : Nat) : Int)]) (m + M (n - (d + 1))) (p + P (n - (d + 1))) q _ (by omega) (by omega) a.1 a.2
    exact sets_keeps d set m p q _ (by omega) hp b.1 b.2
theorem best_hits {set : List Int} {m p : Int} {s : List Int × Int} (hp : 0 ≤ p) (h : need ≤ m) : 0 ≤ (bestS need set m p s).2 ∧ (bestS need set m p s).2 ≤ p := by
  unfold bestS
  split
  · exact ⟨hp, Int.le_refl _⟩
  · rename_i hc
    omega
include hP in
theorem sets_hits : ∀ (d : Nat) (set : List Int) (m p : Int) (s : List Int × Int) (x : Int) (t : List Int), d ≤ n → 0 ≤ p → Up n (n - d) (x :: t) → need ≤ m + sumOf M (x :: t) → 0 ≤ (setsI M P need n d set m p s).2 ∧ (setsI M P need n d set m p s).2 ≤ p + sumOf P (x :: t) := by
  intro d
  induction d with
  | zero =>
    intro set m p s x t _ _ h _
    obtain ⟨i, h1, h2, h3, h4⟩ := h
    omega
  | succ d ih =>
    intro set m p s x t hd hp h hn
    have hq := hP (n - (d + 1)) (by omega)
    obtain ⟨i, rfl, h2, h3, h4⟩ := h
    simp only [setsI]
    by_cases e : i = n - (d + 1)
    · subst e
      rw [sumOf_cons] at hn
      rw [sumOf_cons]
      have hp2 : 0 ≤ p + P (n - (d + 1)) := by omega
      have key : 0 ≤ (setsI M P need n d (set ++ [((n - (d + 1) : Nat) : Int)]) (m + M (n - (d + 1))) (p + P (n - (d + 1))) (bestS need (set ++ [((n - (d + 1) : Nat) : Int)]) (m + M (n - (d + 1))) (p + P (n - (d + 1))) s)).2 ∧
          (setsI M P need n d (set ++ [((n - (d + 1) : Nat) : Int)]) (m + M (n - (d + 1))) (p + P (n - (d + 1))) (bestS need (set ++ [((n - (d + 1) : Nat) : Int)]) (m + M (n - (d + 1))) (p + P (n - (d + 1))) s)).2 ≤ p + (P (n - (d + 1)) + sumOf P t) := by
        cases t with
        | nil =>
          have h0 : sumOf M ([] : List Int) = 0 := rfl
          have h1 : sumOf P ([] : List Int) = 0 := rfl
          rw [h0] at hn
          rw [h1]
          have a := best_hits (need := need) (set := set ++ [((n - (d + 1) : Nat) : Int)]) (m := m + M (n - (d + 1))) (s := s) hp2 (by omega)
          have b := sets_keeps (need := need) (M := M) hP d (set ++ [((n - (d + 1) : Nat) : Int)]) (m + M (n - (d + 1))) (p + P (n - (d + 1))) (p + P (n - (d + 1))) _ (by omega) hp2 a.1 a.2
          exact ⟨b.1, by omega⟩
        | cons y t =>
          have := ih (set ++ [((n - (d + 1) : Nat) : Int)]) (m + M (n - (d + 1))) (p + P (n - (d + 1))) (bestS need (set ++ [((n - (d + 1) : Nat) : Int)]) (m + M (n - (d + 1))) (p + P (n - (d + 1))) s) y t (by omega) hp2 (h4.low (by omega)) (by omega)
          exact ⟨this.1, by omega⟩
      exact sets_keeps hP d set m p _ _ (by omega) hp key.1 key.2
    · exact ih set m p _ (i : Int) t (by omega) hp ⟨i, rfl, by omega, h3, h4⟩ hn
include hM hP in
/-- The cheapest: what is found is rising, has enough minutes and the told pay; nothing with enough minutes costs less; nothing is found just where all together have not enough. -/
theorem cheapest (hn0 : 0 ≤ need) (s : List Int × Int) (hs : s = setsI M P need n n [] 0 0 (bestS need [] 0 0 ([], -1))) :
    (s.2 < 0 ∧ totD M n n < need) ∨ (0 ≤ s.2 ∧ need ≤ totD M n n ∧ Up n 0 s.1 ∧ need ≤ sumOf M s.1 ∧ sumOf P s.1 = s.2 ∧ ∀ t, Up n 0 t → need ≤ sumOf M t → s.2 ≤ sumOf P t) := by
  have hf : Found M P need n s := by
    rw [hs]
    exact sets_found n [] _ (Nat.le_refl _) trivial (best_found (set := []) trivial (.inl (by decide)))
  have hl : ∀ t, Up n 0 t → need ≤ sumOf M t → 0 ≤ s.2 ∧ s.2 ≤ sumOf P t := by
    intro t ht hn
    rw [hs]
    cases t with
    | nil =>
      have a := best_hits (need := need) (set := []) (m := 0) (p := 0) (s := (([], -1) : List Int × Int)) (Int.le_refl _) hn
      exact sets_keeps hP n [] 0 0 0 _ (Nat.le_refl _) (Int.le_refl _) a.1 a.2
    | cons x t =>
      have := sets_hits (need := need) (M := M) hP n [] 0 0 (bestS need [] 0 0 ([], -1)) x t (Nat.le_refl _) (Int.le_refl _) (ht.low (by omega)) (by omega)
      exact ⟨this.1, by omega⟩
  rcases hf with h | ⟨h1, h2, h3⟩
  · refine .inl ⟨h, ?_⟩
    by_cases c : totD M n n < need
    · exact c
    · have := hl (allD_ n n) ((allD_up n n (Nat.le_refl _)).low (by omega)) (by rw [allD_sum]; omega)
      omega
  · have h4 := (sum_le_tot hM n s.1 (Nat.le_refl _) (h1.low (by omega)))
    have h5 := hl s.1 h1 h2
    exact .inr ⟨h5.1, by omega, h1, h2, h3.symm, fun t ht hn => (hl t ht hn).2⟩
end

theorem Up.take {b : Nat} : ∀ {t : List Int} {lo : Nat} (j : Nat), Up b lo t → Up b lo (t.take j)
  | [], _, j, _ => by rw [List.take_nil]; trivial
  | _ :: _, _, 0, _ => trivial
  | _ :: _, _, j + 1, ⟨i, h1, h2, h3, h4⟩ => ⟨i, h1, h2, h3, Up.take j h4⟩
/-- Hands that are drawn rise. -/
theorem some_ev {b : List Int} (hb : Bytes b) (hl : b.length ≤ 3000) (n : Nat) (hn : n ≤ 10) : ∃ t, Up n 0 t ∧ Ev (fun k => spec_A2Some.f k b (n : Int)) t := by
  have h := for_ev n (fun k (s : List Int × Int × Int) i => spec_A2Some.l0 k (n : Int) s.1 i b s.2.1 s.2.2) (fun i s => Up i 0 s.1 ∧ 0 ≤ s.2.1 ∧ s.2.1 ≤ 4 * (i : Int)) (fun t => Up n 0 t) (fun i s hi hs => .inl ?_) (fun s hs => ?_) n 0 ([], 0, 0) (by omega) ⟨trivial, Int.le_refl _, by simp⟩
  · exact h
  · obtain ⟨acc, p, q⟩ := s
    obtain ⟨h1, h2, h3⟩ := hs
    simp only at h1 h2 h3
    obtain ⟨r1, p1, s1, e1, hr1, hp1⟩ := pick_ok hb hl p q 2 h2 (by omega) (by omega)
    have hlen := h1.len (Nat.zero_le _)
    cases hc : (r1 == 0) with
    | true =>
      refine ⟨(acc ++ [(i : Int)], p1, s1), ⟨h1.snoc (Nat.zero_le _), by simp only; omega, by simp only; omega⟩, 0, fun k _ => ?_⟩
      simp only [spec_A2Some.l0, spec_l00Src_one.f]
      rw [if_pos (by omega), e1]
      simp only [Option.bind_some, hc, if_true]
      rw [if_pos (by omega), w64 (by omega) (by omega)]
    | false =>
      refine ⟨(acc, p1, s1), ⟨h1.wide (by omega), by simp only; omega, by simp only; omega⟩, 0, fun k _ => ?_⟩
      simp only [spec_A2Some.l0, spec_l00Src_one.f]
      rw [if_pos (by omega), e1]
      simp only [Option.bind_some, hc, Bool.false_eq_true, if_false]
      rw [w64 (by omega) (by omega)]
  · refine ⟨s.1, hs.1, Ev.const fun k => ?_⟩
    simp only [spec_A2Some.l0]
    rw [if_neg (by omega)]
theorem rises_ev {n : Nat} {t : List Int} (h : Up n 0 t) (hn : n ≤ 10) : Ev (fun k => laws_a2Rises.f k t (n : Int)) true := by
  have hlen := h.len (Nat.zero_le _)
  refine go_to t.length (fun k i => laws_a2Rises.l0 k t (n : Int) i) true (fun i hi => ⟨0, fun k _ => ?_⟩) (Ev.const fun k => ?_)
  · obtain ⟨q, e, e1, e2⟩ := h.at_ i hi
    simp only [laws_a2Rises.l0]
    rw [if_pos (by omega), if_pos (by omega), rd_nat t i hi, if_neg (by omega), if_neg (by omega), w64 (x := (i : Int) + 1) (by omega) (by omega)]
    cases i with
    | zero => rw [if_neg (by simp)]
    | succ i =>
      have hnx := h.next i hi
      have e3 : wrap64 (((i + 1 : Nat) : Int) - 1) = (i : Int) := by rw [w64 (by omega) (by omega)]; omega
      rw [if_pos (by omega), e3, if_pos (by omega), if_pos (by omega), rd_nat t i (by omega), if_neg (by omega)]
  · simp only [laws_a2Rises.l0]
    rw [if_neg (by omega)]
def minsOf (l : List IT) (i : Nat) : Int := sumW (rd_T33 l (i : Int)).f1
def paysOf (l : List IT) (i : Nat) : Int := payS (rd_T33 l (i : Int)).f2 (rd_T33 l (i : Int)).f1 1440 0
section
variable {l : List IT} (hv : handsOk (hdI l) l.length = true)
include hv in
theorem hand_at (i : Nat) (hi : i < l.length) : (0 ≤ minsOf l i ∧ minsOf l i ≤ 20160) ∧ (0 ≤ paysOf l i ∧ paysOf l i ≤ 33600000) ∧ Ev (fun k => laws_a2Sum.f k (rd_T33 l (i : Int)).f1) (minsOf l i) ∧ wrap64 (Int.tdiv (wrap64 ((rd_T33 l (i : Int)).f2 * minsOf l i)) 60) = paysOf l i := by
  obtain ⟨h1, h2, h3, h4⟩ := handV_rg ((handsOk_at hv).2 i hi)
  have h1' : ∀ x ∈ (rd_T33 l (i : Int)).f1, 0 ≤ x ∧ x ≤ 1440 := h1
  have h2' : (rd_T33 l (i : Int)).f1.length ≤ 14 := h2
  have h3' : 0 ≤ (rd_T33 l (i : Int)).f2 := h3
  have h4' : (rd_T33 l (i : Int)).f2 ≤ 100000 := h4
  obtain ⟨s1, s2, s3⟩ := sumW_rg h1' h2'
  obtain ⟨p1, p2, p3⟩ := payS_rg (lim := 1440) h1' h2' h3' h4'
  unfold minsOf paysOf
  have hr := mul_range h3' h4' s2 s3
  refine ⟨⟨s2, s3⟩, ⟨p2, p3⟩, ?_, ?_⟩
  · rw [s1]
    exact sum_a2 _ 1440 (by omega) h1' (by omega) (by omega)
  · rw [p1, ← s1]
    generalize (rd_T33 l (i : Int)).f2 * sumW (rd_T33 l (i : Int)).f1 = q at *
    rw [w64 (x := q) (by omega) (by omega), tdiv_nn (by omega), w64 (by omega) (by omega)]
    omega
include hv in
theorem cost_ev {t : List Int} (h : Up l.length 0 t) : Ev (fun k => laws_a2Cost.f k l t) (sumOf (minsOf l) t, sumOf (paysOf l) t) := by
  have hn := (handsOk_at hv).1
  have hlen := h.len (Nat.zero_le _)
  have := for_to t.length (fun k (s : Int × Int) i => laws_a2Cost.l0 k l t s.1 s.2 i) (fun j => (sumOf (minsOf l) (t.take j), sumOf (paysOf l) (t.take j))) (sumOf (minsOf l) t, sumOf (paysOf l) t) (fun j hj => ?_) ?_ t.length 0 (by omega)
  · exact this
  · obtain ⟨i, e, -, hi⟩ := h.at_ j hj
    obtain ⟨⟨a1, a2⟩, ⟨b1, b2⟩, hE, hp⟩ := hand_at hv i hi
    obtain ⟨K, g⟩ := Ev.pick hE
    have hm : ∀ i, i < l.length → 0 ≤ minsOf l i := fun i hi => (hand_at hv i hi).1.1
    have hq : ∀ i, i < l.length → 0 ≤ paysOf l i := fun i hi => (hand_at hv i hi).2.1.1
    have u1 := (sum_le_tot hm l.length (t.take j) (Nat.le_refl _) ((h.take j).low (by omega)))
    have u2 := (sum_le_tot hq l.length (t.take j) (Nat.le_refl _) ((h.take j).low (by omega)))
    have v1 := (tot_mono (B := 20160) (fun i hi => (hand_at hv i hi).1) l.length (Nat.le_refl _)).2
    have v2 := (tot_mono (B := 33600000) (fun i hi => (hand_at hv i hi).2.1) l.length (Nat.le_refl _)).2
    refine ⟨K, fun k hk => ?_⟩
    have e0 : t.take (j + 1) = t.take j ++ [(i : Int)] := by rw [List.take_succ_eq_append_getElem hj, e]
    simp only [laws_a2Cost.l0]
    rw [if_pos (by omega), if_pos (by omega), rd_nat t j hj, e, if_pos (by omega), if_pos (by omega), g k hk]
    simp only [Option.bind_some]
    rw [hp, e0, sumOf_snoc, sumOf_snoc, w64 (x := sumOf (minsOf l) (t.take j) + minsOf l i) (by omega) (by omega), w64 (x := sumOf (paysOf l) (t.take j) + paysOf l i) (by omega) (by omega), w64 (x := (j : Int) + 1) (by omega) (by omega)]
  · rw [List.take_of_length_le (Nat.le_refl _)]
    refine Ev.const fun k => ?_
    simp only [laws_a2Cost.l0]
    rw [if_neg (by omega)]
/-! The busiest day. -/
def mB (l : List IT) (d : Nat) : Int := if d = 0 then 0 else dayB l (bestB l l.length d) l.length
variable {x1 : List Int}
include hv in
theorem busy_row (x17 x18 x19 b m : Int) (d : Nat) (hd : d < 14) (r : Bool)
    (next : Ev (fun k => if dayB l d l.length > m then laws_FnCheapHands.l1 k x1 l x17 x18 x19 (dayB l d l.length) d (wrap64 ((d : Int) + 1)) else laws_FnCheapHands.l1 k x1 l x17 x18 x19 m b (wrap64 ((d : Int) + 1))) r) :
    Ev (fun k => laws_FnCheapHands.l2 k x1 l x17 x18 x19 m b d 0 0) r := by
  have he := hands_each hv
  have := for_to l.length (fun k (s : Int) i => laws_FnCheapHands.l2 k x1 l x17 x18 x19 m b d s i) (fun i => dayB l d i) r (fun i hi => ⟨0, fun k _ => ?_⟩) ?_ l.length 0 (by omega)
  · exact this
  · have hb := dayB_bd hv d i (by omega)
    have h14 := (he.2 i hi).1
    simp only [laws_FnCheapHands.l2]
    rw [if_pos (by omega), if_pos (by omega), w64 (x := (i : Int) + 1) (by omega) (by omega)]
    by_cases c : d < (rd_T33 l (i : Int)).f1.length
    · have := rd_in (he.2 i hi).2 c
      rw [if_pos (by omega), if_pos (by omega), w64 (x := dayB l d i + _) (by omega) (by omega)]
      simp only [dayB, if_pos c]
    · rw [if_neg (by omega)]
      simp only [dayB, if_neg c, Int.add_zero]
  · refine Ev.step (fun k => ?_) next
    simp only [laws_FnCheapHands.l2]
    rw [if_neg (by omega)]
omit hv in
theorem busy_last (hb1 : Bytes x1) (x17 x18 x19 G F : Int) (h : (G = 0 ∧ x19 = 3) ∨ (0 < G ∧ x19 = 0 ∧ x17 = F ∧ x18 = G)) : Ev (fun k => laws_FnCheapHands.l1 k x1 l x17 x18 x19 G F 14) true := by
  obtain ⟨u, eu, hu⟩ := at_ok hb1 1 250 (by omega) (by omega)
  obtain ⟨n, rfl⟩ := Int.eq_ofNat_of_zero_le hu.1
  have hn : n * 80 ≤ 20000 := by omega
  obtain ⟨K, g⟩ := Ev.pick (impl_hit (n * 80) hn)
  have e1 : wrap64 ((n : Int) * 80) = ((n * 80 : Nat) : Int) := by rw [w64 (by omega) (by omega)]; omega
  have e2 : impl_ClockText.f ((n * 80 : Nat) : Int) = some (clockT (n * 80)) := (clock_impl (n * 80) (by omega)).trans (congrArg some (if_pos hn))
  generalize clockT (n * 80) = ct at g e2
  refine Ev.intro (K + 1) fun k hk => ?_
  obtain ⟨q, rfl⟩ : ∃ q, k = q + 1 := ⟨k - 1, by omega⟩
  have e3 := g q (by omega)
  clear g hk
  simp only [laws_FnCheapHands.l1]
  rw [if_neg (show ¬ ((14 : Int) < 14) by omega)]
  rw [eu, Option.bind_some, e1, e2, Option.bind_some, e3, Option.bind_some]
  rw [if_pos (show ((((n * 80 : Nat) : Int), true) : Int × Bool).2 = true from rfl), if_pos (show ((((n * 80 : Nat) : Int), true) : Int × Bool).1 = ((n * 80 : Nat) : Int) from rfl)]
  rcases h with ⟨h1, h2⟩ | ⟨h1, h2, h3, h4⟩
  · rw [if_pos h1, if_pos h2]
  · rw [if_neg (by omega), if_pos h1, if_pos h2, if_pos h3, h4, beq_self_eq_true]
include hv in
theorem busy_days (hb1 : Bytes x1) : ∀ (e d : Nat), d + e = 14 → Ev (fun k => laws_FnCheapHands.l1 k x1 l (busyB l).1 (busyB l).2.1 (busyB l).2.2 (mB l d) (bestB l l.length d : Nat) d) true := by
  intro e
  induction e with
  | zero =>
    intro d hd
    obtain rfl : d = 14 := by omega
    have hnn := (dayB_bd hv (bestB l l.length 14) l.length (Nat.le_refl _)).1
    refine busy_last hb1 _ _ _ _ _ ?_
    show (dayB l (bestB l l.length 14) l.length = 0 ∧ (busyB l).2.2 = 3) ∨ (0 < dayB l (bestB l l.length 14) l.length ∧ (busyB l).2.2 = 0 ∧ (busyB l).1 = (bestB l l.length 14 : Nat) ∧ (busyB l).2.1 = dayB l (bestB l l.length 14) l.length)
    unfold busyB
    by_cases c : dayB l (bestB l l.length 14) l.length = 0
    · rw [if_pos c]; exact .inl ⟨c, rfl⟩
    · rw [if_neg c]; exact .inr ⟨Int.lt_iff_le_and_ne.2 ⟨hnn, fun e => c e.symm⟩, rfl, rfl, rfl⟩
  | succ e ih =>
    intro d hd
    have hn := ih (d + 1) (by omega)
    have hd14 : d < 14 := by omega
    have hb0 := dayB_bd hv d l.length (Nat.le_refl _)
    have hs : bestB l l.length (d + 1) = if dayB l (bestB l l.length d) l.length < dayB l d l.length then d else bestB l l.length d := rfl
    have hm1 : mB l (d + 1) = dayB l (bestB l l.length (d + 1)) l.length := rfl
    refine Ev.step (f := fun k => laws_FnCheapHands.l2 k x1 l (busyB l).1 (busyB l).2.1 (busyB l).2.2 (mB l d) (bestB l l.length d : Nat) d 0 0) (fun k => ?_) (busy_row hv _ _ _ _ _ d hd14 _ ?_)
    · simp only [laws_FnCheapHands.l1]
      rw [if_pos (by omega)]
    · rw [w64 (x := (d : Int) + 1) (by omega) (by omega)]
      rw [hm1] at hn
      have e1 : ((d + 1 : Nat) : Int) = (d : Int) + 1 := rfl
      rw [e1] at hn
      by_cases hz : d = 0
      · subst hz
        have hb1 : bestB l l.length (0 + 1) = 0 := by rw [hs]; split <;> rfl
        rw [hb1] at hn
        have hm0 : mB l 0 = 0 := rfl
        have hbz : bestB l l.length 0 = 0 := rfl
        rw [hm0, hbz]
        by_cases c : dayB l 0 l.length > 0
        · simp only [if_pos c]; exact hn
        · simp only [if_neg c]
          have : dayB l 0 l.length = 0 := by omega
          rw [this] at hn
          exact hn
      · have hm : mB l d = dayB l (bestB l l.length d) l.length := by unfold mB; rw [if_neg hz]
        rw [hm]
        by_cases c : dayB l (bestB l l.length d) l.length < dayB l d l.length
        · simp only [if_pos (show dayB l d l.length > dayB l (bestB l l.length d) l.length from c)]
          rw [hs, if_pos c] at hn
          exact hn
        · simp only [if_neg (show ¬ dayB l d l.length > dayB l (bestB l l.length d) l.length from c)]
          rw [hs, if_neg c] at hn
          exact hn
include hv in
theorem last_ev (hb1 : Bytes x1) : Ev (fun k => laws_FnCheapHands.j2 k x1 l) true := by
  refine Ev.step (fun k => ?_) (busy_days hv hb1 14 0 rfl)
  simp only [laws_FnCheapHands.j2]
  unfold impl_BusiestDay.f
  rw [if_pos hv]
  rfl
include hv in
/-- Behind the call: all minutes are added; what was found is looked at. -/
theorem cheap_ev (hb1 : Bytes x1) (need : Int) (hn0 : 0 ≤ need) (hn1 : need ≤ 20000) (drawn : List Int) (hdr : Up l.length 0 drawn) :
    ∃ best pay one, impl_CheapestHands.f l need = some (best, pay, one) ∧ Ev (fun k => laws_FnCheapHands.l0 k x1 l need best pay one drawn 0 0) true := by
  have hlen := (handsOk_at hv).1
  have hm : ∀ i, i < l.length → 0 ≤ minsOf l i := fun i hi => (hand_at hv i hi).1.1
  have hq : ∀ i, i < l.length → 0 ≤ paysOf l i := fun i hi => (hand_at hv i hi).2.1.1
  obtain ⟨s, hs⟩ : ∃ s, s = setsI (minsOf l) (paysOf l) need l.length l.length [] 0 0 (bestS need [] 0 0 ([], -1)) := ⟨_, rfl⟩
  have hc := cheapest hm hq hn0 s hs
  have hf : impl_CheapestHands.f l need = some (cheapAns s) := by
    unfold impl_CheapestHands.f
    rw [if_pos hv, if_pos (decide_eq_true ⟨hn0, hn1⟩)]
    exact congrArg (fun s => some (cheapAns s)) hs.symm
  clear hs
  obtain ⟨K2, g2⟩ := Ev.pick (last_ev hv hb1)
  obtain ⟨K3, g3⟩ := Ev.pick (cost_ev hv hdr)
  have main : ∀ (best : List Int) (pay one : Int), Ev (fun k => if ((one == 0) != (decide (totD (minsOf l) l.length l.length ≥ need))) = true then (laws_FnCheapHands.j1 k x1 l need best pay one drawn true) else (if one = 0 then (laws_FnCheapHands.j1 k x1 l need best pay one drawn false) else (laws_FnCheapHands.j1 k x1 l need best pay one drawn (one != 3)))) true → Ev (fun k => laws_FnCheapHands.l0 k x1 l need best pay one drawn 0 0) true := by
    intro best pay one hE
    have v1 := tot_mono (B := 20160) (fun i hi => (hand_at hv i hi).1)
    have := for_to l.length (fun k (t : Int) i => laws_FnCheapHands.l0 k x1 l need best pay one drawn t i) (fun i => totD (minsOf l) l.length l.length - totD (minsOf l) l.length (l.length - i)) true (fun i hi => ?_) ?_ l.length 0 (by omega)
    · have e0 : totD (minsOf l) l.length l.length - totD (minsOf l) l.length (l.length - 0) = 0 := by rw [Nat.sub_zero]; omega
      rw [e0] at this
      exact this
    · obtain ⟨⟨a1, a2⟩, _, hE1, _⟩ := hand_at hv i hi
      obtain ⟨K, g⟩ := Ev.pick hE1
      have e1 : totD (minsOf l) l.length (l.length - i) = minsOf l i + totD (minsOf l) l.length (l.length - (i + 1)) := by
        have e2 : l.length - i = (l.length - (i + 1)) + 1 := by omega
        have e3 : l.length - ((l.length - (i + 1)) + 1) = i := by omega
        rw [e2]
        simp only [totD]
        rw [e3]
      have w1 := v1 l.length (Nat.le_refl _)
      have w2 := v1 (l.length - i) (by omega)
      have w3 := v1 (l.length - (i + 1)) (by omega)
      refine ⟨K, fun k hk => ?_⟩
      simp only [laws_FnCheapHands.l0]
      rw [if_pos (by omega), if_pos (by omega), g k hk]
      simp only [Option.bind_some]
      rw [w64 (x := (i : Int) + 1) (by omega) (by omega), w64 (by omega) (by omega)]
      congr 1
      omega
    · refine Ev.step (fun k => ?_) hE
      have e0 : totD (minsOf l) l.length l.length - totD (minsOf l) l.length (l.length - l.length) = totD (minsOf l) l.length l.length := by rw [Nat.sub_self]; simp only [totD]; omega
      simp only [laws_FnCheapHands.l0]
      rw [if_neg (by omega), e0]
  rcases hc with ⟨h1, h2⟩ | ⟨h1, h2, h3, h4, h5, h6⟩
  · refine ⟨[], 0, 3, by rw [hf]; unfold cheapAns; rw [if_pos h1], main _ _ _ (Ev.intro (K2 + 1) fun k hk => ?_)⟩
    obtain ⟨q, rfl⟩ : ∃ q, k = q + 1 := ⟨k - 1, by omega⟩
    rw [decide_eq_false (by omega)]
    simp only [laws_FnCheapHands.j1]
    simp
    exact g2 q (by omega)
  · obtain ⟨K4, g4⟩ := Ev.pick (rises_ev h3 hlen)
    obtain ⟨K5, g5⟩ := Ev.pick (cost_ev hv h3)
    refine ⟨s.1, s.2, 0, by rw [hf]; unfold cheapAns; rw [if_neg (by omega)], main _ _ _ (Ev.intro (K2 + K3 + K4 + K5 + 1) fun k hk => ?_)⟩
    obtain ⟨q, rfl⟩ : ∃ q, k = q + 1 := ⟨k - 1, by omega⟩
    rw [decide_eq_true (show totD (minsOf l) l.length l.length ≥ need by omega)]
    simp only [laws_FnCheapHands.j1]
    rw [g4 q (by omega), g5 q (by omega), g3 q (by omega)]
    simp only [Option.bind_some, beq_self_eq_true, bne_self_eq_false, Bool.false_eq_true, if_false, if_true]
    rw [if_neg (by omega), if_pos h5]
    by_cases c : sumOf (minsOf l) drawn ≥ need
    · have := h6 drawn hdr c
      rw [if_pos c, if_neg (by omega)]
      exact g2 q (by omega)
    · rw [if_neg c]
      exact g2 q (by omega)
end

end FnCheapHands_
open FnCheapHands_ in
theorem FnCheapHands : ∀ (l0 : List Int) (l1 : List Int), (l0.length ≤ maxLen ∧ ∀ x ∈ l0, (Lit.int .u8 x).wf = true) → (l1.length ≤ maxLen ∧ ∀ x ∈ l1, (Lit.int .u8 x).wf = true) → ∃ k, laws_FnCheapHands.f k l0 l1 = some true := by
  intro l0 l1 ⟨_, hb0⟩ ⟨_, hb1⟩
  by_cases c : laws_a2Long.f l0 l1 = some true
  · refine ⟨0, ?_⟩
    unfold laws_FnCheapHands.f
    rw [c]
    rfl
  · obtain ⟨hlong, hl0, hl1⟩ : laws_a2Long.f l0 l1 = some false ∧ l0.length ≤ 3000 ∧ l1.length ≤ 3000 := by
      unfold laws_a2Long.f at c ⊢
      by_cases h1 : (l0.length : Int) > 3000
      · rw [if_pos h1] at c; exact absurd rfl c
      · rw [if_neg h1] at c ⊢
        by_cases h2 : (l1.length : Int) > 3000
        · rw [decide_eq_true h2] at c; exact absurd rfl c
        · rw [decide_eq_false h2]; exact ⟨rfl, by omega, by omega⟩
    have B0 := bytes_wf hb0
    have B1 := bytes_wf hb1
    obtain ⟨l, hg, hd⟩ := hands_drawn B0 hl0
    obtain ⟨t, et, ht⟩ := at_ok B1 0 100 (by omega) (by omega)
    have hv := good_ok hg
    obtain ⟨dr, hdr, hds⟩ := some_ev B1 hl1 l.length (by have := hg.1; omega)
    have hw : wrap64 (30 * t) = 30 * t := w64 (by omega) (by omega)
    obtain ⟨best, pay, one, hf, hE⟩ := cheap_ev hv B1 (30 * t) (by omega) (by omega) dr hdr
    obtain ⟨K1, g1⟩ := Ev.pick hd
    obtain ⟨K2, g2⟩ := Ev.pick hds
    obtain ⟨K3, g3⟩ := Ev.pick hE
    refine ⟨K1 + K2 + K3, ?_⟩
    unfold laws_FnCheapHands.f
    rw [hlong]
    simp only [Option.bind_some, Bool.false_eq_true, if_false]
    rw [g1 _ (by omega)]
    simp only [Option.bind_some]
    rw [et]
    simp only [Option.bind_some]
    rw [hw, hf]
    simp only [Option.bind_some]
    rw [g2 _ (by omega)]
    simp only [Option.bind_some]
    exact g3 _ (by omega)

end Go.Proofs.YtdamlohbplfdgaaDoor.Pure
