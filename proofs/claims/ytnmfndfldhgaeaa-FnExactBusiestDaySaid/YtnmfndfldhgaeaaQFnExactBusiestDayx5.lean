/- Functions and contracts of one law, printed by this session's own program (contracts by hand among them). -/
import Derived.Test.YtnmfndfldhgaeaaQFnExactBusiestDayx0
import Derived.Test.YtnmfndfldhgaeaaQFnExactBusiestDayx1
import Derived.Test.YtnmfndfldhgaeaaQFnExactBusiestDayx2
import Derived.Test.YtnmfndfldhgaeaaQFnExactBusiestDayx3
import Derived.Test.YtnmfndfldhgaeaaQFnExactBusiestDayx4
namespace Go.Proofs.Ytnmfndfldhgaeaa.QFnExactBusiestDay
open Go.RowKit Go.Proofs.YtnmfndfldhgaeaaW.PrintWords Go.Proofs.YtnmfndfldhgaeaaW.PrintLast Go.Proofs.YtnmfndfldhgaeaaW.PrintMore
attribute [local go_sem] max2_int min2_int max_two min_two max_three min_three max_four min_four   -- for this text's walks alone
set_option linter.unusedVariables false
set_option linter.unusedSimpArgs false

/-! ### impl_ValidHands: function 26, by hand -/
section
open Go.Proofs.Ytnmfndfldhgaeaa.Base
theorem within_eq (a b c : Int) : impl_within.f a b c = some (decide (b ≤ a ∧ a ≤ c)) := by
  unfold impl_within.f
  by_cases h : a ≥ b
  · rw [if_pos h]; congr 1; apply Bool.eq_iff_iff.mpr; simp; omega
  · rw [if_neg h]; congr 1; apply Bool.eq_iff_iff.mpr; simp; omega

theorem name_loop_impl (s : ByteArray) (h : s.size ≤ 12) : Ev (fun k => impl_IsName.l0 k s 0) ((List.range s.size).all fun i => nameByte (bt s i)) := by
  have := all_lt s.size (fun i => nameByte (bt s i)) (fun k i => impl_IsName.l0 k s i) true false (fun i hi hp => ⟨0, fun k _ => ?_⟩) (fun i hi hp => Ev.const fun k => ?_) (fun _ => Ev.const fun k => ?_)
  · rw [ite_bool] at this
    exact this
  · have hp := of_decide_eq_true hp
    simp only [impl_IsName.l0]
    rw [if_pos (by omega), if_pos (by omega), w64 (by omega) (by omega)]
    repeat' split
    all_goals first | rfl | (exfalso; omega)
  · have hp := of_decide_eq_false hp
    simp only [impl_IsName.l0]
    rw [if_pos (by omega), if_pos (by omega)]
    repeat' split
    all_goals first | rfl | (exfalso; omega)
  · simp only [impl_IsName.l0]
    rw [if_neg (by omega)]
theorem name_impl (s : ByteArray) : Ev (fun k => impl_IsName.f k s) (isNameB s) := by
  unfold isNameB
  by_cases h0 : s.size < 1
  · rw [decide_eq_false (by omega), Bool.false_and]
    refine Ev.const fun k => ?_
    unfold impl_IsName.f
    rw [if_pos (by omega)]
    simp only [impl_IsName.j0, if_true]
  · by_cases h12 : s.size ≤ 12
    · by_cases hs : 97 ≤ bt s 0 ∧ bt s 0 ≤ 122
      · rw [decide_eq_true ⟨by omega, h12, hs⟩, Bool.true_and]
        refine Ev.step (f := fun k => impl_IsName.l0 k s 0) (fun k => ?_) (name_loop_impl s h12)
        simp only [impl_IsName.f]
        rw [if_neg (by omega), if_neg (by omega), if_pos (by omega), if_neg (by omega), decide_eq_false (by omega)]
        simp only [impl_IsName.j0, Bool.false_eq_true, if_false]
      · rw [decide_eq_false (fun h => hs h.2.2), Bool.false_and]
        refine Ev.const fun k => ?_
        simp only [impl_IsName.f]
        rw [if_neg (by omega), if_neg (by omega), if_pos (by omega)]
        by_cases h1 : bt s 0 < 97
        · rw [if_pos h1]
          simp only [impl_IsName.j0, if_true]
        · rw [if_neg h1, decide_eq_true (by omega)]
          simp only [impl_IsName.j0, if_true]
    · rw [decide_eq_false (by omega), Bool.false_and]
      refine Ev.const fun k => ?_
      unfold impl_IsName.f
      rw [if_neg (by omega), if_pos (by omega)]
      simp only [impl_IsName.j0, if_true]

theorem areIn_ev (l : List Int) (a b : Int) (h : l.length ≤ 9223372036854775807) : Ev (fun k => impl_areIn.f k l l.length a b) (l.all fun x => decide (a ≤ x ∧ x ≤ b)) := by
  refine Ev.congr (f := fun k => impl_areIn.l0 k a b l l.length 0) (fun k => by unfold impl_areIn.f; rw [if_pos rfl]) ?_
  have := all_lt l.length (fun i => decide (a ≤ rd l i ∧ rd l i ≤ b)) (fun k i => impl_areIn.l0 k a b l l.length i) true false (fun i hi hp => ⟨0, fun k _ => ?_⟩) (fun i hi hp => Ev.const fun k => ?_) (fun _ => Ev.const fun k => ?_)
  · rw [all_range_list (p := fun x => decide (a ≤ x ∧ x ≤ b)) (fun i hi => by rw [rd_nat l i hi])] at this
    rw [ite_bool] at this
    exact this
  · simp only [impl_areIn.l0]
    rw [if_pos (by omega), if_pos (by omega), if_pos (by omega), within_eq, hp, w64 (by omega) (by omega)]
    rfl
  · simp only [impl_areIn.l0]
    rw [if_pos (by omega), if_pos (by omega), if_pos (by omega), within_eq, hp]
    rfl
  · simp only [impl_areIn.l0]
    rw [if_neg (by omega)]

theorem hand_impl (f0 : ByteArray) (f1 : List Int) (f2 : Int) (h : f1.length ≤ 9223372036854775807) : Ev (fun k => impl_validHand.f k f0 f1 f2) (handV f0 f1 f2) := by
  obtain ⟨K, hK⟩ := Ev.pick (name_impl f0)
  obtain ⟨J, hJ⟩ := Ev.pick (areIn_ev f1 0 1440 h)
  refine Ev.intro (K + J) fun k hk => ?_
  unfold impl_validHand.f handV
  rw [hK k (by omega), hJ k (by omega), within_eq]
  simp only [Option.bind_some]
  have e : (f1.all fun x => decide (0 ≤ x ∧ x ≤ 1440)) = f1.all shiftOk := rfl
  rw [e]
  by_cases c : f1.length ≤ 14
  · rw [decide_eq_true c]
    have c2 : (f1.length : Int) ≤ 14 := by omega
    simp only [if_pos c2]
    cases isNameB f0 <;> cases f1.all shiftOk <;> simp
  · rw [decide_eq_false c]
    have c2 : ¬ (f1.length : Int) ≤ 14 := by omega
    simp only [if_neg c2]
    cases isNameB f0 <;> simp
theorem handV_shift {f0 : ByteArray} {f1 : List Int} {f2 : Int} (h : handV f0 f1 f2 = true) : (∀ x ∈ f1, 0 ≤ x ∧ x ≤ 1440) ∧ f1.length ≤ 14 ∧ 0 ≤ f2 ∧ f2 ≤ 100000 := by
  unfold handV at h
  simp only [Bool.and_eq_true, decide_eq_true_eq, List.all_eq_true] at h
  obtain ⟨⟨⟨a, _⟩, b⟩, c⟩ := h
  exact ⟨fun x hx => of_decide_eq_true (a x hx), b, c⟩

theorem hands_take {α : Type} {d : Kd α} {w : World} {A : Option Addr} {n m : Nat} {xs : List α} (h : d.C w A n xs) (hm : m ≤ n) : d.C w A m (xs.take m) := by
  refine ⟨by rw [List.length_take, Nat.min_eq_left (by have := h.1; omega)], by have := h.2.1; omega, fun hp => ?_⟩
  obtain ⟨ad, e, hc⟩ := h.2.2 (by omega)
  refine ⟨ad, e, fun j p hj => hc j p ?_⟩
  rw [List.getElem?_take] at hj
  split at hj
  · exact hj
  · cases hj
set_option maxHeartbeats 8000000 in
set_option maxRecDepth 100000 in
theorem hands1 (x : S28) (A : Option Addr) (c : Nat) (B : Nat) (nm : ByteArray) (w : World) (hB : B < w.heap.size) (hc : w.cell? ⟨B, 0, none⟩ = some (.string nm)) :
    Calls Try.prog 56 #[.agg #[.string x.f0, .slice A x.f1.length c, .int .i64 x.f2], .pointer (some ⟨B, 0, none⟩)] w fun e w' => e = .returned (.bool (x.f0.toList == nm.toList)) ∧ Below w.heap.size w w' := by
  go_enter Try.func56, Try.ntmps56
  go_wp2
  go_ret
  exact ⟨rfl, (Below.refl _ _).alloc (Nat.le_refl _) _⟩
def nameIdx (l : List S28) (nm : ByteArray) : Int := match l.findIdx? (fun x => x.f0.toList == nm.toList) with | some i => (i : Int) | none => -1
theorem nameIdx_hit {l : List S28} {nm : ByteArray} {i : Nat} (h : i < l.length) (hi : (l[i].f0.toList == nm.toList) = true) (hn : ∀ j (hj : j < i), (l[j].f0.toList == nm.toList) = false) : nameIdx l nm = i := by
  unfold nameIdx
  rw [List.findIdx?_eq_some_iff_getElem.mpr ⟨h, hi, fun j hj => by rw [hn j hj]; simp⟩]
theorem nameIdx_miss {l : List S28} {nm : ByteArray} (hn : ∀ j (hj : j < l.length), (l[j].f0.toList == nm.toList) = false) : nameIdx l nm = -1 := by
  unfold nameIdx
  rw [List.findIdx?_eq_none_iff.mpr (fun x hx => by obtain ⟨j, hj, rfl⟩ := List.getElem_of_mem hx; exact hn j hj)]
theorem rdHand (xs : List S28) (i : Nat) (h : i < xs.length) : rd_T28 xs (i : Int) = xs[i] := by
  unfold rd_T28; rw [Int.toNat_natCast, List.getD_eq_getElem?_getD, List.getElem?_eq_getElem h]; rfl
set_option maxHeartbeats 8000000 in
set_option maxRecDepth 100000 in
theorem handsIndexFunc (A0 : Option Addr) (c0 : Nat) (l0 : List S28) (B : Nat) (nm : ByteArray) (w : World) (hr0 : Kd.C k28 w A0 l0.length l0) (hB : B < w.heap.size) (hc : w.cell? ⟨B, 0, none⟩ = some (.string nm)) :
    Calls Try.prog 70 #[.slice A0 l0.length c0, .func (.func 56) #[] #[.pointer (some ⟨B, 0, none⟩)]] w fun e w' => e = .returned (.int .i64 (nameIdx l0 nm)) ∧ Below w.heap.size w w' := by
  have hm := Kd.C_max hr0
  have HR0 := Aside0.mk hr0
  have HC := Aside0.mk hc
  have HBz := Aside0.mk hB
  clear hr0 hc hB
  have eg : ∀ args w, (callFunc 56 args).run Try.prog w = .ok (.enter 56 args) w := enters_of Try.func56 (by kernel_rfl) rfl
  go_enter Try.func70, Try.ntmps70
  go_wp2
  go_loopw [5, 8] (fun _ v8 w' => ∃ i : Nat, v8 = .int .i64 i ∧ i ≤ l0.length ∧ Aside0 (∀ j (hj : j < l0.length), j < i → (l0[j].f0.toList == nm.toList) = false) ∧ Aside0 (Below w.heap.size w w')) (fun _ v8 _ => l0.length - (intOf v8).toNat)
  case atStart => exact ⟨0, rfl, Nat.zero_le _, ⟨fun j _ hj => absurd hj (Nat.not_lt_zero _)⟩, ⟨Below.refl _ _⟩⟩
  case round =>
    obtain ⟨i, rfl, hi, hf, hw⟩ := hrel
    have HRw := Aside0.mk (Kd.C_below HR0.out hw.out)
    by_cases hlt : i < l0.length
    · have p1 : (0 : Int) ≤ (i : Int) := Int.natCast_nonneg i
      have p2 : (i : Int) < (l0.length : Int) := Int.ofNat_lt.2 hlt
      obtain ⟨ad, A1, c1, rfl, d0, d1, d2, -, -⟩ := at_T28 HRw.out (i : Int) p1 p2
      rw [Int.toNat_natCast] at d0 d1 d2
      have I1 := Aside0.mk (hands1 (rd_T28 l0 i) A1 c1 B nm wr (by have := hw.out.size; have := HBz.out; omega) ((hw.out.cell (p := ⟨B, 0, none⟩) HBz.out).trans HC.out))
      generalize hv : ((rd_T28 l0 i).f0.toList == nm.toList) = v at I1
      have HV := Aside0.mk hv
      clear hv
      cases v with
      | true =>
        go_wp2_with (go_at_fn 56; (with_reducible refine I1.out.mono ?_); rintro e w' ⟨rfl, hb'⟩)
        go_ret
        have hh := nameIdx_hit hlt (by rw [← rdHand l0 i hlt]; exact HV.out) (fun j hj => hf.out j (by omega) hj)
        exact ⟨by rw [hh]; rfl, below_then hw.out hw.out.size hb'⟩
      | false =>
        go_wp2_with (go_at_fn 56; (with_reducible refine I1.out.mono ?_); rintro e w' ⟨rfl, hb'⟩)
        go_roundw
        case rel => exact ⟨i + 1, by go_num, by omega, ⟨fun j hj hji => by
          by_cases e : j = i
          · subst e; rw [← rdHand l0 j hlt]; exact HV.out
          · exact hf.out j hj (by omega)⟩, ⟨below_then hw.out hw.out.size hb'⟩⟩
        case measure => simp [intOf]; omega
    · go_wp2
      go_ret
      have hh := nameIdx_miss (l := l0) (nm := nm) (fun j hj => hf.out j hj (by omega))
      exact ⟨by rw [hh]; rfl, hw.out⟩
set_option maxHeartbeats 8000000 in
set_option maxRecDepth 100000 in
theorem handsContainsFunc (A0 : Option Addr) (c0 : Nat) (l0 : List S28) (B : Nat) (nm : ByteArray) (w : World) (hr0 : Kd.C k28 w A0 l0.length l0) (hB : B < w.heap.size) (hc : w.cell? ⟨B, 0, none⟩ = some (.string nm)) :
    Calls Try.prog 55 #[.slice A0 l0.length c0, .func (.func 56) #[] #[.pointer (some ⟨B, 0, none⟩)]] w fun e w' => e = .returned (.bool (decide (0 ≤ nameIdx l0 nm))) ∧ Below w.heap.size w w' := by
  have I1 := Aside0.mk (handsIndexFunc A0 c0 l0 B nm w hr0 hB hc)
  clear hr0 hB hc
  generalize nameIdx l0 nm = q at *
  go_enter Try.func55, Try.ntmps55
  go_wp2_with (go_at_call 70; (with_reducible refine I1.out.mono ?_); rintro e w' ⟨rfl, hb'⟩)
  go_ret
  exact ⟨rfl, hb'⟩
theorem nameIdx_any (l : List S28) (nm : ByteArray) : decide (0 ≤ nameIdx l nm) = l.any (fun x => x.f0.toList == nm.toList) := by
  rw [← List.findIdx?_isSome]
  unfold nameIdx
  cases List.findIdx? (fun x : S28 => x.f0.toList == nm.toList) l with
  | none => rfl
  | some i => exact decide_eq_true (Int.natCast_nonneg i)
theorem nameIdx_yes {l : List S28} {nm : ByteArray} {i : Nat} (h : decide (0 ≤ nameIdx (l.take i) nm) = true) : ∃ k, k < i ∧ (rd_T28 l (k : Int)).f0 = nm := by
  rw [nameIdx_any, List.any_eq_true] at h
  obtain ⟨x, hx, hp⟩ := h
  obtain ⟨k, hk, rfl⟩ := List.getElem_of_mem hx
  rw [List.length_take] at hk
  refine ⟨k, by omega, ?_⟩
  rw [rdHand l k (by omega)]
  rw [List.getElem_take] at hp
  exact bytes_eq hp
theorem nameIdx_no {l : List S28} {nm : ByteArray} {i : Nat} (hi : i ≤ l.length) (h : decide (0 ≤ nameIdx (l.take i) nm) = false) : ∀ k, k < i → ¬ (rd_T28 l (k : Int)).f0 = nm := by
  rw [nameIdx_any, List.any_eq_false] at h
  intro k hk
  have := h ((l.take i)[k]'(by rw [List.length_take]; omega)) (List.getElem_mem _)
  rw [List.getElem_take] at this
  rw [rdHand l k (by omega)]
  exact bytes_ne (by simpa using this)
def hdI (l : List S28) (i : Nat) : ByteArray × List Int × Int := ((rd_T28 l i).f0, (rd_T28 l i).f1, (rd_T28 l i).f2)
def impl_ValidHands.f (l0 : List S28) : Option Bool := some (handsOk (hdI l0) l0.length)
set_option maxHeartbeats 8000000 in
set_option maxRecDepth 100000 in
theorem impl_ValidHands.calls (A0 : Option Addr) (c0 : Nat) (l0 : List (S28)) (r : Bool) (w : World) (hr0 : Kd.C k28 w A0 l0.length l0) (hc0 : l0.length ≤ c0) (h : impl_ValidHands.f l0 = some r) :
    Calls Try.prog 26 #[.slice A0 l0.length c0] w fun e w' => e = .returned (.bool r) ∧ Below w.heap.size w w' := by
  have hm := Kd.C_max hr0
  obtain rfl : handsOk (hdI l0) l0.length = r := by simpa [impl_ValidHands.f] using h
  have HR0 := Aside0.mk hr0
  have HC0 := Aside0.mk hc0
  clear hr0 h
  by_cases h10 : 10 < l0.length
  · have hh : handsOk (hdI l0) l0.length = false := by unfold handsOk; rw [decide_eq_false (by omega), Bool.and_false]
    have HH := Aside0.mk hh
    have p1 : (10 : Int) < (l0.length : Int) := by omega
    clear hh
    go_enter Try.func26, Try.ntmps26
    go_wp2
    go_ret
    exact ⟨by rw [HH.out]; rfl, Below.refl _ _⟩
  · have p1 : ¬ (10 : Int) < (l0.length : Int) := by omega
    go_enter Try.func26, Try.ntmps26
    go_wp2
    go_loopw [3, 4, 10] (fun _ _ v10 w' => ∃ i : Nat, v10 = .int .i64 i ∧ i ≤ l0.length ∧ Aside0 (∀ j, j < i → fitH (hdI l0) j = true) ∧ Aside0 (Below w.heap.size w w')) (fun _ _ v10 _ => l0.length - (intOf v10).toNat)
    case atStart => exact ⟨0, rfl, Nat.zero_le _, ⟨fun j hj => absurd hj (Nat.not_lt_zero _)⟩, ⟨Below.refl _ _⟩⟩
    case round =>
      obtain ⟨i, rfl, hi, hf, hw⟩ := hrel
      have HRw := Aside0.mk (Kd.C_below HR0.out hw.out)
      by_cases hlt : i < l0.length
      · have p2 : (0 : Int) ≤ (i : Int) := Int.natCast_nonneg i
        have p3 : (i : Int) < (l0.length : Int) := Int.ofNat_lt.2 hlt
        obtain ⟨ad, A1, c1, rfl, d0, d1, d2, hl1, hC1⟩ := at_T28 HRw.out (i : Int) p2 p3
        rw [Int.toNat_natCast] at d0 d1 d2
        obtain ⟨K, hK⟩ := Ev.pick (hand_impl (rd_T28 l0 i).f0 (rd_T28 l0 i).f1 (rd_T28 l0 i).f2 (Kd.C_max hC1))
        have hKK := hK K (Nat.le_refl _)
        have I1 : Aside0 (∀ W, Below wr.heap.size wr W → Calls Try.prog 46 #[.agg #[.string (rd_T28 l0 i).f0, .slice A1 (rd_T28 l0 i).f1.length c1, .int .i64 (rd_T28 l0 i).f2]] W fun e w' => e = .returned (.bool (handV (rd_T28 l0 i).f0 (rd_T28 l0 i).f1 (rd_T28 l0 i).f2)) ∧ Below W.heap.size W w') := ⟨fun W hb => impl_validHand.calls K _ A1 c1 _ _ _ W (Kd.C_below hC1 hb) hl1 hKK⟩
        have I2 : Aside0 (∀ W, Below wr.heap.size wr W → wr.heap.size < W.heap.size → W.cell? ⟨wr.heap.size, 0, none⟩ = some (.string (rd_T28 l0 i).f0) → Calls Try.prog 55 #[.slice (some ad) i c0, .func (.func 56) #[] #[.pointer (some ⟨wr.heap.size, 0, none⟩)]] W fun e w' => e = .returned (.bool (decide (0 ≤ nameIdx (l0.take i) (rd_T28 l0 i).f0))) ∧ Below W.heap.size W w') :=
          ⟨fun W hb hz hcl => by
            have hq : (l0.take i).length = i := by rw [List.length_take, Nat.min_eq_left hi]
            have := handsContainsFunc (some ad) c0 (l0.take i) wr.heap.size (rd_T28 l0 i).f0 W (by rw [hq]; exact Kd.C_below (hands_take HRw.out hi) hb) hz hcl
            rw [hq] at this
            exact this⟩
        generalize hv : handV (rd_T28 l0 i).f0 (rd_T28 l0 i).f1 (rd_T28 l0 i).f2 = v at I1
        generalize hd : decide (0 ≤ nameIdx (l0.take i) (rd_T28 l0 i).f0) = d at I2
        have HV := Aside0.mk hv
        have HD := Aside0.mk hd
        have p4 : i ≤ c0 := by have := HC0.out; omega
        clear hK hKK hv hd hl1 hC1
        cases v with
        | false =>
          go_wp2_with (go_at_call 46; (with_reducible refine (I1.out _ ?hb1).mono ?_); (case hb1 => exact below_alloc (Below.refl _ _) _); rintro e w' ⟨rfl, hb'⟩)
          go_ret
          have hno := handsOk_no hlt (fitH_bad (hd := hdI l0) (i := i) HV.out)
          exact ⟨by rw [hno]; rfl, below_then (below_alloc hw.out _) (below_alloc hw.out _).size hb'⟩
        | true =>
          cases d with
          | true =>
            go_wp2_with (first | (go_at_call 46; (with_reducible refine (I1.out _ ?hb1).mono ?_); (case hb1 => exact below_alloc (Below.refl _ _) _); rintro e w3 ⟨rfl, hb'⟩; have HB3 := Aside0.mk hb'; clear hb') | (go_at_call 55; (with_reducible refine (I2.out _ ?hb1 ?hb2 ?hb3).mono ?_); (case hb1 => exact below_then (below_alloc (Below.refl _ _) _) (below_alloc (Below.refl _ _) _).size HB3.out); (case hb2 => have := HB3.out.size; simp at this; omega); (case hb3 => exact (HB3.out.cell (by simp)).trans (by simp [World.cell?_alloc_new])); rintro e w4 ⟨rfl, hb4⟩))
            go_ret
            obtain ⟨k, hk, hkn⟩ := nameIdx_yes HD.out
            have hno := handsOk_no hlt (fitH_twin (hd := hdI l0) hk hkn)
            have hb5 := below_then (below_alloc hw.out _) (below_alloc hw.out _).size HB3.out
            exact ⟨by rw [hno]; rfl, below_then hb5 hb5.size hb4⟩
          | false =>
            go_wp2_with (first | (go_at_call 46; (with_reducible refine (I1.out _ ?hb1).mono ?_); (case hb1 => exact below_alloc (Below.refl _ _) _); rintro e w3 ⟨rfl, hb'⟩; have HB3 := Aside0.mk hb'; clear hb') | (go_at_call 55; (with_reducible refine (I2.out _ ?hb1 ?hb2 ?hb3).mono ?_); (case hb1 => exact below_then (below_alloc (Below.refl _ _) _) (below_alloc (Below.refl _ _) _).size HB3.out); (case hb2 => have := HB3.out.size; simp at this; omega); (case hb3 => exact (HB3.out.cell (by simp)).trans (by simp [World.cell?_alloc_new])); rintro e w4 ⟨rfl, hb4⟩))
            go_roundw
            case rel =>
              have hg := fitH_good (hd := hdI l0) (i := i) HV.out (nameIdx_no (by omega) HD.out)
              have hb5 := below_then (below_alloc hw.out _) (below_alloc hw.out _).size HB3.out
              exact ⟨i + 1, by go_num, by omega, ⟨fun j hj => by
                by_cases e : j = i
                · subst e; exact hg
                · exact hf.out j (by omega)⟩, ⟨below_then hb5 hb5.size hb4⟩⟩
            case measure => simp [intOf]; omega
      · go_wp2
        go_ret
        have := handsOk_yes (hd := hdI l0) (n := l0.length) (fun j hj => hf.out j (by omega))
        exact ⟨by rw [this, decide_eq_true (by omega)]; rfl, hw.out⟩
end


/-! ### impl_BusiestDay: function 29, by hand -/
section
open Go.Proofs.Ytnmfndfldhgaeaa.Base
def dayB (l : List S28) (d : Nat) : Nat → Int
  | 0 => 0
  | i + 1 => dayB l d i + (if d < (rd_T28 l (i : Int)).f1.length then rd (rd_T28 l (i : Int)).f1 (d : Int) else 0)
def bestB (l : List S28) (n : Nat) : Nat → Nat
  | 0 => 0
  | d + 1 => if dayB l (bestB l n d) n < dayB l d n then d else bestB l n d
def busyB (l : List S28) : Int × Int × Int := if dayB l (bestB l l.length 14) l.length = 0 then (0, 0, 3) else ((bestB l l.length 14 : Nat), dayB l (bestB l l.length 14) l.length, 0)
def impl_BusiestDay.f (l0 : List S28) : Option (Int × Int × Int) := if handsOk (hdI l0) l0.length = true then some (busyB l0) else some (0, 0, 1)
def dayC (l : List S28) (i k d : Nat) : Int := dayB l d i + (if d < k then rd (rd_T28 l (i : Int)).f1 (d : Int) else 0)
theorem dayC_zero (l : List S28) (i d : Nat) : dayC l i 0 d = dayB l d i := by unfold dayC; rw [if_neg (Nat.not_lt_zero _), Int.add_zero]
theorem dayC_len (l : List S28) (i d : Nat) : dayC l i (rd_T28 l (i : Int)).f1.length d = dayB l d (i + 1) := rfl
theorem dayC_at (l : List S28) (i k : Nat) : dayC l i (k + 1) k = dayC l i k k + rd (rd_T28 l (i : Int)).f1 (k : Int) := by unfold dayC; rw [if_pos (Nat.lt_succ_self _), if_neg (Nat.lt_irrefl _), Int.add_zero]
theorem dayC_off (l : List S28) (i k d : Nat) (h : ¬ d = k) : dayC l i (k + 1) d = dayC l i k d := by
  unfold dayC
  by_cases c : d < k
  · rw [if_pos c, if_pos (by omega)]
  · rw [if_neg c, if_neg (by omega)]
theorem hands_each {l : List S28} (h : handsOk (hdI l) l.length = true) : l.length ≤ 10 ∧ ∀ i, i < l.length → (rd_T28 l (i : Int)).f1.length ≤ 14 ∧ ∀ x ∈ (rd_T28 l (i : Int)).f1, 0 ≤ x ∧ x ≤ 1440 := by
  unfold handsOk at h
  rw [Bool.and_eq_true, List.all_eq_true] at h
  refine ⟨of_decide_eq_true h.2, fun i hi => ?_⟩
  have := h.1 i (List.mem_range.2 hi)
  unfold fitH at this
  rw [Bool.and_eq_true] at this
  have h2 := handV_shift this.1
  exact ⟨h2.2.1, h2.1⟩
theorem rd_in {l : List Int} (h : ∀ x ∈ l, 0 ≤ x ∧ x ≤ 1440) {k : Nat} (hk : k < l.length) : 0 ≤ rd l (k : Int) ∧ rd l (k : Int) ≤ 1440 := by
  rw [rd_nat l k hk]; exact h _ (List.getElem_mem hk)
theorem dayB_bd {l : List S28} (h : handsOk (hdI l) l.length = true) (d : Nat) : ∀ i, i ≤ l.length → 0 ≤ dayB l d i ∧ dayB l d i ≤ 1440 * i
  | 0, _ => by simp [dayB]
  | i + 1, hi => by
    have ih := dayB_bd h d i (by omega)
    have he := (hands_each h).2 i (by omega)
    simp only [dayB]
    split
    · rename_i c
      have := rd_in he.2 c
      omega
    · omega
theorem dayC_bd {l : List S28} (h : handsOk (hdI l) l.length = true) {i k : Nat} (hi : i < l.length) (hk : k ≤ (rd_T28 l (i : Int)).f1.length) (d : Nat) : 0 ≤ dayC l i k d ∧ dayC l i k d ≤ 14400 := by
  have hb := dayB_bd h d i (by omega)
  have he := hands_each h
  unfold dayC
  split
  · rename_i c
    have := rd_in (he.2 i hi).2 (k := d) (by omega)
    omega
  · omega
theorem bestB_lt (l : List S28) (n : Nat) : ∀ d, bestB l n d < 14 ∨ 14 < d
  | 0 => .inl (by simp [bestB])
  | d + 1 => by
    rcases bestB_lt l n d with h | h
    · simp only [bestB]
      split
      · omega
      · omega
    · exact .inr (by omega)
set_option maxHeartbeats 8000000 in
set_option maxRecDepth 100000 in
theorem impl_BusiestDay.calls (A0 : Option Addr) (c0 : Nat) (l0 : List (S28)) (r1 : Int) (r2 : Int) (r3 : Int) (w : World) (hr0 : Kd.C k28 w A0 l0.length l0) (hc0 : l0.length ≤ c0) (h : impl_BusiestDay.f l0 = some (r1, r2, r3)) :
    Calls Try.prog 29 #[.slice A0 l0.length c0] w fun e w' => e = .returned (.tuple #[.int .i64 r1, .int .i64 r2, .int .i64 r3]) ∧ Below w.heap.size w w' := by
  have hm := Kd.C_max hr0
  have I1 := Aside0.mk (impl_ValidHands.calls A0 c0 l0 _ w hr0 hc0 rfl)
  have HR0 := Aside0.mk hr0
  have HC0 := Aside0.mk hc0
  clear hr0 hc0
  unfold impl_BusiestDay.f at h
  generalize hv : handsOk (hdI l0) l0.length = v at h I1
  have HV := Aside0.mk hv
  clear hv
  cases v with
  | false =>
    simp only [Bool.false_eq_true, if_false, Option.some.injEq, Prod.mk.injEq] at h
    obtain ⟨rfl, rfl, rfl⟩ := h
    go_enter Try.func29, Try.ntmps29
    go_wp2_with (go_at_call 26; (with_reducible refine I1.out.mono ?_); rintro e w' ⟨rfl, hb⟩)
    go_ret3
    exact ⟨rfl, hb⟩
  | true =>
    simp only [if_true, Option.some.injEq] at h
    have HA := Aside0.mk h
    clear h
    go_enter Try.func29, Try.ntmps29
    go_wp2_with (go_at_call 26; (with_reducible refine I1.out.mono ?_); rintro e w1 ⟨rfl, hb⟩; have HB1 := Aside0.mk hb; clear hb)
    have HV2 := Aside0.mk (hands_each HV.out)
    have HS1 := Aside0.mk HB1.out.size
    have HW2 : Aside0 (∃ w2, w2 = w1.alloc (.cells #[.int .i64 0, .int .i64 0, .int .i64 0, .int .i64 0, .int .i64 0, .int .i64 0, .int .i64 0, .int .i64 0, .int .i64 0, .int .i64 0, .int .i64 0, .int .i64 0, .int .i64 0, .int .i64 0] 70)) := ⟨_, rfl⟩
    generalize hBB : w1.heap.size = B at *
    have HBB := Aside0.mk hBB
    clear hBB
    go_loopw [7, 8, 9, 18] (fun _ _ _ v18 w' => ∃ i : Nat, v18 = .int .i64 i ∧ i ≤ l0.length ∧ Aside0 (Below w.heap.size w w') ∧ Aside0 (w'.rowIs B 70 14 (fun d => .int .i64 (dayB l0 d i)))) (fun _ _ _ v18 _ => l0.length - (intOf v18).toNat)
    case atStart =>
      refine ⟨0, rfl, Nat.zero_le _, ⟨below_alloc HB1.out _⟩, ⟨?_⟩⟩
      have := World.rowIs_alloc w1 #[.int .i64 0, .int .i64 0, .int .i64 0, .int .i64 0, .int .i64 0, .int .i64 0, .int .i64 0, .int .i64 0, .int .i64 0, .int .i64 0, .int .i64 0, .int .i64 0, .int .i64 0, .int .i64 0] 70 (fun d => .int .i64 (dayB l0 d 0)) (by
        intro d hd
        have hd : d < 14 := hd
        show (Array.replicate 14 (Value.int .i64 0))[d]? = some (.int .i64 0)
        rw [Array.getElem?_replicate, if_pos hd])
      rw [HBB.out] at this
      exact this
    case round =>
      obtain ⟨i, rfl, hi, hw, hrow⟩ := hrel
      by_cases hlt : i < l0.length
      · have p1 : (0 : Int) ≤ (i : Int) := Int.natCast_nonneg i
        have p2 : (i : Int) < (l0.length : Int) := Int.ofNat_lt.2 hlt
        obtain ⟨ad, A1, c1, rfl, d0, d1, d2, hl1, hC1⟩ := at_T28 HR0.out (i : Int) p1 p2
        rw [Int.toNat_natCast] at d0 d1 d2
        replace d0 := pw_cell_below hw.out d0
        replace d1 := pw_cell_below hw.out d1
        replace d2 := pw_cell_below hw.out d2
        have HC1 := Aside0.mk hC1
        have HB3 := Aside0.mk (fun k (hk : k ≤ (rd_T28 l0 (i : Int)).f1.length) d => dayC_bd HV.out hlt hk d)
        have HX := Aside0.mk ((HV2.out.2 i hlt).2)
        have h14 : (rd_T28 l0 (i : Int)).f1.length ≤ 14 := (HV2.out.2 i hlt).1
        have hBr : B < wr.heap.size := hrow.out.lt
        have hrow' := hrow
        clear hC1 hl1
        go_wp2
        go_loopw [8, 9, 25] (fun _ _ v25 w' => ∃ k : Nat, v25 = .int .i64 k ∧ k ≤ (rd_T28 l0 (i : Int)).f1.length ∧ Aside0 (Below w.heap.size w w') ∧ Aside0 (w'.rowIs B 70 14 (fun d => .int .i64 (dayC l0 i k d)))) (fun _ _ v25 _ => (rd_T28 l0 (i : Int)).f1.length - (intOf v25).toNat)
        case atStart => exact ⟨0, rfl, Nat.zero_le _, ⟨below_alloc hw.out _⟩, ⟨(hrow.out.alloc _).congr fun d _ => by rw [dayC_zero]⟩⟩
        case round =>
          rename_i wr2 _
          obtain ⟨k, rfl, hk, hw2, hrow2⟩ := hrel
          by_cases hkl : k < (rd_T28 l0 (i : Int)).f1.length
          · have q1 : (0 : Int) ≤ (k : Int) := Int.natCast_nonneg k
            have q2 : (k : Int) < ((rd_T28 l0 (i : Int)).f1.length : Int) := Int.ofNat_lt.2 hkl
            have q3 : (k : Int) < 14 := by omega
            obtain ⟨ad1, rfl, hx⟩ := Kd.at_int (Kd.C_below HC1.out hw2.out) (k : Int) q1 q2
            rw [Int.toNat_natCast] at hx
            have hx2 := hrow2.out.cell (i := k) (by omega)
            have hx3 := hrow2.out.frozen k
            have z1 := HB3.out k hk k
            have z2 := rd_in HX.out hkl
            have z3 := Aside0.mk (dayC_at l0 i k)
            have z4 := Aside0.mk (dayC_off l0 i k)
            obtain ⟨z5, z6⟩ := z1
            obtain ⟨z7, z8⟩ := z2
            generalize hsv : dayC l0 i k k = sv at hx2 z3 z5 z6
            generalize rd (rd_T28 l0 (i : Int)).f1 (k : Int) = mv at hx z3 z7 z8
            have hBw : w.heap.size ≤ B := by have := HS1.out; have := HBB.out; omega
            have HSV := Aside0.mk hsv
            clear hsv
            go_wp2
            go_roundw
            case rel => exact ⟨k + 1, by go_num, by omega, ⟨below_set hw2.out hBw⟩, ⟨(hrow2.out.set k _).congr fun d _ => by
              by_cases e : d = k
              · subst e; rw [if_pos rfl, z3.out]
              · rw [if_neg e, z4.out d e]⟩⟩
            case measure => simp [intOf]; omega
          · obtain rfl : k = (rd_T28 l0 (i : Int)).f1.length := by omega
            go_wp2
            go_roundw
            case rel => exact ⟨i + 1, by go_num, by omega, hw2, ⟨hrow2.out.congr fun d _ => by rw [dayC_len]⟩⟩
            case measure => simp [intOf]; omega
      · obtain rfl : i = l0.length := by omega
        go_wp2
        go_loopw [10, 11, 38] (fun v10 _ v38 w' => ∃ d : Nat, v38 = .int .i64 d ∧ d ≤ 14 ∧ v10 = .int .i64 (bestB l0 l0.length d : Nat) ∧ Aside0 (Below w.heap.size w w') ∧ Aside0 (w'.rowIs B 70 14 (fun d => .int .i64 (dayB l0 d l0.length)))) (fun _ _ v38 _ => 14 - (intOf v38).toNat)
        case atStart => exact ⟨0, rfl, Nat.zero_le _, rfl, hw, hrow⟩
        case round =>
          rename_i wr2 _
          obtain ⟨d, rfl, hd, rfl, hw2, hrow2⟩ := hrel
          have hbl := bestB_lt l0 l0.length d
          have HN := Aside0.mk (show bestB l0 l0.length (d + 1) = if dayB l0 (bestB l0 l0.length d) l0.length < dayB l0 d l0.length then d else bestB l0 l0.length d from rfl)
          generalize hbb : bestB l0 l0.length d = b at *
          have HBb := Aside0.mk hbb
          clear hbb
          have hb14 : b < 14 := by omega
          have y2 := hrow2.out.cell (i := b) hb14
          have q4 : (0 : Int) ≤ (b : Int) := Int.natCast_nonneg b
          have q5 : (b : Int) < 14 := by omega
          by_cases hd14 : d < 14
          · have q1 : (0 : Int) ≤ (d : Int) := Int.natCast_nonneg d
            have q3 : (d : Int) < 14 := by omega
            have y1 := hrow2.out.cell (i := d) hd14
            generalize dayB l0 d l0.length = sd at *
            generalize dayB l0 b l0.length = sb at *
            by_cases hgt : sb < sd
            · have hN : bestB l0 l0.length (d + 1) = d := by rw [HN.out, if_pos hgt]
              have HN2 := Aside0.mk hN
              clear hN
              have e1 : decide (sb < sd) = true := decide_eq_true hgt
              go_wp2
              go_quiet (fail)
              go_wp2
              go_roundw
              case rel => exact ⟨d + 1, by go_num, by omega, by rw [HN2.out], ⟨pw_below_drewN hw2.out _⟩, hrow2⟩
              case measure => simp [intOf]; omega
            · have hN : bestB l0 l0.length (d + 1) = b := by rw [HN.out, if_neg hgt]
              have HN2 := Aside0.mk hN
              clear hN
              have e1 : decide (sb < sd) = false := decide_eq_false hgt
              go_wp2
              go_quiet (fail)
              go_wp2
              go_roundw
              case rel => exact ⟨d + 1, by go_num, by omega, by rw [HN2.out], ⟨pw_below_drewN hw2.out _⟩, hrow2⟩
              case measure => simp [intOf]; omega
          · obtain rfl : d = 14 := by omega
            have he := HA.out
            unfold busyB at he
            rw [HBb.out] at he
            by_cases hz : dayB l0 b l0.length = 0
            · rw [if_pos hz] at he
              have HE := Aside0.mk he
              clear he
              rw [hz] at y2
              clear hz
              go_wp2
              go_ret3
              have := HE.out
              simp only [Prod.mk.injEq] at this
              obtain ⟨rfl, rfl, rfl⟩ := this
              exact ⟨rfl, hw2.out⟩
            · rw [if_neg hz] at he
              have HE := Aside0.mk he
              clear he
              generalize hsv : dayB l0 b l0.length = sv at y2 HE hz
              have HSV := Aside0.mk hsv
              clear hsv
              have e1 : (sv == 0) = false := by simpa using hz
              go_wp2
              go_quiet (fail)
              go_wp2
              go_ret3
              have := HE.out
              simp only [Prod.mk.injEq] at this
              obtain ⟨rfl, rfl, rfl⟩ := this
              exact ⟨rfl, pw_below_drewN hw2.out _⟩
end


/-! ### laws_FnExactBusiestDay: function 8 -/
def laws_FnExactBusiestDay.j0 : Nat → List (S24) → List (S28) → Bool → Option (Bool)
  | 0, _, _, _ => none
  | k + 1, x0, x7, x43 => if x43 = true then (some false) else ((laws_toHandS.f k x0).bind fun t160 => ((laws_eqHandS.f k x7 t160).bind fun t163 => (if t163 = true then (some true) else (some false))))
def laws_FnExactBusiestDay.f (k : Nat) (l0 : List (S24)) : Option (Bool) := (laws_szHandS.f k l0 1048576).bind fun t147 => (if t147 < 0 then (some true) else ((laws_toHandS.f k l0).bind fun t148 => ((spec_BusiestDay.f k t148).bind fun bt151 => ((laws_toHandS.f k l0).bind fun t154 => ((impl_BusiestDay.f t154).bind fun bt157 => (if bt157.1 = bt151.1 then (if bt157.2.1 = bt151.2.1 then (laws_FnExactBusiestDay.j0 k l0 t154 (bt157.2.2 != bt151.2.2)) else (laws_FnExactBusiestDay.j0 k l0 t154 true)) else (laws_FnExactBusiestDay.j0 k l0 t154 true)))))))
theorem laws_FnExactBusiestDay.mono_l : ∀ k, (∀ y0 y1 y2, LeO (laws_FnExactBusiestDay.j0 k y0 y1 y2) (laws_FnExactBusiestDay.j0 (k + 1) y0 y1 y2))
  | 0 => fun _ _ _ r h => by simp [laws_FnExactBusiestDay.j0] at h
  | k + 1 => by
    have ih0 := laws_FnExactBusiestDay.mono_l k
    · intro y0 y1 y2
      unfold laws_FnExactBusiestDay.j0
      repeat' first
      | (with_reducible exact ih0 _ _ _)
      | (with_reducible exact laws_eqHandS.mono _ _ _)
      | (with_reducible exact laws_szHandS.mono _ _ _)
      | (with_reducible exact laws_toHandS.mono _ _)
      | (with_reducible exact spec_BusiestDay.mono _ _)
      | (with_reducible exact LeO.refl _)
      | (with_reducible exact LeO.none _)
      | (with_reducible refine LeO.ite ?_ ?_)
      | (with_reducible refine LeO.bind ?_ (fun _ => ?_))
      | exact ih0 _ _ _
      | exact laws_eqHandS.mono _ _ _
      | exact laws_szHandS.mono _ _ _
      | exact laws_toHandS.mono _ _
      | exact spec_BusiestDay.mono _ _
      | exact LeO.none _
      | refine LeO.ite ?_ ?_
      | refine LeO.bind ?_ (fun _ => ?_)
theorem laws_FnExactBusiestDay.mono : ∀ a0 k, LeO (laws_FnExactBusiestDay.f k a0) (laws_FnExactBusiestDay.f (k + 1) a0) := by
  intro a0 k
  have ih0 := laws_FnExactBusiestDay.mono_l k
  unfold laws_FnExactBusiestDay.f
  repeat' first
      | (with_reducible exact ih0 _ _ _)
      | (with_reducible exact laws_eqHandS.mono _ _ _)
      | (with_reducible exact laws_szHandS.mono _ _ _)
      | (with_reducible exact laws_toHandS.mono _ _)
      | (with_reducible exact spec_BusiestDay.mono _ _)
      | (with_reducible exact LeO.refl _)
      | (with_reducible exact LeO.none _)
      | (with_reducible refine LeO.ite ?_ ?_)
      | (with_reducible refine LeO.bind ?_ (fun _ => ?_))
      | exact ih0 _ _ _
      | exact laws_eqHandS.mono _ _ _
      | exact laws_szHandS.mono _ _ _
      | exact laws_toHandS.mono _ _
      | exact spec_BusiestDay.mono _ _
      | exact LeO.none _
      | refine LeO.ite ?_ ?_
      | refine LeO.bind ?_ (fun _ => ?_)
set_option maxHeartbeats 8000000 in
set_option maxRecDepth 100000 in
theorem laws_FnExactBusiestDay.calls (k : Nat) (A0 : Option Addr) (c0 : Nat) (l0 : List (S24)) (r : Bool) (w : World) (hr0 : Kd.C k24 w A0 l0.length l0) (hc0 : l0.length ≤ c0) (h : laws_FnExactBusiestDay.f k l0 = some r) :
    Calls Try.prog 8 #[.slice A0 l0.length c0] w fun e w' => e = .returned (.bool r) ∧ Below w.heap.size w w' := by
  have HR0 := Aside0.mk hr0
  have HC0 := Aside0.mk hc0
  clear hr0 hc0
  have HB := Aside0.mk (Below.refl w.heap.size w)
  have H : ((laws_szHandS.f k l0 1048576).bind fun t147 => (if t147 < 0 then (some true) else ((laws_toHandS.f k l0).bind fun t148 => ((spec_BusiestDay.f k t148).bind fun bt151 => ((laws_toHandS.f k l0).bind fun t154 => ((impl_BusiestDay.f t154).bind fun bt157 => (if bt157.1 = bt151.1 then (if bt157.2.1 = bt151.2.1 then (laws_FnExactBusiestDay.j0 k l0 t154 (bt157.2.2 != bt151.2.2)) else (laws_FnExactBusiestDay.j0 k l0 t154 true)) else (laws_FnExactBusiestDay.j0 k l0 t154 true)))))))) = some r := h
  clear h
  replace H := Option.bind_eq_some_iff.mp H
  obtain ⟨t147, A20, H⟩ := H
  replace H : (if t147 < 0 then (some true) else ((laws_toHandS.f k l0).bind fun t148 => ((spec_BusiestDay.f k t148).bind fun bt151 => ((laws_toHandS.f k l0).bind fun t154 => ((impl_BusiestDay.f t154).bind fun bt157 => (if bt157.1 = bt151.1 then (if bt157.2.1 = bt151.2.1 then (laws_FnExactBusiestDay.j0 k l0 t154 (bt157.2.2 != bt151.2.2)) else (laws_FnExactBusiestDay.j0 k l0 t154 true)) else (laws_FnExactBusiestDay.j0 k l0 t154 true))))))) = some r := H
  have A2 := Aside0.mk A20
  clear A20
  by_cases c3 : t147 < 0
  · rw [if_pos c3] at H
    have c3b0 : decide (t147 < 0) = true := decide_eq_true c3
    clear c3
    obtain rfl := Option.some.inj H
    go_enter Try.func8, Try.ntmps8
    go_wp2_with (first | ((with_reducible refine gate_callee (f := 23) rfl ?_); refine goesL_ (some 13) rfl rfl Try.func23 (by kernel_rfl) rfl #[.slice A0 l0.length c0, .int .i64 1048576] rfl (by (try simp only [List.map_toArray, List.map_cons, List.map_nil]); first | done | rfl | (simp only [List.length_drop, List.length_take]; rfl)) ?_; (with_reducible refine (laws_szHandS.calls k _ _ l0 1048576 t147 _ ?side1 ?side2 A2.out).mono ?_); (case side1 => repeat (first | exact HR0.out | (with_reducible refine Kd.C_alloc ?_ _) | (with_reducible refine Kd.C_drewN ?_ _) | (with_reducible refine Kd.C_drew ?_))); (case side2 => exact HC0.out); rintro e w4 ⟨rfl, hb⟩; refine ⟨_, rfl, ?_⟩; have n0_ := Aside0.mk (below_step (by repeat (first | (with_reducible first | exact HB.out | apply below_alloc | apply pw_below_drewN | apply below_drew1) | exact HB.out)) hb); clear HB; have HB := n0_; clear n0_; (try clear hb); (try clear hb2); (try clear hk); (try clear hi)))
    go_ret
    exact ⟨by first | rfl | (simp [errW_none, errW_some] <;> rfl) | (simp [*, errW_none, errW_some] <;> rfl), by repeat (first | (with_reducible first | exact HB.out | apply below_alloc | apply pw_below_drewN | apply below_drew1) | exact HB.out)⟩
  · rw [if_neg c3] at H
    have c3b0 : decide (t147 < 0) = false := decide_eq_false c3
    clear c3
    replace H := Option.bind_eq_some_iff.mp H
    obtain ⟨t148, A50, H⟩ := H
    replace H : ((spec_BusiestDay.f k t148).bind fun bt151 => ((laws_toHandS.f k l0).bind fun t154 => ((impl_BusiestDay.f t154).bind fun bt157 => (if bt157.1 = bt151.1 then (if bt157.2.1 = bt151.2.1 then (laws_FnExactBusiestDay.j0 k l0 t154 (bt157.2.2 != bt151.2.2)) else (laws_FnExactBusiestDay.j0 k l0 t154 true)) else (laws_FnExactBusiestDay.j0 k l0 t154 true))))) = some r := H
    have A5 := Aside0.mk A50
    clear A50
    replace H := Option.bind_eq_some_iff.mp H
    obtain ⟨⟨t151, t152, t153⟩, A60, H⟩ := H
    replace H : ((laws_toHandS.f k l0).bind fun t154 => ((impl_BusiestDay.f t154).bind fun bt157 => (if bt157.1 = t151 then (if bt157.2.1 = t152 then (laws_FnExactBusiestDay.j0 k l0 t154 (bt157.2.2 != t153)) else (laws_FnExactBusiestDay.j0 k l0 t154 true)) else (laws_FnExactBusiestDay.j0 k l0 t154 true)))) = some r := H
    have A6 := Aside0.mk A60
    clear A60
    replace H := Option.bind_eq_some_iff.mp H
    obtain ⟨t154, A70, H⟩ := H
    replace H : ((impl_BusiestDay.f t154).bind fun bt157 => (if bt157.1 = t151 then (if bt157.2.1 = t152 then (laws_FnExactBusiestDay.j0 k l0 t154 (bt157.2.2 != t153)) else (laws_FnExactBusiestDay.j0 k l0 t154 true)) else (laws_FnExactBusiestDay.j0 k l0 t154 true))) = some r := H
    have A7 := Aside0.mk A70
    clear A70
    replace H := Option.bind_eq_some_iff.mp H
    obtain ⟨⟨t157, t158, t159⟩, A80, H⟩ := H
    replace H : (if t157 = t151 then (if t158 = t152 then (laws_FnExactBusiestDay.j0 k l0 t154 (t159 != t153)) else (laws_FnExactBusiestDay.j0 k l0 t154 true)) else (laws_FnExactBusiestDay.j0 k l0 t154 true)) = some r := H
    have A8 := Aside0.mk A80
    clear A80
    have HC9 := Aside0.mk H
    clear H
    go_enter Try.func8, Try.ntmps8
    go_upto_region 8 with (first | ((with_reducible refine gate_callee (f := 23) rfl ?_); refine goesL_ (some 13) rfl rfl Try.func23 (by kernel_rfl) rfl #[.slice A0 l0.length c0, .int .i64 1048576] rfl (by (try simp only [List.map_toArray, List.map_cons, List.map_nil]); first | done | rfl | (simp only [List.length_drop, List.length_take]; rfl)) ?_; (with_reducible refine (laws_szHandS.calls k _ _ l0 1048576 t147 _ ?side1 ?side2 A2.out).mono ?_); (case side1 => repeat (first | exact HR0.out | (with_reducible refine Kd.C_alloc ?_ _) | (with_reducible refine Kd.C_drewN ?_ _) | (with_reducible refine Kd.C_drew ?_))); (case side2 => exact HC0.out); rintro e w10 ⟨rfl, hb⟩; refine ⟨_, rfl, ?_⟩; have n0_ := Aside0.mk (below_step (by repeat (first | (with_reducible first | exact HB.out | apply below_alloc | apply pw_below_drewN | apply below_drew1) | exact HB.out)) hb); clear HB; have HB := n0_; clear n0_; (try clear hb); (try clear hb2); (try clear hk); (try clear hi)) | ((with_reducible refine gate_callee (f := 25) rfl ?_); refine goesL_ (some 18) rfl rfl Try.func25 (by kernel_rfl) rfl #[.slice A0 l0.length c0] rfl (by (try simp only [List.map_toArray, List.map_cons, List.map_nil]); first | done | rfl | (simp only [List.length_drop, List.length_take]; rfl)) ?_; (with_reducible refine (laws_toHandS.calls k _ _ l0 t148 _ ?side1 ?side2 A5.out).mono ?_); (case side1 => repeat (first | exact (Kd.C_below HR0.out HB.out) | (with_reducible refine Kd.C_alloc ?_ _) | (with_reducible refine Kd.C_drewN ?_ _) | (with_reducible refine Kd.C_drew ?_))); (case side2 => exact HC0.out); rintro e w11 ⟨v149, rfl, ho0, hb⟩; refine ⟨_, rfl, ?_⟩; have n0_ := Aside0.mk (Kd.S_lower ho0 (below_size (by repeat (first | (with_reducible first | exact HB.out | apply below_alloc | apply pw_below_drewN | apply below_drew1) | exact HB.out)))); have n1_ := Aside0.mk (below_step (by repeat (first | (with_reducible first | exact HB.out | apply below_alloc | apply pw_below_drewN | apply below_drew1) | exact HB.out)) hb); clear HB; have HO150 := n0_; have HB := n1_; clear n0_ n1_; (try clear hb); (try clear hb2); (try clear hk); (try clear hi); (try clear ho0); obtain ⟨Ao12, co12, eo12⟩ := Kd.S_slice HO150.out; subst eo12) | ((with_reducible refine gate_callee (f := 28) rfl ?_); refine goesL_ (some 19) rfl rfl Try.func28 (by kernel_rfl) rfl #[.slice Ao12 t148.length co12] rfl (by (try simp only [List.map_toArray, List.map_cons, List.map_nil]); first | done | rfl | (simp only [List.length_drop, List.length_take]; rfl)) ?_; (with_reducible refine (spec_BusiestDay.calls k _ _ t148 t151 t152 t153 _ ?side1 ?side2 A6.out).mono ?_); (case side1 => repeat (first | exact (Kd.S_reads' HO150.out).2.2 | (with_reducible refine Kd.C_alloc ?_ _) | (with_reducible refine Kd.C_drewN ?_ _) | (with_reducible refine Kd.C_drew ?_))); (case side2 => exact (Kd.S_reads' HO150.out).2.1); rintro e w' ⟨rfl, ⟨nd, rfl⟩⟩; refine ⟨_, rfl, ?_⟩) | ((with_reducible refine gate_callee (f := 25) rfl ?_); refine goesL_ (some 24) rfl rfl Try.func25 (by kernel_rfl) rfl #[.slice A0 l0.length c0] rfl (by (try simp only [List.map_toArray, List.map_cons, List.map_nil]); first | done | rfl | (simp only [List.length_drop, List.length_take]; rfl)) ?_; (with_reducible refine (laws_toHandS.calls k _ _ l0 t154 _ ?side1 ?side2 A7.out).mono ?_); (case side1 => repeat (first | exact (Kd.C_below HR0.out (by repeat (first | (with_reducible first | exact HB.out | apply below_alloc | apply pw_below_drewN | apply below_drew1) | exact HB.out))) | (with_reducible refine Kd.C_alloc ?_ _) | (with_reducible refine Kd.C_drewN ?_ _) | (with_reducible refine Kd.C_drew ?_))); (case side2 => exact HC0.out); rintro e w13 ⟨v155, rfl, ho0, hb⟩; refine ⟨_, rfl, ?_⟩; have n0_ := Aside0.mk (Kd.S_elder' (by (with_reducible repeat (first | apply Kd.S_alloc | apply Kd.S_drewN | apply Kd.S_drew)); exact HO150.out) (Kd.S_base ho0) hb); have n1_ := Aside0.mk (Kd.S_lower (Kd.S_new' ho0 (Kd.S_lt (by (with_reducible repeat (first | apply Kd.S_alloc | apply Kd.S_drewN | apply Kd.S_drew)); exact HO150.out))) (below_size (by repeat (first | (with_reducible first | exact HB.out | apply below_alloc | apply pw_below_drewN | apply below_drew1) | exact HB.out)))); have n2_ := Aside0.mk (below_step (by repeat (first | (with_reducible first | exact HB.out | apply below_alloc | apply pw_below_drewN | apply below_drew1) | exact HB.out)) hb); clear HO150; clear HB; have HO150 := n0_; have HO156 := n1_; have HB := n2_; clear n0_ n1_ n2_; (try clear hb); (try clear hb2); (try clear hk); (try clear hi); (try clear ho0); obtain ⟨Ao14, co14, eo14⟩ := Kd.S_slice HO156.out; subst eo14) | ((with_reducible refine gate_callee (f := 29) rfl ?_); refine goesL_ (some 27) rfl rfl Try.func29 (by kernel_rfl) rfl #[.slice Ao14 t154.length co14] rfl (by (try simp only [List.map_toArray, List.map_cons, List.map_nil]); first | done | rfl | (simp only [List.length_drop, List.length_take]; rfl)) ?_; (with_reducible refine (impl_BusiestDay.calls _ _ t154 t157 t158 t159 _ ?side1 ?side2 A8.out).mono ?_); (case side1 => repeat (first | exact (Kd.S_reads' HO156.out).2.2 | (with_reducible refine Kd.C_alloc ?_ _) | (with_reducible refine Kd.C_drewN ?_ _) | (with_reducible refine Kd.C_drew ?_))); (case side2 => exact (Kd.S_reads' HO156.out).2.1); rintro e w15 ⟨rfl, hb⟩; refine ⟨_, rfl, ?_⟩; have n0_ := Aside0.mk (Kd.S_below (by (with_reducible repeat (first | apply Kd.S_alloc | apply Kd.S_drewN | apply Kd.S_drew)); exact HO150.out) hb); have n1_ := Aside0.mk (Kd.S_below (by (with_reducible repeat (first | apply Kd.S_alloc | apply Kd.S_drewN | apply Kd.S_drew)); exact HO156.out) hb); have n2_ := Aside0.mk (below_step (by repeat (first | (with_reducible first | exact HB.out | apply below_alloc | apply pw_below_drewN | apply below_drew1) | exact HB.out)) hb); clear HO150; clear HO156; clear HB; have HO150 := n0_; have HO156 := n1_; have HB := n2_; clear n0_ n1_ n2_; (try clear hb); (try clear hb2); (try clear hk); (try clear hi)))
    (try simp only [Act.put, List.setIfInBounds_toArray, List.set_cons_zero, List.set_cons_succ])
    go_cut [43] (fun v43 wc => ∃ (kq : Nat) (x43_8 : Bool), v43 = .bool x43_8 ∧ Aside0 (laws_FnExactBusiestDay.j0 kq l0 t154 x43_8 = some r) ∧ Aside0 (kq ≤ k) ∧ Aside0 (Kd.S k28 28 wc w.heap.size (fun _ => True) (.slice Ao14 t154.length co14) t154) ∧ Aside0 (Below w.heap.size w wc))
    case first =>
      have H := HC9.out
      clear HC9
      by_cases c16 : t157 = t151
      · rw [if_pos c16] at H
        have c16b0 : (t157 == t151) = true := beq_iff_eq.mpr c16
        have c16b1 : (t157 != t151) = false := bne_eq_false_iff_eq.mpr c16
        clear c16
        (first | rw [c16b0] | (simp only [i64_w, i32_w]; rw [c16b0]) | skip)
        by_cases c17 : t158 = t152
        · rw [if_pos c17] at H
          have c17b0 : (t158 == t152) = true := beq_iff_eq.mpr c17
          have c17b1 : (t158 != t152) = false := bne_eq_false_iff_eq.mpr c17
          clear c17
          have H' := Aside0.mk H
          clear H
          go_wp2
          go_meet
          case rel => exact ⟨_, ((t159 != t153)), (by first | rfl | (simp; done) | (simp [*]; done)), H', ⟨by first | omega | exact Nat.le_refl _⟩, ⟨by (with_reducible repeat (first | apply Kd.S_alloc | apply Kd.S_drewN | apply Kd.S_drew)); exact Kd.S_mono HO156.out (fun _ hk => trivial)⟩, ⟨by repeat (first | (with_reducible first | exact HB.out | apply below_alloc | apply pw_below_drewN | apply below_drew1) | exact HB.out)⟩⟩
        · rw [if_neg c17] at H
          have c17b0 : (t158 == t152) = false := beq_eq_false_iff_ne.mpr c17
          have c17b1 : (t158 != t152) = true := bne_iff_ne.mpr c17
          have H' := Aside0.mk H
          clear H
          go_wp2
          go_meet
          case rel => exact ⟨_, (true), (by first | rfl | (simp; done) | (simp [*]; done)), H', ⟨by first | omega | exact Nat.le_refl _⟩, ⟨by (with_reducible repeat (first | apply Kd.S_alloc | apply Kd.S_drewN | apply Kd.S_drew)); exact Kd.S_mono HO156.out (fun _ hk => trivial)⟩, ⟨by repeat (first | (with_reducible first | exact HB.out | apply below_alloc | apply pw_below_drewN | apply below_drew1) | exact HB.out)⟩⟩
      · rw [if_neg c16] at H
        have c16b0 : (t157 == t151) = false := beq_eq_false_iff_ne.mpr c16
        have c16b1 : (t157 != t151) = true := bne_iff_ne.mpr c16
        (first | rw [c16b0] | (simp only [i64_w, i32_w]; rw [c16b0]) | skip)
        have H' := Aside0.mk H
        clear H
        go_wp2
        go_meet
        case rel => exact ⟨_, (true), (by first | rfl | (simp; done) | (simp [*]; done)), H', ⟨by first | omega | exact Nat.le_refl _⟩, ⟨by (with_reducible repeat (first | apply Kd.S_alloc | apply Kd.S_drewN | apply Kd.S_drew)); exact Kd.S_mono HO156.out (fun _ hk => trivial)⟩, ⟨by repeat (first | (with_reducible first | exact HB.out | apply below_alloc | apply pw_below_drewN | apply below_drew1) | exact HB.out)⟩⟩
    case rest =>
      clear HC9
      try clear c1
      try clear c2
      try clear p2
      try clear c3
      try clear c3b0
      try clear c8
      try clear c16
      try clear c16b0
      try clear c16b1
      try clear c17
      try clear c17b0
      try clear c17b1
      obtain ⟨kq, x43_8, rfl, HA, HJ8, HO_7, HB⟩ := hcut
      cases kq with
      | zero => exact absurd HA.out (by simp [laws_FnExactBusiestDay.j0])
      | succ kj8 =>
        have H := HA.out
        clear HA
        simp only [laws_FnExactBusiestDay.j0] at H
        by_cases c18 : x43_8 = true
        · subst c18
          have H1 : (some false) = some r := by rw [if_pos rfl] at H; exact H
          clear H
          have H := H1
          clear H1
          obtain rfl := Option.some.inj H
          go_wp2
          go_ret
          exact ⟨by first | rfl | (simp [errW_none, errW_some] <;> rfl) | (simp [*, errW_none, errW_some] <;> rfl), by repeat (first | (with_reducible first | exact HB.out | apply below_alloc | apply pw_below_drewN | apply below_drew1) | exact HB.out)⟩
        · replace c18 := Bool.eq_false_iff.mpr c18
          subst c18
          have H1 : ((laws_toHandS.f kj8 l0).bind fun t160 => ((laws_eqHandS.f kj8 t154 t160).bind fun t163 => (if t163 = true then (some true) else (some false)))) = some r := by rw [if_neg (show ¬ (false = true) by decide)] at H; exact H
          clear H
          have H := H1
          clear H1
          replace H := Option.bind_eq_some_iff.mp H
          obtain ⟨t160, A190, H⟩ := H
          replace H : ((laws_eqHandS.f kj8 t154 t160).bind fun t163 => (if t163 = true then (some true) else (some false))) = some r := H
          have A19 := Aside0.mk A190
          clear A190
          replace H := Option.bind_eq_some_iff.mp H
          obtain ⟨t163, A200, H⟩ := H
          replace H : (if t163 = true then (some true) else (some false)) = some r := H
          have A20 := Aside0.mk A200
          clear A200
          by_cases c21 : t163 = true
          · subst c21
            have H1 : (some true) = some r := by rw [if_pos rfl] at H; exact H
            clear H
            have H := H1
            clear H1
            obtain rfl := Option.some.inj H
            go_wp2_with (first | ((with_reducible refine gate_callee (f := 25) rfl ?_); refine goesL_ (some 46) rfl rfl Try.func25 (by kernel_rfl) rfl #[.slice A0 l0.length c0] rfl (by (try simp only [List.map_toArray, List.map_cons, List.map_nil]); first | done | rfl | (simp only [List.length_drop, List.length_take]; rfl)) ?_; (with_reducible refine (laws_toHandS.calls kj8 _ _ l0 t160 _ ?side1 ?side2 A19.out).mono ?_); (case side1 => repeat (first | exact (Kd.C_below HR0.out HB.out) | (with_reducible refine Kd.C_alloc ?_ _) | (with_reducible refine Kd.C_drewN ?_ _) | (with_reducible refine Kd.C_drew ?_))); (case side2 => exact HC0.out); rintro e w22 ⟨v161, rfl, ho0, hb⟩; refine ⟨_, rfl, ?_⟩; have n0_ := Aside0.mk (Kd.S_elder' (by (with_reducible repeat (first | apply Kd.S_alloc | apply Kd.S_drewN | apply Kd.S_drew)); exact HO_7.out) (Kd.S_base ho0) hb); have n1_ := Aside0.mk (Kd.S_lower (Kd.S_new' ho0 (Kd.S_lt (by (with_reducible repeat (first | apply Kd.S_alloc | apply Kd.S_drewN | apply Kd.S_drew)); exact HO_7.out))) (below_size (by repeat (first | (with_reducible first | exact HB.out | apply below_alloc | apply pw_below_drewN | apply below_drew1) | exact HB.out)))); have n2_ := Aside0.mk (below_step (by repeat (first | (with_reducible first | exact HB.out | apply below_alloc | apply pw_below_drewN | apply below_drew1) | exact HB.out)) hb); clear HO_7; clear HB; have HO_7 := n0_; have HO162 := n1_; have HB := n2_; clear n0_ n1_ n2_; (try clear hb); (try clear hb2); (try clear hk); (try clear hi); (try clear ho0); obtain ⟨Ao23, co23, eo23⟩ := Kd.S_slice HO162.out; subst eo23) | ((with_reducible refine gate_callee (f := 27) rfl ?_); refine goesL_ (some 47) rfl rfl Try.func27 (by kernel_rfl) rfl #[.slice Ao14 t154.length co14, .slice Ao23 t160.length co23] rfl (by (try simp only [List.map_toArray, List.map_cons, List.map_nil]); first | done | rfl | (simp only [List.length_drop, List.length_take]; rfl)) ?_; (with_reducible refine (laws_eqHandS.calls kj8 _ _ t154 _ _ t160 true _ ?side1 ?side2 ?side3 ?side4 A20.out).mono ?_); (case side1 => repeat (first | exact (Kd.S_reads' HO_7.out).2.2 | (with_reducible refine Kd.C_alloc ?_ _) | (with_reducible refine Kd.C_drewN ?_ _) | (with_reducible refine Kd.C_drew ?_))); (case side2 => exact (Kd.S_reads' HO_7.out).2.1); (case side3 => repeat (first | exact (Kd.S_reads' HO162.out).2.2 | (with_reducible refine Kd.C_alloc ?_ _) | (with_reducible refine Kd.C_drewN ?_ _) | (with_reducible refine Kd.C_drew ?_))); (case side4 => exact (Kd.S_reads' HO162.out).2.1); rintro e w24 ⟨rfl, hb⟩; refine ⟨_, rfl, ?_⟩; have n0_ := Aside0.mk (Kd.S_below (by (with_reducible repeat (first | apply Kd.S_alloc | apply Kd.S_drewN | apply Kd.S_drew)); exact HO_7.out) hb); have n1_ := Aside0.mk (Kd.S_below (by (with_reducible repeat (first | apply Kd.S_alloc | apply Kd.S_drewN | apply Kd.S_drew)); exact HO162.out) hb); have n2_ := Aside0.mk (below_step (by repeat (first | (with_reducible first | exact HB.out | apply below_alloc | apply pw_below_drewN | apply below_drew1) | exact HB.out)) hb); clear HO_7; clear HO162; clear HB; have HO_7 := n0_; have HO162 := n1_; have HB := n2_; clear n0_ n1_ n2_; (try clear hb); (try clear hb2); (try clear hk); (try clear hi)))
            go_ret
            exact ⟨by first | rfl | (simp [errW_none, errW_some] <;> rfl) | (simp [*, errW_none, errW_some] <;> rfl), by repeat (first | (with_reducible first | exact HB.out | apply below_alloc | apply pw_below_drewN | apply below_drew1) | exact HB.out)⟩
          · replace c21 := Bool.eq_false_iff.mpr c21
            subst c21
            have H1 : (some false) = some r := by rw [if_neg (show ¬ (false = true) by decide)] at H; exact H
            clear H
            have H := H1
            clear H1
            obtain rfl := Option.some.inj H
            go_wp2_with (first | ((with_reducible refine gate_callee (f := 25) rfl ?_); refine goesL_ (some 46) rfl rfl Try.func25 (by kernel_rfl) rfl #[.slice A0 l0.length c0] rfl (by (try simp only [List.map_toArray, List.map_cons, List.map_nil]); first | done | rfl | (simp only [List.length_drop, List.length_take]; rfl)) ?_; (with_reducible refine (laws_toHandS.calls kj8 _ _ l0 t160 _ ?side1 ?side2 A19.out).mono ?_); (case side1 => repeat (first | exact (Kd.C_below HR0.out HB.out) | (with_reducible refine Kd.C_alloc ?_ _) | (with_reducible refine Kd.C_drewN ?_ _) | (with_reducible refine Kd.C_drew ?_))); (case side2 => exact HC0.out); rintro e w25 ⟨v161, rfl, ho0, hb⟩; refine ⟨_, rfl, ?_⟩; have n0_ := Aside0.mk (Kd.S_elder' (by (with_reducible repeat (first | apply Kd.S_alloc | apply Kd.S_drewN | apply Kd.S_drew)); exact HO_7.out) (Kd.S_base ho0) hb); have n1_ := Aside0.mk (Kd.S_lower (Kd.S_new' ho0 (Kd.S_lt (by (with_reducible repeat (first | apply Kd.S_alloc | apply Kd.S_drewN | apply Kd.S_drew)); exact HO_7.out))) (below_size (by repeat (first | (with_reducible first | exact HB.out | apply below_alloc | apply pw_below_drewN | apply below_drew1) | exact HB.out)))); have n2_ := Aside0.mk (below_step (by repeat (first | (with_reducible first | exact HB.out | apply below_alloc | apply pw_below_drewN | apply below_drew1) | exact HB.out)) hb); clear HO_7; clear HB; have HO_7 := n0_; have HO162 := n1_; have HB := n2_; clear n0_ n1_ n2_; (try clear hb); (try clear hb2); (try clear hk); (try clear hi); (try clear ho0); obtain ⟨Ao26, co26, eo26⟩ := Kd.S_slice HO162.out; subst eo26) | ((with_reducible refine gate_callee (f := 27) rfl ?_); refine goesL_ (some 47) rfl rfl Try.func27 (by kernel_rfl) rfl #[.slice Ao14 t154.length co14, .slice Ao26 t160.length co26] rfl (by (try simp only [List.map_toArray, List.map_cons, List.map_nil]); first | done | rfl | (simp only [List.length_drop, List.length_take]; rfl)) ?_; (with_reducible refine (laws_eqHandS.calls kj8 _ _ t154 _ _ t160 false _ ?side1 ?side2 ?side3 ?side4 A20.out).mono ?_); (case side1 => repeat (first | exact (Kd.S_reads' HO_7.out).2.2 | (with_reducible refine Kd.C_alloc ?_ _) | (with_reducible refine Kd.C_drewN ?_ _) | (with_reducible refine Kd.C_drew ?_))); (case side2 => exact (Kd.S_reads' HO_7.out).2.1); (case side3 => repeat (first | exact (Kd.S_reads' HO162.out).2.2 | (with_reducible refine Kd.C_alloc ?_ _) | (with_reducible refine Kd.C_drewN ?_ _) | (with_reducible refine Kd.C_drew ?_))); (case side4 => exact (Kd.S_reads' HO162.out).2.1); rintro e w27 ⟨rfl, hb⟩; refine ⟨_, rfl, ?_⟩; have n0_ := Aside0.mk (Kd.S_below (by (with_reducible repeat (first | apply Kd.S_alloc | apply Kd.S_drewN | apply Kd.S_drew)); exact HO_7.out) hb); have n1_ := Aside0.mk (Kd.S_below (by (with_reducible repeat (first | apply Kd.S_alloc | apply Kd.S_drewN | apply Kd.S_drew)); exact HO162.out) hb); have n2_ := Aside0.mk (below_step (by repeat (first | (with_reducible first | exact HB.out | apply below_alloc | apply pw_below_drewN | apply below_drew1) | exact HB.out)) hb); clear HO_7; clear HO162; clear HB; have HO_7 := n0_; have HO162 := n1_; have HB := n2_; clear n0_ n1_ n2_; (try clear hb); (try clear hb2); (try clear hk); (try clear hi)))
            go_ret
            exact ⟨by first | rfl | (simp [errW_none, errW_some] <;> rfl) | (simp [*, errW_none, errW_some] <;> rfl), by repeat (first | (with_reducible first | exact HB.out | apply below_alloc | apply pw_below_drewN | apply below_drew1) | exact HB.out)⟩

end Go.Proofs.Ytnmfndfldhgaeaa.QFnExactBusiestDay
