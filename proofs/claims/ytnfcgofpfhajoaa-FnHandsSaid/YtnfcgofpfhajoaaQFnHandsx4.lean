/- Functions and contracts of one law, printed by this session's own program (contracts by hand among them). -/
import Derived.Test.YtnfcgofpfhajoaaQFnHandsx0
import Derived.Test.YtnfcgofpfhajoaaQFnHandsx1
import Derived.Test.YtnfcgofpfhajoaaQFnHandsx2
namespace Go.Proofs.Ytnfcgofpfhajoaa.QFnHands
open Go.RowKit Go.Proofs.YtnfcgofpfhajoaaW.PrintWords Go.Proofs.YtnfcgofpfhajoaaW.PrintLast Go.Proofs.YtnfcgofpfhajoaaW.PrintMore
attribute [local go_sem] max2_int min2_int max_two min_two max_three min_three max_four min_four   -- for this text's walks alone
set_option linter.unusedVariables false
set_option linter.unusedSimpArgs false

/-! ### impl_ValidHands: function 47, by hand -/
section
open Go.Proofs.Ytnfcgofpfhajoaa.Base
theorem within_eq (a b c : Int) : impl_within.f a b c = some (decide (b ≤ a ∧ a ≤ c)) := by
  unfold impl_within.f
  by_cases h : a ≥ b
  · rw [if_pos h]; congr 1; apply Bool.eq_iff_iff.mpr; simp; omega
  · rw [if_neg h]; congr 1; apply Bool.eq_iff_iff.mpr; simp; omega

theorem name_loop_impl (s : ByteArray) (h : s.size ≤ 12) : Ev (fun k => impl_IsName.l0 k s 0) ((List.range s.size).all fun i => nameByte (bt s i)) := by
  have := all_lt s.size (fun i => nameByte (bt s i)) (fun k i => impl_IsName.l0 k s i) true false (fun i hi hp => ⟨0, fun k _ => ?_⟩) (fun i hi hp => Ev.const fun k => ?_) (fun _ => Ev.const fun k => ?_)
  · rw [ite_bool] at this
    exact this
  · have hp := of_decide_eq_true hp
    simp only [impl_IsName.l0]
    rw [if_pos (by omega), if_pos (by omega), w64 (by omega) (by omega)]
    repeat' split
    all_goals first | rfl | (exfalso; omega)
  · have hp := of_decide_eq_false hp
    simp only [impl_IsName.l0]
    rw [if_pos (by omega), if_pos (by omega)]
    repeat' split
    all_goals first | rfl | (exfalso; omega)
  · simp only [impl_IsName.l0]
    rw [if_neg (by omega)]
theorem name_impl (s : ByteArray) : Ev (fun k => impl_IsName.f k s) (isNameB s) := by
  unfold isNameB
  by_cases h0 : s.size < 1
  · rw [decide_eq_false (by omega), Bool.false_and]
    refine Ev.const fun k => ?_
    unfold impl_IsName.f
    rw [if_pos (by omega)]
    simp only [impl_IsName.j0, if_true]
  · by_cases h12 : s.size ≤ 12
    · by_cases hs : 97 ≤ bt s 0 ∧ bt s 0 ≤ 122
      · rw [decide_eq_true ⟨by omega, h12, hs⟩, Bool.true_and]
        refine Ev.step (f := fun k => impl_IsName.l0 k s 0) (fun k => ?_) (name_loop_impl s h12)
        simp only [impl_IsName.f]
        rw [if_neg (by omega), if_neg (by omega), if_pos (by omega), if_neg (by omega), decide_eq_false (by omega)]
        simp only [impl_IsName.j0, Bool.false_eq_true, if_false]
      · rw [decide_eq_false (fun h => hs h.2.2), Bool.false_and]
        refine Ev.const fun k => ?_
        simp only [impl_IsName.f]
        rw [if_neg (by omega), if_neg (by omega), if_pos (by omega)]
        by_cases h1 : bt s 0 < 97
        · rw [if_pos h1]
          simp only [impl_IsName.j0, if_true]
        · rw [if_neg h1, decide_eq_true (by omega)]
          simp only [impl_IsName.j0, if_true]
    · rw [decide_eq_false (by omega), Bool.false_and]
      refine Ev.const fun k => ?_
      unfold impl_IsName.f
      rw [if_neg (by omega), if_pos (by omega)]
      simp only [impl_IsName.j0, if_true]

theorem areIn_ev (l : List Int) (a b : Int) (h : l.length ≤ 9223372036854775807) : Ev (fun k => impl_areIn.f k l l.length a b) (l.all fun x => decide (a ≤ x ∧ x ≤ b)) := by
  refine Ev.congr (f := fun k => impl_areIn.l0 k a b l l.length 0) (fun k => by unfold impl_areIn.f; rw [if_pos rfl]) ?_
  have := all_lt l.length (fun i => decide (a ≤ rd l i ∧ rd l i ≤ b)) (fun k i => impl_areIn.l0 k a b l l.length i) true false (fun i hi hp => ⟨0, fun k _ => ?_⟩) (fun i hi hp => Ev.const fun k => ?_) (fun _ => Ev.const fun k => ?_)
  · rw [all_range_list (p := fun x => decide (a ≤ x ∧ x ≤ b)) (fun i hi => by rw [rd_nat l i hi])] at this
    rw [ite_bool] at this
    exact this
  · simp only [impl_areIn.l0]
    rw [if_pos (by omega), if_pos (by omega), if_pos (by omega), within_eq, hp, w64 (by omega) (by omega)]
    rfl
  · simp only [impl_areIn.l0]
    rw [if_pos (by omega), if_pos (by omega), if_pos (by omega), within_eq, hp]
    rfl
  · simp only [impl_areIn.l0]
    rw [if_neg (by omega)]

theorem hand_impl (f0 : ByteArray) (f1 : List Int) (f2 : Int) (h : f1.length ≤ 9223372036854775807) : Ev (fun k => impl_validHand.f k f0 f1 f2) (handV f0 f1 f2) := by
  obtain ⟨K, hK⟩ := Ev.pick (name_impl f0)
  obtain ⟨J, hJ⟩ := Ev.pick (areIn_ev f1 0 1440 h)
  refine Ev.intro (K + J) fun k hk => ?_
  unfold impl_validHand.f handV
  rw [hK k (by omega), hJ k (by omega), within_eq]
  simp only [Option.bind_some]
  have e : (f1.all fun x => decide (0 ≤ x ∧ x ≤ 1440)) = f1.all shiftOk := rfl
  rw [e]
  by_cases c : f1.length ≤ 14
  · rw [decide_eq_true c]
    have c2 : (f1.length : Int) ≤ 14 := by omega
    simp only [if_pos c2]
    cases isNameB f0 <;> cases f1.all shiftOk <;> simp
  · rw [decide_eq_false c]
    have c2 : ¬ (f1.length : Int) ≤ 14 := by omega
    simp only [if_neg c2]
    cases isNameB f0 <;> simp
theorem handV_shift {f0 : ByteArray} {f1 : List Int} {f2 : Int} (h : handV f0 f1 f2 = true) : (∀ x ∈ f1, 0 ≤ x ∧ x ≤ 1440) ∧ f1.length ≤ 14 ∧ 0 ≤ f2 ∧ f2 ≤ 100000 := by
  unfold handV at h
  simp only [Bool.and_eq_true, decide_eq_true_eq, List.all_eq_true] at h
  obtain ⟨⟨⟨a, _⟩, b⟩, c⟩ := h
  exact ⟨fun x hx => of_decide_eq_true (a x hx), b, c⟩

theorem hands_take {α : Type} {d : Kd α} {w : World} {A : Option Addr} {n m : Nat} {xs : List α} (h : d.C w A n xs) (hm : m ≤ n) : d.C w A m (xs.take m) := by
  refine ⟨by rw [List.length_take, Nat.min_eq_left (by have := h.1; omega)], by have := h.2.1; omega, fun hp => ?_⟩
  obtain ⟨ad, e, hc⟩ := h.2.2 (by omega)
  refine ⟨ad, e, fun j p hj => hc j p ?_⟩
  rw [List.getElem?_take] at hj
  split at hj
  · exact hj
  · cases hj
set_option maxHeartbeats 8000000 in
set_option maxRecDepth 100000 in
theorem hands1 (x : S29) (A : Option Addr) (c : Nat) (B : Nat) (nm : ByteArray) (w : World) (hB : B < w.heap.size) (hc : w.cell? ⟨B, 0, none⟩ = some (.string nm)) :
    Calls Try.prog 89 #[.agg #[.string x.f0, .slice A x.f1.length c, .int .i64 x.f2], .pointer (some ⟨B, 0, none⟩)] w fun e w' => e = .returned (.bool (x.f0.toList == nm.toList)) ∧ Below w.heap.size w w' := by
  go_enter Try.func89, Try.ntmps89
  go_wp2
  go_ret
  exact ⟨rfl, (Below.refl _ _).alloc (Nat.le_refl _) _⟩
def nameIdx (l : List S29) (nm : ByteArray) : Int := match l.findIdx? (fun x => x.f0.toList == nm.toList) with | some i => (i : Int) | none => -1
theorem nameIdx_hit {l : List S29} {nm : ByteArray} {i : Nat} (h : i < l.length) (hi : (l[i].f0.toList == nm.toList) = true) (hn : ∀ j (hj : j < i), (l[j].f0.toList == nm.toList) = false) : nameIdx l nm = i := by
  unfold nameIdx
  rw [List.findIdx?_eq_some_iff_getElem.mpr ⟨h, hi, fun j hj => by rw [hn j hj]; simp⟩]
theorem nameIdx_miss {l : List S29} {nm : ByteArray} (hn : ∀ j (hj : j < l.length), (l[j].f0.toList == nm.toList) = false) : nameIdx l nm = -1 := by
  unfold nameIdx
  rw [List.findIdx?_eq_none_iff.mpr (fun x hx => by obtain ⟨j, hj, rfl⟩ := List.getElem_of_mem hx; exact hn j hj)]
theorem rdHand (xs : List S29) (i : Nat) (h : i < xs.length) : rd_T29 xs (i : Int) = xs[i] := by
  unfold rd_T29; rw [Int.toNat_natCast, List.getD_eq_getElem?_getD, List.getElem?_eq_getElem h]; rfl
set_option maxHeartbeats 8000000 in
set_option maxRecDepth 100000 in
theorem handsIndexFunc (A0 : Option Addr) (c0 : Nat) (l0 : List S29) (B : Nat) (nm : ByteArray) (w : World) (hr0 : Kd.C k29 w A0 l0.length l0) (hB : B < w.heap.size) (hc : w.cell? ⟨B, 0, none⟩ = some (.string nm)) :
    Calls Try.prog 119 #[.slice A0 l0.length c0, .func (.func 89) #[] #[.pointer (some ⟨B, 0, none⟩)]] w fun e w' => e = .returned (.int .i64 (nameIdx l0 nm)) ∧ Below w.heap.size w w' := by
  have hm := Kd.C_max hr0
  have HR0 := Aside0.mk hr0
  have HC := Aside0.mk hc
  have HBz := Aside0.mk hB
  clear hr0 hc hB
  have eg : ∀ args w, (callFunc 89 args).run Try.prog w = .ok (.enter 89 args) w := enters_of Try.func89 (by kernel_rfl) rfl
  go_enter Try.func119, Try.ntmps119
  go_wp2
  go_loopw [5, 8] (fun _ v8 w' => ∃ i : Nat, v8 = .int .i64 i ∧ i ≤ l0.length ∧ Aside0 (∀ j (hj : j < l0.length), j < i → (l0[j].f0.toList == nm.toList) = false) ∧ Aside0 (Below w.heap.size w w')) (fun _ v8 _ => l0.length - (intOf v8).toNat)
  case atStart => exact ⟨0, rfl, Nat.zero_le _, ⟨fun j _ hj => absurd hj (Nat.not_lt_zero _)⟩, ⟨Below.refl _ _⟩⟩
  case round =>
    obtain ⟨i, rfl, hi, hf, hw⟩ := hrel
    have HRw := Aside0.mk (Kd.C_below HR0.out hw.out)
    by_cases hlt : i < l0.length
    · have p1 : (0 : Int) ≤ (i : Int) := Int.natCast_nonneg i
      have p2 : (i : Int) < (l0.length : Int) := Int.ofNat_lt.2 hlt
      obtain ⟨ad, A1, c1, rfl, d0, d1, d2, -, -⟩ := at_T29 HRw.out (i : Int) p1 p2
      rw [Int.toNat_natCast] at d0 d1 d2
      have I1 := Aside0.mk (hands1 (rd_T29 l0 i) A1 c1 B nm wr (by have := hw.out.size; have := HBz.out; omega) ((hw.out.cell (p := ⟨B, 0, none⟩) HBz.out).trans HC.out))
      generalize hv : ((rd_T29 l0 i).f0.toList == nm.toList) = v at I1
      have HV := Aside0.mk hv
      clear hv
      cases v with
      | true =>
        go_wp2_with (go_at_fn 89; (with_reducible refine I1.out.mono ?_); rintro e w' ⟨rfl, hb'⟩)
        go_ret
        have hh := nameIdx_hit hlt (by rw [← rdHand l0 i hlt]; exact HV.out) (fun j hj => hf.out j (by omega) hj)
        exact ⟨by rw [hh]; rfl, below_then hw.out hw.out.size hb'⟩
      | false =>
        go_wp2_with (go_at_fn 89; (with_reducible refine I1.out.mono ?_); rintro e w' ⟨rfl, hb'⟩)
        go_roundw
        case rel => exact ⟨i + 1, by go_num, by omega, ⟨fun j hj hji => by
          by_cases e : j = i
          · subst e; rw [← rdHand l0 j hlt]; exact HV.out
          · exact hf.out j hj (by omega)⟩, ⟨below_then hw.out hw.out.size hb'⟩⟩
        case measure => simp [intOf]; omega
    · go_wp2
      go_ret
      have hh := nameIdx_miss (l := l0) (nm := nm) (fun j hj => hf.out j hj (by omega))
      exact ⟨by rw [hh]; rfl, hw.out⟩
set_option maxHeartbeats 8000000 in
set_option maxRecDepth 100000 in
theorem handsContainsFunc (A0 : Option Addr) (c0 : Nat) (l0 : List S29) (B : Nat) (nm : ByteArray) (w : World) (hr0 : Kd.C k29 w A0 l0.length l0) (hB : B < w.heap.size) (hc : w.cell? ⟨B, 0, none⟩ = some (.string nm)) :
    Calls Try.prog 88 #[.slice A0 l0.length c0, .func (.func 89) #[] #[.pointer (some ⟨B, 0, none⟩)]] w fun e w' => e = .returned (.bool (decide (0 ≤ nameIdx l0 nm))) ∧ Below w.heap.size w w' := by
  have I1 := Aside0.mk (handsIndexFunc A0 c0 l0 B nm w hr0 hB hc)
  clear hr0 hB hc
  generalize nameIdx l0 nm = q at *
  go_enter Try.func88, Try.ntmps88
  go_wp2_with (go_at_call 119; (with_reducible refine I1.out.mono ?_); rintro e w' ⟨rfl, hb'⟩)
  go_ret
  exact ⟨rfl, hb'⟩
theorem nameIdx_any (l : List S29) (nm : ByteArray) : decide (0 ≤ nameIdx l nm) = l.any (fun x => x.f0.toList == nm.toList) := by
  rw [← List.findIdx?_isSome]
  unfold nameIdx
  cases List.findIdx? (fun x : S29 => x.f0.toList == nm.toList) l with
  | none => rfl
  | some i => exact decide_eq_true (Int.natCast_nonneg i)
theorem nameIdx_yes {l : List S29} {nm : ByteArray} {i : Nat} (h : decide (0 ≤ nameIdx (l.take i) nm) = true) : ∃ k, k < i ∧ (rd_T29 l (k : Int)).f0 = nm := by
  rw [nameIdx_any, List.any_eq_true] at h
  obtain ⟨x, hx, hp⟩ := h
  obtain ⟨k, hk, rfl⟩ := List.getElem_of_mem hx
  rw [List.length_take] at hk
  refine ⟨k, by omega, ?_⟩
  rw [rdHand l k (by omega)]
  rw [List.getElem_take] at hp
  exact bytes_eq hp
theorem nameIdx_no {l : List S29} {nm : ByteArray} {i : Nat} (hi : i ≤ l.length) (h : decide (0 ≤ nameIdx (l.take i) nm) = false) : ∀ k, k < i → ¬ (rd_T29 l (k : Int)).f0 = nm := by
  rw [nameIdx_any, List.any_eq_false] at h
  intro k hk
  have := h ((l.take i)[k]'(by rw [List.length_take]; omega)) (List.getElem_mem _)
  rw [List.getElem_take] at this
  rw [rdHand l k (by omega)]
  exact bytes_ne (by simpa using this)
def hdI (l : List S29) (i : Nat) : ByteArray × List Int × Int := ((rd_T29 l i).f0, (rd_T29 l i).f1, (rd_T29 l i).f2)
def impl_ValidHands.f (l0 : List S29) : Option Bool := some (handsOk (hdI l0) l0.length)
set_option maxHeartbeats 8000000 in
set_option maxRecDepth 100000 in
theorem impl_ValidHands.calls (A0 : Option Addr) (c0 : Nat) (l0 : List (S29)) (r : Bool) (w : World) (hr0 : Kd.C k29 w A0 l0.length l0) (hc0 : l0.length ≤ c0) (h : impl_ValidHands.f l0 = some r) :
    Calls Try.prog 47 #[.slice A0 l0.length c0] w fun e w' => e = .returned (.bool r) ∧ Below w.heap.size w w' := by
  have hm := Kd.C_max hr0
  obtain rfl : handsOk (hdI l0) l0.length = r := by simpa [impl_ValidHands.f] using h
  have HR0 := Aside0.mk hr0
  have HC0 := Aside0.mk hc0
  clear hr0 h
  by_cases h10 : 10 < l0.length
  · have hh : handsOk (hdI l0) l0.length = false := by unfold handsOk; rw [decide_eq_false (by omega), Bool.and_false]
    have HH := Aside0.mk hh
    have p1 : (10 : Int) < (l0.length : Int) := by omega
    clear hh
    go_enter Try.func47, Try.ntmps47
    go_wp2
    go_ret
    exact ⟨by rw [HH.out]; rfl, Below.refl _ _⟩
  · have p1 : ¬ (10 : Int) < (l0.length : Int) := by omega
    go_enter Try.func47, Try.ntmps47
    go_wp2
    go_loopw [3, 4, 10] (fun _ _ v10 w' => ∃ i : Nat, v10 = .int .i64 i ∧ i ≤ l0.length ∧ Aside0 (∀ j, j < i → fitH (hdI l0) j = true) ∧ Aside0 (Below w.heap.size w w')) (fun _ _ v10 _ => l0.length - (intOf v10).toNat)
    case atStart => exact ⟨0, rfl, Nat.zero_le _, ⟨fun j hj => absurd hj (Nat.not_lt_zero _)⟩, ⟨Below.refl _ _⟩⟩
    case round =>
      obtain ⟨i, rfl, hi, hf, hw⟩ := hrel
      have HRw := Aside0.mk (Kd.C_below HR0.out hw.out)
      by_cases hlt : i < l0.length
      · have p2 : (0 : Int) ≤ (i : Int) := Int.natCast_nonneg i
        have p3 : (i : Int) < (l0.length : Int) := Int.ofNat_lt.2 hlt
        obtain ⟨ad, A1, c1, rfl, d0, d1, d2, hl1, hC1⟩ := at_T29 HRw.out (i : Int) p2 p3
        rw [Int.toNat_natCast] at d0 d1 d2
        obtain ⟨K, hK⟩ := Ev.pick (hand_impl (rd_T29 l0 i).f0 (rd_T29 l0 i).f1 (rd_T29 l0 i).f2 (Kd.C_max hC1))
        have hKK := hK K (Nat.le_refl _)
        have I1 : Aside0 (∀ W, Below wr.heap.size wr W → Calls Try.prog 43 #[.agg #[.string (rd_T29 l0 i).f0, .slice A1 (rd_T29 l0 i).f1.length c1, .int .i64 (rd_T29 l0 i).f2]] W fun e w' => e = .returned (.bool (handV (rd_T29 l0 i).f0 (rd_T29 l0 i).f1 (rd_T29 l0 i).f2)) ∧ Below W.heap.size W w') := ⟨fun W hb => impl_validHand.calls K _ A1 c1 _ _ _ W (Kd.C_below hC1 hb) hl1 hKK⟩
        have I2 : Aside0 (∀ W, Below wr.heap.size wr W → wr.heap.size < W.heap.size → W.cell? ⟨wr.heap.size, 0, none⟩ = some (.string (rd_T29 l0 i).f0) → Calls Try.prog 88 #[.slice (some ad) i c0, .func (.func 89) #[] #[.pointer (some ⟨wr.heap.size, 0, none⟩)]] W fun e w' => e = .returned (.bool (decide (0 ≤ nameIdx (l0.take i) (rd_T29 l0 i).f0))) ∧ Below W.heap.size W w') :=
          ⟨fun W hb hz hcl => by
            have hq : (l0.take i).length = i := by rw [List.length_take, Nat.min_eq_left hi]
            have := handsContainsFunc (some ad) c0 (l0.take i) wr.heap.size (rd_T29 l0 i).f0 W (by rw [hq]; exact Kd.C_below (hands_take HRw.out hi) hb) hz hcl
            rw [hq] at this
            exact this⟩
        generalize hv : handV (rd_T29 l0 i).f0 (rd_T29 l0 i).f1 (rd_T29 l0 i).f2 = v at I1
        generalize hd : decide (0 ≤ nameIdx (l0.take i) (rd_T29 l0 i).f0) = d at I2
        have HV := Aside0.mk hv
        have HD := Aside0.mk hd
        have p4 : i ≤ c0 := by have := HC0.out; omega
        clear hK hKK hv hd hl1 hC1
        cases v with
        | false =>
          go_wp2_with (go_at_call 43; (with_reducible refine (I1.out _ ?hb1).mono ?_); (case hb1 => exact below_alloc (Below.refl _ _) _); rintro e w' ⟨rfl, hb'⟩)
          go_ret
          have hno := handsOk_no hlt (fitH_bad (hd := hdI l0) (i := i) HV.out)
          exact ⟨by rw [hno]; rfl, below_then (below_alloc hw.out _) (below_alloc hw.out _).size hb'⟩
        | true =>
          cases d with
          | true =>
            go_wp2_with (first | (go_at_call 43; (with_reducible refine (I1.out _ ?hb1).mono ?_); (case hb1 => exact below_alloc (Below.refl _ _) _); rintro e w3 ⟨rfl, hb'⟩; have HB3 := Aside0.mk hb'; clear hb') | (go_at_call 88; (with_reducible refine (I2.out _ ?hb1 ?hb2 ?hb3).mono ?_); (case hb1 => exact below_then (below_alloc (Below.refl _ _) _) (below_alloc (Below.refl _ _) _).size HB3.out); (case hb2 => have := HB3.out.size; simp at this; omega); (case hb3 => exact (HB3.out.cell (by simp)).trans (by simp [World.cell?_alloc_new])); rintro e w4 ⟨rfl, hb4⟩))
            go_ret
            obtain ⟨k, hk, hkn⟩ := nameIdx_yes HD.out
            have hno := handsOk_no hlt (fitH_twin (hd := hdI l0) hk hkn)
            have hb5 := below_then (below_alloc hw.out _) (below_alloc hw.out _).size HB3.out
            exact ⟨by rw [hno]; rfl, below_then hb5 hb5.size hb4⟩
          | false =>
            go_wp2_with (first | (go_at_call 43; (with_reducible refine (I1.out _ ?hb1).mono ?_); (case hb1 => exact below_alloc (Below.refl _ _) _); rintro e w3 ⟨rfl, hb'⟩; have HB3 := Aside0.mk hb'; clear hb') | (go_at_call 88; (with_reducible refine (I2.out _ ?hb1 ?hb2 ?hb3).mono ?_); (case hb1 => exact below_then (below_alloc (Below.refl _ _) _) (below_alloc (Below.refl _ _) _).size HB3.out); (case hb2 => have := HB3.out.size; simp at this; omega); (case hb3 => exact (HB3.out.cell (by simp)).trans (by simp [World.cell?_alloc_new])); rintro e w4 ⟨rfl, hb4⟩))
            go_roundw
            case rel =>
              have hg := fitH_good (hd := hdI l0) (i := i) HV.out (nameIdx_no (by omega) HD.out)
              have hb5 := below_then (below_alloc hw.out _) (below_alloc hw.out _).size HB3.out
              exact ⟨i + 1, by go_num, by omega, ⟨fun j hj => by
                by_cases e : j = i
                · subst e; exact hg
                · exact hf.out j (by omega)⟩, ⟨below_then hb5 hb5.size hb4⟩⟩
            case measure => simp [intOf]; omega
      · go_wp2
        go_ret
        have := handsOk_yes (hd := hdI l0) (n := l0.length) (fun j hj => hf.out j (by omega))
        exact ⟨by rw [this, decide_eq_true (by omega)]; rfl, hw.out⟩
end


/-! ### slices_Max: function 48, by hand -/
section
open Go.Proofs.Ytnfcgofpfhajoaa.Base
def slices_Max.f (l0 : List Int) : Option Int := if 0 < l0.length then some (Lib.maxOf l0) else none
theorem spot_none {w : World} {ad : Addr} {v : Value} (h : w.cell? ad = some v) : ad = ⟨ad.block, ad.off, none⟩ := by
  obtain ⟨b, o, s⟩ := ad
  unfold World.cell? at h
  split at h
  · split at h
    · cases h
    · rename_i hs
      cases s with
      | none => rfl
      | some q => simp at hs
  · cases h
theorem slices_Max.calls (A0 : Option Addr) (c0 : Nat) (l0 : List Int) (r : Int) (w : World) (hr0 : Kd.C (Kd.int .i64) w A0 l0.length l0) (hc0 : l0.length ≤ c0) (h : slices_Max.f l0 = some r) :
    Calls Try.prog 48 #[.slice A0 l0.length c0] w fun e w' => e = .returned (.int .i64 r) ∧ Drawn0 w w' := by
  unfold slices_Max.f at h
  split at h
  · rename_i hn
    obtain rfl := Option.some.inj h
    obtain ⟨ad, rfl, h0⟩ := Kd.at_int hr0 0 (by omega) (by omega)
    have hs := spot_none h0
    have hoff : ∃ b o, ad = ⟨b, o, none⟩ := ⟨ad.block, ad.off, by rw [Int.toNat_zero] at hs; unfold Addr.add at hs; rw [if_pos rfl] at hs; exact hs⟩
    obtain ⟨b, o, rfl⟩ := hoff
    refine (Try.slices_Max_int b o l0.length c0 l0 w hn (Nat.le_refl _) (Kd.C_max hr0) (fun j hj => ?_)).mono fun e w' ⟨he, hw⟩ => ⟨?_, ?_⟩
    · obtain ⟨ad2, e2, h2⟩ := Kd.at_int hr0 (j : Int) (by omega) (by omega)
      cases e2
      rw [Int.toNat_natCast] at h2
      have e3 : (⟨b, o, none⟩ : Addr).add j = ⟨b, o + j, none⟩ := by
        unfold Addr.add
        split
        · subst_vars; rfl
        · rfl
      rw [e3] at h2
      rw [h2]
      unfold rd
      rw [Int.toNat_natCast]
    · rw [he, List.take_length]
    · rw [hw]; exact Drawn0.refl w
  · cases h
end


end Go.Proofs.Ytnfcgofpfhajoaa.QFnHands
