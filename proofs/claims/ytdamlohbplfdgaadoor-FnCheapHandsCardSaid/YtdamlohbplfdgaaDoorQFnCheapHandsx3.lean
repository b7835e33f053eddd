/- Functions and contracts of one law, printed by this session's own program (contracts by hand among them). -/
import Derived.Test.YtdamlohbplfdgaaDoorQFnCheapHandsx0
import Derived.Test.YtdamlohbplfdgaaDoorQFnCheapHandsx1
import Derived.Test.YtdamlohbplfdgaaDoorQFnCheapHandsx2
namespace Go.Proofs.YtdamlohbplfdgaaDoor.QFnCheapHands
open Go.RowKit Go.Proofs.YtdamlohbplfdgaaDoorW.PrintWords Go.Proofs.YtdamlohbplfdgaaDoorW.PrintLast Go.Proofs.YtdamlohbplfdgaaDoorW.PrintMore
attribute [local go_sem] max2_int min2_int max_two min_two max_three min_three max_four min_four   -- for this text's walks alone
set_option linter.unusedVariables false
set_option linter.unusedSimpArgs false

/-! ### impl_ValidHands: function 17, by hand -/
section
open Go.Proofs.YtdamlohbplfdgaaDoor.Base
theorem within_eq (a b c : Int) : impl_within.f a b c = some (decide (b ≤ a ∧ a ≤ c)) := by
  unfold impl_within.f
  by_cases h : a ≥ b
  · rw [if_pos h]; congr 1; apply Bool.eq_iff_iff.mpr; simp; omega
  · rw [if_neg h]; congr 1; apply Bool.eq_iff_iff.mpr; simp; omega

theorem name_loop_impl (s : ByteArray) (h : s.size ≤ 12) : Ev (fun k => impl_IsName.l0 k s 0) ((List.range s.size).all fun i => nameByte (bt s i)) := by
  have := all_lt s.size (fun i => nameByte (bt s i)) (fun k i => impl_IsName.l0 k s i) true false (fun i hi hp => ⟨0, fun k _ => ?_⟩) (fun i hi hp => Ev.const fun k => ?_) (fun _ => Ev.const fun k => ?_)
  · rw [ite_bool] at this
    exact this
  · have hp := of_decide_eq_true hp
    simp only [impl_IsName.l0]
    rw [if_pos (by omega), if_pos (by omega), w64 (by omega) (by omega)]
    repeat' split
    all_goals first | rfl | (exfalso; omega)
  · have hp := of_decide_eq_false hp
    simp only [impl_IsName.l0]
    rw [if_pos (by omega), if_pos (by omega)]
    repeat' split
    all_goals first | rfl | (exfalso; omega)
  · simp only [impl_IsName.l0]
    rw [if_neg (by omega)]
theorem name_impl (s : ByteArray) : Ev (fun k => impl_IsName.f k s) (isNameB s) := by
  unfold isNameB
  by_cases h0 : s.size < 1
  · rw [decide_eq_false (by omega), Bool.false_and]
    refine Ev.const fun k => ?_
    unfold impl_IsName.f
    rw [if_pos (by omega)]
    simp only [impl_IsName.j0, if_true]
  · by_cases h12 : s.size ≤ 12
    · by_cases hs : 97 ≤ bt s 0 ∧ bt s 0 ≤ 122
      · rw [decide_eq_true ⟨by omega, h12, hs⟩, Bool.true_and]
        refine Ev.step (f := fun k => impl_IsName.l0 k s 0) (fun k => ?_) (name_loop_impl s h12)
        simp only [impl_IsName.f]
        rw [if_neg (by omega), if_neg (by omega), if_pos (by omega), if_neg (by omega), decide_eq_false (by omega)]
        simp only [impl_IsName.j0, Bool.false_eq_true, if_false]
      · rw [decide_eq_false (fun h => hs h.2.2), Bool.false_and]
        refine Ev.const fun k => ?_
        simp only [impl_IsName.f]
        rw [if_neg (by omega), if_neg (by omega), if_pos (by omega)]
        by_cases h1 : bt s 0 < 97
        · rw [if_pos h1]
          simp only [impl_IsName.j0, if_true]
        · rw [if_neg h1, decide_eq_true (by omega)]
          simp only [impl_IsName.j0, if_true]
    · rw [decide_eq_false (by omega), Bool.false_and]
      refine Ev.const fun k => ?_
      unfold impl_IsName.f
      rw [if_neg (by omega), if_pos (by omega)]
      simp only [impl_IsName.j0, if_true]

theorem areIn_ev (l : List Int) (a b : Int) (h : l.length ≤ 9223372036854775807) : Ev (fun k => impl_areIn.f k l l.length a b) (l.all fun x => decide (a ≤ x ∧ x ≤ b)) := by
  refine Ev.congr (f := fun k => impl_areIn.l0 k a b l l.length 0) (fun k => by unfold impl_areIn.f; rw [if_pos rfl]) ?_
  have := all_lt l.length (fun i => decide (a ≤ rd l i ∧ rd l i ≤ b)) (fun k i => impl_areIn.l0 k a b l l.length i) true false (fun i hi hp => ⟨0, fun k _ => ?_⟩) (fun i hi hp => Ev.const fun k => ?_) (fun _ => Ev.const fun k => ?_)
  · rw [all_range_list (p := fun x => decide (a ≤ x ∧ x ≤ b)) (fun i hi => by rw [rd_nat l i hi])] at this
    rw [ite_bool] at this
    exact this
  · simp only [impl_areIn.l0]
    rw [if_pos (by omega), if_pos (by omega), if_pos (by omega), within_eq, hp, w64 (by omega) (by omega)]
    rfl
  · simp only [impl_areIn.l0]
    rw [if_pos (by omega), if_pos (by omega), if_pos (by omega), within_eq, hp]
    rfl
  · simp only [impl_areIn.l0]
    rw [if_neg (by omega)]

theorem hand_impl (f0 : ByteArray) (f1 : List Int) (f2 : Int) (h : f1.length ≤ 9223372036854775807) : Ev (fun k => impl_validHand.f k f0 f1 f2) (handV f0 f1 f2) := by
  obtain ⟨K, hK⟩ := Ev.pick (name_impl f0)
  obtain ⟨J, hJ⟩ := Ev.pick (areIn_ev f1 0 1440 h)
  refine Ev.intro (K + J) fun k hk => ?_
  unfold impl_validHand.f handV
  rw [hK k (by omega), hJ k (by omega), within_eq]
  simp only [Option.bind_some]
  have e : (f1.all fun x => decide (0 ≤ x ∧ x ≤ 1440)) = f1.all shiftOk := rfl
  rw [e]
  by_cases c : f1.length ≤ 14
  · rw [decide_eq_true c]
    have c2 : (f1.length : Int) ≤ 14 := by omega
    simp only [if_pos c2]
    cases isNameB f0 <;> cases f1.all shiftOk <;> simp
  · rw [decide_eq_false c]
    have c2 : ¬ (f1.length : Int) ≤ 14 := by omega
    simp only [if_neg c2]
    cases isNameB f0 <;> simp
theorem handV_shift {f0 : ByteArray} {f1 : List Int} {f2 : Int} (h : handV f0 f1 f2 = true) : (∀ x ∈ f1, 0 ≤ x ∧ x ≤ 1440) ∧ f1.length ≤ 14 ∧ 0 ≤ f2 ∧ f2 ≤ 100000 := by
  unfold handV at h
  simp only [Bool.and_eq_true, decide_eq_true_eq, List.all_eq_true] at h
  obtain ⟨⟨⟨a, _⟩, b⟩, c⟩ := h
  exact ⟨fun x hx => of_decide_eq_true (a x hx), b, c⟩

theorem hands_take {α : Type} {d : Kd α} {w : World} {A : Option Addr} {n m : Nat} {xs : List α} (h : d.C w A n xs) (hm : m ≤ n) : d.C w A m (xs.take m) := by
  refine ⟨by rw [List.length_take, Nat.min_eq_left (by have := h.1; omega)], by have := h.2.1; omega, fun hp => ?_⟩
  obtain ⟨ad, e, hc⟩ := h.2.2 (by omega)
  refine ⟨ad, e, fun j p hj => hc j p ?_⟩
  rw [List.getElem?_take] at hj
  split at hj
  · exact hj
  · cases hj
set_option maxHeartbeats 8000000 in
set_option maxRecDepth 100000 in
theorem hands1 (x : S33) (A : Option Addr) (c : Nat) (B : Nat) (nm : ByteArray) (w : World) (hB : B < w.heap.size) (hc : w.cell? ⟨B, 0, none⟩ = some (.string nm)) :
    Calls Tryd.prog 31 #[.agg #[.string x.f0, .slice A x.f1.length c, .int .i64 x.f2], .pointer (some ⟨B, 0, none⟩)] w fun e w' => e = .returned (.bool (x.f0.toList == nm.toList)) ∧ Below w.heap.size w w' := by
  go_enter Tryd.func31, Tryd.ntmps31
  go_wp2
  go_ret
  exact ⟨rfl, (Below.refl _ _).alloc (Nat.le_refl _) _⟩
def nameIdx (l : List S33) (nm : ByteArray) : Int := match l.findIdx? (fun x => x.f0.toList == nm.toList) with | some i => (i : Int) | none => -1
theorem nameIdx_hit {l : List S33} {nm : ByteArray} {i : Nat} (h : i < l.length) (hi : (l[i].f0.toList == nm.toList) = true) (hn : ∀ j (hj : j < i), (l[j].f0.toList == nm.toList) = false) : nameIdx l nm = i := by
  unfold nameIdx
  rw [List.findIdx?_eq_some_iff_getElem.mpr ⟨h, hi, fun j hj => by rw [hn j hj]; simp⟩]
theorem nameIdx_miss {l : List S33} {nm : ByteArray} (hn : ∀ j (hj : j < l.length), (l[j].f0.toList == nm.toList) = false) : nameIdx l nm = -1 := by
  unfold nameIdx
  rw [List.findIdx?_eq_none_iff.mpr (fun x hx => by obtain ⟨j, hj, rfl⟩ := List.getElem_of_mem hx; exact hn j hj)]
theorem rdHand (xs : List S33) (i : Nat) (h : i < xs.length) : rd_T33 xs (i : Int) = xs[i] := by
  unfold rd_T33; rw [Int.toNat_natCast, List.getD_eq_getElem?_getD, List.getElem?_eq_getElem h]; rfl
set_option maxHeartbeats 8000000 in
set_option maxRecDepth 100000 in
theorem handsIndexFunc (A0 : Option Addr) (c0 : Nat) (l0 : List S33) (B : Nat) (nm : ByteArray) (w : World) (hr0 : Kd.C k33 w A0 l0.length l0) (hB : B < w.heap.size) (hc : w.cell? ⟨B, 0, none⟩ = some (.string nm)) :
    Calls Tryd.prog 38 #[.slice A0 l0.length c0, .func (.func 31) #[] #[.pointer (some ⟨B, 0, none⟩)]] w fun e w' => e = .returned (.int .i64 (nameIdx l0 nm)) ∧ Below w.heap.size w w' := by
  have hm := Kd.C_max hr0
  have HR0 := Aside0.mk hr0
  have HC := Aside0.mk hc
  have HBz := Aside0.mk hB
  clear hr0 hc hB
  have eg : ∀ args w, (callFunc 31 args).run Tryd.prog w = .ok (.enter 31 args) w := enters_of Tryd.func31 (by kernel_rfl) rfl
  go_enter Tryd.func38, Tryd.ntmps38
  go_wp2
  go_loopw [5, 8] (fun _ v8 w' => ∃ i : Nat, v8 = .int .i64 i ∧ i ≤ l0.length ∧ Aside0 (∀ j (hj : j < l0.length), j < i → (l0[j].f0.toList == nm.toList) = false) ∧ Aside0 (Below w.heap.size w w')) (fun _ v8 _ => l0.length - (intOf v8).toNat)
  case atStart => exact ⟨0, rfl, Nat.zero_le _, ⟨fun j _ hj => absurd hj (Nat.not_lt_zero _)⟩, ⟨Below.refl _ _⟩⟩
  case round =>
    obtain ⟨i, rfl, hi, hf, hw⟩ := hrel
    have HRw := Aside0.mk (Kd.C_below HR0.out hw.out)
    by_cases hlt : i < l0.length
    · have p1 : (0 : Int) ≤ (i : Int) := Int.natCast_nonneg i
      have p2 : (i : Int) < (l0.length : Int) := Int.ofNat_lt.2 hlt
      obtain ⟨ad, A1, c1, rfl, d0, d1, d2, -, -⟩ := at_T33 HRw.out (i : Int) p1 p2
      rw [Int.toNat_natCast] at d0 d1 d2
      have I1 := Aside0.mk (hands1 (rd_T33 l0 i) A1 c1 B nm wr (by have := hw.out.size; have := HBz.out; omega) ((hw.out.cell (p := ⟨B, 0, none⟩) HBz.out).trans HC.out))
      generalize hv : ((rd_T33 l0 i).f0.toList == nm.toList) = v at I1
      have HV := Aside0.mk hv
      clear hv
      cases v with
      | true =>
        go_wp2_with (go_at_fn 31; (with_reducible refine I1.out.mono ?_); rintro e w' ⟨rfl, hb'⟩)
        go_ret
        have hh := nameIdx_hit hlt (by rw [← rdHand l0 i hlt]; exact HV.out) (fun j hj => hf.out j (by omega) hj)
        exact ⟨by rw [hh]; rfl, below_then hw.out hw.out.size hb'⟩
      | false =>
        go_wp2_with (go_at_fn 31; (with_reducible refine I1.out.mono ?_); rintro e w' ⟨rfl, hb'⟩)
        go_roundw
        case rel => exact ⟨i + 1, by go_num, by omega, ⟨fun j hj hji => by
          by_cases e : j = i
          · subst e; rw [← rdHand l0 j hlt]; exact HV.out
          · exact hf.out j hj (by omega)⟩, ⟨below_then hw.out hw.out.size hb'⟩⟩
        case measure => simp [intOf]; omega
    · go_wp2
      go_ret
      have hh := nameIdx_miss (l := l0) (nm := nm) (fun j hj => hf.out j hj (by omega))
      exact ⟨by rw [hh]; rfl, hw.out⟩
set_option maxHeartbeats 8000000 in
set_option maxRecDepth 100000 in
theorem handsContainsFunc (A0 : Option Addr) (c0 : Nat) (l0 : List S33) (B : Nat) (nm : ByteArray) (w : World) (hr0 : Kd.C k33 w A0 l0.length l0) (hB : B < w.heap.size) (hc : w.cell? ⟨B, 0, none⟩ = some (.string nm)) :
    Calls Tryd.prog 30 #[.slice A0 l0.length c0, .func (.func 31) #[] #[.pointer (some ⟨B, 0, none⟩)]] w fun e w' => e = .returned (.bool (decide (0 ≤ nameIdx l0 nm))) ∧ Below w.heap.size w w' := by
  have I1 := Aside0.mk (handsIndexFunc A0 c0 l0 B nm w hr0 hB hc)
  clear hr0 hB hc
  generalize nameIdx l0 nm = q at *
  go_enter Tryd.func30, Tryd.ntmps30
  go_wp2_with (go_at_call 38; (with_reducible refine I1.out.mono ?_); rintro e w' ⟨rfl, hb'⟩)
  go_ret
  exact ⟨rfl, hb'⟩
theorem nameIdx_any (l : List S33) (nm : ByteArray) : decide (0 ≤ nameIdx l nm) = l.any (fun x => x.f0.toList == nm.toList) := by
  rw [← List.findIdx?_isSome]
  unfold nameIdx
  cases List.findIdx? (fun x : S33 => x.f0.toList == nm.toList) l with
  | none => rfl
  | some i => exact decide_eq_true (Int.natCast_nonneg i)
theorem nameIdx_yes {l : List S33} {nm : ByteArray} {i : Nat} (h : decide (0 ≤ nameIdx (l.take i) nm) = true) : ∃ k, k < i ∧ (rd_T33 l (k : Int)).f0 = nm := by
  rw [nameIdx_any, List.any_eq_true] at h
  obtain ⟨x, hx, hp⟩ := h
  obtain ⟨k, hk, rfl⟩ := List.getElem_of_mem hx
  rw [List.length_take] at hk
  refine ⟨k, by omega, ?_⟩
  rw [rdHand l k (by omega)]
  rw [List.getElem_take] at hp
  exact bytes_eq hp
theorem nameIdx_no {l : List S33} {nm : ByteArray} {i : Nat} (hi : i ≤ l.length) (h : decide (0 ≤ nameIdx (l.take i) nm) = false) : ∀ k, k < i → ¬ (rd_T33 l (k : Int)).f0 = nm := by
  rw [nameIdx_any, List.any_eq_false] at h
  intro k hk
  have := h ((l.take i)[k]'(by rw [List.length_take]; omega)) (List.getElem_mem _)
  rw [List.getElem_take] at this
  rw [rdHand l k (by omega)]
  exact bytes_ne (by simpa using this)
def hdI (l : List S33) (i : Nat) : ByteArray × List Int × Int := ((rd_T33 l i).f0, (rd_T33 l i).f1, (rd_T33 l i).f2)
def impl_ValidHands.f (l0 : List S33) : Option Bool := some (handsOk (hdI l0) l0.length)
set_option maxHeartbeats 8000000 in
set_option maxRecDepth 100000 in
theorem impl_ValidHands.calls (A0 : Option Addr) (c0 : Nat) (l0 : List (S33)) (r : Bool) (w : World) (hr0 : Kd.C k33 w A0 l0.length l0) (hc0 : l0.length ≤ c0) (h : impl_ValidHands.f l0 = some r) :
    Calls Tryd.prog 17 #[.slice A0 l0.length c0] w fun e w' => e = .returned (.bool r) ∧ Below w.heap.size w w' := by
  have hm := Kd.C_max hr0
  obtain rfl : handsOk (hdI l0) l0.length = r := by simpa [impl_ValidHands.f] using h
  have HR0 := Aside0.mk hr0
  have HC0 := Aside0.mk hc0
  clear hr0 h
  by_cases h10 : 10 < l0.length
  · have hh : handsOk (hdI l0) l0.length = false := by unfold handsOk; rw [decide_eq_false (by omega), Bool.and_false]
    have HH := Aside0.mk hh
    have p1 : (10 : Int) < (l0.length : Int) := by omega
    clear hh
    go_enter Tryd.func17, Tryd.ntmps17
    go_wp2
    go_ret
    exact ⟨by rw [HH.out]; rfl, Below.refl _ _⟩
  · have p1 : ¬ (10 : Int) < (l0.length : Int) := by omega
    go_enter Tryd.func17, Tryd.ntmps17
    go_wp2
    go_loopw [3, 4, 10] (fun _ _ v10 w' => ∃ i : Nat, v10 = .int .i64 i ∧ i ≤ l0.length ∧ Aside0 (∀ j, j < i → fitH (hdI l0) j = true) ∧ Aside0 (Below w.heap.size w w')) (fun _ _ v10 _ => l0.length - (intOf v10).toNat)
    case atStart => exact ⟨0, rfl, Nat.zero_le _, ⟨fun j hj => absurd hj (Nat.not_lt_zero _)⟩, ⟨Below.refl _ _⟩⟩
    case round =>
      obtain ⟨i, rfl, hi, hf, hw⟩ := hrel
      have HRw := Aside0.mk (Kd.C_below HR0.out hw.out)
      by_cases hlt : i < l0.length
      · have p2 : (0 : Int) ≤ (i : Int) := Int.natCast_nonneg i
        have p3 : (i : Int) < (l0.length : Int) := Int.ofNat_lt.2 hlt
        obtain ⟨ad, A1, c1, rfl, d0, d1, d2, hl1, hC1⟩ := at_T33 HRw.out (i : Int) p2 p3
        rw [Int.toNat_natCast] at d0 d1 d2
        obtain ⟨K, hK⟩ := Ev.pick (hand_impl (rd_T33 l0 i).f0 (rd_T33 l0 i).f1 (rd_T33 l0 i).f2 (Kd.C_max hC1))
        have hKK := hK K (Nat.le_refl _)
        have I1 : Aside0 (∀ W, Below wr.heap.size wr W → Calls Tryd.prog 29 #[.agg #[.string (rd_T33 l0 i).f0, .slice A1 (rd_T33 l0 i).f1.length c1, .int .i64 (rd_T33 l0 i).f2]] W fun e w' => e = .returned (.bool (handV (rd_T33 l0 i).f0 (rd_T33 l0 i).f1 (rd_T33 l0 i).f2)) ∧ Below W.heap.size W w') := ⟨fun W hb => impl_validHand.calls K _ A1 c1 _ _ _ W (Kd.C_below hC1 hb) hl1 hKK⟩
        have I2 : Aside0 (∀ W, Below wr.heap.size wr W → wr.heap.size < W.heap.size → W.cell? ⟨wr.heap.size, 0, none⟩ = some (.string (rd_T33 l0 i).f0) → Calls Tryd.prog 30 #[.slice (some ad) i c0, .func (.func 31) #[] #[.pointer (some ⟨wr.heap.size, 0, none⟩)]] W fun e w' => e = .returned (.bool (decide (0 ≤ nameIdx (l0.take i) (rd_T33 l0 i).f0))) ∧ Below W.heap.size W w') :=
          ⟨fun W hb hz hcl => by
            have hq : (l0.take i).length = i := by rw [List.length_take, Nat.min_eq_left hi]
            have := handsContainsFunc (some ad) c0 (l0.take i) wr.heap.size (rd_T33 l0 i).f0 W (by rw [hq]; exact Kd.C_below (hands_take HRw.out hi) hb) hz hcl
            rw [hq] at this
            exact this⟩
        generalize hv : handV (rd_T33 l0 i).f0 (rd_T33 l0 i).f1 (rd_T33 l0 i).f2 = v at I1
        generalize hd : decide (0 ≤ nameIdx (l0.take i) (rd_T33 l0 i).f0) = d at I2
        have HV := Aside0.mk hv
        have HD := Aside0.mk hd
        have p4 : i ≤ c0 := by have := HC0.out; omega
        clear hK hKK hv hd hl1 hC1
        cases v with
        | false =>
          go_wp2_with (go_at_call 29; (with_reducible refine (I1.out _ ?hb1).mono ?_); (case hb1 => exact below_alloc (Below.refl _ _) _); rintro e w' ⟨rfl, hb'⟩)
          go_ret
          have hno := handsOk_no hlt (fitH_bad (hd := hdI l0) (i := i) HV.out)
          exact ⟨by rw [hno]; rfl, below_then (below_alloc hw.out _) (below_alloc hw.out _).size hb'⟩
        | true =>
          cases d with
          | true =>
            go_wp2_with (first | (go_at_call 29; (with_reducible refine (I1.out _ ?hb1).mono ?_); (case hb1 => exact below_alloc (Below.refl _ _) _); rintro e w3 ⟨rfl, hb'⟩; have HB3 := Aside0.mk hb'; clear hb') | (go_at_call 30; (with_reducible refine (I2.out _ ?hb1 ?hb2 ?hb3).mono ?_); (case hb1 => exact below_then (below_alloc (Below.refl _ _) _) (below_alloc (Below.refl _ _) _).size HB3.out); (case hb2 => have := HB3.out.size; simp at this; omega); (case hb3 => exact (HB3.out.cell (by simp)).trans (by simp [World.cell?_alloc_new])); rintro e w4 ⟨rfl, hb4⟩))
            go_ret
            obtain ⟨k, hk, hkn⟩ := nameIdx_yes HD.out
            have hno := handsOk_no hlt (fitH_twin (hd := hdI l0) hk hkn)
            have hb5 := below_then (below_alloc hw.out _) (below_alloc hw.out _).size HB3.out
            exact ⟨by rw [hno]; rfl, below_then hb5 hb5.size hb4⟩
          | false =>
            go_wp2_with (first | (go_at_call 29; (with_reducible refine (I1.out _ ?hb1).mono ?_); (case hb1 => exact below_alloc (Below.refl _ _) _); rintro e w3 ⟨rfl, hb'⟩; have HB3 := Aside0.mk hb'; clear hb') | (go_at_call 30; (with_reducible refine (I2.out _ ?hb1 ?hb2 ?hb3).mono ?_); (case hb1 => exact below_then (below_alloc (Below.refl _ _) _) (below_alloc (Below.refl _ _) _).size HB3.out); (case hb2 => have := HB3.out.size; simp at this; omega); (case hb3 => exact (HB3.out.cell (by simp)).trans (by simp [World.cell?_alloc_new])); rintro e w4 ⟨rfl, hb4⟩))
            go_roundw
            case rel =>
              have hg := fitH_good (hd := hdI l0) (i := i) HV.out (nameIdx_no (by omega) HD.out)
              have hb5 := below_then (below_alloc hw.out _) (below_alloc hw.out _).size HB3.out
              exact ⟨i + 1, by go_num, by omega, ⟨fun j hj => by
                by_cases e : j = i
                · subst e; exact hg
                · exact hf.out j (by omega)⟩, ⟨below_then hb5 hb5.size hb4⟩⟩
            case measure => simp [intOf]; omega
      · go_wp2
        go_ret
        have := handsOk_yes (hd := hdI l0) (n := l0.length) (fun j hj => hf.out j (by omega))
        exact ⟨by rw [this, decide_eq_true (by omega)]; rfl, hw.out⟩
end


/-! ### impl_extraMinutes: function 20 -/
def impl_extraMinutes.l0 : Nat → Int → Int → List Int → Int → Int → Option (Int)
  | 0, _, _, _, _, _ => none
  | k + 1, x1, x5, x9, x10, x11 => if x11 < x10 then (if 0 ≤ x11 then (if x11 < (x9.length : Int) then (impl_extraMinutes.l0 k x1 (wrap64 (x5 + (mx 0 (wrap64 ((rd x9 x11) - x1))))) x9 x10 (wrap64 (x11 + 1))) else (none)) else (none)) else (some x5)
def impl_extraMinutes.f (k : Nat) (a0_0 : ByteArray) (l0_1 : List Int) (a0_2 : Int) (a1 : Int) : Option (Int) := impl_extraMinutes.l0 k a1 0 l0_1 (l0_1.length : Int) 0
theorem impl_extraMinutes.mono_l : ∀ k, (∀ y0 y1 y2 y3 y4, LeO (impl_extraMinutes.l0 k y0 y1 y2 y3 y4) (impl_extraMinutes.l0 (k + 1) y0 y1 y2 y3 y4))
  | 0 => fun _ _ _ _ _ r h => by simp [impl_extraMinutes.l0] at h
  | k + 1 => by
    have ih0 := impl_extraMinutes.mono_l k
    · intro y0 y1 y2 y3 y4
      unfold impl_extraMinutes.l0
      repeat' first
      | (with_reducible exact ih0 _ _ _ _ _)
      | (with_reducible exact LeO.refl _)
      | (with_reducible exact LeO.none _)
      | (with_reducible refine LeO.ite ?_ ?_)
      | (with_reducible refine LeO.bind ?_ (fun _ => ?_))
      | exact ih0 _ _ _ _ _
      | exact LeO.none _
      | refine LeO.ite ?_ ?_
      | refine LeO.bind ?_ (fun _ => ?_)
theorem impl_extraMinutes.mono : ∀ a0 a1 a2 a3 k, LeO (impl_extraMinutes.f k a0 a1 a2 a3) (impl_extraMinutes.f (k + 1) a0 a1 a2 a3) := by
  intro a0 a1 a2 a3 k
  have ih0 := impl_extraMinutes.mono_l k
  unfold impl_extraMinutes.f
  repeat' first
      | (with_reducible exact ih0 _ _ _ _ _)
      | (with_reducible exact LeO.refl _)
      | (with_reducible exact LeO.none _)
      | (with_reducible refine LeO.ite ?_ ?_)
      | (with_reducible refine LeO.bind ?_ (fun _ => ?_))
      | exact ih0 _ _ _ _ _
      | exact LeO.none _
      | refine LeO.ite ?_ ?_
      | refine LeO.bind ?_ (fun _ => ?_)
set_option maxHeartbeats 8000000 in
set_option maxRecDepth 100000 in
theorem impl_extraMinutes.calls (k : Nat) (a0_0 : ByteArray) (A0_1 : Option Addr) (c0_1 : Nat) (l0_1 : List Int) (a0_2 : Int) (a1 : Int) (r : Int) (w : World) (hr0_1 : Kd.C (Kd.int .i64) w A0_1 l0_1.length l0_1) (hc0_1 : l0_1.length ≤ c0_1) (h : impl_extraMinutes.f k a0_0 l0_1 a0_2 a1 = some r) :
    Calls Tryd.prog 20 #[.agg #[.string a0_0, .slice A0_1 l0_1.length c0_1, .int .i64 a0_2], .int .i64 a1] w fun e w' => e = .returned (.int .i64 r) ∧ Below w.heap.size w w' := by
  have hu33 := Tryd.underlying33
  have HR0_1 := Aside0.mk hr0_1
  have HC0_1 := Aside0.mk hc0_1
  clear hr0_1 hc0_1
  have HB := Aside0.mk (Below.refl w.heap.size w)
  have H : (impl_extraMinutes.l0 k a1 0 l0_1 (l0_1.length : Int) 0) = some r := h
  clear h
  have H' := Aside0.mk H
  clear H
  go_enter Tryd.func20, Tryd.ntmps20
  go_wp2_with (first | ((with_reducible refine gate_dst (N := 2) rfl ?_); refine box_event ?hg (N := 2) ?hd (cs := #[.string a0_0, .slice A0_1 l0_1.length c0_1, .int .i64 a0_2]) (t := 33) ?hr ?_; (case hd => rfl); (case hg => rfl); (case hr => first | (go_simp; done) | (go_simp; rfl)); intro gb171 hg w3 hbox hb; have n0_ := Aside0.mk (below_step (by repeat (first | (with_reducible first | exact HB.out | apply below_alloc | apply pw_below_drewN | apply below_drew1) | exact HB.out)) hb); have n1_ := Aside0.mk (hbox); have n2_ := Aside0.mk ((by rw [hg]; exact (below_size (by repeat (first | (with_reducible first | exact HB.out | apply below_alloc | apply pw_below_drewN | apply below_drew1) | exact HB.out))) : w.heap.size ≤ gb171)); have n3_ := Aside0.mk ((by rw [hg]; exact (below_size (by repeat (first | (with_reducible first | exact HB.out | apply below_alloc | apply pw_below_drewN | apply below_drew1) | exact HB.out))) : w.heap.size ≤ gb171)); clear HB; have HB := n0_; have BK171 := n1_; have GW171 := n2_; have GE171 := n3_; clear n0_ n1_ n2_ n3_; clear hb hbox hg; have hcz4_0 : w3.cell? ⟨gb171, 0, none⟩ = some (.string a0_0) := (blk_cell BK171.out 0).trans rfl; have hcz4_1 : w3.cell? ⟨gb171, 1, none⟩ = some (.slice A0_1 l0_1.length c0_1) := (blk_cell BK171.out 1).trans rfl; have hcz4_2 : w3.cell? ⟨gb171, 2, none⟩ = some (.int .i64 a0_2) := (blk_cell BK171.out 2).trans rfl; have hfz4_0 := blk_frozen BK171.out 0; have hfz4_1 := blk_frozen BK171.out 1; have hfz4_2 := blk_frozen BK171.out 2))
  go_loopg [5, 11] k (fun kq v5 v11 w' => ∃ (x5_1 : Int) (x11_1 : Int), v5 = .int .i64 x5_1 ∧ v11 = .int .i64 x11_1 ∧ Aside0 (impl_extraMinutes.l0 kq a1 x5_1 l0_1 (l0_1.length : Int) x11_1 = some r) ∧ Aside0 (kq ≤ k) ∧ Aside0 (w'.heap[gb171]? = some (.cells #[.string a0_0, (.slice A0_1 l0_1.length c0_1), .int .i64 a0_2] 33 (0, 0))) ∧ Aside0 (Below w.heap.size w w'))
  case atStart => exact ⟨(0), (0), (by first | rfl | (simp; done) | (simp [*]; done)), (by first | rfl | (simp; done) | (simp [*]; done)), H', ⟨Nat.le_refl _⟩, ⟨by (with_reducible repeat (first | refine blk_drewN ?_ _ | refine blk_drew ?_ | refine blk_alloc ?_ _)); exact BK171.out⟩, ⟨by repeat (first | (with_reducible first | exact HB.out | apply below_alloc | apply pw_below_drewN | apply below_drew1 | refine below_set ?_ GE171.out) | exact HB.out)⟩⟩
  case round =>
    clear H'
    try clear c2
    try clear p2
    try clear hcz4_0
    try clear hcz4_1
    try clear hcz4_2
    try clear hfz4_0
    try clear hfz4_1
    try clear hfz4_2
    obtain ⟨x5_1, x11_1, rfl, rfl, HA, HK1, BK171, HB⟩ := hrel
    cases gk with
    | zero => exact absurd HA.out (by simp [impl_extraMinutes.l0])
    | succ k1 =>
      have H := HA.out
      clear HA
      simp only [impl_extraMinutes.l0] at H
      by_cases c5 : x11_1 < (l0_1.length : Int)
      · rw [if_pos c5] at H
        have c5b0 : decide (x11_1 < (l0_1.length : Int)) = true := decide_eq_true c5
        clear c5
        by_cases c6 : 0 ≤ x11_1
        · rw [if_pos c6] at H
          have c6b0 : decide (0 ≤ x11_1) = true := decide_eq_true c6
          clear c6
          by_cases c7 : x11_1 < (l0_1.length : Int)
          · rw [if_pos c7] at H
            have c7b0 : decide (x11_1 < (l0_1.length : Int)) = true := decide_eq_true c7
            clear c7
            obtain ⟨ji8, hji8⟩ : ∃ j_ : Int, (mx 0 (wrap64 ((rd l0_1 x11_1) - a1))) = j_ := ⟨_, rfl⟩
            replace H : (impl_extraMinutes.l0 k1 a1 (wrap64 (x5_1 + (ji8))) l0_1 (l0_1.length : Int) (wrap64 (x11_1 + 1))) = some r := by first | (rw [hji8] at H; exact H) | (simp only [hji8] at H ⊢; exact H)
            have hji8_ : (if 0 < (wrap64 ((rd l0_1 x11_1) - a1)) then (wrap64 ((rd l0_1 x11_1) - a1)) else 0) = ji8 := hji8
            have H' := Aside0.mk H
            clear H
            have p172 : 0 ≤ (x11_1 : Int) := of_decide_eq_true (by first | (with_reducible assumption) | assumption)
            have q172 : x11_1 < (l0_1.length : Int) := of_decide_eq_true (by first | (with_reducible assumption) | assumption)
            obtain ⟨ad172, e172, hx172_0⟩ := Kd.at_int HR0_1.out x11_1 p172 q172
            cases e172
            replace hx172_0 := (HB.out.cell (World.block_lt_of_cell? w _ hx172_0)).trans hx172_0
            replace p172 := eq_true p172
            replace q172 := eq_true q172
            go_wp2
            go_roundg k1
            case measure => have := HK1.out; omega
            case rel => exact ⟨(wrap64 (x5_1 + (ji8))), (wrap64 (x11_1 + 1)), (by first | rfl | (simp; done) | (simp only [← hji8] <;> (first | rfl | simp)) | (simp [*]; done)), (by first | rfl | (simp; done) | (simp [*]; done)), H', ⟨by have := HK1.out; omega⟩, ⟨by (with_reducible repeat (first | refine blk_drewN ?_ _ | refine blk_drew ?_ | refine blk_alloc ?_ _)); exact BK171.out⟩, ⟨by repeat (first | (with_reducible first | exact HB.out | apply below_alloc | apply pw_below_drewN | apply below_drew1 | refine below_set ?_ GE171.out) | exact HB.out)⟩⟩
          · rw [if_neg c7] at H
            exact absurd H (by simp)
        · rw [if_neg c6] at H
          exact absurd H (by simp)
      · rw [if_neg c5] at H
        have c5b0 : decide (x11_1 < (l0_1.length : Int)) = false := decide_eq_false c5
        clear c5
        obtain rfl := Option.some.inj H
        go_wp2
        go_ret
        exact ⟨by first | rfl | (simp [errW_none, errW_some] <;> rfl) | (simp [*, errW_none, errW_some] <;> rfl), by repeat (first | (with_reducible first | exact HB.out | apply below_alloc | apply pw_below_drewN | apply below_drew1 | refine below_set ?_ GE171.out) | exact HB.out)⟩

/-! ### impl_payOf: function 21 -/
def impl_payOf.f (k : Nat) (a0_0 : ByteArray) (l0_1 : List Int) (a0_2 : Int) (a1 : Int) (a2 : Int) : Option (Int) := (impl_extraMinutes.f k a0_0 l0_1 a0_2 0).bind fun t174 => ((impl_extraMinutes.f k a0_0 l0_1 a0_2 a1).bind fun t175 => (some (wrap64 (Int.tdiv (wrap64 ((wrap64 ((wrap64 (a0_2 * t174)) * 100)) + (wrap64 ((wrap64 (a0_2 * t175)) * a2)))) 6000))))
theorem impl_payOf.mono : ∀ a0 a1 a2 a3 a4 k, LeO (impl_payOf.f k a0 a1 a2 a3 a4) (impl_payOf.f (k + 1) a0 a1 a2 a3 a4) := by
  intro a0 a1 a2 a3 a4 k
  unfold impl_payOf.f
  repeat' first
      | (with_reducible exact impl_extraMinutes.mono _ _ _ _ _)
      | (with_reducible exact LeO.refl _)
      | (with_reducible exact LeO.none _)
      | (with_reducible refine LeO.ite ?_ ?_)
      | (with_reducible refine LeO.bind ?_ (fun _ => ?_))
      | exact impl_extraMinutes.mono _ _ _ _ _
      | exact LeO.none _
      | refine LeO.ite ?_ ?_
      | refine LeO.bind ?_ (fun _ => ?_)
def impl_payOf.T1 : Bool × List (List Nat × List Nat) := (true, [([], []), ([0], [0]), ([], []), ([2], [2]), ([1, 3], [1, 3]), ([4], [4]), ([], []), ([6], [6]), ([], []), ([], []), ([8, 9, 3], [8, 9]), ([7, 10], [7, 10]), ([], []), ([11, 12], [11, 12]), ([5, 13], [5, 13]), ([14], [14]), ([15, 10, 0, 1, 2, 3, 4, 5, 6, 7, 8, 9, 10, 11, 12, 13, 14, 15], [15])])
def impl_payOf.B1 : List Nat := [0, 1, 0, 4, 15, 31, 0, 64, 0, 0, 780, 1996, 0, 8140, 16383, 32767, 65535]
theorem impl_payOf.tab1 : rtab .any (opsOf Tryd.f21 1) = impl_payOf.T1 := by kernel_rfl
theorem impl_payOf.bits1 : waitsOk impl_payOf.T1.2 impl_payOf.B1 = true := by kernel_rfl
set_option maxHeartbeats 8000000 in
set_option maxRecDepth 100000 in
theorem impl_payOf.calls (k : Nat) (a0_0 : ByteArray) (A0_1 : Option Addr) (c0_1 : Nat) (l0_1 : List Int) (a0_2 : Int) (a1 : Int) (a2 : Int) (r : Int) (w : World) (hr0_1 : Kd.C (Kd.int .i64) w A0_1 l0_1.length l0_1) (hc0_1 : l0_1.length ≤ c0_1) (h : impl_payOf.f k a0_0 l0_1 a0_2 a1 a2 = some r) :
    Calls Tryd.prog 21 #[.agg #[.string a0_0, .slice A0_1 l0_1.length c0_1, .int .i64 a0_2], .int .i64 a1, .int .i64 a2] w fun e w' => e = .returned (.int .i64 r) ∧ Below w.heap.size w w' := by
  have hu33 := Tryd.underlying33
  have HR0_1 := Aside0.mk hr0_1
  have HC0_1 := Aside0.mk hc0_1
  clear hr0_1 hc0_1
  have HB := Aside0.mk (Below.refl w.heap.size w)
  have H : ((impl_extraMinutes.f k a0_0 l0_1 a0_2 0).bind fun t174 => ((impl_extraMinutes.f k a0_0 l0_1 a0_2 a1).bind fun t175 => (some (wrap64 (Int.tdiv (wrap64 ((wrap64 ((wrap64 (a0_2 * t174)) * 100)) + (wrap64 ((wrap64 (a0_2 * t175)) * a2)))) 6000))))) = some r := h
  clear h
  replace H := Option.bind_eq_some_iff.mp H
  obtain ⟨t174, A40, H⟩ := H
  replace H : ((impl_extraMinutes.f k a0_0 l0_1 a0_2 a1).bind fun t175 => (some (wrap64 (Int.tdiv (wrap64 ((wrap64 ((wrap64 (a0_2 * t174)) * 100)) + (wrap64 ((wrap64 (a0_2 * t175)) * a2)))) 6000)))) = some r := H
  have A4 := Aside0.mk A40
  clear A40
  replace H := Option.bind_eq_some_iff.mp H
  obtain ⟨t175, A50, H⟩ := H
  replace H : (some (wrap64 (Int.tdiv (wrap64 ((wrap64 ((wrap64 (a0_2 * t174)) * 100)) + (wrap64 ((wrap64 (a0_2 * t175)) * a2)))) 6000))) = some r := H
  have A5 := Aside0.mk A50
  clear A50
  obtain rfl := Option.some.inj H
  go_enter Tryd.func21, Tryd.ntmps21
  try go_wp2_with (first | ((with_reducible refine gate_dst (N := 3) rfl ?_); refine box_event ?hg (N := 3) ?hd (cs := #[.string a0_0, .slice A0_1 l0_1.length c0_1, .int .i64 a0_2]) (t := 33) ?hr ?_; (case hd => rfl); (case hg => rfl); (case hr => first | (go_simp; done) | (go_simp; rfl)); intro gb173 hg w6 hbox hb; have n0_ := Aside0.mk (below_step (by repeat (first | (with_reducible first | exact HB.out | apply below_alloc | apply pw_below_drewN | apply below_drew1) | exact HB.out)) hb); have n1_ := Aside0.mk (hbox); have n2_ := Aside0.mk ((by rw [hg]; exact (below_size (by repeat (first | (with_reducible first | exact HB.out | apply below_alloc | apply pw_below_drewN | apply below_drew1) | exact HB.out))) : w.heap.size ≤ gb173)); have n3_ := Aside0.mk ((by rw [hg]; exact (below_size (by repeat (first | (with_reducible first | exact HB.out | apply below_alloc | apply pw_below_drewN | apply below_drew1) | exact HB.out))) : w.heap.size ≤ gb173)); clear HB; have HB := n0_; have BK173 := n1_; have GW173 := n2_; have GE173 := n3_; clear n0_ n1_ n2_ n3_; clear hb hbox hg))
  have n0_ := Aside0.mk (blk_drew BK173.out)
  have n1_ := Aside0.mk (below_drew1 HB.out)
  clear BK173
  clear HB
  have BK173 := n0_
  have HB := n1_
  clear n0_ n1_
  refine start_ (n := 17) (S := fun w' => w'.cell? ⟨gb173, 0, none⟩ = some (.string a0_0) ∧ w'.cell? ⟨gb173, 1, none⟩ = some (.slice A0_1 l0_1.length c0_1) ∧ w'.cell? ⟨gb173, 2, none⟩ = some (.int .i64 a0_2)) (ds := []) #[false, false, false, false, false, false, false, false, false, false, false, false, false, false, false, false, false] (by kernel_rfl) rfl rfl ⟨(blk_cell BK173.out 0).trans rfl, (blk_cell BK173.out 1).trans rfl, (blk_cell BK173.out 2).trans rfl⟩ (fun hHeld => ?_); refine with_tabW impl_payOf.tab1 impl_payOf.bits1 (fun HT_ HW_ => ?_)
  generalize w6.drew = w7 at BK173 HB hHeld ⊢
  refine pure_ (i := 0) (N := some 7) (v := ?_) (a' := ?_) #[true, false, false, false, false, false, false, false, false, false, false, false, false, false, false, false, false] rfl rfl (any_of HT_.out (by kernel_rfl)) (fun _ _ _ h => h) (Or.inl ⟨by rfl, ?_⟩) ?_ ?_
  rotate_left
  · intro w'
    go_simp
    with_reducible rfl
  rotate_left
  · simp only [Act.put, List.setIfInBounds_toArray, List.set_cons_zero, List.set_cons_succ, i64_w, i32_w]
    rfl
  refine pure_ (i := 6) (N := some 13) (v := ?_) (a' := ?_) #[true, false, false, false, false, false, true, false, false, false, false, false, false, false, false, false, false] rfl rfl (any_of HT_.out (by kernel_rfl)) (fun _ _ _ h => h) (Or.inl ⟨by rfl, ?_⟩) ?_ ?_
  rotate_left
  · intro w'
    go_simp
    with_reducible rfl
  rotate_left
  · simp only [Act.put, List.setIfInBounds_toArray, List.set_cons_zero, List.set_cons_succ, i64_w, i32_w]
    rfl
  refine pure_ (i := 9) (N := some 16) (v := ?_) (a' := ?_) #[true, false, false, false, false, false, true, false, false, true, false, false, false, false, false, false, false] rfl rfl (any_of HT_.out (by kernel_rfl)) (fun _ _ _ h => h) (Or.inl ⟨by rfl, ?_⟩) ?_ ?_
  rotate_left
  · intro w'
    go_simp
    with_reducible rfl
  rotate_left
  · simp only [Act.put, List.setIfInBounds_toArray, List.set_cons_zero, List.set_cons_succ, i64_w, i32_w]
    rfl
  refine pure_ (i := 12) (N := some 19) (v := ?_) (a' := ?_) #[true, false, false, false, false, false, true, false, false, true, false, false, true, false, false, false, false] rfl rfl (any_of HT_.out (by kernel_rfl)) (fun _ _ _ h => h) (Or.inl ⟨by rfl, ?_⟩) ?_ ?_
  rotate_left
  · intro w'
    go_simp
    with_reducible rfl
  rotate_left
  · simp only [Act.put, List.setIfInBounds_toArray, List.set_cons_zero, List.set_cons_succ, i64_w, i32_w]
    rfl
  refine take_ (i := 1) (N := some 8) (v := ?_) (a' := ?_) #[true, true, false, false, false, false, true, false, false, true, false, false, true, false, false, false, false] rfl rfl (take_ofW HT_.out HW_.out (by kernel_rfl)) (fun _ _ _ h => h) (Or.inl ⟨by rfl, ?_⟩) hHeld ?_ ?_
  rotate_left
  · rintro w' ⟨s0, s1, s2⟩
    go_simp
    with_reducible rfl
  rotate_left
  · simp only [Act.put, List.setIfInBounds_toArray, List.set_cons_zero, List.set_cons_succ, i64_w, i32_w]
    rfl
  refine take_ (i := 2) (N := some 9) (v := ?_) (a' := ?_) #[true, true, true, false, false, false, true, false, false, true, false, false, true, false, false, false, false] rfl rfl (take_ofW HT_.out HW_.out (by kernel_rfl)) (fun _ _ _ h => h) (Or.inl ⟨by rfl, ?_⟩) hHeld ?_ ?_
  rotate_left
  · rintro w' ⟨s0, s1, s2⟩
    go_simp
    with_reducible rfl
  rotate_left
  · simp only [Act.put, List.setIfInBounds_toArray, List.set_cons_zero, List.set_cons_succ, i64_w, i32_w]
    rfl
  refine take_ (i := 7) (N := some 14) (v := ?_) (a' := ?_) #[true, true, true, false, false, false, true, true, false, true, false, false, true, false, false, false, false] rfl rfl (take_ofW HT_.out HW_.out (by kernel_rfl)) (fun _ _ _ h => h) (Or.inl ⟨by rfl, ?_⟩) hHeld ?_ ?_
  rotate_left
  · rintro w' ⟨s0, s1, s2⟩
    go_simp
    with_reducible rfl
  rotate_left
  · simp only [Act.put, List.setIfInBounds_toArray, List.set_cons_zero, List.set_cons_succ, i64_w, i32_w]
    rfl
  refine take_ (i := 8) (N := some 15) (v := ?_) (a' := ?_) #[true, true, true, false, false, false, true, true, true, true, false, false, true, false, false, false, false] rfl rfl (take_ofW HT_.out HW_.out (by kernel_rfl)) (fun _ _ _ h => h) (Or.inl ⟨by rfl, ?_⟩) hHeld ?_ ?_
  rotate_left
  · rintro w' ⟨s0, s1, s2⟩
    go_simp
    with_reducible rfl
  rotate_left
  · simp only [Act.put, List.setIfInBounds_toArray, List.set_cons_zero, List.set_cons_succ, i64_w, i32_w]
    rfl
  refine one_ (i := 3) (N := some 10) #[true, true, true, true, false, false, true, true, true, true, false, false, true, false, false, false, false] rfl rfl (one_of HT_.out (by kernel_rfl)) (by decide) (fun K hK => ?_)
  refine goes_ Tryd.func20 (by kernel_rfl) rfl #[.agg #[.string a0_0, .slice A0_1 l0_1.length c0_1, .int .i64 a0_2], .int .i64 0] (by rfl) rfl rfl (by (try simp only [List.map_toArray, List.map_cons, List.map_nil]); first | done | rfl | (simp only [List.length_drop, List.length_take]; rfl)) ?_
  with_reducible refine (impl_extraMinutes.calls k a0_0 _ _ l0_1 a0_2 0 t174 _ ?side1 ?side2 A4.out).mono ?_
  (case side1 => repeat (first | exact (Kd.C_below HR0_1.out HB.out) | (with_reducible refine Kd.C_alloc ?_ _) | (with_reducible refine Kd.C_drewN ?_ _) | (with_reducible refine Kd.C_drew ?_)))
  (case side2 => exact HC0_1.out)
  rintro e w8 ⟨rfl, hb⟩
  refine ⟨_, rfl, ?_⟩
  have n0_ := Aside0.mk (blk_below (g := gb173) (o := .cells #[.string a0_0, .slice A0_1 l0_1.length c0_1, .int .i64 a0_2] 33 (0, 0)) (by (with_reducible repeat (first | refine blk_drewN ?_ _ | refine blk_drew ?_ | refine blk_alloc ?_ _)); exact BK173.out) hb)
  have n1_ := Aside0.mk (below_step (by repeat (first | (with_reducible first | exact HB.out | apply below_alloc | apply pw_below_drewN | apply below_drew1 | refine below_set ?_ GE173.out) | exact HB.out)) hb)
  clear BK173
  clear HB
  have BK173 := n0_
  have HB := n1_
  clear n0_ n1_
  (try clear hb)
  (try clear hb2)
  (try clear hk)
  (try clear hi)
  refine hK.out _ _ ⟨(blk_cell BK173.out 0).trans rfl, (blk_cell BK173.out 1).trans rfl, (blk_cell BK173.out 2).trans rfl⟩ (fun hHeld => ?_)
  clear hK K
  refine norm_ (a' := ?_) ?_ ?_
  rotate_left
  · show Act.put _ (some 10) _ = _
    simp only [Act.put, List.setIfInBounds_toArray, List.set_cons_zero, List.set_cons_succ, i64_w, i32_w]
    rfl
  refine pure_ (i := 4) (N := some 11) (v := ?_) (a' := ?_) #[true, true, true, true, true, false, true, true, true, true, false, false, true, false, false, false, false] rfl rfl (any_of HT_.out (by kernel_rfl)) (fun _ _ _ h => h) (Or.inl ⟨by rfl, ?_⟩) ?_ ?_
  rotate_left
  · intro w'
    go_simp
    with_reducible rfl
  rotate_left
  · simp only [Act.put, List.setIfInBounds_toArray, List.set_cons_zero, List.set_cons_succ, i64_w, i32_w]
    rfl
  refine pure_ (i := 5) (N := some 12) (v := ?_) (a' := ?_) #[true, true, true, true, true, true, true, true, true, true, false, false, true, false, false, false, false] rfl rfl (any_of HT_.out (by kernel_rfl)) (fun _ _ _ h => h) (Or.inl ⟨by rfl, ?_⟩) ?_ ?_
  rotate_left
  · intro w'
    go_simp
    with_reducible rfl
  rotate_left
  · simp only [Act.put, List.setIfInBounds_toArray, List.set_cons_zero, List.set_cons_succ, i64_w, i32_w]
    rfl
  refine one_ (i := 10) (N := some 17) #[true, true, true, true, true, true, true, true, true, true, true, false, true, false, false, false, false] rfl rfl (one_of HT_.out (by kernel_rfl)) (by decide) (fun K hK => ?_)
  refine goes_ Tryd.func20 (by kernel_rfl) rfl #[.agg #[.string a0_0, .slice A0_1 l0_1.length c0_1, .int .i64 a0_2], .int .i64 a1] (by rfl) rfl rfl (by (try simp only [List.map_toArray, List.map_cons, List.map_nil]); first | done | rfl | (simp only [List.length_drop, List.length_take]; rfl)) ?_
  with_reducible refine (impl_extraMinutes.calls k a0_0 _ _ l0_1 a0_2 a1 t175 _ ?side1 ?side2 A5.out).mono ?_
  (case side1 => repeat (first | exact (Kd.C_below HR0_1.out HB.out) | (with_reducible refine Kd.C_alloc ?_ _) | (with_reducible refine Kd.C_drewN ?_ _) | (with_reducible refine Kd.C_drew ?_)))
  (case side2 => exact HC0_1.out)
  rintro e w9 ⟨rfl, hb⟩
  refine ⟨_, rfl, ?_⟩
  have n0_ := Aside0.mk (blk_below (g := gb173) (o := .cells #[.string a0_0, .slice A0_1 l0_1.length c0_1, .int .i64 a0_2] 33 (0, 0)) (by (with_reducible repeat (first | refine blk_drewN ?_ _ | refine blk_drew ?_ | refine blk_alloc ?_ _)); exact BK173.out) hb)
  have n1_ := Aside0.mk (below_step (by repeat (first | (with_reducible first | exact HB.out | apply below_alloc | apply pw_below_drewN | apply below_drew1 | refine below_set ?_ GE173.out) | exact HB.out)) hb)
  clear BK173
  clear HB
  have BK173 := n0_
  have HB := n1_
  clear n0_ n1_
  (try clear hb)
  (try clear hb2)
  (try clear hk)
  (try clear hi)
  refine hK.out _ _ ⟨(blk_cell BK173.out 0).trans rfl, (blk_cell BK173.out 1).trans rfl, (blk_cell BK173.out 2).trans rfl⟩ (fun hHeld => ?_)
  clear hK K
  refine norm_ (a' := ?_) ?_ ?_
  rotate_left
  · show Act.put _ (some 17) _ = _
    simp only [Act.put, List.setIfInBounds_toArray, List.set_cons_zero, List.set_cons_succ, i64_w, i32_w]
    rfl
  refine pure_ (i := 11) (N := some 18) (v := ?_) (a' := ?_) #[true, true, true, true, true, true, true, true, true, true, true, true, true, false, false, false, false] rfl rfl (any_of HT_.out (by kernel_rfl)) (fun _ _ _ h => h) (Or.inl ⟨by rfl, ?_⟩) ?_ ?_
  rotate_left
  · intro w'
    go_simp
    with_reducible rfl
  rotate_left
  · simp only [Act.put, List.setIfInBounds_toArray, List.set_cons_zero, List.set_cons_succ, i64_w, i32_w]
    rfl
  refine pure_ (i := 13) (N := some 20) (v := ?_) (a' := ?_) #[true, true, true, true, true, true, true, true, true, true, true, true, true, true, false, false, false] rfl rfl (any_of HT_.out (by kernel_rfl)) (fun _ _ _ h => h) (Or.inl ⟨by rfl, ?_⟩) ?_ ?_
  rotate_left
  · intro w'
    go_simp
    with_reducible rfl
  rotate_left
  · simp only [Act.put, List.setIfInBounds_toArray, List.set_cons_zero, List.set_cons_succ, i64_w, i32_w]
    rfl
  refine pure_ (i := 14) (N := some 21) (v := ?_) (a' := ?_) #[true, true, true, true, true, true, true, true, true, true, true, true, true, true, true, false, false] rfl rfl (any_of HT_.out (by kernel_rfl)) (fun _ _ _ h => h) (Or.inl ⟨by rfl, ?_⟩) ?_ ?_
  rotate_left
  · intro w'
    go_simp
    with_reducible rfl
  rotate_left
  · simp only [Act.put, List.setIfInBounds_toArray, List.set_cons_zero, List.set_cons_succ, i64_w, i32_w]
    rfl
  refine pure_ (i := 15) (N := some 22) (v := ?_) (a' := ?_) #[true, true, true, true, true, true, true, true, true, true, true, true, true, true, true, true, false] rfl rfl (any_of HT_.out (by kernel_rfl)) (fun _ _ _ h => h) (Or.inl ⟨by rfl, ?_⟩) ?_ ?_
  rotate_left
  · intro w'
    go_simp
    with_reducible rfl
  rotate_left
  · simp only [Act.put, List.setIfInBounds_toArray, List.set_cons_zero, List.set_cons_succ, i64_w, i32_w]
    rfl
  refine pure_ (i := 16) (N := some 6) (v := ?_) (a' := ?_) #[true, true, true, true, true, true, true, true, true, true, true, true, true, true, true, true, true] rfl rfl (any_of HT_.out (by kernel_rfl)) (fun _ _ _ h => h) (Or.inl ⟨by rfl, ?_⟩) ?_ ?_
  rotate_left
  · intro w'
    go_simp
    with_reducible rfl
  rotate_left
  · simp only [Act.put, List.setIfInBounds_toArray, List.set_cons_zero, List.set_cons_succ, i64_w, i32_w]
    rfl
  refine done_ (done_of HT_.out (by kernel_rfl)) ?_
  try go_wp2
  go_ret
  exact ⟨by first | rfl | (simp [errW_none, errW_some] <;> rfl) | (simp [*, errW_none, errW_some] <;> rfl), by repeat (first | (with_reducible first | exact HB.out | apply below_alloc | apply pw_below_drewN | apply below_drew1 | refine below_set ?_ GE173.out) | exact HB.out)⟩

end Go.Proofs.YtdamlohbplfdgaaDoor.QFnCheapHands
