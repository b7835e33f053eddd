/- Functions and contracts of one law, printed by this session's own program (contracts by hand among them). -/
import Derived.Test.YtnfcgofpfhajoaaQFnExactShareByHoursx0
import Derived.Test.YtnfcgofpfhajoaaQFnExactShareByHoursx6
namespace Go.Proofs.Ytnfcgofpfhajoaa.QFnExactShareByHours
open Go.RowKit Go.Proofs.YtnfcgofpfhajoaaW.PrintWords Go.Proofs.YtnfcgofpfhajoaaW.PrintLast Go.Proofs.YtnfcgofpfhajoaaW.PrintMore
attribute [local go_sem] max2_int min2_int max_two min_two max_three min_three max_four min_four   -- for this text's walks alone
set_option linter.unusedVariables false
set_option linter.unusedSimpArgs false

/-! ### spec_l26Ok: function 51, by hand -/
section
open Go.Proofs.Ytnfcgofpfhajoaa.Base
def hdS (l : List S29) (i : Nat) : ByteArray × List Int × Int := ((rd_T29 l i).f0, (rd_T29 l i).f1, (rd_T29 l i).f2)
def spec_l26Ok.f (l0 : List S29) : Option Bool := some (handsOk (hdS l0) l0.length)
set_option maxHeartbeats 8000000 in
set_option maxRecDepth 100000 in
theorem spec_l26Ok.calls (A0 : Option Addr) (c0 : Nat) (l0 : List (S29)) (r : Bool) (w : World) (hr0 : Kd.C k29 w A0 l0.length l0) (hc0 : l0.length ≤ c0) (h : spec_l26Ok.f l0 = some r) :
    Calls Try.prog 51 #[.slice A0 l0.length c0] w fun e w' => e = .returned (.bool r) ∧ Drawn0 w w' := by
  have hm := Kd.C_max hr0
  obtain rfl : handsOk (hdS l0) l0.length = r := by simpa [spec_l26Ok.f] using h
  have HR0 := Aside0.mk hr0
  clear hr0 h hc0
  go_enter Try.func51, Try.ntmps51
  go_wp2
  go_loopw [3] (fun v3 w' => ∃ i : Nat, v3 = .int .i64 i ∧ i ≤ l0.length ∧ Aside0 (∀ j, j < i → fitH (hdS l0) j = true) ∧ Aside0 (Drawn0 w w')) (fun v3 _ => l0.length - (intOf v3).toNat)
  case atStart => exact ⟨0, rfl, Nat.zero_le _, ⟨fun j hj => absurd hj (Nat.not_lt_zero _)⟩, ⟨Drawn0.refl _⟩⟩
  case round =>
    obtain ⟨i, rfl, hi, hf, hw⟩ := hrel
    have HRw := Aside0.mk (Kd.C_below HR0.out (Drawn0.below hw.out))
    by_cases hlt : i < l0.length
    · have p1 : (0 : Int) ≤ (i : Int) := Int.natCast_nonneg i
      have p2 : (i : Int) < (l0.length : Int) := Int.ofNat_lt.2 hlt
      obtain ⟨ad, A1, c1, rfl, d0, d1, d2, hl1, hC1⟩ := at_T29 HRw.out (i : Int) p1 p2
      rw [Int.toNat_natCast] at d0 d1 d2
      have I1 := Aside0.mk (spec_l26One.at_ (ad.add (i * 3)) _ A1 c1 _ _ _ d0 d1 d2 hC1)
      generalize hv : handV (rd_T29 l0 i).f0 (rd_T29 l0 i).f1 (rd_T29 l0 i).f2 = v at I1
      have HV := Aside0.mk hv
      have D0 := Aside0.mk d0
      clear hv d0 d1 d2 hl1 hC1
      cases v with
      | false =>
        go_wp2_with (go_at_call 91; (with_reducible refine I1.out.mono ?_); rintro e w' ⟨rfl, ⟨⟨q, rfl⟩⟩⟩)
        go_ret
        have hno := handsOk_no hlt (fitH_bad (hd := hdS l0) (i := i) HV.out)
        exact ⟨by rw [hno]; rfl, Drawn0.step hw.out _⟩
      | true =>
        go_wp2_with (go_at_call 91; (with_reducible refine I1.out.mono ?_); rintro e w' ⟨rfl, ⟨⟨q, rfl⟩⟩⟩)
        go_loopw [4] (fun v4 w' => ∃ k : Nat, v4 = .int .i64 k ∧ k ≤ i ∧ Aside0 (∀ j, j < k → ¬ (hdS l0 j).1 = (hdS l0 i).1) ∧ Aside0 (Drawn0 w w')) (fun v4 _ => i - (intOf v4).toNat)
        case atStart => exact ⟨0, rfl, Nat.zero_le _, ⟨fun j hj => absurd hj (Nat.not_lt_zero _)⟩, ⟨Drawn0.step hw.out _⟩⟩
        case round =>
          rename_i wr2 _
          obtain ⟨k, rfl, hk, hn, hw2⟩ := hrel
          have HRx := Aside0.mk (Kd.C_below HR0.out (Drawn0.below hw2.out))
          by_cases hki : k < i
          · have q1 : (0 : Int) ≤ (k : Int) := Int.natCast_nonneg k
            have q2 : (k : Int) < (l0.length : Int) := by omega
            have q3 : (k : Int) < (i : Int) := by omega
            obtain ⟨ad2, A2, c2, e2, g0, -⟩ := at_T29 HRx.out (i : Int) p1 p2
            cases e2
            obtain ⟨ad2, A3, c3, e3, f0, -⟩ := at_T29 HRx.out (k : Int) q1 q2
            cases e3
            rw [Int.toNat_natCast] at g0 f0
            have NX := Aside0.mk (fitH_twin (hd := hdS l0) hki)
            have NE : Aside0 ((hdS l0 k).1 = (rd_T29 l0 (k : Int)).f0 ∧ (hdS l0 i).1 = (rd_T29 l0 (i : Int)).f0) := ⟨rfl, rfl⟩
            generalize (rd_T29 l0 (k : Int)).f0 = nk at f0 NE
            generalize (rd_T29 l0 (i : Int)).f0 = ni at g0 NE
            cases hq : nk.toList == ni.toList with
            | true =>
              have HQ := Aside0.mk (bytes_eq hq)
              go_wp2
              go_quiet (fail)
              go_wp2
              go_ret
              have hno := handsOk_no hlt (NX.out (by rw [NE.out.1, NE.out.2]; exact HQ.out))
              exact ⟨by rw [hno]; rfl, Drawn0.step hw2.out _⟩
            | false =>
              have HQ := Aside0.mk (bytes_ne hq)
              go_wp2
              go_quiet (fail)
              go_wp2
              go_roundw
              case rel => exact ⟨k + 1, by go_num, by omega, ⟨fun j hj => by
                by_cases e : j = k
                · subst e; rw [NE.out.1, NE.out.2]; exact HQ.out
                · exact hn.out j (by omega)⟩, ⟨Drawn0.step hw2.out _⟩⟩
              case measure => simp [intOf]; omega
          · have q3 : ¬ (k : Int) < (i : Int) := by omega
            have hg := fitH_good (hd := hdS l0) (i := i) HV.out (fun j hj => hn.out j (by omega))
            have HG := Aside0.mk hg
            clear hg
            go_wp2
            go_roundw
            case rel => exact ⟨i + 1, by go_num, by omega, ⟨fun j hj => by
                by_cases e : j = i
                · subst e; exact HG.out
                · exact hf.out j (by omega)⟩, hw2⟩
            case measure => simp [intOf]; omega
    · go_wp2
      go_ret
      have := handsOk_yes (hd := hdS l0) (n := l0.length) (fun j hj => hf.out j (by omega))
      exact ⟨by rw [this]; simp; omega, hw.out⟩
end


/-! ### spec_l25Cents: function 58 -/
def spec_l25Cents.f (a0 : Int) : Option (Bool) := (spec_l00In.f a0 0 100000000).bind fun t185 => (some t185)
set_option maxHeartbeats 8000000 in
set_option maxRecDepth 100000 in
theorem spec_l25Cents.calls (a0 : Int) (r : Bool) (w : World) (h : spec_l25Cents.f a0 = some r) :
    Calls Try.prog 58 #[.int .i64 a0] w fun e w' => e = .returned (.bool r) ∧ Drawn0 w w' := by
  have H : ((spec_l00In.f a0 0 100000000).bind fun t185 => (some t185)) = some r := h
  clear h
  replace H := Option.bind_eq_some_iff.mp H
  obtain ⟨t185, A20, H⟩ := H
  replace H : (some t185) = some r := H
  have A2 := Aside0.mk A20
  clear A20
  obtain rfl := Option.some.inj H
  go_enter Try.func58, Try.ntmps58
  go_wp2_with (first | ((with_reducible refine gate_callee (f := 52) rfl ?_); refine goesL_ (some 4) rfl rfl Try.func52 (by kernel_rfl) rfl #[.int .i64 a0, .int .i64 0, .int .i64 100000000] rfl (by (try simp only [List.map_toArray, List.map_cons, List.map_nil]); first | done | rfl | (simp only [List.length_drop, List.length_take]; rfl)) ?_; (with_reducible refine (spec_l00In.calls a0 0 100000000 t185 _ A2.out).mono ?_); rintro e w' ⟨rfl, ⟨nd, rfl⟩⟩; refine ⟨_, rfl, ?_⟩))
  go_ret
  exact ⟨by first | rfl | (simp; done) | (simp [*]; done), by repeat (first | exact Drawn0.refl _ | apply Drawn0.step)⟩

/-! ### spec_l00Sum: function 59 -/
def spec_l00Sum.l0 : Nat → List Int → Int → Int → Option (Int)
  | 0, _, _, _ => none
  | k + 1, x0, x3, x4 => if x4 < (x0.length : Int) then (if 0 ≤ x4 then (spec_l00Sum.l0 k x0 (wrap64 (x3 + (rd x0 x4))) (wrap64 (x4 + 1))) else (none)) else (some x3)
def spec_l00Sum.f (k : Nat) (l0 : List Int) : Option (Int) := spec_l00Sum.l0 k l0 0 0
theorem spec_l00Sum.mono_l : ∀ k, (∀ y0 y1 y2, LeO (spec_l00Sum.l0 k y0 y1 y2) (spec_l00Sum.l0 (k + 1) y0 y1 y2))
  | 0 => fun _ _ _ r h => by simp [spec_l00Sum.l0] at h
  | k + 1 => by
    have ih0 := spec_l00Sum.mono_l k
    · intro y0 y1 y2
      unfold spec_l00Sum.l0
      repeat' first
      | (with_reducible exact ih0 _ _ _)
      | (with_reducible exact LeO.refl _)
      | (with_reducible exact LeO.none _)
      | (with_reducible refine LeO.ite ?_ ?_)
      | (with_reducible refine LeO.bind ?_ (fun _ => ?_))
      | exact ih0 _ _ _
      | exact LeO.none _
      | refine LeO.ite ?_ ?_
      | refine LeO.bind ?_ (fun _ => ?_)
theorem spec_l00Sum.mono : ∀ a0 k, LeO (spec_l00Sum.f k a0) (spec_l00Sum.f (k + 1) a0) := by
  intro a0 k
  have ih0 := spec_l00Sum.mono_l k
  unfold spec_l00Sum.f
  repeat' first
      | (with_reducible exact ih0 _ _ _)
      | (with_reducible exact LeO.refl _)
      | (with_reducible exact LeO.none _)
      | (with_reducible refine LeO.ite ?_ ?_)
      | (with_reducible refine LeO.bind ?_ (fun _ => ?_))
      | exact ih0 _ _ _
      | exact LeO.none _
      | refine LeO.ite ?_ ?_
      | refine LeO.bind ?_ (fun _ => ?_)
set_option maxHeartbeats 8000000 in
set_option maxRecDepth 100000 in
theorem spec_l00Sum.calls (k : Nat) (A0 : Option Addr) (c0 : Nat) (l0 : List Int) (r : Int) (w : World) (hr0 : Kd.C (Kd.int .i64) w A0 l0.length l0) (hc0 : l0.length ≤ c0) (h : spec_l00Sum.f k l0 = some r) :
    Calls Try.prog 59 #[.slice A0 l0.length c0] w fun e w' => e = .returned (.int .i64 r) ∧ Drawn0 w w' := by
  have HR0 := Aside0.mk hr0
  have HC0 := Aside0.mk hc0
  clear hr0 hc0
  have H : (spec_l00Sum.l0 k l0 0 0) = some r := h
  clear h
  have H' := Aside0.mk H
  clear H
  go_enter Try.func59, Try.ntmps59
  go_wp2
  go_loopg [3, 4] k (fun kq v3 v4 w' => ∃ (x3_1 : Int) (x4_1 : Int), v3 = .int .i64 x3_1 ∧ v4 = .int .i64 x4_1 ∧ Aside0 (spec_l00Sum.l0 kq l0 x3_1 x4_1 = some r) ∧ Aside0 (kq ≤ k) ∧ Drawn0 w w')
  case atStart => exact ⟨(0), (0), (by first | rfl | (simp; done) | (simp [*]; done)), (by first | rfl | (simp; done) | (simp [*]; done)), H', ⟨Nat.le_refl _⟩, by repeat (first | exact Drawn0.refl _ | apply Drawn0.step)⟩
  case round =>
    clear H'
    obtain ⟨x3_1, x4_1, rfl, rfl, HA, HK1, ⟨m1, rfl⟩⟩ := hrel
    cases gk with
    | zero => exact absurd HA.out (by simp [spec_l00Sum.l0])
    | succ k1 =>
      have H := HA.out
      clear HA
      simp only [spec_l00Sum.l0] at H
      by_cases c2 : x4_1 < (l0.length : Int)
      · rw [if_pos c2] at H
        have c2b0 : decide (x4_1 < (l0.length : Int)) = true := decide_eq_true c2
        clear c2
        by_cases c3 : 0 ≤ x4_1
        · rw [if_pos c3] at H
          have c3b0 : decide (0 ≤ x4_1) = true := decide_eq_true c3
          clear c3
          have H' := Aside0.mk H
          clear H
          have p186 : 0 ≤ (x4_1 : Int) := of_decide_eq_true (by first | (with_reducible assumption) | assumption)
          have q186 : x4_1 < (l0.length : Int) := of_decide_eq_true (by first | (with_reducible assumption) | assumption)
          obtain ⟨ad186, e186, hx186_0⟩ := Kd.at_int HR0.out x4_1 p186 q186
          cases e186
          replace p186 := eq_true p186
          replace q186 := eq_true q186
          go_wp2
          go_roundg k1
          case measure => have := HK1.out; omega
          case rel => exact ⟨(wrap64 (x3_1 + (rd l0 x4_1))), (wrap64 (x4_1 + 1)), (by first | rfl | (simp; done) | (simp [*]; done)), (by first | rfl | (simp; done) | (simp [*]; done)), H', ⟨by have := HK1.out; omega⟩, by repeat (first | exact Drawn0.refl _ | apply Drawn0.step)⟩
        · rw [if_neg c3] at H
          exact absurd H (by simp)
      · rw [if_neg c2] at H
        have c2b0 : decide (x4_1 < (l0.length : Int)) = false := decide_eq_false c2
        clear c2
        obtain rfl := Option.some.inj H
        go_wp2
        go_ret
        exact ⟨by first | rfl | (simp; done) | (simp [*]; done), by repeat (first | exact Drawn0.refl _ | apply Drawn0.step)⟩

end Go.Proofs.Ytnfcgofpfhajoaa.QFnExactShareByHours
