/- Functions and contracts of one law, printed by this session's own program (contracts by hand among them). -/
import Derived.Test.YtdamlohbplfdgaaQFnExactCheapestHandsx0
import Derived.Test.YtdamlohbplfdgaaQFnExactCheapestHandsx1
namespace Go.Proofs.Ytdamlohbplfdgaa.QFnExactCheapestHands
open Go.RowKit Go.Proofs.YtdamlohbplfdgaaW.PrintWords Go.Proofs.YtdamlohbplfdgaaW.PrintLast Go.Proofs.YtdamlohbplfdgaaW.PrintMore
attribute [local go_sem] max2_int min2_int max_two min_two max_three min_three max_four min_four   -- for this text's walks alone
set_option linter.unusedVariables false
set_option linter.unusedSimpArgs false

/-! ### spec_l26Ok: function 14, by hand -/
section
open Go.Proofs.Ytdamlohbplfdgaa.Base
def hdS (l : List S43) (i : Nat) : ByteArray × List Int × Int := ((rd_T43 l i).f0, (rd_T43 l i).f1, (rd_T43 l i).f2)
def spec_l26Ok.f (l0 : List S43) : Option Bool := some (handsOk (hdS l0) l0.length)
set_option maxHeartbeats 8000000 in
set_option maxRecDepth 100000 in
theorem spec_l26Ok.calls (A0 : Option Addr) (c0 : Nat) (l0 : List (S43)) (r : Bool) (w : World) (hr0 : Kd.C k43 w A0 l0.length l0) (hc0 : l0.length ≤ c0) (h : spec_l26Ok.f l0 = some r) :
    Calls Try.prog 14 #[.slice A0 l0.length c0] w fun e w' => e = .returned (.bool r) ∧ Drawn0 w w' := by
  have hm := Kd.C_max hr0
  obtain rfl : handsOk (hdS l0) l0.length = r := by simpa [spec_l26Ok.f] using h
  have HR0 := Aside0.mk hr0
  clear hr0 h hc0
  go_enter Try.func14, Try.ntmps14
  go_wp2
  go_loopw [3] (fun v3 w' => ∃ i : Nat, v3 = .int .i64 i ∧ i ≤ l0.length ∧ Aside0 (∀ j, j < i → fitH (hdS l0) j = true) ∧ Aside0 (Drawn0 w w')) (fun v3 _ => l0.length - (intOf v3).toNat)
  case atStart => exact ⟨0, rfl, Nat.zero_le _, ⟨fun j hj => absurd hj (Nat.not_lt_zero _)⟩, ⟨Drawn0.refl _⟩⟩
  case round =>
    obtain ⟨i, rfl, hi, hf, hw⟩ := hrel
    have HRw := Aside0.mk (Kd.C_below HR0.out (Drawn0.below hw.out))
    by_cases hlt : i < l0.length
    · have p1 : (0 : Int) ≤ (i : Int) := Int.natCast_nonneg i
      have p2 : (i : Int) < (l0.length : Int) := Int.ofNat_lt.2 hlt
      obtain ⟨ad, A1, c1, rfl, d0, d1, d2, hl1, hC1⟩ := at_T43 HRw.out (i : Int) p1 p2
      rw [Int.toNat_natCast] at d0 d1 d2
      have I1 := Aside0.mk (spec_l26One.at_ (ad.add (i * 3)) _ A1 c1 _ _ _ d0 d1 d2 hC1)
      generalize hv : handV (rd_T43 l0 i).f0 (rd_T43 l0 i).f1 (rd_T43 l0 i).f2 = v at I1
      have HV := Aside0.mk hv
      have D0 := Aside0.mk d0
      clear hv d0 d1 d2 hl1 hC1
      cases v with
      | false =>
        go_wp2_with (go_at_call 26; (with_reducible refine I1.out.mono ?_); rintro e w' ⟨rfl, ⟨⟨q, rfl⟩⟩⟩)
        go_ret
        have hno := handsOk_no hlt (fitH_bad (hd := hdS l0) (i := i) HV.out)
        exact ⟨by rw [hno]; rfl, Drawn0.step hw.out _⟩
      | true =>
        go_wp2_with (go_at_call 26; (with_reducible refine I1.out.mono ?_); rintro e w' ⟨rfl, ⟨⟨q, rfl⟩⟩⟩)
        go_loopw [4] (fun v4 w' => ∃ k : Nat, v4 = .int .i64 k ∧ k ≤ i ∧ Aside0 (∀ j, j < k → ¬ (hdS l0 j).1 = (hdS l0 i).1) ∧ Aside0 (Drawn0 w w')) (fun v4 _ => i - (intOf v4).toNat)
        case atStart => exact ⟨0, rfl, Nat.zero_le _, ⟨fun j hj => absurd hj (Nat.not_lt_zero _)⟩, ⟨Drawn0.step hw.out _⟩⟩
        case round =>
          rename_i wr2 _
          obtain ⟨k, rfl, hk, hn, hw2⟩ := hrel
          have HRx := Aside0.mk (Kd.C_below HR0.out (Drawn0.below hw2.out))
          by_cases hki : k < i
          · have q1 : (0 : Int) ≤ (k : Int) := Int.natCast_nonneg k
            have q2 : (k : Int) < (l0.length : Int) := by omega
            have q3 : (k : Int) < (i : Int) := by omega
            obtain ⟨ad2, A2, c2, e2, g0, -⟩ := at_T43 HRx.out (i : Int) p1 p2
            cases e2
            obtain ⟨ad2, A3, c3, e3, f0, -⟩ := at_T43 HRx.out (k : Int) q1 q2
            cases e3
            rw [Int.toNat_natCast] at g0 f0
            have NX := Aside0.mk (fitH_twin (hd := hdS l0) hki)
            have NE : Aside0 ((hdS l0 k).1 = (rd_T43 l0 (k : Int)).f0 ∧ (hdS l0 i).1 = (rd_T43 l0 (i : Int)).f0) := ⟨rfl, rfl⟩
            generalize (rd_T43 l0 (k : Int)).f0 = nk at f0 NE
            generalize (rd_T43 l0 (i : Int)).f0 = ni at g0 NE
            cases hq : nk.toList == ni.toList with
            | true =>
              have HQ := Aside0.mk (bytes_eq hq)
              go_wp2
              go_quiet (fail)
              go_wp2
              go_ret
              have hno := handsOk_no hlt (NX.out (by rw [NE.out.1, NE.out.2]; exact HQ.out))
              exact ⟨by rw [hno]; rfl, Drawn0.step hw2.out _⟩
            | false =>
              have HQ := Aside0.mk (bytes_ne hq)
              go_wp2
              go_quiet (fail)
              go_wp2
              go_roundw
              case rel => exact ⟨k + 1, by go_num, by omega, ⟨fun j hj => by
                by_cases e : j = k
                · subst e; rw [NE.out.1, NE.out.2]; exact HQ.out
                · exact hn.out j (by omega)⟩, ⟨Drawn0.step hw2.out _⟩⟩
              case measure => simp [intOf]; omega
          · have q3 : ¬ (k : Int) < (i : Int) := by omega
            have hg := fitH_good (hd := hdS l0) (i := i) HV.out (fun j hj => hn.out j (by omega))
            have HG := Aside0.mk hg
            clear hg
            go_wp2
            go_roundw
            case rel => exact ⟨i + 1, by go_num, by omega, ⟨fun j hj => by
                by_cases e : j = i
                · subst e; exact HG.out
                · exact hf.out j (by omega)⟩, hw2⟩
            case measure => simp [intOf]; omega
    · go_wp2
      go_ret
      have := handsOk_yes (hd := hdS l0) (n := l0.length) (fun j hj => hf.out j (by omega))
      exact ⟨by rw [this]; simp; omega, hw.out⟩
end


/-! ### spec_l00Own: function 27 -/
def spec_l00Own.f (l0 : List Int) : Option (List Int) := (some (([] : List Int) : List Int)).bind fun y108 => (if y108.length + l0.length < 17592186044416 then (some (y108 ++ l0)) else (none))
set_option maxHeartbeats 8000000 in
set_option maxRecDepth 100000 in
theorem spec_l00Own.calls (A0 : Option Addr) (c0 : Nat) (l0 : List Int) (r : List Int) (w : World) (hr0 : Kd.C (Kd.int .i64) w A0 l0.length l0) (hc0 : l0.length ≤ c0) (h : spec_l00Own.f l0 = some r) :
    Calls Try.prog 27 #[.slice A0 l0.length c0] w fun e w' => ∃ v0_ : Value, e = .returned (v0_) ∧ Kd.R (Kd.int .i64) 2 w' w.heap.size (fun _ => True) v0_ r ∧ Below w.heap.size w w' := by
  have HR0 := Aside0.mk hr0
  have HC0 := Aside0.mk hc0
  clear hr0 hc0
  have HB := Aside0.mk (Below.refl w.heap.size w)
  have H : ((some (([] : List Int) : List Int)).bind fun y108 => (if y108.length + l0.length < 17592186044416 then (some (y108 ++ l0)) else (none))) = some r := h
  clear h
  obtain ⟨y108, hy108⟩ : ∃ y_ : List Int, y_ = (([] : List Int)) := ⟨_, rfl⟩
  replace H : (if y108.length + l0.length < 17592186044416 then (some (y108 ++ l0)) else (none)) = some r := by first | (rw [hy108]; with_reducible exact H) | (have H2_ := (Option.bind_some _ _).symm.trans H; rw [hy108]; with_reducible exact H2_) | (have H2_ := (Option.bind_some _ _).symm.trans H; with_reducible exact H2_) | with_reducible exact H | (rw [hy108]; exact H) | exact H
  have Ny108 := Aside0.mk hy108
  clear hy108
  by_cases c2 : y108.length + l0.length < 17592186044416
  · rw [if_pos c2] at H
    have LMc2 := Aside0.mk c2
    clear c2
    obtain ⟨y111, hy111⟩ : ∃ y_ : List Int, y_ = (y108 ++ l0) := ⟨_, rfl⟩
    replace H : (some y111) = some r := by first | (rw [hy111]; with_reducible exact H) | (have H2_ := (Option.bind_some _ _).symm.trans H; rw [hy111]; with_reducible exact H2_) | (have H2_ := (Option.bind_some _ _).symm.trans H; with_reducible exact H2_) | with_reducible exact H | (rw [hy111]; exact H) | exact H
    have Ny111 := Aside0.mk hy111
    clear hy111
    obtain rfl := Option.some.inj H
    go_enter Try.func27, Try.ntmps27
    go_wp2_with (first | ((with_reducible refine gate_dst (N := 3) rfl ?_); refine Kd.R_lit (Kd.int .i64) _ 2 ?hg (N := 3) ?hd (xs := ([] : List Int)) (inner := []) (ok := fun _ => True) (okp := fun _ => True) ?hr ?hp (fun _ hk => hk) trivial (Below.refl _ _) (Nat.le_refl _) (by simp) ?_; (case hd => rfl); (case hg => rfl); (case hr => first | (go_simp; done) | (go_simp; rfl)); (case hp => exact (Reps.none _ _)); intro v109 w3 ho4 hb hg_ hnew_; clear hg_ hnew_; (first | rw [← Ny108.out] at ho4 | (simp only [Int.reduceToNat] at ho4; rw [← Ny108.out] at ho4)); have n0_ := Aside0.mk (Kd.R_lower ho4 (below_size (by repeat (first | (with_reducible first | exact HB.out | apply below_alloc | apply pw_below_drewN | apply below_drew1) | exact HB.out)))); have n1_ := Aside0.mk (below_step (by repeat (first | (with_reducible first | exact HB.out | apply below_alloc | apply pw_below_drewN | apply below_drew1) | exact HB.out)) hb); clear HB; have HO110 := n0_; have HB := n1_; clear n0_ n1_; clear hb ho4) | ((with_reducible refine gate_builtin (b := .append) (xs := #[.tmp 3, .tmp 4]) rfl ?_); at_builtin; refine Kd.R_append_rows (Kd.int .i64) (w0 := w) w.heap.size rfl (.tmp 3) (.tmp 4) 24 2 (.int .i64 0) 8 rfl Try.underlying24 info2 rfl (by decide) (by omega) v109 y108 l0 _ _ _ (fun _ => True) (fun _ => False) rfl rfl ?aO ?aR (fun _ _ h => h) (fun _ h => h.elim) ?aF ?aB ?aS ?aL ?_; (case aR => repeat (first | exact (Kd.C_below HR0.out HB.out) | (with_reducible refine Kd.C_alloc ?_ _) | (with_reducible refine Kd.C_drewN ?_ _) | (with_reducible refine Kd.C_drew ?_))); (case aB => exact (by repeat (first | (with_reducible first | exact HB.out | apply below_alloc | apply pw_below_drewN | apply below_drew1) | exact HB.out))); (case aF => exact (fun _ _ => trivial)); (case aO => exact (by (with_reducible repeat (first | apply Kd.R_alloc | apply Kd.R_drewN | apply Kd.R_drew)); exact HO110.out)); (case aS => exact (below_size (by repeat (first | (with_reducible first | exact HB.out | apply below_alloc | apply pw_below_drewN | apply below_drew1) | exact HB.out)))); (case aL => have := LMc2.out; omega); intro v112 w5 ho hb hg hat; rw [← Ny111.out] at ho; have n0_ := Aside0.mk (hb); have n1_ := Aside0.mk (ho); clear HB; clear HO110; have HB := n0_; have HO113 := n1_; clear n0_ n1_; clear ho hb hg hat))
    go_ret
    exact ⟨_, by first | rfl | (simp [errW_none, errW_some] <;> rfl) | (simp [*, errW_none, errW_some] <;> rfl), by (with_reducible repeat (first | apply Kd.R_alloc | apply Kd.R_drewN | apply Kd.R_drew)); exact HO113.out, by repeat (first | (with_reducible first | exact HB.out | apply below_alloc | apply pw_below_drewN | apply below_drew1) | exact HB.out)⟩
  · rw [if_neg c2] at H
    exact absurd H (by simp)

/-! ### spec_l00Sum: function 28 -/
def spec_l00Sum.l0 : Nat → List Int → Int → Int → Option (Int)
  | 0, _, _, _ => none
  | k + 1, x0, x3, x4 => if x4 < (x0.length : Int) then (if 0 ≤ x4 then (spec_l00Sum.l0 k x0 (wrap64 (x3 + (rd x0 x4))) (wrap64 (x4 + 1))) else (none)) else (some x3)
def spec_l00Sum.f (k : Nat) (l0 : List Int) : Option (Int) := spec_l00Sum.l0 k l0 0 0
theorem spec_l00Sum.mono_l : ∀ k, (∀ y0 y1 y2, LeO (spec_l00Sum.l0 k y0 y1 y2) (spec_l00Sum.l0 (k + 1) y0 y1 y2))
  | 0 => fun _ _ _ r h => by simp [spec_l00Sum.l0] at h
  | k + 1 => by
    have ih0 := spec_l00Sum.mono_l k
    · intro y0 y1 y2
      unfold spec_l00Sum.l0
      repeat' first
      | (with_reducible exact ih0 _ _ _)
      | (with_reducible exact LeO.refl _)
      | (with_reducible exact LeO.none _)
      | (with_reducible refine LeO.ite ?_ ?_)
      | (with_reducible refine LeO.bind ?_ (fun _ => ?_))
      | exact ih0 _ _ _
      | exact LeO.none _
      | refine LeO.ite ?_ ?_
      | refine LeO.bind ?_ (fun _ => ?_)
theorem spec_l00Sum.mono : ∀ a0 k, LeO (spec_l00Sum.f k a0) (spec_l00Sum.f (k + 1) a0) := by
  intro a0 k
  have ih0 := spec_l00Sum.mono_l k
  unfold spec_l00Sum.f
  repeat' first
      | (with_reducible exact ih0 _ _ _)
      | (with_reducible exact LeO.refl _)
      | (with_reducible exact LeO.none _)
      | (with_reducible refine LeO.ite ?_ ?_)
      | (with_reducible refine LeO.bind ?_ (fun _ => ?_))
      | exact ih0 _ _ _
      | exact LeO.none _
      | refine LeO.ite ?_ ?_
      | refine LeO.bind ?_ (fun _ => ?_)
set_option maxHeartbeats 8000000 in
set_option maxRecDepth 100000 in
theorem spec_l00Sum.calls (k : Nat) (A0 : Option Addr) (c0 : Nat) (l0 : List Int) (r : Int) (w : World) (hr0 : Kd.C (Kd.int .i64) w A0 l0.length l0) (hc0 : l0.length ≤ c0) (h : spec_l00Sum.f k l0 = some r) :
    Calls Try.prog 28 #[.slice A0 l0.length c0] w fun e w' => e = .returned (.int .i64 r) ∧ Drawn0 w w' := by
  have HR0 := Aside0.mk hr0
  have HC0 := Aside0.mk hc0
  clear hr0 hc0
  have H : (spec_l00Sum.l0 k l0 0 0) = some r := h
  clear h
  have H' := Aside0.mk H
  clear H
  go_enter Try.func28, Try.ntmps28
  go_wp2
  go_loopg [3, 4] k (fun kq v3 v4 w' => ∃ (x3_1 : Int) (x4_1 : Int), v3 = .int .i64 x3_1 ∧ v4 = .int .i64 x4_1 ∧ Aside0 (spec_l00Sum.l0 kq l0 x3_1 x4_1 = some r) ∧ Aside0 (kq ≤ k) ∧ Drawn0 w w')
  case atStart => exact ⟨(0), (0), (by first | rfl | (simp; done) | (simp [*]; done)), (by first | rfl | (simp; done) | (simp [*]; done)), H', ⟨Nat.le_refl _⟩, by repeat (first | exact Drawn0.refl _ | apply Drawn0.step)⟩
  case round =>
    clear H'
    obtain ⟨x3_1, x4_1, rfl, rfl, HA, HK1, ⟨m1, rfl⟩⟩ := hrel
    cases gk with
    | zero => exact absurd HA.out (by simp [spec_l00Sum.l0])
    | succ k1 =>
      have H := HA.out
      clear HA
      simp only [spec_l00Sum.l0] at H
      by_cases c2 : x4_1 < (l0.length : Int)
      · rw [if_pos c2] at H
        have c2b0 : decide (x4_1 < (l0.length : Int)) = true := decide_eq_true c2
        clear c2
        by_cases c3 : 0 ≤ x4_1
        · rw [if_pos c3] at H
          have c3b0 : decide (0 ≤ x4_1) = true := decide_eq_true c3
          clear c3
          have H' := Aside0.mk H
          clear H
          have p114 : 0 ≤ (x4_1 : Int) := of_decide_eq_true (by first | (with_reducible assumption) | assumption)
          have q114 : x4_1 < (l0.length : Int) := of_decide_eq_true (by first | (with_reducible assumption) | assumption)
          obtain ⟨ad114, e114, hx114_0⟩ := Kd.at_int HR0.out x4_1 p114 q114
          cases e114
          replace p114 := eq_true p114
          replace q114 := eq_true q114
          go_wp2
          go_roundg k1
          case measure => have := HK1.out; omega
          case rel => exact ⟨(wrap64 (x3_1 + (rd l0 x4_1))), (wrap64 (x4_1 + 1)), (by first | rfl | (simp; done) | (simp [*]; done)), (by first | rfl | (simp; done) | (simp [*]; done)), H', ⟨by have := HK1.out; omega⟩, by repeat (first | exact Drawn0.refl _ | apply Drawn0.step)⟩
        · rw [if_neg c3] at H
          exact absurd H (by simp)
      · rw [if_neg c2] at H
        have c2b0 : decide (x4_1 < (l0.length : Int)) = false := decide_eq_false c2
        clear c2
        obtain rfl := Option.some.inj H
        go_wp2
        go_ret
        exact ⟨by first | rfl | (simp; done) | (simp [*]; done), by repeat (first | exact Drawn0.refl _ | apply Drawn0.step)⟩

/-! ### spec_l00Max: function 41 -/
def spec_l00Max.f (a0 : Int) (a1 : Int) : Option (Int) := if a0 > a1 then (some a0) else (some a1)
set_option maxHeartbeats 8000000 in
set_option maxRecDepth 100000 in
theorem spec_l00Max.calls (a0 : Int) (a1 : Int) (r : Int) (w : World) (h : spec_l00Max.f a0 a1 = some r) :
    Calls Try.prog 41 #[.int .i64 a0, .int .i64 a1] w fun e w' => e = .returned (.int .i64 r) ∧ Drawn0 w w' := by
  have H : (if a0 > a1 then (some a0) else (some a1)) = some r := h
  clear h
  by_cases c3 : a0 > a1
  · rw [if_pos c3] at H
    have c3b0 : decide (a1 < a0) = true := decide_eq_true c3
    clear c3
    obtain rfl := Option.some.inj H
    go_enter Try.func41, Try.ntmps41
    go_wp2
    go_ret
    exact ⟨by first | rfl | (simp; done) | (simp [*]; done), by repeat (first | exact Drawn0.refl _ | apply Drawn0.step)⟩
  · rw [if_neg c3] at H
    have c3b0 : decide (a1 < a0) = false := decide_eq_false c3
    clear c3
    obtain rfl := Option.some.inj H
    go_enter Try.func41, Try.ntmps41
    go_wp2
    go_ret
    exact ⟨by first | rfl | (simp; done) | (simp [*]; done), by repeat (first | exact Drawn0.refl _ | apply Drawn0.step)⟩

/-! ### spec_l26Extra: function 35, by hand -/
section
open Go.Proofs.Ytdamlohbplfdgaa.Base
theorem max_calls (a b : Int) (w : World) : Calls Try.prog 41 #[.int .i64 a, .int .i64 b] w fun e w' => e = .returned (.int .i64 (mx a b)) ∧ ∃ m, w' = w.drewN m := by
  refine (spec_l00Max.calls a b (mx a b) w ?_).mono fun e w' ⟨he, ⟨hm⟩⟩ => ⟨he, hm⟩
  unfold spec_l00Max.f mx
  repeat' split
  all_goals first | rfl | (congr 1; omega)
set_option maxHeartbeats 8000000 in
set_option maxRecDepth 100000 in
theorem spec_l26Extra.at_ (ad : Addr) (A : Option Addr) (c : Nat) (f1 : List Int) (lim : Int) (w : World) (c1 : w.cell? ⟨ad.block, ad.off + 1, none⟩ = some (.slice A f1.length c)) (hr : Kd.C (Kd.int .i64) w A f1.length f1) :
    Calls Try.prog 35 #[.pointer (some ad), .int .i64 lim] w fun e w' => e = .returned (.int .i64 (extraS lim f1)) ∧ Drawn0 w w' := by
  have hm := Kd.C_max hr
  have HR := Aside0.mk hr
  have C1 := Aside0.mk c1
  clear hr c1
  go_enter Try.func35, Try.ntmps35
  go_wp2
  go_loopw [5, 6] (fun v5 v6 w' => ∃ i : Nat, v5 = .int .i64 (extraS lim (f1.take i)) ∧ v6 = .int .i64 i ∧ i ≤ f1.length ∧ Aside0 (Drawn0 w w')) (fun _ v6 _ => f1.length - (intOf v6).toNat)
  case atStart => exact ⟨0, rfl, rfl, Nat.zero_le _, ⟨Drawn0.refl _⟩⟩
  case round =>
    obtain ⟨i, rfl, rfl, hi, hw⟩ := hrel
    have hb := Drawn0.below hw.out
    have c1 := pw_cell_below hb C1.out
    have hr := Kd.C_below HR.out hb
    clear hb
    by_cases hlt : i < f1.length
    · have p1 : (0 : Int) ≤ (i : Int) := Int.natCast_nonneg i
      have p2 : (i : Int) < (f1.length : Int) := Int.ofNat_lt.2 hlt
      obtain ⟨ad1, rfl, hx⟩ := Kd.at_int hr (i : Int) p1 p2
      rw [Int.toNat_natCast] at hx
      have HS := Aside0.mk (extraS_succ lim f1 i hlt)
      have I4 := Aside0.mk (max_calls 0 (wrap64 (rd f1 (i : Int) - lim)))
      go_wp2_with (go_at_call 41; (with_reducible refine (I4.out _).mono ?_); rintro e w' ⟨rfl, q, rfl⟩)
      go_roundw
      case rel => exact ⟨i + 1, by rw [HS.out], by go_num, by omega, ⟨Drawn0.step hw.out _⟩⟩
      case measure => simp [intOf]; omega
    · obtain rfl : i = f1.length := by omega
      go_wp2
      go_ret
      exact ⟨by rw [List.take_of_length_le (Nat.le_refl _)]; rfl, hw.out⟩
end


/-! ### spec_l26Pay: function 29, by hand -/
section
open Go.Proofs.Ytdamlohbplfdgaa.Base
theorem sumW_ev (l : List Int) (h : l.length ≤ 9223372036854775807) : Ev (fun k => spec_l00Sum.f k l) (sumW l) := by
  have := for_to l.length (fun k (s : Int) i => spec_l00Sum.l0 k l s i) (fun i => (l.take i).foldl (fun a m => wrap64 (a + m)) 0) (sumW l) (fun i hi => ⟨0, fun k _ => ?_⟩) (Ev.const fun k => ?_) l.length 0 (by omega)
  · exact this
  · simp only [spec_l00Sum.l0]
    rw [if_pos (by omega), if_pos (by omega), rd_nat l i hi, List.take_succ_eq_append_getElem hi, List.foldl_append, w64 (x := (i : Int) + 1) (by omega) (by omega)]
    rfl
  · simp only [spec_l00Sum.l0]
    rw [if_neg (by omega), List.take_of_length_le (Nat.le_refl _)]
    rfl

set_option maxHeartbeats 8000000 in
set_option maxRecDepth 100000 in
theorem spec_l26Pay.at_ (ad : Addr) (A : Option Addr) (c : Nat) (f1 : List Int) (f2 lim ex : Int) (w : World) (c1 : w.cell? ⟨ad.block, ad.off + 1, none⟩ = some (.slice A f1.length c)) (c2 : w.cell? ⟨ad.block, ad.off + 2, none⟩ = some (.int .i64 f2)) (hr : Kd.C (Kd.int .i64) w A f1.length f1) (hc : f1.length ≤ c) :
    Calls Try.prog 29 #[.pointer (some ad), .int .i64 lim, .int .i64 ex] w fun e w' => e = .returned (.int .i64 (payS f2 f1 lim ex)) ∧ Drawn0 w w' := by
  have hm := Kd.C_max hr
  obtain ⟨K, hK⟩ := Ev.pick (sumW_ev f1 hm)
  have hS := hK K (Nat.le_refl _)
  have I1 : Aside0 (∀ q, Calls Try.prog 28 #[.slice A f1.length c] (w.drewN q) fun e w' => e = .returned (.int .i64 (sumW f1)) ∧ ∃ m, w' = (w.drewN q).drewN m) :=
    ⟨fun q => (spec_l00Sum.calls K A c f1 _ _ (Kd.C_below hr (pw_below_drewN (Below.refl _ _) q)) hc hS).mono fun e w' ⟨he, ⟨hm⟩⟩ => ⟨he, hm⟩⟩
  have I2 : Aside0 (∀ q, Calls Try.prog 35 #[.pointer (some ad), .int .i64 lim] (w.drewN q) fun e w' => e = .returned (.int .i64 (extraS lim f1)) ∧ ∃ m, w' = (w.drewN q).drewN m) :=
    ⟨fun q => (spec_l26Extra.at_ ad A c f1 lim _ (by simpa using c1) (Kd.C_below hr (pw_below_drewN (Below.refl _ _) q))).mono fun e w' ⟨he, ⟨hm⟩⟩ => ⟨he, hm⟩⟩
  have HC := Aside0.mk hc
  clear hr hc hS hK hm
  have hp : payS f2 f1 lim ex = payS f2 f1 lim ex := rfl
  conv at hp => rhs; unfold payS
  have HP := Aside0.mk hp
  clear hp
  go_enter Try.func29, Try.ntmps29
  go_wp2
  go_quiet (first | (go_at_call 28; with_reducible exact Calls.quiet_of (I1.out _)) | (go_at_call 35; with_reducible exact Calls.quiet_of (I2.out _)))
  go_wp2
  go_ret
  exact ⟨by rw [HP.out]; rfl, ⟨_, rfl⟩⟩
end


-- NOT PRINTED: function 16 (spec_l26W_walk)

/-! ### spec_CheapestHands: function 5, by hand -/
section
open Go.Proofs.Ytdamlohbplfdgaa.Base
/-- What lies in memory while the reference goes through the sets: its state, the best set so far, the list. -/
structure Ws (l : List S43) (need : Int) (A : Option Addr) (c gw : Nat) (w0 w : World) (v : Value) (s : List Int × Int) : Prop where
  hw : w.heap[gw]? = some (.cells #[.slice A l.length c, .int .i64 need, v, .int .i64 s.2] 41 (0, 0))
  bw : w0.heap.size ≤ gw
  row : Kd.R (Kd.int .i64) 2 w w0.heap.size (fun _ => True) v s.1
  low : Below w0.heap.size w0 w
  list : Kd.C k43 w0 A l.length l
  lc : l.length ≤ c
section
variable {l : List S43} {need : Int} {A : Option Addr} {c gw : Nat} {w0 w w5 : World} {v v5 : Value} {s : List Int × Int}
theorem Ws.c0 (h : Ws l need A c gw w0 w v s) : w.cell? ⟨gw, 0, none⟩ = some (.slice A l.length c) := (blk_cell h.hw 0).trans rfl
theorem Ws.c1 (h : Ws l need A c gw w0 w v s) : w.cell? ⟨gw, 1, none⟩ = some (.int .i64 need) := (blk_cell h.hw 1).trans rfl
theorem Ws.c2 (h : Ws l need A c gw w0 w v s) : w.cell? ⟨gw, 2, none⟩ = some v := (blk_cell h.hw 2).trans rfl
theorem Ws.c3 (h : Ws l need A c gw w0 w v s) : w.cell? ⟨gw, 3, none⟩ = some (.int .i64 s.2) := (blk_cell h.hw 3).trans rfl
theorem Ws.fz (h : Ws l need A c gw w0 w v s) (i : Nat) : w.frozen? ⟨gw, i, none⟩ = false := blk_frozen h.hw i
theorem Ws.step (h : Ws l need A c gw w0 w v s) (hb : Below w.heap.size w w5) : Ws l need A c gw w0 w5 v s :=
  ⟨blk_below h.hw hb, h.bw, Kd.R_below h.row hb, h.low.trans (hb.mono h.low.size), h.list, h.lc⟩
theorem Ws.put (h : Ws l need A c gw w0 w v s) {set : List Int} (hr : Kd.R (Kd.int .i64) 2 w w0.heap.size (fun _ => True) v5 set) (p : Int) :
    Ws l need A c gw w0 ((w.setCell ⟨gw, 2, none⟩ v5).setCell ⟨gw, 3, none⟩ (.int .i64 p)) v5 (set, p) ∧ Kept w ((w.setCell ⟨gw, 2, none⟩ v5).setCell ⟨gw, 3, none⟩ (.int .i64 p)) (fun k => k = gw) := by
  have b1 := blk_set h.hw 2 v5
  have b2 := blk_set b1 3 (.int .i64 p)
  have hq : ∀ q, q ∈ (2 : Nat) :: (Kd.int .i64).E → q ≠ 41 := by
    intro q hq
    have : q = 2 := by simpa [Kd.int, Kd.scalar] using hq
    omega
  refine ⟨⟨b2, h.bw, Kd.R_set (Kd.R_set hr h.hw hq 2 _) b1 hq 3 _, (h.low.setCell (p := ⟨gw, 2, none⟩) h.bw _).setCell (p := ⟨gw, 3, none⟩) h.bw _, h.list, h.lc⟩, ?_⟩
  exact ((Kept.refl w (fun k => k = gw)).setCell (p := ⟨gw, 2, none⟩) (.inl rfl) _).setCell (p := ⟨gw, 3, none⟩) (.inl rfl) _
theorem Ws.apart (h : Ws l need A c gw w0 w v s) {v5 : Value} {set : List Int} (hr : Kd.R (Kd.int .i64) 2 w w0.heap.size (fun _ => True) v5 set) : Kd.R (Kd.int .i64) 2 w w0.heap.size (fun k => k ≠ gw) v5 set :=
  Kd.R_mono (Kd.R_types hr h.hw (by
    intro q hq
    have : q = 2 := by simpa [Kd.int, Kd.scalar] using hq
    omega)) (fun _ hk => hk.2)
theorem sw_step {a1 a2 : Addr} {u1 u2 : Value} {W W' : World} (h : W.cell? a1 = some u1 ∧ W.cell? a2 = some u2 ∧ Below w0.heap.size w0 W) (hb : Below W.heap.size W W') : W'.cell? a1 = some u1 ∧ W'.cell? a2 = some u2 ∧ Below w0.heap.size w0 W' :=
  ⟨pw_cell_below hb h.1, pw_cell_below hb h.2.1, below_step h.2.2 hb⟩
theorem one_reads {W : World} {g : Nat} {x : Int} (h : W.heap[g]? = some (.cells #[.int .i64 x] 2 (0, 0))) : Kd.C (Kd.int .i64) W (some ⟨g, 0, none⟩) 1 [x] := by
  refine ⟨rfl, by omega, fun _ => ⟨⟨g, 0, none⟩, rfl, fun j p hj => ?_⟩⟩
  cases j with
  | succ j => simp at hj
  | zero =>
    obtain rfl : x = p := by simpa using hj
    refine ⟨[.int .i64 x], rfl, rfl, fun i u hu => ?_⟩
    cases i with
    | succ i => simp at hu
    | zero =>
      obtain rfl : Value.int .i64 x = u := by simpa using hu
      rw [add_plain]
      exact (blk_cell h 0).trans rfl
end
set_option maxHeartbeats 8000000 in
set_option maxRecDepth 100000 in
/-- The reference looks at a set, and at all that begin with it. -/
theorem walk_calls (K : Nat) (l : List S43) (need : Int) (A : Option Addr) (c gw : Nat) (w0 : World) (M P : Nat → Int) (hn : l.length ≤ 10)
    (hM : ∀ i : Nat, i < l.length → spec_l00Sum.f K (rd_T43 l (i : Int)).f1 = some (M i) ∧ 0 ≤ M i ∧ M i ≤ 100000)
    (hP : ∀ i : Nat, i < l.length → payS (rd_T43 l (i : Int)).f2 (rd_T43 l (i : Int)).f1 1440 0 = P i ∧ 0 ≤ P i ∧ P i ≤ 100000000) :
    ∀ (d : Nat) (As : Option Addr) (cs : Nat) (set : List Int) (m p : Int) (v : Value) (s : List Int × Int) (w : World) (f : Nat), f + d = l.length → set.length + d ≤ l.length → 0 ≤ m → m ≤ 100000 * (f : Int) → 0 ≤ p → p ≤ 100000000 * (f : Int) → (set = [] ∧ f = 0 ∨ ∃ (u : List Int) (x : Nat), set = u ++ [(x : Int)] ∧ f = x + 1) →
      Ws l need A c gw w0 w v s → Kd.R (Kd.int .i64) 2 w w0.heap.size (fun _ => True) (.slice As set.length cs) set →
    Calls Try.prog 16 #[.pointer (some ⟨gw, 0, none⟩), .slice As set.length cs, .int .i64 m, .int .i64 p] w
      fun e w' => e = .returned (.tuple #[]) ∧ (∃ v', Ws l need A c gw w0 w' v' (walkS M P need l.length d set m p s)) ∧ Kept w w' (fun k => k = gw) := by
  intro d
  induction d using Nat.strongRecOn with
  | _ d ih =>
  intro As cs set m p v s w f hd hsd hm0 hm1 hp0 hp1 hfr hX hR
  have IH := Aside0.mk ih
  have HX := Aside0.mk hX
  have HR := Aside0.mk hR
  have HF := Aside0.mk hfr
  have HN := Aside0.mk (And.intro hn (And.intro hd (And.intro hsd (And.intro hm0 (And.intro hm1 (And.intro hp0 hp1))))))
  have HM := Aside0.mk hM
  have HP := Aside0.mk hP
  have c1 := hX.c1
  have c3 := hX.c3
  clear ih hR hfr hd hsd hm0 hm1 hp0 hp1 hX hn hM hP
  go_enter Try.func16, Try.ntmps16
  go_upto_region 0 with (fail)
  go_cut [23] (fun v23 wc => v23 = .bool (decide (0 ≤ s.2 ∧ s.2 ≤ p)) ∧ wc = w)
  case first =>
    by_cases h1 : 0 ≤ s.2
    · by_cases h2 : s.2 ≤ p
      · have HE : Aside0 (decide (0 ≤ s.2 ∧ s.2 ≤ p) = true) := ⟨decide_eq_true ⟨h1, h2⟩⟩
        go_wp2
        go_meet
        exact ⟨by rw [HE.out], rfl⟩
      · have HE : Aside0 (decide (0 ≤ s.2 ∧ s.2 ≤ p) = false) := ⟨decide_eq_false (fun h => h2 h.2)⟩
        go_wp2
        go_meet
        exact ⟨by rw [HE.out], rfl⟩
    · have HE : Aside0 (decide (0 ≤ s.2 ∧ s.2 ≤ p) = false) := ⟨decide_eq_false (fun h => h1 h.1)⟩
      go_wp2
      go_meet
      exact ⟨by rw [HE.out], rfl⟩
  case rest =>
    obtain ⟨rfl, hw⟩ := hcut
    replace hw := hw.symm
    subst hw
    generalize hq : decide (0 ≤ s.2 ∧ s.2 ≤ p) = q
    have HQ := Aside0.mk hq
    clear hq
    cases q with
    | true =>
      have HE : Aside0 (walkS M P need l.length d set m p s = s) := ⟨if_pos (of_decide_eq_true HQ.out)⟩
      go_wp2
      first | go_end0 | (simp only [Exit.inBlock, Exit.then]; refine bodyPost_ret (results_none rfl _ _ _) rfl ?_) | refine bodyPost_ret (results_none rfl _ _ _) rfl ?_
      exact ⟨rfl, ⟨v, by rw [HE.out]; exact HX.out⟩, Kept.refl _ _⟩
    | false =>
      have HQ2 := Aside0.mk (of_decide_eq_false HQ.out)
      by_cases hm : need ≤ m
      · have HE : Aside0 (walkS M P need l.length d set m p s = (set, p)) := ⟨(if_neg HQ2.out).trans (if_pos hm)⟩
        have c2 := HX.out.c2
        have fz := HX.out.fz
        go_wp2
        first | go_end0 | (simp only [Exit.inBlock, Exit.then]; refine bodyPost_ret (results_none rfl _ _ _) rfl ?_) | refine bodyPost_ret (results_none rfl _ _ _) rfl ?_
        have hput := HX.out.put HR.out p
        exact ⟨rfl, ⟨_, by rw [HE.out]; exact hput.1⟩, hput.2⟩
      · have HE : Aside0 (walkS M P need l.length d set m p s = setsS M P need l.length d set m p s) := ⟨(if_neg HQ2.out).trans (if_neg hm)⟩
        have c0 := HX.out.c0
        have RS := Aside0.mk (HX.out.apart HR.out)
        have CS := Aside0.mk (Kd.C_kept_own (S := fun k => k = gw) RS.out (fun k h1 h2 => h1 h2))
        go_upto_if 40 with (fail)
        go_cut [8] (fun v8 wc => v8 = .int .i64 (f : Int) ∧ wc = w)
        case first =>
          rcases HF.out with ⟨h1, h2⟩ | ⟨u, x, h1, h2⟩
          · have h3 : (set.length : Int) = 0 := by rw [h1]; rfl
            have h4 : ¬ (0 : Int) < (set.length : Int) := by omega
            have h5 := Aside0.mk h2
            clear h1 h2
            go_wp2
            go_meet
            exact ⟨by rw [h5.out]; rfl, rfl⟩
          · have e1 : set.length = u.length + 1 := by rw [h1]; simp
            have h4 : (0 : Int) < (set.length : Int) := by omega
            have hx : set.length - 1 < set.length := by omega
            obtain ⟨ad, ea, hc⟩ := Kd.at_int (CS.out w (Kept.refl _ _)) ((set.length : Int) - 1) (by omega) (by omega)
            have e2 : rd set ((set.length : Int) - 1) = (x : Int) := by
              have e3 : ((set.length : Int) - 1) = ((set.length - 1 : Nat) : Int) := by omega
              rw [e3, rd_nat set _ hx]
              subst h1
              simp
            rw [e2] at hc
            subst ea
            have h7 : wrap64 ((set.length : Int) - 1) = (set.length : Int) - 1 := w64 (by omega) (by have := HN.out; omega)
            have p1 : (0 : Int) ≤ wrap64 ((set.length : Int) - 1) := by omega
            have p2 : wrap64 ((set.length : Int) - 1) < (set.length : Int) := by omega
            rw [← h7] at hc
            have h5 := Aside0.mk h2
            have h6 := Aside0.mk (show wrap64 ((x : Int) + 1) = (x : Int) + 1 from w64 (by omega) (by have := HN.out; omega))
            clear h1 h2 e1 e2 hx h7
            go_wp2
            go_meet
            exact ⟨by rw [h5.out]; simp; first | done | exact h6.out, rfl⟩
        case rest =>
          obtain ⟨rfl, hw⟩ := hcut
          replace hw := hw.symm
          subst hw
          go_wp2
          go_loopg [9] d (fun dq v9 w' => ∃ (i : Nat) (v2 : Value) (s2 : List Int × Int), v9 = .int .i64 (i : Int) ∧ Aside0 (i + dq = l.length) ∧ Aside0 (dq ≤ d) ∧ Aside0 (Ws l need A c gw w0 w' v2 s2) ∧ Aside0 (Kept w w' (fun k => k = gw)) ∧ Aside0 (setsS M P need l.length dq set m p s2 = setsS M P need l.length d set m p s))
          case atStart => exact ⟨f, v, s, rfl, ⟨HN.out.2.1⟩, ⟨Nat.le_refl _⟩, HX, ⟨Kept.refl _ _⟩, ⟨rfl⟩⟩
          case round =>
            obtain ⟨i, v2, s2, rfl, hi, hdq, X2, K2, E2⟩ := hrel
            clear HX c0 c1 c3
            have c0 := X2.out.c0
            cases gk with
            | zero =>
              have p2 : ¬ (i : Int) < (l.length : Int) := by have := hi.out; omega
              go_wp2
              first | go_end0 | (simp only [Exit.inBlock, Exit.then]; refine bodyPost_ret (results_none rfl _ _ _) rfl ?_) | refine bodyPost_ret (results_none rfl _ _ _) rfl ?_
              exact ⟨rfl, ⟨v2, by rw [HE.out, ← E2.out]; exact X2.out⟩, K2.out⟩
            | succ dq =>
              have hlt : i < l.length := by have := hi.out; omega
              have p1 : (0 : Int) ≤ (i : Int) := Int.natCast_nonneg i
              have p2 : (i : Int) < (l.length : Int) := Int.ofNat_lt.2 hlt
              obtain ⟨ad, A1, c1, ea, x0, x1, x2, l1, g1⟩ := at_T43 X2.out.list (i : Int) p1 p2
              rw [Int.toNat_natCast] at x0 x1 x2
              subst ea
              obtain ⟨hm1, hm2, hm3⟩ := HM.out i hlt
              obtain ⟨hp1, hp2, hp3⟩ := HP.out i hlt
              generalize (rd_T43 l (i : Int)).f1 = f1 at *
              generalize (rd_T43 l (i : Int)).f2 = f2 at *
              have CM := Aside0.mk hm1
              have CP := Aside0.mk hp1
              have G1 := Aside0.mk g1
              have L1 := Aside0.mk l1
              have Y1 := Aside0.mk x1
              have Y2 := Aside0.mk x2
              have LM : Aside0 (set.length ≤ 10) := ⟨by have := HN.out; omega⟩
              clear hm1 hp1 g1 l1 x0 x1 x2
              go_upto_block 1 with (fail)
              go_cut [] (fun wx => ∃ v', Aside0 (Ws l need (some ad) c gw w0 wx v' (walkS M P need l.length dq (set ++ [(i : Int)]) (m + M i) (p + P i) s2)) ∧ Aside0 (Kept wr wx (fun k => k = gw)))
              case first =>
                have BD : Aside0 ((i + 1) + dq = l.length ∧ (set ++ [(i : Int)]).length + dq ≤ l.length ∧ 0 ≤ m + M i ∧ m + M i ≤ 100000 * ((i + 1 : Nat) : Int) ∧ 0 ≤ p + P i ∧ p + P i ≤ 100000000 * ((i + 1 : Nat) : Int)) := ⟨by
                  have h1 := HN.out
                  have h2 := hi.out
                  have h3 := hdq.out
                  rw [List.length_append, List.length_singleton]
                  omega⟩
                have O1 : Aside0 (∀ W, Below wr.heap.size wr W → Calls Try.prog 27 #[.slice As set.length cs] W fun e w' => ∃ A' c', e = .returned (.slice A' set.length c') ∧ Kd.R (Kd.int .i64) 2 w' W.heap.size (fun _ => True) (.slice A' set.length c') set ∧ Below W.heap.size W w') := ⟨fun W hx => by
                  have hc := CS.out W (K2.out.below hx)
                  have hl : set.length ≤ cs := (Kd.R_reads' RS.out).2.1
                  refine (spec_l00Own.calls As cs set set W hc hl (by unfold spec_l00Own.f; have := LM.out; simp; omega)).mono ?_
                  rintro e w' ⟨v0, rfl, hr, hb⟩
                  obtain ⟨A', c', e'⟩ := Kd.R_slice hr
                  subst e'
                  exact ⟨A', c', rfl, hr, hb⟩⟩
                have I1 : Aside0 (∀ W, Below wr.heap.size wr W → Calls Try.prog 28 #[.slice A1 f1.length c1] W fun e w' => e = .returned (.int .i64 (M i)) ∧ Below W.heap.size W w') := ⟨fun W hx =>
                  (spec_l00Sum.calls K A1 c1 f1 (M i) W (Kd.C_below G1.out (below_step X2.out.low hx)) L1.out CM.out).mono fun e w' ⟨he, hd⟩ => ⟨he, Drawn0.below hd⟩⟩
                have I2 : Aside0 (∀ W, Below wr.heap.size wr W → Calls Try.prog 29 #[.pointer (some (ad.add (i * 3))), .int .i64 1440, .int .i64 0] W fun e w' => e = .returned (.int .i64 (P i)) ∧ Below W.heap.size W w') := ⟨fun W hx =>
                  (spec_l26Pay.at_ (ad.add (i * 3)) A1 c1 f1 f2 1440 0 W (pw_cell_below (below_step X2.out.low hx) Y1.out) (pw_cell_below (below_step X2.out.low hx) Y2.out) (Kd.C_below G1.out (below_step X2.out.low hx)) L1.out).mono fun e w' ⟨he, hd⟩ => ⟨by rw [he, CP.out], Drawn0.below hd⟩⟩
                have I3 : Aside0 (∀ A7 c7 W, Below wr.heap.size wr W → Kd.R (Kd.int .i64) 2 W wr.heap.size (fun _ => True) (.slice A7 (set.length + 1) c7) (set ++ [(i : Int)]) → Calls Try.prog 16 #[.pointer (some ⟨gw, 0, none⟩), .slice A7 (set.length + 1) c7, .int .i64 (m + M i), .int .i64 (p + P i)] W
                    fun e w' => e = .returned (.tuple #[]) ∧ (∃ v', Ws l need (some ad) c gw w0 w' v' (walkS M P need l.length dq (set ++ [(i : Int)]) (m + M i) (p + P i) s2)) ∧ Kept W w' (fun k => k = gw)) := ⟨fun A7 c7 W hx hr => by
                  have e1 : (set ++ [(i : Int)]).length = set.length + 1 := by simp
                  have h := IH.out dq (by have := hdq.out; omega) A7 c7 (set ++ [(i : Int)]) (m + M i) (p + P i) v2 s2 W (i + 1) BD.out.1 BD.out.2.1 BD.out.2.2.1 BD.out.2.2.2.1 BD.out.2.2.2.2.1 BD.out.2.2.2.2.2 (.inr ⟨set, i, rfl, rfl⟩) (X2.out.step hx) (by rw [e1]; exact Kd.R_lower hr X2.out.low.size)
                  rw [e1] at h
                  exact h⟩
                have q2 : IntKind.i64.wrap (m + M i) = m + M i := IntWalk.i64_in _ (by have := BD.out; have := HN.out; omega)
                have q3 : IntKind.i64.wrap (p + P i) = p + P i := IntWalk.i64_in _ (by have := BD.out; have := HN.out; omega)
                have z4 := pw_cell_below X2.out.low Y1.out
                have z5 := pw_cell_below X2.out.low Y2.out
                have ZZ := Aside0.mk (And.intro z4 (And.intro z5 X2.out.low))
                clear hm2 hm3 hp2 hp3 HM HP IH
                go_upto_region 11 with (fail)
                go_region_held3 (fun w' => w'.cell? ⟨(ad.add (i * 3)).block, (ad.add (i * 3)).off + 1, none⟩ = some (.slice A1 f1.length c1) ∧ w'.cell? ⟨(ad.add (i * 3)).block, (ad.add (i * 3)).off + 2, none⟩ = some (.int .i64 f2) ∧ Below w0.heap.size w0 w')
                  (first | assumption | exact sw_step ZZ.out (below_drew1 (Below.refl _ _)) | exact sw_step ZZ.out hx4.out | exact sw_step ZZ.out hx3.out | exact sw_step ZZ.out hx2.out | exact sw_step ZZ.out hx1.out | exact sw_step ZZ.out (below_alloc hx1.out _) | exact sw_step ZZ.out (below_drew1 (below_alloc (Below.refl _ _) _)) | exact sw_step ZZ.out (below_alloc (below_drew1 (Below.refl _ _)) _) | exact ⟨pw_cell_below hX'.low Y1.out, pw_cell_below hX'.low Y2.out, hX'.low⟩ | fail)
                  (first
                    | (go_at_call 27; (first | (with_reducible refine (O1.out _ (below_drew1 (Below.refl _ _))).mono ?_) | (with_reducible refine (O1.out _ (below_drew1 (below_alloc (Below.refl _ _) _))).mono ?_) | (with_reducible refine (O1.out _ (below_alloc (below_drew1 (Below.refl _ _)) _)).mono ?_)); rintro e w1 ⟨Aq, cq, rfl, hr, hb'⟩; (first | (have hx1 := Aside0.mk (below_step (below_drew1 (Below.refl wr.heap.size wr)) hb')) | (have hx1 := Aside0.mk (below_step (below_drew1 (below_alloc (Below.refl wr.heap.size wr) (.cells #[.int .i64 (i : Int)] 2))) hb'); have hn := Aside0.mk (blk_below (blk_drew (blk_new wr (.cells #[.int .i64 (i : Int)] 2))) hb'))); have hR1 := Aside0.mk (Kd.R_lower hr (base' := wr.heap.size) (by first | exact Nat.le_refl _ | (simp; done) | (simp; omega))))
                    | (go_at_call 28; (with_reducible refine (I1.out _ hx2.out).mono ?_); rintro e w3 ⟨rfl, hb'⟩; have hx3 := Aside0.mk (below_step hx2.out hb'); have hR3 := Aside0.mk (Kd.R_below hR2.out hb'))
                    | (go_at_call 29; (with_reducible refine (I2.out _ hx3.out).mono ?_); rintro e w4 ⟨rfl, hb'⟩; have hx4 := Aside0.mk (below_step hx3.out hb'); have hR4 := Aside0.mk (Kd.R_below hR3.out hb'))
                    | (go_at_call 16; (with_reducible refine (I3.out _ _ _ hx4.out hR4.out).mono ?_); rintro e w5 ⟨rfl, ⟨v', hX'⟩, hK'⟩)
                    | (refine Kd.R_append_rows_step (Kd.int .i64) (w0 := wr) wr.heap.size (by rfl) (.tmp 66) (.tmp 68) 24 2 (.int .i64 0) 8 (by rfl) Try.underlying24 info2 rfl (by decide) (by omega) (.slice Aq set.length cq) set [(i : Int)] (some ⟨w1.heap.size, 0, none⟩) 1 1 (fun _ => True) (fun _ => False) (by rfl) (by rfl) (Kd.R_alloc hR1.out _) (one_reads (blk_new w1 _)) (fun _ _ h => h) (fun _ h => h.elim) (fun _ _ => trivial) (below_alloc hx1.out _) (below_alloc hx1.out _).size (by have := LM.out; omega) ?_; intro v7 w7 ho hb hg hat; obtain ⟨A7, c7, e7⟩ := Kd.R_slice ho; subst e7; have e1 : (set ++ [(i : Int)]).length = set.length + 1 := (by simp); rw [e1] at ho; have hR2 := Aside0.mk ho; have hx2 := Aside0.mk hb; clear e1)
                    | (refine Kd.R_append_rows_step (Kd.int .i64) (w0 := wr) wr.heap.size (by rfl) (.tmp 66) (.tmp 68) 24 2 (.int .i64 0) 8 (by rfl) Try.underlying24 info2 rfl (by decide) (by omega) (.slice Aq set.length cq) set [(i : Int)] (some ⟨wr.heap.size, 0, none⟩) 1 1 (fun _ => True) (fun _ => False) (by rfl) (by rfl) hR1.out (one_reads hn.out) (fun _ _ h => h) (fun _ h => h.elim) (fun _ _ => trivial) hx1.out hx1.out.size (by have := LM.out; omega) ?_; intro v7 w7 ho hb hg hat; obtain ⟨A7, c7, e7⟩ := Kd.R_slice ho; subst e7; have e1 : (set ++ [(i : Int)]).length = set.length + 1 := (by simp); rw [e1] at ho; have hR2 := Aside0.mk ho; have hx2 := Aside0.mk hb; clear e1)
                    | fail)
                all_goals
                  go_wp2
                  go_meet
                  exact ⟨v', ⟨hX'⟩, ⟨(Kept.of_below hx4.out _).then_ hK' (fun _ h => .inl h)⟩⟩
              case rest =>
                obtain ⟨v', X', K'⟩ := hcut
                have hw1 : wrap64 ((i : Int) + 1) = (i : Int) + 1 := w64 (by omega) (by have := HN.out; omega)
                have EE : Aside0 (l.length - (dq + 1) = i) := ⟨by have := hi.out; omega⟩
                have HI : Aside0 ((i + 1) + dq = l.length) := ⟨by have := hi.out; omega⟩
                have HD : Aside0 (dq ≤ d) := ⟨by have := hdq.out; omega⟩
                have HW := Aside0.mk hw1
                clear hw1
                go_wp2
                go_roundg dq
                case measure => omega
                case rel => exact ⟨i + 1, v', _, by first | go_num | (simp; done) | (simp; exact HW.out), HI, HD, X', ⟨K2.out.then_ K'.out (fun _ h => .inl h)⟩, ⟨by rw [← E2.out]; simp only [setsS]; rw [EE.out]; rfl⟩⟩
theorem hand_MPS {l : List S43} (hv : handsOk (hdS l) l.length = true) : ∃ K, ∀ i : Nat, i < l.length →
    (spec_l00Sum.f K (rd_T43 l (i : Int)).f1 = some (sumW (rd_T43 l (i : Int)).f1) ∧ 0 ≤ sumW (rd_T43 l (i : Int)).f1 ∧ sumW (rd_T43 l (i : Int)).f1 ≤ 100000) ∧
    (0 ≤ payS (rd_T43 l (i : Int)).f2 (rd_T43 l (i : Int)).f1 1440 0 ∧ payS (rd_T43 l (i : Int)).f2 (rd_T43 l (i : Int)).f1 1440 0 ≤ 100000000) := by
  have hall := (handsOk_at hv).2
  have key : ∀ n, n ≤ l.length → ∃ K, ∀ k, K ≤ k → ∀ i : Nat, i < n → spec_l00Sum.f k (rd_T43 l (i : Int)).f1 = some (sumW (rd_T43 l (i : Int)).f1) := by
    intro n
    induction n with
    | zero => exact fun _ => ⟨0, fun k _ i hi => absurd hi (Nat.not_lt_zero _)⟩
    | succ n ih =>
      intro hn
      obtain ⟨K, hK⟩ := ih (by omega)
      obtain ⟨h1, h2, h3, h4⟩ := handV_rg (hall n (by omega))
      obtain ⟨J, hJ⟩ := Ev.pick (sumW_ev (rd_T43 l (n : Int)).f1 (by have : (rd_T43 l (n : Int)).f1.length ≤ 14 := h2; omega))
      refine ⟨K + J, fun k hk i hi => ?_⟩
      by_cases e : i = n
      · subst e
        exact hJ k (by omega)
      · exact hK k (by omega) i (by omega)
  obtain ⟨K, hK⟩ := key l.length (Nat.le_refl _)
  refine ⟨K, fun i hi => ?_⟩
  obtain ⟨h1, h2, h3, h4⟩ := handV_rg (hall i hi)
  have h1' : ∀ x ∈ (rd_T43 l (i : Int)).f1, 0 ≤ x ∧ x ≤ 1440 := h1
  have s1 := (sumW_rg h1' h2).2
  have s2 := (payS_rg (wage := (rd_T43 l (i : Int)).f2) (lim := 1440) h1' h2 h3 h4).2
  exact ⟨⟨hK K (Nat.le_refl _) i hi, by omega, by omega⟩, ⟨by omega, by omega⟩⟩
theorem in_eq (a b c : Int) : spec_l00In.f a b c = some (decide (b ≤ a ∧ a ≤ c)) := by
  unfold spec_l00In.f
  by_cases hh : a ≥ b
  · rw [if_pos hh]; congr 1; apply Bool.eq_iff_iff.mpr; simp; omega
  · rw [if_neg hh]; congr 1; symm; simp; omega
def spec_CheapestHands.f (l0 : List S43) (a1 : Int) : Option (List Int × Int × Int) :=
  if handsOk (hdS l0) l0.length = true then (if decide (0 ≤ a1 ∧ a1 ≤ 20000) = true then some (cheapAns (walkS (fun i => sumW (rd_T43 l0 (i : Int)).f1) (fun i => payS (rd_T43 l0 (i : Int)).f2 (rd_T43 l0 (i : Int)).f1 1440 0) a1 l0.length l0.length [] 0 0 ([], -1))) else some ([], 0, 2)) else some ([], 0, 1)
set_option maxHeartbeats 8000000 in
set_option maxRecDepth 100000 in
theorem spec_CheapestHands.calls (A0 : Option Addr) (c0 : Nat) (l0 : List (S43)) (a1 : Int) (r1 : List Int) (r2 : Int) (r3 : Int) (w : World) (hr0 : Kd.C k43 w A0 l0.length l0) (hc0 : l0.length ≤ c0) (h : spec_CheapestHands.f l0 a1 = some (r1, r2, r3)) :
    Calls Try.prog 5 #[.slice A0 l0.length c0, .int .i64 a1] w fun e w' => ∃ v0_ : Value, e = .returned (.tuple #[v0_, .int .i64 r2, .int .i64 r3]) ∧ Kd.R (Kd.int .i64) 2 w' w.heap.size (fun _ => True) v0_ r1 ∧ Below w.heap.size w w' := by
  have HR0 := Aside0.mk hr0
  have HC0 := Aside0.mk hc0
  have H := Aside0.mk h
  clear hr0 hc0 h
  have V1 : Aside0 (∀ W, Below w.heap.size w W → Calls Try.prog 14 #[.slice A0 l0.length c0] W fun e w' => e = .returned (.bool (handsOk (hdS l0) l0.length)) ∧ Below W.heap.size W w') := ⟨fun W hb => (spec_l26Ok.calls A0 c0 l0 _ W (Kd.C_below HR0.out hb) HC0.out rfl).mono fun e w' ⟨he, hd⟩ => ⟨he, Drawn0.below hd⟩⟩
  have V2 : Aside0 (∀ W, Calls Try.prog 15 #[.int .i64 a1, .int .i64 0, .int .i64 20000] W fun e w' => e = .returned (.bool (decide (0 ≤ a1 ∧ a1 ≤ 20000))) ∧ Below W.heap.size W w') := ⟨fun W => (spec_l00In.calls a1 0 20000 _ W (in_eq a1 0 20000)).mono fun e w' ⟨he, hd⟩ => ⟨he, Drawn0.below hd⟩⟩
  unfold spec_CheapestHands.f at H
  generalize hv : handsOk (hdS l0) l0.length = bv at V1 H
  generalize hq : decide (0 ≤ a1 ∧ a1 ≤ 20000) = bq at V2 H
  have HV := Aside0.mk hv
  have HQ := Aside0.mk hq
  clear hv hq
  cases bv with
  | false =>
    have H2 := H.out
    rw [if_neg (by simp)] at H2
    simp only [Option.some.injEq, Prod.mk.injEq] at H2
    obtain ⟨rfl, rfl, rfl⟩ := H2
    go_enter Try.func5, Try.ntmps5
    go_wp2_with (first
      | (go_at_call 14; (with_reducible refine (V1.out _ (Below.refl _ _)).mono ?_); rintro e w3 ⟨rfl, hb⟩; have HB3 := Aside0.mk hb; clear hb)
      | fail)
    go_ret3
    exact ⟨_, rfl, Kd.R_nil _ _ _ _ _, HB3.out⟩
  | true =>
    cases bq with
    | false =>
      have H2 := H.out
      rw [if_pos (by rfl), if_neg (by simp)] at H2
      simp only [Option.some.injEq, Prod.mk.injEq] at H2
      obtain ⟨rfl, rfl, rfl⟩ := H2
      go_enter Try.func5, Try.ntmps5
      go_wp2_with (first
        | (go_at_call 14; (with_reducible refine (V1.out _ (Below.refl _ _)).mono ?_); rintro e w3 ⟨rfl, hb⟩; have HB3 := Aside0.mk hb; clear hb)
        | (go_at_call 15; (with_reducible refine (V2.out _).mono ?_); rintro e w4 ⟨rfl, hb⟩; have HB4 := Aside0.mk (below_step HB3.out hb); clear hb)
        | fail)
      go_ret3
      exact ⟨_, rfl, Kd.R_nil _ _ _ _ _, HB4.out⟩
    | true =>
      have H2 := H.out
      rw [if_pos (by rfl), if_pos (by rfl)] at H2
      have HA := Aside0.mk H2
      clear H H2
      obtain ⟨K, hK⟩ := hand_MPS HV.out
      have hlen := (handsOk_at HV.out).1
      have J9 : Aside0 (∀ (gw : Nat) (A6 : Option Addr) (c6 : Nat) (W : World), Ws l0 a1 A0 c0 gw w W (.slice none 0 0) ([], -1) → Kd.R (Kd.int .i64) 2 W w.heap.size (fun _ => True) (.slice A6 0 c6) [] → Calls Try.prog 16 #[.pointer (some ⟨gw, 0, none⟩), .slice A6 0 c6, .int .i64 0, .int .i64 0] W
          fun e w' => e = .returned (.tuple #[]) ∧ (∃ v', Ws l0 a1 A0 c0 gw w w' v' (walkS (fun i => sumW (rd_T43 l0 (i : Int)).f1) (fun i => payS (rd_T43 l0 (i : Int)).f2 (rd_T43 l0 (i : Int)).f1 1440 0) a1 l0.length l0.length [] 0 0 ([], -1))) ∧ Kept W w' (fun k => k = gw)) := ⟨fun gw A6 c6 W hX hr =>
        walk_calls K l0 a1 A0 c0 gw w (fun i => sumW (rd_T43 l0 (i : Int)).f1) (fun i => payS (rd_T43 l0 (i : Int)).f2 (rd_T43 l0 (i : Int)).f1 1440 0) hlen (fun i hi => (hK i hi).1) (fun i hi => ⟨rfl, (hK i hi).2⟩) l0.length A6 c6 [] 0 0 _ _ W 0 (Nat.zero_add _) (by simp) (Int.le_refl _) (by simp) (Int.le_refl _) (by simp) (.inl ⟨rfl, rfl⟩) hX hr⟩
      clear hK hlen
      generalize walkS (fun i => sumW (rd_T43 l0 (i : Int)).f1) (fun i => payS (rd_T43 l0 (i : Int)).f2 (rd_T43 l0 (i : Int)).f1 1440 0) a1 l0.length l0.length [] 0 0 ([], -1) = S at J9 HA
      have H2 := HA.out
      unfold cheapAns at H2
      by_cases h0 : S.2 < 0
      all_goals
        first | rw [if_pos h0] at H2 | rw [if_neg h0] at H2
        simp only [Option.some.injEq, Prod.mk.injEq] at H2
        obtain ⟨rfl, rfl, rfl⟩ := H2
        go_enter Try.func5, Try.ntmps5
        go_wp2_with (first
          | (go_at_call 14; (with_reducible refine (V1.out _ (Below.refl _ _)).mono ?_); rintro e w3 ⟨rfl, hb⟩; have HB3 := Aside0.mk hb; clear hb)
          | (go_at_call 15; (with_reducible refine (V2.out _).mono ?_); rintro e w4 ⟨rfl, hb⟩; have HB4 := Aside0.mk (below_step HB3.out hb); clear hb)
          | ((with_reducible refine gate_dst (N := 17) rfl ?_); refine box_event ?hg (N := 17) ?hd (cs := #[.slice A0 l0.length c0, .int .i64 a1, .slice none 0 0, .int .i64 (-1)]) (t := 41) ?hr ?_; (case hd => rfl); (case hg => rfl); (case hr => first | (go_simp; done) | (go_simp; rfl)); intro gw hgw w5 hbox hb; have BW5 := Aside0.mk hbox; have HB5 := Aside0.mk (below_step HB4.out hb); have GW := Aside0.mk (show w.heap.size ≤ gw from by rw [hgw]; exact HB4.out.size); clear hbox hb hgw)
          | ((with_reducible refine gate_dst (N := 19) rfl ?_); refine Kd.R_lit (Kd.int .i64) _ 2 ?hg (N := 19) ?hd (xs := ([] : List Int)) (inner := []) (ok := fun _ => True) (okp := fun _ => True) ?hr ?hp (fun _ hk => hk) trivial (Below.refl _ _) (Nat.le_refl _) (by simp) ?_; (case hd => rfl); (case hg => rfl); (case hr => first | (go_simp; done) | (go_simp; rfl)); (case hp => exact (Reps.none _ _)); intro v6 w6 ho hb hg_ hnew_; clear hg_ hnew_; obtain ⟨A6, c6, e6⟩ := Kd.R_slice ho; subst e6; have HB6 := Aside0.mk (below_step HB5.out hb); have X6 := Aside0.mk (show Ws l0 a1 A0 c0 gw w w6 (.slice none 0 0) ([], -1) from ⟨blk_below BW5.out hb, GW.out, Kd.R_nil _ _ _ _ _, HB6.out, HR0.out, HC0.out⟩); have HO6 : Aside0 (Kd.R (Kd.int .i64) 2 w6 w.heap.size (fun _ => True) (.slice A6 0 c6) []) := ⟨Kd.R_lower ho HB5.out.size⟩; clear ho hb)
          | (go_at_call 16; (with_reducible refine (J9.out gw A6 c6 w6 X6.out HO6.out).mono ?_); rintro e w10 ⟨rfl, ⟨v10, X10⟩, K10⟩; obtain ⟨A10, c10, e10⟩ := Kd.R_slice X10.row; subst e10; have XX := Aside0.mk X10; have cl10 := X10.c3; have cb10 := X10.c2; clear X10 K10)
          | fail)
        repeat (go_quiet (fail); try go_wp2)
        go_ret3
        first | exact ⟨_, rfl, Kd.R_nil _ _ _ _ _, XX.out.low⟩ | exact ⟨_, rfl, (by (with_reducible repeat (first | apply Kd.R_alloc | apply Kd.R_drewN | apply Kd.R_drew)); exact XX.out.row), pw_below_drewN XX.out.low _⟩
end


/-! ### laws_toInt64S: function 30 -/
def laws_toInt64S.l0 : Nat → List Int → List Int → Int → Option (List Int)
  | 0, _, _, _ => none
  | k + 1, x0, x3, x4 => if x4 < (x0.length : Int) then (if 0 ≤ x4 then (if x4 < (x3.length : Int) then (laws_toInt64S.l0 k x0 (x3.set (x4 : Int).toNat (rd x0 x4)) (wrap64 (x4 + 1))) else (none)) else (none)) else (some x3)
def laws_toInt64S.f (k : Nat) (l0 : List Int) : Option (List Int) := if 0 ≤ (l0.length : Int) then (if ((l0.length : Int) : Int).toNat ≤ 35184372088832 then (laws_toInt64S.l0 k l0 (List.replicate ((l0.length : Int) : Int).toNat 0) 0) else (none)) else (none)
theorem laws_toInt64S.mono_l : ∀ k, (∀ y0 y1 y2, LeO (laws_toInt64S.l0 k y0 y1 y2) (laws_toInt64S.l0 (k + 1) y0 y1 y2))
  | 0 => fun _ _ _ r h => by simp [laws_toInt64S.l0] at h
  | k + 1 => by
    have ih0 := laws_toInt64S.mono_l k
    · intro y0 y1 y2
      unfold laws_toInt64S.l0
      repeat' first
      | (with_reducible exact ih0 _ _ _)
      | (with_reducible exact LeO.refl _)
      | (with_reducible exact LeO.none _)
      | (with_reducible refine LeO.ite ?_ ?_)
      | (with_reducible refine LeO.bind ?_ (fun _ => ?_))
      | exact ih0 _ _ _
      | exact LeO.none _
      | refine LeO.ite ?_ ?_
      | refine LeO.bind ?_ (fun _ => ?_)
theorem laws_toInt64S.mono : ∀ a0 k, LeO (laws_toInt64S.f k a0) (laws_toInt64S.f (k + 1) a0) := by
  intro a0 k
  have ih0 := laws_toInt64S.mono_l k
  unfold laws_toInt64S.f
  repeat' first
      | (with_reducible exact ih0 _ _ _)
      | (with_reducible exact LeO.refl _)
      | (with_reducible exact LeO.none _)
      | (with_reducible refine LeO.ite ?_ ?_)
      | (with_reducible refine LeO.bind ?_ (fun _ => ?_))
      | exact ih0 _ _ _
      | exact LeO.none _
      | refine LeO.ite ?_ ?_
      | refine LeO.bind ?_ (fun _ => ?_)
set_option maxHeartbeats 8000000 in
set_option maxRecDepth 100000 in
theorem laws_toInt64S.calls (k : Nat) (A0 : Option Addr) (c0 : Nat) (l0 : List Int) (r : List Int) (w : World) (hr0 : Kd.C (Kd.int .i64) w A0 l0.length l0) (hc0 : l0.length ≤ c0) (h : laws_toInt64S.f k l0 = some r) :
    Calls Try.prog 30 #[.slice A0 l0.length c0] w fun e w' => ∃ v0_ : Value, e = .returned (v0_) ∧ Kd.R (Kd.int .i64) 2 w' w.heap.size (fun _ => True) v0_ r ∧ Below w.heap.size w w' := by
  have HR0 := Aside0.mk hr0
  have HC0 := Aside0.mk hc0
  clear hr0 hc0
  have HB := Aside0.mk (Below.refl w.heap.size w)
  have H : (if 0 ≤ (l0.length : Int) then (if ((l0.length : Int) : Int).toNat ≤ 35184372088832 then (laws_toInt64S.l0 k l0 (List.replicate ((l0.length : Int) : Int).toNat 0) 0) else (none)) else (none)) = some r := h
  clear h
  by_cases c2 : 0 ≤ (l0.length : Int)
  · rw [if_pos c2] at H
    have c2b0 := eq_true c2
    have c2b1 : decide (0 ≤ (l0.length : Int)) = true := decide_eq_true c2
    clear c2
    by_cases c3 : ((l0.length : Int) : Int).toNat ≤ 35184372088832
    · rw [if_pos c3] at H
      have c3b0 := eq_true c3
      have c3b1 : decide (((l0.length : Int) : Int).toNat ≤ 35184372088832) = true := decide_eq_true c3
      clear c3
      obtain ⟨y115, hy115⟩ : ∃ y_ : List Int, y_ = (List.replicate ((l0.length : Int) : Int).toNat 0) := ⟨_, rfl⟩
      replace H : (laws_toInt64S.l0 k l0 y115 0) = some r := by first | (rw [hy115]; with_reducible exact H) | (have H2_ := (Option.bind_some _ _).symm.trans H; rw [hy115]; with_reducible exact H2_) | (have H2_ := (Option.bind_some _ _).symm.trans H; with_reducible exact H2_) | with_reducible exact H | (rw [hy115]; exact H) | exact H
      have Ny115 := Aside0.mk hy115
      clear hy115
      have H' := Aside0.mk H
      clear H
      go_enter Try.func30, Try.ntmps30
      go_wp2_with (first | ((with_reducible refine gate_dst (N := 7) rfl ?_); refine Kd.R_make (Kd.int .i64) _ 2 rfl (N := 7) rfl 24 _ _ rfl (l0.length : Int) rfl rfl Try.underlying24 (.int .i64 0) 8 info2 rfl (by decide) (by omega) 0 (ok := fun _ => True) (okp := fun _ => True) rfl (fun _ hk => hk) trivial (of_decide_eq_true (by first | (with_reducible assumption) | assumption)) (Nat.le_trans (Nat.mul_le_mul_right _ (of_decide_eq_true (by first | (with_reducible assumption) | assumption) : (l0.length : Int).toNat ≤ 35184372088832)) (by omega)) (Below.refl _ _) (Nat.le_refl _) ?_; intro v116 w4 ho5 hb hg_ hnew_; clear hg_ hnew_; (first | rw [← Ny115.out] at ho5 | (simp only [Int.reduceToNat] at ho5; rw [← Ny115.out] at ho5)); have n0_ := Aside0.mk (Kd.R_lower ho5 (below_size (by repeat (first | (with_reducible first | exact HB.out | apply below_alloc | apply pw_below_drewN | apply below_drew1) | exact HB.out)))); have n1_ := Aside0.mk (below_step (by repeat (first | (with_reducible first | exact HB.out | apply below_alloc | apply pw_below_drewN | apply below_drew1) | exact HB.out)) hb); clear HB; have HO117 := n0_; have HB := n1_; clear n0_ n1_; clear hb ho5))
      go_loopg [4] k (fun kq v4 w' => ∃ (x3_1 : List Int) (x4_1 : Int), v4 = .int .i64 x4_1 ∧ Aside0 (laws_toInt64S.l0 kq l0 x3_1 x4_1 = some r) ∧ Aside0 (kq ≤ k) ∧ Aside0 (Kd.R (Kd.int .i64) 2 w' w.heap.size (fun _ => True) v116 x3_1) ∧ Aside0 (Below w.heap.size w w'))
      case atStart => exact ⟨(y115), (0), (by first | rfl | (simp; done) | (simp [*]; done)), H', ⟨Nat.le_refl _⟩, ⟨by (with_reducible repeat (first | apply Kd.R_alloc | apply Kd.R_drewN | apply Kd.R_drew)); exact HO117.out⟩, ⟨by repeat (first | (with_reducible first | exact HB.out | apply below_alloc | apply pw_below_drewN | apply below_drew1) | exact HB.out)⟩⟩
      case round =>
        clear H'
        try clear c2
        try clear c2b0
        try clear c2b1
        try clear p2
        try clear c3
        try clear c3b0
        try clear c3b1
        obtain ⟨x3_1, x4_1, rfl, HA, HK1, HO_3, HB⟩ := hrel
        cases gk with
        | zero => exact absurd HA.out (by simp [laws_toInt64S.l0])
        | succ k1 =>
          have H := HA.out
          clear HA
          simp only [laws_toInt64S.l0] at H
          by_cases c6 : x4_1 < (l0.length : Int)
          · rw [if_pos c6] at H
            have c6b0 : decide (x4_1 < (l0.length : Int)) = true := decide_eq_true c6
            clear c6
            by_cases c7 : 0 ≤ x4_1
            · rw [if_pos c7] at H
              have c7b0 : decide (0 ≤ x4_1) = true := decide_eq_true c7
              clear c7
              by_cases c8 : x4_1 < (x3_1.length : Int)
              · rw [if_pos c8] at H
                have c8b0 : decide (x4_1 < (x3_1.length : Int)) = true := decide_eq_true c8
                clear c8
                obtain ⟨y119, hy119⟩ : ∃ y_ : List Int, y_ = (x3_1.set (x4_1 : Int).toNat (rd l0 x4_1)) := ⟨_, rfl⟩
                replace H : (laws_toInt64S.l0 k1 l0 y119 (wrap64 (x4_1 + 1))) = some r := by first | (rw [hy119]; with_reducible exact H) | (have H2_ := (Option.bind_some _ _).symm.trans H; rw [hy119]; with_reducible exact H2_) | (have H2_ := (Option.bind_some _ _).symm.trans H; with_reducible exact H2_) | with_reducible exact H | (rw [hy119]; exact H) | exact H
                have Ny119 := Aside0.mk hy119
                clear hy119
                have H' := Aside0.mk H
                clear H
                have p118 : 0 ≤ (x4_1 : Int) := of_decide_eq_true (by first | (with_reducible assumption) | assumption)
                have q118 : x4_1 < (l0.length : Int) := of_decide_eq_true (by first | (with_reducible assumption) | assumption)
                obtain ⟨ad118, e118, hx118_0⟩ := Kd.at_int HR0.out x4_1 p118 q118
                cases e118
                replace hx118_0 := (HB.out.cell (World.block_lt_of_cell? w _ hx118_0)).trans hx118_0
                replace p118 := eq_true p118
                replace q118 := eq_true q118
                have p9 : 0 ≤ (x4_1 : Int) := of_decide_eq_true (by first | (with_reducible assumption) | assumption)
                have q9 : (x4_1 : Int) < ((x3_1.length : Int) : Int) := of_decide_eq_true (by first | (with_reducible assumption) | assumption)
                obtain ⟨go9, co9, eo9, gb9, gl9, cl9, HG9⟩ := Kd.R_form HO_3.out (by omega)
                (first | cases eo9 | (injection eo9 with ea_ en_ ec_; (first | subst ea_ | (injection ea_ with ea_; subst ea_)); subst ec_; clear en_))
                have GB9 := Aside0.mk gb9
                have GG9 := Aside0.mk HG9
                clear gb9 gl9 HG9
                obtain ⟨hx9_0, hf9_0⟩ := Kd.R_celln 0 HO_3.out (x4_1 : Int) p9 q9
                replace p9 := eq_true p9
                replace q9 := eq_true q9
                have HP10 := Kd.R_putg HO_3.out (x4_1 : Int) (rd l0 x4_1)
                go_wp2_with (first | ((with_reducible refine gate_store (t := 2) (p := 20) rfl ?_); refine store_event (t := 2) (p := 20) (v := ?vo_w11) (w1 := (wr.setCell ⟨go9, (x4_1 : Int).toNat, none⟩ (.int .i64 (rd l0 x4_1)))) ?hg ?ho ?hn ?hr ?_; (case ho => rfl); (case hg => rfl); (case hn => rfl); (case hr => first | (go_simp; done) | (go_simp; rfl)); intro w11 hw; have hg : wr.grownBy w11 (some go9) := (by rw [hw]; exact HP10.2); have hp_ : Kd.R (Kd.int .i64) 2 w11 w.heap.size (fun _ => True) (.slice (some ⟨go9, 0, none⟩) x3_1.length co9) y119 := (by rw [hw, Ny119.out]; exact HP10.1); clear HP10; have n0_ := Aside0.mk (hp_); have n1_ := Aside0.mk ((by rw [hw]; exact below_set (HB.out) GB9.out : Below w.heap.size w w11)); clear HO_3; clear HB; have HO_3 := n0_; have HB := n1_; clear n0_ n1_; clear hg hw hp_))
                go_roundg k1
                case measure => have := HK1.out; omega
                case rel => exact ⟨(y119), (wrap64 (x4_1 + 1)), (by first | rfl | (simp; done) | (simp [*]; done)), H', ⟨by have := HK1.out; omega⟩, ⟨by (with_reducible repeat (first | apply Kd.R_alloc | apply Kd.R_drewN | apply Kd.R_drew)); exact HO_3.out⟩, ⟨by repeat (first | (with_reducible first | exact HB.out | apply below_alloc | apply pw_below_drewN | apply below_drew1) | exact HB.out)⟩⟩
              · rw [if_neg c8] at H
                exact absurd H (by simp)
            · rw [if_neg c7] at H
              exact absurd H (by simp)
          · rw [if_neg c6] at H
            have c6b0 : decide (x4_1 < (l0.length : Int)) = false := decide_eq_false c6
            clear c6
            obtain rfl := Option.some.inj H
            go_wp2
            go_ret
            exact ⟨_, by first | rfl | (simp [errW_none, errW_some] <;> rfl) | (simp [*, errW_none, errW_some] <;> rfl), by (with_reducible repeat (first | apply Kd.R_alloc | apply Kd.R_drewN | apply Kd.R_drew)); exact HO_3.out, by repeat (first | (with_reducible first | exact HB.out | apply below_alloc | apply pw_below_drewN | apply below_drew1) | exact HB.out)⟩
    · rw [if_neg c3] at H
      exact absurd H (by simp)
  · rw [if_neg c2] at H
    exact absurd H (by simp)

/-! ### laws_toHand: function 17 -/
def laws_toHand.f (k : Nat) (a0_0 : ByteArray) (l0_1 : List Int) (a0_2 : Int) : Option (ByteArray × List Int × Int) := (laws_toInt64S.f k l0_1).bind fun t123 => (some (a0_0, t123, a0_2))
theorem laws_toHand.mono : ∀ a0 a1 a2 k, LeO (laws_toHand.f k a0 a1 a2) (laws_toHand.f (k + 1) a0 a1 a2) := by
  intro a0 a1 a2 k
  unfold laws_toHand.f
  repeat' first
      | (with_reducible exact laws_toInt64S.mono _ _)
      | (with_reducible exact LeO.refl _)
      | (with_reducible exact LeO.none _)
      | (with_reducible refine LeO.ite ?_ ?_)
      | (with_reducible refine LeO.bind ?_ (fun _ => ?_))
      | exact laws_toInt64S.mono _ _
      | exact LeO.none _
      | refine LeO.ite ?_ ?_
      | refine LeO.bind ?_ (fun _ => ?_)
set_option maxHeartbeats 8000000 in
set_option maxRecDepth 100000 in
theorem laws_toHand.calls (k : Nat) (a0_0 : ByteArray) (A0_1 : Option Addr) (c0_1 : Nat) (l0_1 : List Int) (a0_2 : Int) (r1 : ByteArray) (r2 : List Int) (r3 : Int) (w : World) (hr0_1 : Kd.C (Kd.int .i64) w A0_1 l0_1.length l0_1) (hc0_1 : l0_1.length ≤ c0_1) (h : laws_toHand.f k a0_0 l0_1 a0_2 = some (r1, r2, r3)) :
    Calls Try.prog 17 #[.agg #[.string a0_0, .slice A0_1 l0_1.length c0_1, .int .i64 a0_2]] w fun e w' => ∃ v1_ : Value, e = .returned (.agg #[.string r1, v1_, .int .i64 r3]) ∧ Kd.R (Kd.int .i64) 2 w' w.heap.size (fun _ => True) v1_ r2 ∧ Below w.heap.size w w' := by
  have hu36 := Try.underlying36
  have hu43 := Try.underlying43
  have HR0_1 := Aside0.mk hr0_1
  have HC0_1 := Aside0.mk hc0_1
  clear hr0_1 hc0_1
  have HB := Aside0.mk (Below.refl w.heap.size w)
  have H : ((laws_toInt64S.f k l0_1).bind fun t123 => (some (a0_0, t123, a0_2))) = some (r1, r2, r3) := h
  clear h
  replace H := Option.bind_eq_some_iff.mp H
  obtain ⟨t123, A20, H⟩ := H
  replace H : (some (a0_0, t123, a0_2)) = some (r1, r2, r3) := H
  have A2 := Aside0.mk A20
  clear A20
  simp only [Option.some.injEq, Prod.mk.injEq] at H
  obtain ⟨rfl, rfl, rfl⟩ := H
  go_enter Try.func17, Try.ntmps17
  go_wp2_with (first | ((with_reducible refine gate_dst (N := 1) rfl ?_); refine box_event ?hg (N := 1) ?hd (cs := #[.string a0_0, .slice A0_1 l0_1.length c0_1, .int .i64 a0_2]) (t := 36) ?hr ?_; (case hd => rfl); (case hg => rfl); (case hr => first | (go_simp; done) | (go_simp; rfl)); intro gb120 hg w3 hbox hb; have n0_ := Aside0.mk (below_step (by repeat (first | (with_reducible first | exact HB.out | apply below_alloc | apply pw_below_drewN | apply below_drew1) | exact HB.out)) hb); have n1_ := Aside0.mk (hbox); have n2_ := Aside0.mk ((by rw [hg]; exact (below_size (by repeat (first | (with_reducible first | exact HB.out | apply below_alloc | apply pw_below_drewN | apply below_drew1) | exact HB.out))) : w.heap.size ≤ gb120)); have n3_ := Aside0.mk ((by rw [hg]; exact (below_size (by repeat (first | (with_reducible first | exact HB.out | apply below_alloc | apply pw_below_drewN | apply below_drew1) | exact HB.out))) : w.heap.size ≤ gb120)); clear HB; have HB := n0_; have BK120 := n1_; have GW120 := n2_; have GE120 := n3_; clear n0_ n1_ n2_ n3_; clear hb hbox hg) | ((with_reducible refine gate_dst (N := 2) rfl ?_); refine box_event ?hg (N := 2) ?hd (cs := #[.string (⟨#[]⟩ : ByteArray), .slice none 0 0, .int .i64 0]) (t := 43) ?hr ?_; (case hd => rfl); (case hg => rfl); (case hr => first | (go_simp; done) | (go_simp; rfl)); intro gb121 hg w4 hbox hb; have n0_ := Aside0.mk (blk_below (g := gb120) (o := .cells #[.string a0_0, .slice A0_1 l0_1.length c0_1, .int .i64 a0_2] 36 (0, 0)) (by (with_reducible repeat (first | refine blk_drewN ?_ _ | refine blk_drew ?_ | refine blk_alloc ?_ _)); exact BK120.out) hb); have n1_ := Aside0.mk (below_step (by repeat (first | (with_reducible first | exact HB.out | apply below_alloc | apply pw_below_drewN | apply below_drew1 | refine below_set ?_ GE120.out) | exact HB.out)) hb); have n2_ := Aside0.mk (hbox); have n3_ := Aside0.mk ((by rw [hg]; exact (below_size (by repeat (first | (with_reducible first | exact HB.out | apply below_alloc | apply pw_below_drewN | apply below_drew1 | refine below_set ?_ GE120.out) | exact HB.out))) : w.heap.size ≤ gb121)); have n4_ := Aside0.mk ((by rw [hg]; exact (below_size (by repeat (first | (with_reducible first | exact HB.out | apply below_alloc | apply pw_below_drewN | apply below_drew1 | refine below_set ?_ GE120.out) | exact HB.out))) : w.heap.size ≤ gb121)); have n5_ := Aside0.mk ((by rw [hg]; exact Nat.ne_of_lt (blk_lt (g := gb120) (o := .cells #[.string a0_0, .slice A0_1 l0_1.length c0_1, .int .i64 a0_2] 36 (0, 0)) (by (with_reducible repeat (first | refine blk_drewN ?_ _ | refine blk_drew ?_ | refine blk_alloc ?_ _)); exact BK120.out)) : gb120 ≠ gb121)); have n6_ := Aside0.mk ((by rw [hg]; exact Nat.ne_of_gt (blk_lt (g := gb120) (o := .cells #[.string a0_0, .slice A0_1 l0_1.length c0_1, .int .i64 a0_2] 36 (0, 0)) (by (with_reducible repeat (first | refine blk_drewN ?_ _ | refine blk_drew ?_ | refine blk_alloc ?_ _)); exact BK120.out)) : gb121 ≠ gb120)); clear BK120; clear HB; have BK120 := n0_; have HB := n1_; have BK121 := n2_; have GW121 := n3_; have GE121 := n4_; have NB120_121 := n5_; have NB121_120 := n6_; clear n0_ n1_ n2_ n3_ n4_ n5_ n6_; clear hb hbox hg) | ((with_reducible refine gate_dst (N := 3) rfl ?_); refine box_event ?hg (N := 3) ?hd (cs := #[.string (⟨#[]⟩ : ByteArray), .slice none 0 0, .int .i64 0]) (t := 43) ?hr ?_; (case hd => rfl); (case hg => rfl); (case hr => first | (go_simp; done) | (go_simp; rfl)); intro gb122 hg w5 hbox hb; have n0_ := Aside0.mk (blk_below (g := gb120) (o := .cells #[.string a0_0, .slice A0_1 l0_1.length c0_1, .int .i64 a0_2] 36 (0, 0)) (by (with_reducible repeat (first | refine blk_drewN ?_ _ | refine blk_drew ?_ | refine blk_alloc ?_ _)); exact BK120.out) hb); have n1_ := Aside0.mk (blk_below (g := gb121) (o := .cells #[.string (⟨#[]⟩ : ByteArray), .slice none 0 0, .int .i64 0] 43 (0, 0)) (by (with_reducible repeat (first | refine blk_drewN ?_ _ | refine blk_drew ?_ | refine blk_alloc ?_ _)); exact BK121.out) hb); have n2_ := Aside0.mk (below_step (by repeat (first | (with_reducible first | exact HB.out | apply below_alloc | apply pw_below_drewN | apply below_drew1 | refine below_set ?_ GE120.out | refine below_set ?_ GE121.out) | exact HB.out)) hb); have n3_ := Aside0.mk (hbox); have n4_ := Aside0.mk ((by rw [hg]; exact (below_size (by repeat (first | (with_reducible first | exact HB.out | apply below_alloc | apply pw_below_drewN | apply below_drew1 | refine below_set ?_ GE120.out | refine below_set ?_ GE121.out) | exact HB.out))) : w.heap.size ≤ gb122)); have n5_ := Aside0.mk ((by rw [hg]; exact (below_size (by repeat (first | (with_reducible first | exact HB.out | apply below_alloc | apply pw_below_drewN | apply below_drew1 | refine below_set ?_ GE120.out | refine below_set ?_ GE121.out) | exact HB.out))) : w.heap.size ≤ gb122)); have n6_ := Aside0.mk ((by rw [hg]; exact Nat.ne_of_lt (blk_lt (g := gb120) (o := .cells #[.string a0_0, .slice A0_1 l0_1.length c0_1, .int .i64 a0_2] 36 (0, 0)) (by (with_reducible repeat (first | refine blk_drewN ?_ _ | refine blk_drew ?_ | refine blk_alloc ?_ _)); exact BK120.out)) : gb120 ≠ gb122)); have n7_ := Aside0.mk ((by rw [hg]; exact Nat.ne_of_gt (blk_lt (g := gb120) (o := .cells #[.string a0_0, .slice A0_1 l0_1.length c0_1, .int .i64 a0_2] 36 (0, 0)) (by (with_reducible repeat (first | refine blk_drewN ?_ _ | refine blk_drew ?_ | refine blk_alloc ?_ _)); exact BK120.out)) : gb122 ≠ gb120)); have n8_ := Aside0.mk ((by rw [hg]; exact Nat.ne_of_lt (blk_lt (g := gb121) (o := .cells #[.string (⟨#[]⟩ : ByteArray), .slice none 0 0, .int .i64 0] 43 (0, 0)) (by (with_reducible repeat (first | refine blk_drewN ?_ _ | refine blk_drew ?_ | refine blk_alloc ?_ _)); exact BK121.out)) : gb121 ≠ gb122)); have n9_ := Aside0.mk ((by rw [hg]; exact Nat.ne_of_gt (blk_lt (g := gb121) (o := .cells #[.string (⟨#[]⟩ : ByteArray), .slice none 0 0, .int .i64 0] 43 (0, 0)) (by (with_reducible repeat (first | refine blk_drewN ?_ _ | refine blk_drew ?_ | refine blk_alloc ?_ _)); exact BK121.out)) : gb122 ≠ gb121)); clear BK120; clear BK121; clear HB; have BK120 := n0_; have BK121 := n1_; have HB := n2_; have BK122 := n3_; have GW122 := n4_; have GE122 := n5_; have NB120_122 := n6_; have NB122_120 := n7_; have NB121_122 := n8_; have NB122_121 := n9_; clear n0_ n1_ n2_ n3_ n4_ n5_ n6_ n7_ n8_ n9_; clear hb hbox hg; have hnb6 := NB120_121.out; have hnc6 := NB121_120.out; have hnb7 := NB120_122.out; have hnc7 := NB122_120.out; have hcz8_0 : w5.cell? ⟨gb120, 0, none⟩ = some (.string a0_0) := (blk_cell BK120.out 0).trans rfl; have hcz8_1 : w5.cell? ⟨gb120, 1, none⟩ = some (.slice A0_1 l0_1.length c0_1) := (blk_cell BK120.out 1).trans rfl; have hcz8_2 : w5.cell? ⟨gb120, 2, none⟩ = some (.int .i64 a0_2) := (blk_cell BK120.out 2).trans rfl; have hfz8_0 := blk_frozen BK120.out 0; have hfz8_1 := blk_frozen BK120.out 1; have hfz8_2 := blk_frozen BK120.out 2; have hnb9 := NB122_121.out; have hnc9 := NB121_122.out; have hcz10_0 : w5.cell? ⟨gb122, 0, none⟩ = some (.string (⟨#[]⟩ : ByteArray)) := (blk_cell BK122.out 0).trans rfl; have hcz10_1 : w5.cell? ⟨gb122, 1, none⟩ = some (.slice none 0 0) := (blk_cell BK122.out 1).trans rfl; have hcz10_2 : w5.cell? ⟨gb122, 2, none⟩ = some (.int .i64 0) := (blk_cell BK122.out 2).trans rfl; have hfz10_0 := blk_frozen BK122.out 0; have hfz10_1 := blk_frozen BK122.out 1; have hfz10_2 := blk_frozen BK122.out 2) | ((with_reducible refine gate_callee (f := 30) rfl ?_); refine goesL_ (some 9) rfl rfl Try.func30 (by kernel_rfl) rfl #[.slice A0_1 l0_1.length c0_1] rfl (by (try simp only [List.map_toArray, List.map_cons, List.map_nil]); first | done | rfl | (simp only [List.length_drop, List.length_take]; rfl) | (simp only [ByteArray.size_append, Int.natCast_add]; rfl)) ?_; (with_reducible refine (laws_toInt64S.calls k _ _ l0_1 t123 _ ?side1 ?side2 A2.out).mono ?_); (case side1 => exact Kd.C_below HR0_1.out (by repeat (first | (with_reducible first | exact HB.out | apply below_alloc | apply pw_below_drewN | apply below_drew1 | refine below_set ?_ GE120.out | refine below_set ?_ GE121.out | refine below_set ?_ GE122.out) | exact HB.out))); (case side2 => exact HC0_1.out); rintro e w11 ⟨v124, rfl, ho0, hb⟩; refine ⟨_, rfl, ?_⟩; have n0_ := Aside0.mk (Kd.R_lower ho0 (below_size (by repeat (first | (with_reducible first | exact HB.out | apply below_alloc | apply pw_below_drewN | apply below_drew1 | refine below_set ?_ GE120.out | refine below_set ?_ GE121.out | refine below_set ?_ GE122.out) | exact HB.out)))); have n1_ := Aside0.mk (blk_below (g := gb120) (o := .cells #[.string a0_0, .slice A0_1 l0_1.length c0_1, .int .i64 a0_2] 36 (0, 0)) (by (with_reducible repeat (first | refine blk_drewN ?_ _ | refine blk_drew ?_ | refine blk_alloc ?_ _)); refine blk_far ?_ NB120_122.out _; (with_reducible repeat (first | refine blk_drewN ?_ _ | refine blk_drew ?_ | refine blk_alloc ?_ _)); exact BK120.out) hb); have n2_ := Aside0.mk (blk_below (g := gb121) (o := .cells #[.string (⟨#[]⟩ : ByteArray), .slice none 0 0, .int .i64 0] 43 (0, 0)) (by (with_reducible repeat (first | refine blk_drewN ?_ _ | refine blk_drew ?_ | refine blk_alloc ?_ _)); refine blk_far ?_ NB121_122.out _; (with_reducible repeat (first | refine blk_drewN ?_ _ | refine blk_drew ?_ | refine blk_alloc ?_ _)); exact BK121.out) hb); have n3_ := Aside0.mk (blk_below (g := gb122) (o := .cells #[.string a0_0, .slice none 0 0, .int .i64 0] 43 (0, 0)) (by (with_reducible repeat (first | refine blk_drewN ?_ _ | refine blk_drew ?_ | refine blk_alloc ?_ _)); refine blk_put (cs := #[.string (⟨#[]⟩ : ByteArray), .slice none 0 0, .int .i64 0]) ?_ 0 _ rfl; (with_reducible repeat (first | refine blk_drewN ?_ _ | refine blk_drew ?_ | refine blk_alloc ?_ _)); exact BK122.out) hb); have n4_ := Aside0.mk (below_step (by repeat (first | (with_reducible first | exact HB.out | apply below_alloc | apply pw_below_drewN | apply below_drew1 | refine below_set ?_ GE120.out | refine below_set ?_ GE121.out | refine below_set ?_ GE122.out) | exact HB.out)) hb); clear BK120; clear BK121; clear BK122; clear HB; have HO125 := n0_; have BK120 := n1_; have BK121 := n2_; have BK122 := n3_; have HB := n4_; clear n0_ n1_ n2_ n3_ n4_; (try clear hb); (try clear hb2); (try clear hk); (try clear hi); (try clear ho0); obtain ⟨Ao12, co12, eo12⟩ := Kd.R_slice HO125.out; subst eo12; have hcz13_0 : w11.cell? ⟨gb122, 0, none⟩ = some (.string a0_0) := (blk_cell BK122.out 0).trans rfl; have hcz13_1 : w11.cell? ⟨gb122, 1, none⟩ = some (.slice none 0 0) := (blk_cell BK122.out 1).trans rfl; have hcz13_2 : w11.cell? ⟨gb122, 2, none⟩ = some (.int .i64 0) := (blk_cell BK122.out 2).trans rfl; have hfz13_0 := blk_frozen BK122.out 0; have hfz13_1 := blk_frozen BK122.out 1; have hfz13_2 := blk_frozen BK122.out 2; have hcz14_0 : w11.cell? ⟨gb120, 0, none⟩ = some (.string a0_0) := (blk_cell BK120.out 0).trans rfl; have hcz14_1 : w11.cell? ⟨gb120, 1, none⟩ = some (.slice A0_1 l0_1.length c0_1) := (blk_cell BK120.out 1).trans rfl; have hcz14_2 : w11.cell? ⟨gb120, 2, none⟩ = some (.int .i64 a0_2) := (blk_cell BK120.out 2).trans rfl; have hfz14_0 := blk_frozen BK120.out 0; have hfz14_1 := blk_frozen BK120.out 1; have hfz14_2 := blk_frozen BK120.out 2; have hcz15_0 : w11.cell? ⟨gb121, 0, none⟩ = some (.string (⟨#[]⟩ : ByteArray)) := (blk_cell BK121.out 0).trans rfl; have hcz15_1 : w11.cell? ⟨gb121, 1, none⟩ = some (.slice none 0 0) := (blk_cell BK121.out 1).trans rfl; have hcz15_2 : w11.cell? ⟨gb121, 2, none⟩ = some (.int .i64 0) := (blk_cell BK121.out 2).trans rfl; have hfz15_0 := blk_frozen BK121.out 0; have hfz15_1 := blk_frozen BK121.out 1; have hfz15_2 := blk_frozen BK121.out 2))
  refine bodyPost_ret (results_cell_row rfl _ _ gb121 43 #[.string a0_0, .slice Ao12 t123.length co12, .int .i64 a0_2] (0, 0) _ rfl (by (with_reducible repeat (first | refine blk_drewN ?_ _ | refine blk_drew ?_ | refine blk_alloc ?_ _)); refine blk_put (cs := #[.string a0_0, .slice Ao12 t123.length co12, .int .i64 0]) ?_ 2 _ rfl; (with_reducible repeat (first | refine blk_drewN ?_ _ | refine blk_drew ?_ | refine blk_alloc ?_ _)); refine blk_put (cs := #[.string a0_0, .slice none 0 0, .int .i64 0]) ?_ 1 _ rfl; (with_reducible repeat (first | refine blk_drewN ?_ _ | refine blk_drew ?_ | refine blk_alloc ?_ _)); refine blk_put (cs := #[.string (⟨#[]⟩ : ByteArray), .slice none 0 0, .int .i64 0]) ?_ 0 _ rfl; (with_reducible repeat (first | refine blk_drewN ?_ _ | refine blk_drew ?_ | refine blk_alloc ?_ _)); refine blk_far ?_ NB121_122.out _; (with_reducible repeat (first | refine blk_drewN ?_ _ | refine blk_drew ?_ | refine blk_alloc ?_ _)); refine blk_far ?_ NB121_122.out _; (with_reducible repeat (first | refine blk_drewN ?_ _ | refine blk_drew ?_ | refine blk_alloc ?_ _)); exact BK121.out) Try.underlying43 rfl (by kernel_rfl)) rfl ?_
  exact ⟨_, by first | rfl | (simp [errW_none, errW_some] <;> rfl) | (simp [*, errW_none, errW_some] <;> rfl), by (with_reducible repeat (first | apply Kd.R_alloc | apply Kd.R_drewN | apply Kd.R_drew)); exact Kd.R_mono (Kd.R_far (p := ⟨gb121, 2, none⟩) (Kd.R_far (p := ⟨gb121, 1, none⟩) (Kd.R_far (p := ⟨gb121, 0, none⟩) (Kd.R_far (p := ⟨gb122, 2, none⟩) (Kd.R_far (p := ⟨gb122, 1, none⟩) (Kd.R_types (Kd.R_types HO125.out BK122.out (by decide)) BK121.out (by decide)) (fun _ hk => hk.1.2) (.slice Ao12 t123.length co12)) (fun _ hk => hk.1.2) (.int .i64 a0_2)) (fun _ hk => hk.2) (.string a0_0)) (fun _ hk => hk.2) (.slice Ao12 t123.length co12)) (fun _ hk => hk.2) (.int .i64 a0_2)) (fun _ hk => trivial), by repeat (first | (with_reducible first | exact HB.out | apply below_alloc | apply pw_below_drewN | apply below_drew1 | refine below_set ?_ GE120.out | refine below_set ?_ GE121.out | refine below_set ?_ GE122.out) | exact HB.out)⟩

end Go.Proofs.Ytdamlohbplfdgaa.QFnExactCheapestHands
