/- Functions and contracts of one law, printed by this session's own program (contracts by hand among them). -/
import Derived.Test.YtnmfndfldhgaeaaDoorQFnExactReadClockx0
import Derived.Test.YtnmfndfldhgaeaaDoorQFnExactReadClockx1
namespace Go.Proofs.YtnmfndfldhgaeaaDoor.QFnExactReadClock
open Go.RowKit Go.Proofs.YtnmfndfldhgaeaaDoorW.PrintWords Go.Proofs.YtnmfndfldhgaeaaDoorW.PrintLast Go.Proofs.YtnmfndfldhgaeaaDoorW.PrintMore
attribute [local go_sem] max2_int min2_int max_two min_two max_three min_three max_four min_four   -- for this text's walks alone
set_option linter.unusedVariables false
set_option linter.unusedSimpArgs false

/-! ### spec_ReadClock: function 8 -/
mutual
def spec_ReadClock.j0 : Nat → List ByteArray → Bool → Option (Int × Bool)
  | 0, _, _ => none
  | k + 1, x4, x40 => if x40 = true then (some (0, false)) else (if 0 < (x4.length : Int) then ((spec_l01Number.f k (rdOf ByteArray.empty x4 0)).bind fun bt137 => (if bt137.2 = true then ((spec_l00In.f bt137.1 0 20000).bind fun t139 => (spec_ReadClock.j1 k x4 bt137.1 (!t139))) else (spec_ReadClock.j1 k x4 bt137.1 true))) else (none))
def spec_ReadClock.j1 : Nat → List ByteArray → Int → Bool → Option (Int × Bool)
  | 0, _, _, _ => none
  | k + 1, x4, x5, x54 => if x54 = true then (some (0, false)) else (if 1 < (x4.length : Int) then (if 0 < ((rdOf ByteArray.empty x4 1).size : Int) then (if 1 < ((rdOf ByteArray.empty x4 1).size : Int) then (if (wrap64 ((wrap64 ((wrap64 (60 * x5)) + (10 * (((bt (rdOf ByteArray.empty x4 1) 0) - 48) % 256)))) + (((bt (rdOf ByteArray.empty x4 1) 1) - 48) % 256))) > 20000 then (some (0, false)) else (some (wrap64 ((wrap64 ((wrap64 (60 * x5)) + (10 * (((bt (rdOf ByteArray.empty x4 1) 0) - 48) % 256)))) + (((bt (rdOf ByteArray.empty x4 1) 1) - 48) % 256)), true))) else (none)) else (none)) else (none))
end
def spec_ReadClock.f (k : Nat) (a0 : ByteArray) : Option (Int × Bool) := (spec_l01Split.f k a0 58).bind fun t128 => (if (t128.length : Int) = 2 then (if 1 < (t128.length : Int) then (if ((rdOf ByteArray.empty t128 1).size : Int) = 2 then (if 0 < ((rdOf ByteArray.empty t128 1).size : Int) then (if (bt (rdOf ByteArray.empty t128 1) 0) < 48 then (spec_ReadClock.j0 k t128 true) else (if (bt (rdOf ByteArray.empty t128 1) 0) > 53 then (spec_ReadClock.j0 k t128 true) else (if 1 < ((rdOf ByteArray.empty t128 1).size : Int) then ((spec_l01Digit.f (bt (rdOf ByteArray.empty t128 1) 1)).bind fun t135 => (spec_ReadClock.j0 k t128 (!t135))) else (none)))) else (none)) else (spec_ReadClock.j0 k t128 true)) else (none)) else (spec_ReadClock.j0 k t128 true))
theorem spec_ReadClock.mono_l : ∀ k, (∀ y0 y1, LeO (spec_ReadClock.j0 k y0 y1) (spec_ReadClock.j0 (k + 1) y0 y1)) ∧ (∀ y0 y1 y2, LeO (spec_ReadClock.j1 k y0 y1 y2) (spec_ReadClock.j1 (k + 1) y0 y1 y2))
  | 0 => ⟨fun _ _ r h => by simp [spec_ReadClock.j0] at h, fun _ _ _ r h => by simp [spec_ReadClock.j1] at h⟩
  | k + 1 => by
    obtain ⟨ih0, ih1⟩ := spec_ReadClock.mono_l k
    refine ⟨?_, ?_⟩
    · intro y0 y1
      unfold spec_ReadClock.j0
      repeat' first
      | (with_reducible exact ih0 _ _)
      | (with_reducible exact ih1 _ _ _)
      | (with_reducible exact spec_l01Number.mono _ _)
      | (with_reducible exact spec_l01Split.mono _ _ _)
      | (with_reducible exact LeO.refl _)
      | (with_reducible exact LeO.none _)
      | (with_reducible refine LeO.ite ?_ ?_)
      | (with_reducible refine LeO.bind ?_ (fun _ => ?_))
      | exact ih0 _ _
      | exact ih1 _ _ _
      | exact spec_l01Number.mono _ _
      | exact spec_l01Split.mono _ _ _
      | exact LeO.none _
      | refine LeO.ite ?_ ?_
      | refine LeO.bind ?_ (fun _ => ?_)
    · intro y0 y1 y2
      unfold spec_ReadClock.j1
      repeat' first
      | (with_reducible exact ih0 _ _)
      | (with_reducible exact ih1 _ _ _)
      | (with_reducible exact spec_l01Number.mono _ _)
      | (with_reducible exact spec_l01Split.mono _ _ _)
      | (with_reducible exact LeO.refl _)
      | (with_reducible exact LeO.none _)
      | (with_reducible refine LeO.ite ?_ ?_)
      | (with_reducible refine LeO.bind ?_ (fun _ => ?_))
      | exact ih0 _ _
      | exact ih1 _ _ _
      | exact spec_l01Number.mono _ _
      | exact spec_l01Split.mono _ _ _
      | exact LeO.none _
      | refine LeO.ite ?_ ?_
      | refine LeO.bind ?_ (fun _ => ?_)
theorem spec_ReadClock.mono : ∀ a0 k, LeO (spec_ReadClock.f k a0) (spec_ReadClock.f (k + 1) a0) := by
  intro a0 k
  obtain ⟨ih0, ih1⟩ := spec_ReadClock.mono_l k
  unfold spec_ReadClock.f
  repeat' first
      | (with_reducible exact ih0 _ _)
      | (with_reducible exact ih1 _ _ _)
      | (with_reducible exact spec_l01Number.mono _ _)
      | (with_reducible exact spec_l01Split.mono _ _ _)
      | (with_reducible exact LeO.refl _)
      | (with_reducible exact LeO.none _)
      | (with_reducible refine LeO.ite ?_ ?_)
      | (with_reducible refine LeO.bind ?_ (fun _ => ?_))
      | exact ih0 _ _
      | exact ih1 _ _ _
      | exact spec_l01Number.mono _ _
      | exact spec_l01Split.mono _ _ _
      | exact LeO.none _
      | refine LeO.ite ?_ ?_
      | refine LeO.bind ?_ (fun _ => ?_)
set_option maxHeartbeats 8000000 in
set_option maxRecDepth 100000 in
theorem spec_ReadClock.calls (k : Nat) (a0 : ByteArray) (r1 : Int) (r2 : Bool) (w : World) (h : spec_ReadClock.f k a0 = some (r1, r2)) :
    Calls Tryd.prog 8 #[.string a0] w fun e w' => e = .returned (.tuple #[.int .i64 r1, .bool r2]) ∧ Below w.heap.size w w' := by
  have HB := Aside0.mk (Below.refl w.heap.size w)
  have H : ((spec_l01Split.f k a0 58).bind fun t128 => (if (t128.length : Int) = 2 then (if 1 < (t128.length : Int) then (if ((rdOf ByteArray.empty t128 1).size : Int) = 2 then (if 0 < ((rdOf ByteArray.empty t128 1).size : Int) then (if (bt (rdOf ByteArray.empty t128 1) 0) < 48 then (spec_ReadClock.j0 k t128 true) else (if (bt (rdOf ByteArray.empty t128 1) 0) > 53 then (spec_ReadClock.j0 k t128 true) else (if 1 < ((rdOf ByteArray.empty t128 1).size : Int) then ((spec_l01Digit.f (bt (rdOf ByteArray.empty t128 1) 1)).bind fun t135 => (spec_ReadClock.j0 k t128 (!t135))) else (none)))) else (none)) else (spec_ReadClock.j0 k t128 true)) else (none)) else (spec_ReadClock.j0 k t128 true))) = some (r1, r2) := h
  clear h
  replace H := Option.bind_eq_some_iff.mp H
  obtain ⟨t128, A20, H⟩ := H
  replace H : (if (t128.length : Int) = 2 then (if 1 < (t128.length : Int) then (if ((rdOf ByteArray.empty t128 1).size : Int) = 2 then (if 0 < ((rdOf ByteArray.empty t128 1).size : Int) then (if (bt (rdOf ByteArray.empty t128 1) 0) < 48 then (spec_ReadClock.j0 k t128 true) else (if (bt (rdOf ByteArray.empty t128 1) 0) > 53 then (spec_ReadClock.j0 k t128 true) else (if 1 < ((rdOf ByteArray.empty t128 1).size : Int) then ((spec_l01Digit.f (bt (rdOf ByteArray.empty t128 1) 1)).bind fun t135 => (spec_ReadClock.j0 k t128 (!t135))) else (none)))) else (none)) else (spec_ReadClock.j0 k t128 true)) else (none)) else (spec_ReadClock.j0 k t128 true)) = some (r1, r2) := H
  have A2 := Aside0.mk A20
  clear A20
  have HC3 := Aside0.mk H
  clear H
  go_enter Tryd.func8, Tryd.ntmps8
  go_upto_region 2 with (first | (go_at_call 24; (with_reducible refine (spec_l01Split.calls k a0 58 t128 _ A2.out).mono ?_); rintro e w4 ⟨v129, rfl, ho0, hb⟩; have n0_ := Aside0.mk (Kd.R_lower ho0 (below_size (by repeat (first | (with_reducible first | exact HB.out | apply below_alloc | apply pw_below_drewN | apply below_drew1) | exact HB.out)))); have n1_ := Aside0.mk (below_step (by repeat (first | (with_reducible first | exact HB.out | apply below_alloc | apply pw_below_drewN | apply below_drew1) | exact HB.out)) hb); clear HB; have HO130 := n0_; have HB := n1_; clear n0_ n1_; (try clear hb); (try clear hb2); (try clear hk); (try clear hi); (try clear ho0)))
  repeat (go_quiet (first | (go_at_call 24; (with_reducible refine (spec_l01Split.calls k a0 58 t128 _ A2.out).mono ?_); rintro e w4 ⟨v129, rfl, ho0, hb⟩; have n0_ := Aside0.mk (Kd.R_lower ho0 (below_size (by repeat (first | (with_reducible first | exact HB.out | apply below_alloc | apply pw_below_drewN | apply below_drew1) | exact HB.out)))); have n1_ := Aside0.mk (below_step (by repeat (first | (with_reducible first | exact HB.out | apply below_alloc | apply pw_below_drewN | apply below_drew1) | exact HB.out)) hb); clear HB; have HO130 := n0_; have HB := n1_; clear n0_ n1_; (try clear hb); (try clear hb2); (try clear hk); (try clear hi); (try clear ho0))); go_upto_region 2 with (first | (go_at_call 24; (with_reducible refine (spec_l01Split.calls k a0 58 t128 _ A2.out).mono ?_); rintro e w4 ⟨v129, rfl, ho0, hb⟩; have n0_ := Aside0.mk (Kd.R_lower ho0 (below_size (by repeat (first | (with_reducible first | exact HB.out | apply below_alloc | apply pw_below_drewN | apply below_drew1) | exact HB.out)))); have n1_ := Aside0.mk (below_step (by repeat (first | (with_reducible first | exact HB.out | apply below_alloc | apply pw_below_drewN | apply below_drew1) | exact HB.out)) hb); clear HB; have HO130 := n0_; have HB := n1_; clear n0_ n1_; (try clear hb); (try clear hb2); (try clear hk); (try clear hi); (try clear ho0))))
  (try simp only [Act.put, List.setIfInBounds_toArray, List.set_cons_zero, List.set_cons_succ])
  go_cut [40] (fun v40 wc => ∃ (kq : Nat) (x40_2 : Bool), v40 = .bool x40_2 ∧ Aside0 (spec_ReadClock.j0 kq t128 x40_2 = some (r1, r2)) ∧ Aside0 (kq ≤ k) ∧ Aside0 (Kd.R Kd.string 9 wc w.heap.size (fun _ => True) v129 t128) ∧ Aside0 (Below w.heap.size w wc))
  case first =>
    have H := HC3.out
    clear HC3
    by_cases c5 : (t128.length : Int) = 2
    · rw [if_pos c5] at H
      have c5b0 : ((t128.length : Int) == 2) = true := beq_iff_eq.mpr c5
      have c5b1 : ((t128.length : Int) != 2) = false := bne_eq_false_iff_eq.mpr c5
      clear c5
      (first | rw [c5b0] | (simp only [i64_w, i32_w]; rw [c5b0]) | skip)
      by_cases c6 : 1 < (t128.length : Int)
      · rw [if_pos c6] at H
        have c6b0 : decide (1 < (t128.length : Int)) = true := decide_eq_true c6
        have c6b1 : decide (1 < t128.length) = true := decide_eq_true (by omega)
        clear c6
        by_cases c7 : ((rdOf ByteArray.empty t128 1).size : Int) = 2
        · rw [if_pos c7] at H
          have c7b0 : (((rdOf ByteArray.empty t128 1).size : Int) == 2) = true := beq_iff_eq.mpr c7
          have c7b1 : (((rdOf ByteArray.empty t128 1).size : Int) != 2) = false := bne_eq_false_iff_eq.mpr c7
          clear c7
          by_cases c8 : 0 < ((rdOf ByteArray.empty t128 1).size : Int)
          · rw [if_pos c8] at H
            have c8b0 : decide (0 < ((rdOf ByteArray.empty t128 1).size : Int)) = true := decide_eq_true c8
            have c8b1 : decide (0 < (rdOf ByteArray.empty t128 1).size) = true := decide_eq_true (by omega)
            clear c8
            by_cases c10 : (bt (rdOf ByteArray.empty t128 1) 0) < 48
            · rw [if_pos c10] at H
              have c10b0 : decide ((bt (rdOf ByteArray.empty t128 1) 0) < 48) = true := decide_eq_true c10
              clear c10
              have H' := Aside0.mk H
              clear H
              obtain ⟨Ao11, co11, eo11⟩ := Kd.R_slice HO130.out
              subst eo11
              have p131 : 0 ≤ (1 : Int) := (by omega)
              have q131 : 1 < (t128.length : Int) := of_decide_eq_true (by first | (with_reducible assumption) | assumption)
              obtain ⟨ad131, e131, hx131_0⟩ := Kd.at_string (Kd.R_reads' HO130.out).2.2 1 p131 q131
              cases e131
              (try simp only [show (1 : Int).toNat = 1 from rfl, Nat.reduceMul, Nat.reduceEqDiff, Go.Addr.add, ↓reduceIte] at hx131_0)
              have qi131 : (1 < t128.length) = True := eq_true (by omega)
              (try rw [show ((1 : Int)).toNat = 1 from rfl] at hx131_0)
              replace p131 := eq_true p131
              replace q131 := eq_true q131
              have p132 : 0 ≤ (1 : Int) := (by omega)
              have q132 : 1 < (t128.length : Int) := of_decide_eq_true (by first | (with_reducible assumption) | assumption)
              obtain ⟨ad132, e132, hx132_0⟩ := Kd.at_string (Kd.R_reads' HO130.out).2.2 1 p132 q132
              obtain rfl : ad131 = ad132 := (by injection e132)
              (try simp only [show (1 : Int).toNat = 1 from rfl, Nat.reduceMul, Nat.reduceEqDiff, Go.Addr.add, ↓reduceIte] at hx132_0)
              have qi132 : (1 < t128.length) = True := eq_true (by omega)
              (try rw [show ((1 : Int)).toNat = 1 from rfl] at hx132_0)
              replace p132 := eq_true p132
              replace q132 := eq_true q132
              have p9 : 0 ≤ (0 : Int) := (by omega)
              have q9 : 0 < (rdOf ByteArray.empty t128 1).size := (by have : (0 : Int) < ((rdOf ByteArray.empty t128 1).size : Int) := of_decide_eq_true (by first | (with_reducible assumption) | assumption); omega)
              have hx9 : ∀ h : 0 < (rdOf ByteArray.empty t128 1).size, (((rdOf ByteArray.empty t128 1)[0]'h).toNat : Int) = bt (rdOf ByteArray.empty t128 1) 0 := bt_at (rdOf ByteArray.empty t128 1) 0
              clear p9
              have qi9 : (0 < ((rdOf ByteArray.empty t128 1).size : Int)) = True := eq_true (of_decide_eq_true (by first | (with_reducible assumption) | assumption))
              replace q9 := eq_true q9
              go_wp2
              repeat (go_quiet (fail); try go_wp2)
              go_meet
              case rel => exact ⟨_, (true), (by first | rfl | (simp; done) | (simp [*]; done)), H', ⟨by first | omega | exact Nat.le_refl _⟩, ⟨by (with_reducible repeat (first | apply Kd.R_alloc | apply Kd.R_drewN | apply Kd.R_drew)); exact HO130.out⟩, ⟨by repeat (first | (with_reducible first | exact HB.out | apply below_alloc | apply pw_below_drewN | apply below_drew1) | exact HB.out)⟩⟩
            · rw [if_neg c10] at H
              have c10b0 : decide ((bt (rdOf ByteArray.empty t128 1) 0) < 48) = false := decide_eq_false c10
              clear c10
              by_cases c13 : (bt (rdOf ByteArray.empty t128 1) 0) > 53
              · rw [if_pos c13] at H
                have c13b0 : decide (53 < (bt (rdOf ByteArray.empty t128 1) 0)) = true := decide_eq_true c13
                clear c13
                have H' := Aside0.mk H
                clear H
                obtain ⟨Ao14, co14, eo14⟩ := Kd.R_slice HO130.out
                subst eo14
                have p131 : 0 ≤ (1 : Int) := (by omega)
                have q131 : 1 < (t128.length : Int) := of_decide_eq_true (by first | (with_reducible assumption) | assumption)
                obtain ⟨ad131, e131, hx131_0⟩ := Kd.at_string (Kd.R_reads' HO130.out).2.2 1 p131 q131
                cases e131
                (try simp only [show (1 : Int).toNat = 1 from rfl, Nat.reduceMul, Nat.reduceEqDiff, Go.Addr.add, ↓reduceIte] at hx131_0)
                have qi131 : (1 < t128.length) = True := eq_true (by omega)
                (try rw [show ((1 : Int)).toNat = 1 from rfl] at hx131_0)
                replace p131 := eq_true p131
                replace q131 := eq_true q131
                have p132 : 0 ≤ (1 : Int) := (by omega)
                have q132 : 1 < (t128.length : Int) := of_decide_eq_true (by first | (with_reducible assumption) | assumption)
                obtain ⟨ad132, e132, hx132_0⟩ := Kd.at_string (Kd.R_reads' HO130.out).2.2 1 p132 q132
                obtain rfl : ad131 = ad132 := (by injection e132)
                (try simp only [show (1 : Int).toNat = 1 from rfl, Nat.reduceMul, Nat.reduceEqDiff, Go.Addr.add, ↓reduceIte] at hx132_0)
                have qi132 : (1 < t128.length) = True := eq_true (by omega)
                (try rw [show ((1 : Int)).toNat = 1 from rfl] at hx132_0)
                replace p132 := eq_true p132
                replace q132 := eq_true q132
                have p9 : 0 ≤ (0 : Int) := (by omega)
                have q9 : 0 < (rdOf ByteArray.empty t128 1).size := (by have : (0 : Int) < ((rdOf ByteArray.empty t128 1).size : Int) := of_decide_eq_true (by first | (with_reducible assumption) | assumption); omega)
                have hx9 : ∀ h : 0 < (rdOf ByteArray.empty t128 1).size, (((rdOf ByteArray.empty t128 1)[0]'h).toNat : Int) = bt (rdOf ByteArray.empty t128 1) 0 := bt_at (rdOf ByteArray.empty t128 1) 0
                clear p9
                have qi9 : (0 < ((rdOf ByteArray.empty t128 1).size : Int)) = True := eq_true (of_decide_eq_true (by first | (with_reducible assumption) | assumption))
                replace q9 := eq_true q9
                have p133 : 0 ≤ (1 : Int) := (by omega)
                have q133 : 1 < (t128.length : Int) := of_decide_eq_true (by first | (with_reducible assumption) | assumption)
                obtain ⟨ad133, e133, hx133_0⟩ := Kd.at_string (Kd.R_reads' HO130.out).2.2 1 p133 q133
                obtain rfl : ad131 = ad133 := (by injection e133)
                (try simp only [show (1 : Int).toNat = 1 from rfl, Nat.reduceMul, Nat.reduceEqDiff, Go.Addr.add, ↓reduceIte] at hx133_0)
                have qi133 : (1 < t128.length) = True := eq_true (by omega)
                (try rw [show ((1 : Int)).toNat = 1 from rfl] at hx133_0)
                replace p133 := eq_true p133
                replace q133 := eq_true q133
                have p12 : 0 ≤ (0 : Int) := (by omega)
                have q12 : 0 < (rdOf ByteArray.empty t128 1).size := (by have : (0 : Int) < ((rdOf ByteArray.empty t128 1).size : Int) := of_decide_eq_true (by first | (with_reducible assumption) | assumption); omega)
                have hx12 : ∀ h : 0 < (rdOf ByteArray.empty t128 1).size, (((rdOf ByteArray.empty t128 1)[0]'h).toNat : Int) = bt (rdOf ByteArray.empty t128 1) 0 := bt_at (rdOf ByteArray.empty t128 1) 0
                clear p12
                have qi12 : (0 < ((rdOf ByteArray.empty t128 1).size : Int)) = True := eq_true (of_decide_eq_true (by first | (with_reducible assumption) | assumption))
                replace q12 := eq_true q12
                go_wp2
                repeat (go_quiet (fail); try go_wp2)
                go_meet
                case rel => exact ⟨_, (true), (by first | rfl | (simp; done) | (simp [*]; done)), H', ⟨by first | omega | exact Nat.le_refl _⟩, ⟨by (with_reducible repeat (first | apply Kd.R_alloc | apply Kd.R_drewN | apply Kd.R_drew)); exact HO130.out⟩, ⟨by repeat (first | (with_reducible first | exact HB.out | apply below_alloc | apply pw_below_drewN | apply below_drew1) | exact HB.out)⟩⟩
              · rw [if_neg c13] at H
                have c13b0 : decide (53 < (bt (rdOf ByteArray.empty t128 1) 0)) = false := decide_eq_false c13
                clear c13
                by_cases c15 : 1 < ((rdOf ByteArray.empty t128 1).size : Int)
                · rw [if_pos c15] at H
                  have c15b0 : decide (1 < ((rdOf ByteArray.empty t128 1).size : Int)) = true := decide_eq_true c15
                  have c15b1 : decide (1 < (rdOf ByteArray.empty t128 1).size) = true := decide_eq_true (by omega)
                  clear c15
                  replace H := Option.bind_eq_some_iff.mp H
                  obtain ⟨t135, A170, H⟩ := H
                  replace H : (spec_ReadClock.j0 k t128 (!t135)) = some (r1, r2) := H
                  have A17 := Aside0.mk A170
                  clear A170
                  have H' := Aside0.mk H
                  clear H
                  obtain ⟨Ao18, co18, eo18⟩ := Kd.R_slice HO130.out
                  subst eo18
                  have p131 : 0 ≤ (1 : Int) := (by omega)
                  have q131 : 1 < (t128.length : Int) := of_decide_eq_true (by first | (with_reducible assumption) | assumption)
                  obtain ⟨ad131, e131, hx131_0⟩ := Kd.at_string (Kd.R_reads' HO130.out).2.2 1 p131 q131
                  cases e131
                  (try simp only [show (1 : Int).toNat = 1 from rfl, Nat.reduceMul, Nat.reduceEqDiff, Go.Addr.add, ↓reduceIte] at hx131_0)
                  have qi131 : (1 < t128.length) = True := eq_true (by omega)
                  (try rw [show ((1 : Int)).toNat = 1 from rfl] at hx131_0)
                  replace p131 := eq_true p131
                  replace q131 := eq_true q131
                  have p132 : 0 ≤ (1 : Int) := (by omega)
                  have q132 : 1 < (t128.length : Int) := of_decide_eq_true (by first | (with_reducible assumption) | assumption)
                  obtain ⟨ad132, e132, hx132_0⟩ := Kd.at_string (Kd.R_reads' HO130.out).2.2 1 p132 q132
                  obtain rfl : ad131 = ad132 := (by injection e132)
                  (try simp only [show (1 : Int).toNat = 1 from rfl, Nat.reduceMul, Nat.reduceEqDiff, Go.Addr.add, ↓reduceIte] at hx132_0)
                  have qi132 : (1 < t128.length) = True := eq_true (by omega)
                  (try rw [show ((1 : Int)).toNat = 1 from rfl] at hx132_0)
                  replace p132 := eq_true p132
                  replace q132 := eq_true q132
                  have p9 : 0 ≤ (0 : Int) := (by omega)
                  have q9 : 0 < (rdOf ByteArray.empty t128 1).size := (by have : (0 : Int) < ((rdOf ByteArray.empty t128 1).size : Int) := of_decide_eq_true (by first | (with_reducible assumption) | assumption); omega)
                  have hx9 : ∀ h : 0 < (rdOf ByteArray.empty t128 1).size, (((rdOf ByteArray.empty t128 1)[0]'h).toNat : Int) = bt (rdOf ByteArray.empty t128 1) 0 := bt_at (rdOf ByteArray.empty t128 1) 0
                  clear p9
                  have qi9 : (0 < ((rdOf ByteArray.empty t128 1).size : Int)) = True := eq_true (of_decide_eq_true (by first | (with_reducible assumption) | assumption))
                  replace q9 := eq_true q9
                  have p133 : 0 ≤ (1 : Int) := (by omega)
                  have q133 : 1 < (t128.length : Int) := of_decide_eq_true (by first | (with_reducible assumption) | assumption)
                  obtain ⟨ad133, e133, hx133_0⟩ := Kd.at_string (Kd.R_reads' HO130.out).2.2 1 p133 q133
                  obtain rfl : ad131 = ad133 := (by injection e133)
                  (try simp only [show (1 : Int).toNat = 1 from rfl, Nat.reduceMul, Nat.reduceEqDiff, Go.Addr.add, ↓reduceIte] at hx133_0)
                  have qi133 : (1 < t128.length) = True := eq_true (by omega)
                  (try rw [show ((1 : Int)).toNat = 1 from rfl] at hx133_0)
                  replace p133 := eq_true p133
                  replace q133 := eq_true q133
                  have p12 : 0 ≤ (0 : Int) := (by omega)
                  have q12 : 0 < (rdOf ByteArray.empty t128 1).size := (by have : (0 : Int) < ((rdOf ByteArray.empty t128 1).size : Int) := of_decide_eq_true (by first | (with_reducible assumption) | assumption); omega)
                  have hx12 : ∀ h : 0 < (rdOf ByteArray.empty t128 1).size, (((rdOf ByteArray.empty t128 1)[0]'h).toNat : Int) = bt (rdOf ByteArray.empty t128 1) 0 := bt_at (rdOf ByteArray.empty t128 1) 0
                  clear p12
                  have qi12 : (0 < ((rdOf ByteArray.empty t128 1).size : Int)) = True := eq_true (of_decide_eq_true (by first | (with_reducible assumption) | assumption))
                  replace q12 := eq_true q12
                  have p134 : 0 ≤ (1 : Int) := (by omega)
                  have q134 : 1 < (t128.length : Int) := of_decide_eq_true (by first | (with_reducible assumption) | assumption)
                  obtain ⟨ad134, e134, hx134_0⟩ := Kd.at_string (Kd.R_reads' HO130.out).2.2 1 p134 q134
                  obtain rfl : ad131 = ad134 := (by injection e134)
                  (try simp only [show (1 : Int).toNat = 1 from rfl, Nat.reduceMul, Nat.reduceEqDiff, Go.Addr.add, ↓reduceIte] at hx134_0)
                  have qi134 : (1 < t128.length) = True := eq_true (by omega)
                  (try rw [show ((1 : Int)).toNat = 1 from rfl] at hx134_0)
                  replace p134 := eq_true p134
                  replace q134 := eq_true q134
                  have p16 : 0 ≤ (1 : Int) := (by omega)
                  have q16 : 1 < (rdOf ByteArray.empty t128 1).size := (by have : (1 : Int) < ((rdOf ByteArray.empty t128 1).size : Int) := of_decide_eq_true (by first | (with_reducible assumption) | assumption); omega)
                  have hx16 : ∀ h : 1 < (rdOf ByteArray.empty t128 1).size, (((rdOf ByteArray.empty t128 1)[1]'h).toNat : Int) = bt (rdOf ByteArray.empty t128 1) 1 := bt_at (rdOf ByteArray.empty t128 1) 1
                  clear p16
                  have qi16 : (1 < ((rdOf ByteArray.empty t128 1).size : Int)) = True := eq_true (of_decide_eq_true (by first | (with_reducible assumption) | assumption))
                  replace q16 := eq_true q16
                  go_wp2_with (first | (go_at_call 25; (with_reducible refine (spec_l01Digit.calls (bt (rdOf ByteArray.empty t128 1) 1) t135 _ A17.out).mono ?_); rintro e w' ⟨rfl, ⟨nd, rfl⟩⟩; (try first | exact ⟨rfl, _, World.drewN_drewN _ _ _⟩ | exact ⟨rfl, _, Eq.trans (World.drewN_drewN _ _ _) (congrArg (World.drewN _) (Nat.add_assoc _ _ _))⟩)))
                  repeat (go_quiet (first | (go_at_call 25; (with_reducible refine (spec_l01Digit.calls (bt (rdOf ByteArray.empty t128 1) 1) t135 _ A17.out).mono ?_); rintro e w' ⟨rfl, ⟨nd, rfl⟩⟩; (try first | exact ⟨rfl, _, World.drewN_drewN _ _ _⟩ | exact ⟨rfl, _, Eq.trans (World.drewN_drewN _ _ _) (congrArg (World.drewN _) (Nat.add_assoc _ _ _))⟩))); try go_wp2_with (first | (go_at_call 25; (with_reducible refine (spec_l01Digit.calls (bt (rdOf ByteArray.empty t128 1) 1) t135 _ A17.out).mono ?_); rintro e w' ⟨rfl, ⟨nd, rfl⟩⟩; (try first | exact ⟨rfl, _, World.drewN_drewN _ _ _⟩ | exact ⟨rfl, _, Eq.trans (World.drewN_drewN _ _ _) (congrArg (World.drewN _) (Nat.add_assoc _ _ _))⟩))))
                  go_meet
                  case rel => exact ⟨_, (!t135), (by first | rfl | (simp; done) | (simp [*]; done)), H', ⟨by first | omega | exact Nat.le_refl _⟩, ⟨by (with_reducible repeat (first | apply Kd.R_alloc | apply Kd.R_drewN | apply Kd.R_drew)); exact HO130.out⟩, ⟨by repeat (first | (with_reducible first | exact HB.out | apply below_alloc | apply pw_below_drewN | apply below_drew1) | exact HB.out)⟩⟩
                · rw [if_neg c15] at H
                  exact absurd H (by simp)
          · rw [if_neg c8] at H
            exact absurd H (by simp)
        · rw [if_neg c7] at H
          have c7b0 : (((rdOf ByteArray.empty t128 1).size : Int) == 2) = false := beq_eq_false_iff_ne.mpr c7
          have c7b1 : (((rdOf ByteArray.empty t128 1).size : Int) != 2) = true := bne_iff_ne.mpr c7
          have H' := Aside0.mk H
          clear H
          obtain ⟨Ao19, co19, eo19⟩ := Kd.R_slice HO130.out
          subst eo19
          have p131 : 0 ≤ (1 : Int) := (by omega)
          have q131 : 1 < (t128.length : Int) := of_decide_eq_true (by first | (with_reducible assumption) | assumption)
          obtain ⟨ad131, e131, hx131_0⟩ := Kd.at_string (Kd.R_reads' HO130.out).2.2 1 p131 q131
          cases e131
          (try simp only [show (1 : Int).toNat = 1 from rfl, Nat.reduceMul, Nat.reduceEqDiff, Go.Addr.add, ↓reduceIte] at hx131_0)
          have qi131 : (1 < t128.length) = True := eq_true (by omega)
          (try rw [show ((1 : Int)).toNat = 1 from rfl] at hx131_0)
          replace p131 := eq_true p131
          replace q131 := eq_true q131
          go_wp2
          repeat (go_quiet (fail); try go_wp2)
          go_meet
          case rel => exact ⟨_, (true), (by first | rfl | (simp; done) | (simp [*]; done)), H', ⟨by first | omega | exact Nat.le_refl _⟩, ⟨by (with_reducible repeat (first | apply Kd.R_alloc | apply Kd.R_drewN | apply Kd.R_drew)); exact HO130.out⟩, ⟨by repeat (first | (with_reducible first | exact HB.out | apply below_alloc | apply pw_below_drewN | apply below_drew1) | exact HB.out)⟩⟩
      · rw [if_neg c6] at H
        exact absurd H (by simp)
    · rw [if_neg c5] at H
      have c5b0 : ((t128.length : Int) == 2) = false := beq_eq_false_iff_ne.mpr c5
      have c5b1 : ((t128.length : Int) != 2) = true := bne_iff_ne.mpr c5
      (first | rw [c5b0] | (simp only [i64_w, i32_w]; rw [c5b0]) | skip)
      have H' := Aside0.mk H
      clear H
      obtain ⟨Ao20, co20, eo20⟩ := Kd.R_slice HO130.out
      subst eo20
      go_wp2
      repeat (go_quiet (fail); try go_wp2)
      go_meet
      case rel => exact ⟨_, (true), (by first | rfl | (simp; done) | (simp [*]; done)), H', ⟨by first | omega | exact Nat.le_refl _⟩, ⟨by (with_reducible repeat (first | apply Kd.R_alloc | apply Kd.R_drewN | apply Kd.R_drew)); exact HO130.out⟩, ⟨by repeat (first | (with_reducible first | exact HB.out | apply below_alloc | apply pw_below_drewN | apply below_drew1) | exact HB.out)⟩⟩
  case rest =>
    clear HC3
    try clear c1
    try clear p1
    try clear q1
    try clear hx1
    try clear qi1
    try clear p2
    try clear c5
    try clear c5b0
    try clear c5b1
    try clear c6
    try clear c6b0
    try clear c6b1
    try clear c7
    try clear c7b0
    try clear c7b1
    try clear c8
    try clear c8b0
    try clear c8b1
    try clear p9
    try clear q9
    try clear hx9
    try clear qi9
    try clear c10
    try clear c10b0
    try clear p12
    try clear q12
    try clear hx12
    try clear qi12
    try clear c13
    try clear c13b0
    try clear p13
    try clear q13
    try clear hx13
    try clear qi13
    try clear c15
    try clear c15b0
    try clear c15b1
    try clear p16
    try clear q16
    try clear hx16
    try clear qi16
    try clear hx131_0
    try clear hx132_0
    try clear hx133_0
    try clear hx134_0
    try clear p12
    try clear p131
    try clear p132
    try clear p133
    try clear p134
    try clear p16
    try clear p9
    try clear q12
    try clear q131
    try clear q132
    try clear q133
    try clear q134
    try clear q16
    try clear q9
    obtain ⟨kq, x40_2, rfl, HA, HJ2, HO_4, HB⟩ := hcut
    cases kq with
    | zero => exact absurd HA.out (by simp [spec_ReadClock.j0])
    | succ kj2 =>
      have H := HA.out
      clear HA
      simp only [spec_ReadClock.j0] at H
      by_cases c21 : x40_2 = true
      · subst c21
        have H1 : (some (0, false)) = some (r1, r2) := by rw [if_pos rfl] at H; exact H
        clear H
        have H := H1
        clear H1
        simp only [Option.some.injEq, Prod.mk.injEq] at H
        obtain ⟨rfl, rfl⟩ := H
        go_wp2
        repeat (go_quiet (fail); try go_wp2)
        go_ret2
        exact ⟨by first | rfl | (simp [errW_none, errW_some] <;> rfl) | (simp [*, errW_none, errW_some] <;> rfl), by repeat (first | (with_reducible first | exact HB.out | apply below_alloc | apply pw_below_drewN | apply below_drew1) | exact HB.out)⟩
      · replace c21 := Bool.eq_false_iff.mpr c21
        subst c21
        have H1 : (if 0 < (t128.length : Int) then ((spec_l01Number.f kj2 (rdOf ByteArray.empty t128 0)).bind fun bt137 => (if bt137.2 = true then ((spec_l00In.f bt137.1 0 20000).bind fun t139 => (spec_ReadClock.j1 kj2 t128 bt137.1 (!t139))) else (spec_ReadClock.j1 kj2 t128 bt137.1 true))) else (none)) = some (r1, r2) := by rw [if_neg (show ¬ (false = true) by decide)] at H; exact H
        clear H
        have H := H1
        clear H1
        by_cases c22 : 0 < (t128.length : Int)
        · rw [if_pos c22] at H
          have c22b0 : decide (0 < (t128.length : Int)) = true := decide_eq_true c22
          have c22b1 : decide (0 < t128.length) = true := decide_eq_true (by omega)
          clear c22
          replace H := Option.bind_eq_some_iff.mp H
          obtain ⟨⟨t137, t138⟩, A230, H⟩ := H
          replace H : (if t138 = true then ((spec_l00In.f t137 0 20000).bind fun t139 => (spec_ReadClock.j1 kj2 t128 t137 (!t139))) else (spec_ReadClock.j1 kj2 t128 t137 true)) = some (r1, r2) := H
          have A23 := Aside0.mk A230
          clear A230
          have HC24 := Aside0.mk H
          clear H
          obtain ⟨Ao25, co25, eo25⟩ := Kd.R_slice HO_4.out
          subst eo25
          have p136 : 0 ≤ (0 : Int) := (by omega)
          have q136 : 0 < (t128.length : Int) := of_decide_eq_true (by first | (with_reducible assumption) | assumption)
          obtain ⟨ad136, e136, hx136_0⟩ := Kd.at_string (Kd.R_reads' HO_4.out).2.2 0 p136 q136
          cases e136
          have qi136 : (0 < t128.length) = True := eq_true (by omega)
          (try rw [show ((0 : Int)).toNat = 0 from rfl] at hx136_0)
          (try rw [Addr.add_zero'] at hx136_0)
          replace p136 := eq_true p136
          replace q136 := eq_true q136
          go_upto_region 5 with (first | (go_at_call 26; (with_reducible refine (spec_l01Number.calls kj2 (rdOf ByteArray.empty t128 0) t137 t138 _ A23.out).mono ?_); rintro e w26 ⟨rfl, hb⟩; have n0_ := Aside0.mk (Kd.R_below (by (with_reducible repeat (first | apply Kd.R_alloc | apply Kd.R_drewN | apply Kd.R_drew)); exact HO_4.out) hb); have n1_ := Aside0.mk (below_step (by repeat (first | (with_reducible first | exact HB.out | apply below_alloc | apply pw_below_drewN | apply below_drew1) | exact HB.out)) hb); clear HO_4; clear HB; have HO_4 := n0_; have HB := n1_; clear n0_ n1_; (try clear hb); (try clear hb2); (try clear hk); (try clear hi)))
          repeat (go_quiet (first | (go_at_call 26; (with_reducible refine (spec_l01Number.calls kj2 (rdOf ByteArray.empty t128 0) t137 t138 _ A23.out).mono ?_); rintro e w26 ⟨rfl, hb⟩; have n0_ := Aside0.mk (Kd.R_below (by (with_reducible repeat (first | apply Kd.R_alloc | apply Kd.R_drewN | apply Kd.R_drew)); exact HO_4.out) hb); have n1_ := Aside0.mk (below_step (by repeat (first | (with_reducible first | exact HB.out | apply below_alloc | apply pw_below_drewN | apply below_drew1) | exact HB.out)) hb); clear HO_4; clear HB; have HO_4 := n0_; have HB := n1_; clear n0_ n1_; (try clear hb); (try clear hb2); (try clear hk); (try clear hi))); go_upto_region 5 with (first | (go_at_call 26; (with_reducible refine (spec_l01Number.calls kj2 (rdOf ByteArray.empty t128 0) t137 t138 _ A23.out).mono ?_); rintro e w26 ⟨rfl, hb⟩; have n0_ := Aside0.mk (Kd.R_below (by (with_reducible repeat (first | apply Kd.R_alloc | apply Kd.R_drewN | apply Kd.R_drew)); exact HO_4.out) hb); have n1_ := Aside0.mk (below_step (by repeat (first | (with_reducible first | exact HB.out | apply below_alloc | apply pw_below_drewN | apply below_drew1) | exact HB.out)) hb); clear HO_4; clear HB; have HO_4 := n0_; have HB := n1_; clear n0_ n1_; (try clear hb); (try clear hb2); (try clear hk); (try clear hi))))
          (try simp only [Act.put, List.setIfInBounds_toArray, List.set_cons_zero, List.set_cons_succ])
          go_cut [54] (fun v54 wc => ∃ (kq : Nat) (x54_23 : Bool), v54 = .bool x54_23 ∧ Aside0 (spec_ReadClock.j1 kq t128 t137 x54_23 = some (r1, r2)) ∧ Aside0 (kq ≤ kj2) ∧ Aside0 (Kd.R Kd.string 9 wc w.heap.size (fun _ => True) (.slice (some ad136) t128.length co25) t128) ∧ Aside0 (Below w.heap.size w wc))
          case first =>
            have H := HC24.out
            clear HC24
            by_cases c27 : t138 = true
            · subst c27
              have H1 : ((spec_l00In.f t137 0 20000).bind fun t139 => (spec_ReadClock.j1 kj2 t128 t137 (!t139))) = some (r1, r2) := by rw [if_pos rfl] at H; exact H
              clear H
              have H := H1
              clear H1
              replace H := Option.bind_eq_some_iff.mp H
              obtain ⟨t139, A280, H⟩ := H
              replace H : (spec_ReadClock.j1 kj2 t128 t137 (!t139)) = some (r1, r2) := H
              have A28 := Aside0.mk A280
              clear A280
              have H' := Aside0.mk H
              clear H
              go_wp2_with (first | (go_at_call 19; (with_reducible refine (spec_l00In.calls t137 0 20000 t139 _ A28.out).mono ?_); rintro e w' ⟨rfl, ⟨nd, rfl⟩⟩; (try first | exact ⟨rfl, _, World.drewN_drewN _ _ _⟩ | exact ⟨rfl, _, Eq.trans (World.drewN_drewN _ _ _) (congrArg (World.drewN _) (Nat.add_assoc _ _ _))⟩)))
              repeat (go_quiet (first | (go_at_call 19; (with_reducible refine (spec_l00In.calls t137 0 20000 t139 _ A28.out).mono ?_); rintro e w' ⟨rfl, ⟨nd, rfl⟩⟩; (try first | exact ⟨rfl, _, World.drewN_drewN _ _ _⟩ | exact ⟨rfl, _, Eq.trans (World.drewN_drewN _ _ _) (congrArg (World.drewN _) (Nat.add_assoc _ _ _))⟩))); try go_wp2_with (first | (go_at_call 19; (with_reducible refine (spec_l00In.calls t137 0 20000 t139 _ A28.out).mono ?_); rintro e w' ⟨rfl, ⟨nd, rfl⟩⟩; (try first | exact ⟨rfl, _, World.drewN_drewN _ _ _⟩ | exact ⟨rfl, _, Eq.trans (World.drewN_drewN _ _ _) (congrArg (World.drewN _) (Nat.add_assoc _ _ _))⟩))))
              go_meet
              case rel => exact ⟨_, (!t139), (by first | rfl | (simp; done) | (simp [*]; done)), H', ⟨by have := HJ2.out; first | omega | exact Nat.le_refl _⟩, ⟨by (with_reducible repeat (first | apply Kd.R_alloc | apply Kd.R_drewN | apply Kd.R_drew)); exact HO_4.out⟩, ⟨by repeat (first | (with_reducible first | exact HB.out | apply below_alloc | apply pw_below_drewN | apply below_drew1) | exact HB.out)⟩⟩
            · replace c27 := Bool.eq_false_iff.mpr c27
              subst c27
              have H1 : (spec_ReadClock.j1 kj2 t128 t137 true) = some (r1, r2) := by rw [if_neg (show ¬ (false = true) by decide)] at H; exact H
              clear H
              have H := H1
              clear H1
              have H' := Aside0.mk H
              clear H
              go_wp2
              repeat (go_quiet (fail); try go_wp2)
              go_meet
              case rel => exact ⟨_, (true), (by first | rfl | (simp; done) | (simp [*]; done)), H', ⟨by have := HJ2.out; first | omega | exact Nat.le_refl _⟩, ⟨by (with_reducible repeat (first | apply Kd.R_alloc | apply Kd.R_drewN | apply Kd.R_drew)); exact HO_4.out⟩, ⟨by repeat (first | (with_reducible first | exact HB.out | apply below_alloc | apply pw_below_drewN | apply below_drew1) | exact HB.out)⟩⟩
          case rest =>
            clear HC24
            try clear c1
            try clear p1
            try clear q1
            try clear hx1
            try clear qi1
            try clear c2
            try clear p2
            try clear c5
            try clear c5b0
            try clear c5b1
            try clear c6
            try clear c6b0
            try clear c6b1
            try clear c7
            try clear c7b0
            try clear c7b1
            try clear c8
            try clear c8b0
            try clear c8b1
            try clear p9
            try clear q9
            try clear hx9
            try clear qi9
            try clear c10
            try clear c10b0
            try clear p12
            try clear q12
            try clear hx12
            try clear qi12
            try clear c13
            try clear c13b0
            try clear p13
            try clear q13
            try clear hx13
            try clear qi13
            try clear c15
            try clear c15b0
            try clear c15b1
            try clear p16
            try clear q16
            try clear hx16
            try clear qi16
            try clear c21
            try clear c22
            try clear c22b0
            try clear c22b1
            try clear c27
            try clear hx131_0
            try clear hx132_0
            try clear hx133_0
            try clear hx134_0
            try clear hx136_0
            try clear p1
            try clear p12
            try clear p13
            try clear p131
            try clear p132
            try clear p133
            try clear p134
            try clear p136
            try clear p16
            try clear p2
            try clear p9
            try clear q1
            try clear q12
            try clear q13
            try clear q131
            try clear q132
            try clear q133
            try clear q134
            try clear q136
            try clear q16
            try clear q9
            obtain ⟨kq, x54_23, rfl, HA, HJ23, HO_4, HB⟩ := hcut
            cases kq with
            | zero => exact absurd HA.out (by simp [spec_ReadClock.j1])
            | succ kj23 =>
              have H := HA.out
              clear HA
              simp only [spec_ReadClock.j1] at H
              by_cases c29 : x54_23 = true
              · subst c29
                have H1 : (some (0, false)) = some (r1, r2) := by rw [if_pos rfl] at H; exact H
                clear H
                have H := H1
                clear H1
                simp only [Option.some.injEq, Prod.mk.injEq] at H
                obtain ⟨rfl, rfl⟩ := H
                go_wp2
                repeat (go_quiet (fail); try go_wp2)
                go_ret2
                exact ⟨by first | rfl | (simp [errW_none, errW_some] <;> rfl) | (simp [*, errW_none, errW_some] <;> rfl), by repeat (first | (with_reducible first | exact HB.out | apply below_alloc | apply pw_below_drewN | apply below_drew1) | exact HB.out)⟩
              · replace c29 := Bool.eq_false_iff.mpr c29
                subst c29
                have H1 : (if 1 < (t128.length : Int) then (if 0 < ((rdOf ByteArray.empty t128 1).size : Int) then (if 1 < ((rdOf ByteArray.empty t128 1).size : Int) then (if (wrap64 ((wrap64 ((wrap64 (60 * t137)) + (10 * (((bt (rdOf ByteArray.empty t128 1) 0) - 48) % 256)))) + (((bt (rdOf ByteArray.empty t128 1) 1) - 48) % 256))) > 20000 then (some (0, false)) else (some (wrap64 ((wrap64 ((wrap64 (60 * t137)) + (10 * (((bt (rdOf ByteArray.empty t128 1) 0) - 48) % 256)))) + (((bt (rdOf ByteArray.empty t128 1) 1) - 48) % 256)), true))) else (none)) else (none)) else (none)) = some (r1, r2) := by rw [if_neg (show ¬ (false = true) by decide)] at H; exact H
                clear H
                have H := H1
                clear H1
                by_cases c30 : 1 < (t128.length : Int)
                · rw [if_pos c30] at H
                  have c30b0 : decide (1 < (t128.length : Int)) = true := decide_eq_true c30
                  have c30b1 : decide (1 < t128.length) = true := decide_eq_true (by omega)
                  clear c30
                  by_cases c31 : 0 < ((rdOf ByteArray.empty t128 1).size : Int)
                  · rw [if_pos c31] at H
                    have c31b0 : decide (0 < ((rdOf ByteArray.empty t128 1).size : Int)) = true := decide_eq_true c31
                    have c31b1 : decide (0 < (rdOf ByteArray.empty t128 1).size) = true := decide_eq_true (by omega)
                    clear c31
                    by_cases c33 : 1 < ((rdOf ByteArray.empty t128 1).size : Int)
                    · rw [if_pos c33] at H
                      have c33b0 : decide (1 < ((rdOf ByteArray.empty t128 1).size : Int)) = true := decide_eq_true c33
                      have c33b1 : decide (1 < (rdOf ByteArray.empty t128 1).size) = true := decide_eq_true (by omega)
                      clear c33
                      by_cases c35 : (wrap64 ((wrap64 ((wrap64 (60 * t137)) + (10 * (((bt (rdOf ByteArray.empty t128 1) 0) - 48) % 256)))) + (((bt (rdOf ByteArray.empty t128 1) 1) - 48) % 256))) > 20000
                      · rw [if_pos c35] at H
                        have c35b0 : decide (20000 < (wrap64 ((wrap64 ((wrap64 (60 * t137)) + (10 * (((bt (rdOf ByteArray.empty t128 1) 0) - 48) % 256)))) + (((bt (rdOf ByteArray.empty t128 1) 1) - 48) % 256)))) = true := decide_eq_true c35
                        clear c35
                        simp only [Option.some.injEq, Prod.mk.injEq] at H
                        obtain ⟨rfl, rfl⟩ := H
                        have p140 : 0 ≤ (1 : Int) := (by omega)
                        have q140 : 1 < (t128.length : Int) := of_decide_eq_true (by first | (with_reducible assumption) | assumption)
                        obtain ⟨ad140, e140, hx140_0⟩ := Kd.at_string (Kd.R_reads' HO_4.out).2.2 1 p140 q140
                        obtain rfl : ad136 = ad140 := (by injection e140)
                        (try simp only [show (1 : Int).toNat = 1 from rfl, Nat.reduceMul, Nat.reduceEqDiff, Go.Addr.add, ↓reduceIte] at hx140_0)
                        have qi140 : (1 < t128.length) = True := eq_true (by omega)
                        (try rw [show ((1 : Int)).toNat = 1 from rfl] at hx140_0)
                        replace p140 := eq_true p140
                        replace q140 := eq_true q140
                        have p32 : 0 ≤ (0 : Int) := (by omega)
                        have q32 : 0 < (rdOf ByteArray.empty t128 1).size := (by have : (0 : Int) < ((rdOf ByteArray.empty t128 1).size : Int) := of_decide_eq_true (by first | (with_reducible assumption) | assumption); omega)
                        have hx32 : ∀ h : 0 < (rdOf ByteArray.empty t128 1).size, (((rdOf ByteArray.empty t128 1)[0]'h).toNat : Int) = bt (rdOf ByteArray.empty t128 1) 0 := bt_at (rdOf ByteArray.empty t128 1) 0
                        clear p32
                        have qi32 : (0 < ((rdOf ByteArray.empty t128 1).size : Int)) = True := eq_true (of_decide_eq_true (by first | (with_reducible assumption) | assumption))
                        replace q32 := eq_true q32
                        have p141 : 0 ≤ (1 : Int) := (by omega)
                        have q141 : 1 < (t128.length : Int) := of_decide_eq_true (by first | (with_reducible assumption) | assumption)
                        obtain ⟨ad141, e141, hx141_0⟩ := Kd.at_string (Kd.R_reads' HO_4.out).2.2 1 p141 q141
                        obtain rfl : ad136 = ad141 := (by injection e141)
                        (try simp only [show (1 : Int).toNat = 1 from rfl, Nat.reduceMul, Nat.reduceEqDiff, Go.Addr.add, ↓reduceIte] at hx141_0)
                        have qi141 : (1 < t128.length) = True := eq_true (by omega)
                        (try rw [show ((1 : Int)).toNat = 1 from rfl] at hx141_0)
                        replace p141 := eq_true p141
                        replace q141 := eq_true q141
                        have p34 : 0 ≤ (1 : Int) := (by omega)
                        have q34 : 1 < (rdOf ByteArray.empty t128 1).size := (by have : (1 : Int) < ((rdOf ByteArray.empty t128 1).size : Int) := of_decide_eq_true (by first | (with_reducible assumption) | assumption); omega)
                        have hx34 : ∀ h : 1 < (rdOf ByteArray.empty t128 1).size, (((rdOf ByteArray.empty t128 1)[1]'h).toNat : Int) = bt (rdOf ByteArray.empty t128 1) 1 := bt_at (rdOf ByteArray.empty t128 1) 1
                        clear p34
                        have qi34 : (1 < ((rdOf ByteArray.empty t128 1).size : Int)) = True := eq_true (of_decide_eq_true (by first | (with_reducible assumption) | assumption))
                        replace q34 := eq_true q34
                        go_wp2
                        repeat (go_quiet (fail); try go_wp2)
                        go_ret2
                        exact ⟨by first | rfl | (simp [errW_none, errW_some] <;> rfl) | (simp [*, errW_none, errW_some] <;> rfl), by repeat (first | (with_reducible first | exact HB.out | apply below_alloc | apply pw_below_drewN | apply below_drew1) | exact HB.out)⟩
                      · rw [if_neg c35] at H
                        have c35b0 : decide (20000 < (wrap64 ((wrap64 ((wrap64 (60 * t137)) + (10 * (((bt (rdOf ByteArray.empty t128 1) 0) - 48) % 256)))) + (((bt (rdOf ByteArray.empty t128 1) 1) - 48) % 256)))) = false := decide_eq_false c35
                        clear c35
                        simp only [Option.some.injEq, Prod.mk.injEq] at H
                        obtain ⟨rfl, rfl⟩ := H
                        have p140 : 0 ≤ (1 : Int) := (by omega)
                        have q140 : 1 < (t128.length : Int) := of_decide_eq_true (by first | (with_reducible assumption) | assumption)
                        obtain ⟨ad140, e140, hx140_0⟩ := Kd.at_string (Kd.R_reads' HO_4.out).2.2 1 p140 q140
                        obtain rfl : ad136 = ad140 := (by injection e140)
                        (try simp only [show (1 : Int).toNat = 1 from rfl, Nat.reduceMul, Nat.reduceEqDiff, Go.Addr.add, ↓reduceIte] at hx140_0)
                        have qi140 : (1 < t128.length) = True := eq_true (by omega)
                        (try rw [show ((1 : Int)).toNat = 1 from rfl] at hx140_0)
                        replace p140 := eq_true p140
                        replace q140 := eq_true q140
                        have p32 : 0 ≤ (0 : Int) := (by omega)
                        have q32 : 0 < (rdOf ByteArray.empty t128 1).size := (by have : (0 : Int) < ((rdOf ByteArray.empty t128 1).size : Int) := of_decide_eq_true (by first | (with_reducible assumption) | assumption); omega)
                        have hx32 : ∀ h : 0 < (rdOf ByteArray.empty t128 1).size, (((rdOf ByteArray.empty t128 1)[0]'h).toNat : Int) = bt (rdOf ByteArray.empty t128 1) 0 := bt_at (rdOf ByteArray.empty t128 1) 0
                        clear p32
                        have qi32 : (0 < ((rdOf ByteArray.empty t128 1).size : Int)) = True := eq_true (of_decide_eq_true (by first | (with_reducible assumption) | assumption))
                        replace q32 := eq_true q32
                        have p141 : 0 ≤ (1 : Int) := (by omega)
                        have q141 : 1 < (t128.length : Int) := of_decide_eq_true (by first | (with_reducible assumption) | assumption)
                        obtain ⟨ad141, e141, hx141_0⟩ := Kd.at_string (Kd.R_reads' HO_4.out).2.2 1 p141 q141
                        obtain rfl : ad136 = ad141 := (by injection e141)
                        (try simp only [show (1 : Int).toNat = 1 from rfl, Nat.reduceMul, Nat.reduceEqDiff, Go.Addr.add, ↓reduceIte] at hx141_0)
                        have qi141 : (1 < t128.length) = True := eq_true (by omega)
                        (try rw [show ((1 : Int)).toNat = 1 from rfl] at hx141_0)
                        replace p141 := eq_true p141
                        replace q141 := eq_true q141
                        have p34 : 0 ≤ (1 : Int) := (by omega)
                        have q34 : 1 < (rdOf ByteArray.empty t128 1).size := (by have : (1 : Int) < ((rdOf ByteArray.empty t128 1).size : Int) := of_decide_eq_true (by first | (with_reducible assumption) | assumption); omega)
                        have hx34 : ∀ h : 1 < (rdOf ByteArray.empty t128 1).size, (((rdOf ByteArray.empty t128 1)[1]'h).toNat : Int) = bt (rdOf ByteArray.empty t128 1) 1 := bt_at (rdOf ByteArray.empty t128 1) 1
                        clear p34
                        have qi34 : (1 < ((rdOf ByteArray.empty t128 1).size : Int)) = True := eq_true (of_decide_eq_true (by first | (with_reducible assumption) | assumption))
                        replace q34 := eq_true q34
                        go_wp2
                        repeat (go_quiet (fail); try go_wp2)
                        go_ret2
                        exact ⟨by first | rfl | (simp [errW_none, errW_some] <;> rfl) | (simp [*, errW_none, errW_some] <;> rfl), by repeat (first | (with_reducible first | exact HB.out | apply below_alloc | apply pw_below_drewN | apply below_drew1) | exact HB.out)⟩
                    · rw [if_neg c33] at H
                      exact absurd H (by simp)
                  · rw [if_neg c31] at H
                    exact absurd H (by simp)
                · rw [if_neg c30] at H
                  exact absurd H (by simp)
        · rw [if_neg c22] at H
          exact absurd H (by simp)

/-! ### impl_within: function 21 -/
def impl_within.f (a0 : Int) (a1 : Int) (a2 : Int) : Option (Bool) := if a0 ≥ a1 then (some (decide (a0 ≤ a2))) else (some false)
set_option maxHeartbeats 8000000 in
set_option maxRecDepth 100000 in
theorem impl_within.calls (a0 : Int) (a1 : Int) (a2 : Int) (r : Bool) (w : World) (h : impl_within.f a0 a1 a2 = some r) :
    Calls Tryd.prog 21 #[.int .i64 a0, .int .i64 a1, .int .i64 a2] w fun e w' => e = .returned (.bool r) ∧ Drawn0 w w' := by
  have H : (if a0 ≥ a1 then (some (decide (a0 ≤ a2))) else (some false)) = some r := h
  clear h
  by_cases c4 : a0 ≥ a1
  · rw [if_pos c4] at H
    have c4b0 : decide (a1 ≤ a0) = true := decide_eq_true c4
    clear c4
    obtain rfl := Option.some.inj H
    go_enter Tryd.func21, Tryd.ntmps21
    go_wp2
    go_ret
    exact ⟨by first | rfl | (simp; done) | (simp [*]; done), by repeat (first | exact Drawn0.refl _ | apply Drawn0.step)⟩
  · rw [if_neg c4] at H
    have c4b0 : decide (a1 ≤ a0) = false := decide_eq_false c4
    clear c4
    obtain rfl := Option.some.inj H
    go_enter Tryd.func21, Tryd.ntmps21
    go_wp2
    go_ret
    exact ⟨by first | rfl | (simp; done) | (simp [*]; done), by repeat (first | exact Drawn0.refl _ | apply Drawn0.step)⟩

-- NOT PRINTED: function 52 (strconv_small)

-- NOT PRINTED: function 61 (strconv_log10Pow2)

-- NOT PRINTED: function 62 (bits_Len64)

-- NOT PRINTED: function 63 (strconv_bool2_int)

-- NOT PRINTED: function 53 (strconv_numDigits)

-- NOT PRINTED: function 54 (strconv_formatBase10)

-- NOT PRINTED: function 64 (strconv_isPowerOfTwo)

-- NOT PRINTED: function 68 (bits_TrailingZeros32)

-- NOT PRINTED: function 69 (bits_TrailingZeros64)

-- NOT PRINTED: function 65 (bits_TrailingZeros)

-- NOT PRINTED: function 55 (strconv_formatBits)

-- NOT PRINTED: function 45 (strconv_FormatInt_45)

/-! ### strconv_FormatInt: function 37, by hand -/
section
open Go.Proofs.YtnmfndfldhgaeaaDoor.Base
def strconv_FormatInt.f (a0 : Int) (a1 : Int) : Option ByteArray := if a1 = 10 ∧ -9223372036854775808 ≤ a0 ∧ a0 ≤ 9223372036854775807 then some ⟨(Lib.itoa a0).toArray⟩ else none
theorem strconv_FormatInt.calls (a0 : Int) (a1 : Int) (r : ByteArray) (w : World) (h : strconv_FormatInt.f a0 a1 = some r) (hT : Go.Proofs.YtnmfndfldhgaeaaDoor.Base.Tb2 w) :
    Calls Tryd.prog 37 #[.int .i64 a0, .int .i64 a1] w fun e w' => e = .returned (.string r) ∧ Below w.heap.size w w' := by
  unfold strconv_FormatInt.f at h
  split at h
  · rename_i hc
    obtain ⟨rfl, h0, h1⟩ := hc
    obtain rfl := Option.some.inj h
    refine (Tryd.strconv_FormatInt_10 a0 h0 h1 w hT.tab).mono fun e w' ⟨he, k, os, hw⟩ => ⟨he, ?_⟩
    rw [hw]
    exact Lib.below_grow _ w (Nat.le_refl _) k os
  · cases h
end


/-! ### impl_Decimal: function 22 -/
def impl_Decimal.f (a0 : Int) : Option (ByteArray) := (strconv_FormatInt.f a0 10).bind fun t142 => (some t142)
set_option maxHeartbeats 8000000 in
set_option maxRecDepth 100000 in
theorem impl_Decimal.calls (a0 : Int) (r : ByteArray) (w : World) (h : impl_Decimal.f a0 = some r) (hT : Go.Proofs.YtnmfndfldhgaeaaDoor.Base.Tb2 w) :
    Calls Tryd.prog 22 #[.int .i64 a0] w fun e w' => e = .returned (.string r) ∧ Below w.heap.size w w' := by
  have HTB := Aside0.mk hT
  clear hT
  have HB := Aside0.mk (Below.refl w.heap.size w)
  have H : ((strconv_FormatInt.f a0 10).bind fun t142 => (some t142)) = some r := h
  clear h
  replace H := Option.bind_eq_some_iff.mp H
  obtain ⟨t142, A20, H⟩ := H
  replace H : (some t142) = some r := H
  have A2 := Aside0.mk A20
  clear A20
  obtain rfl := Option.some.inj H
  go_enter Tryd.func22, Tryd.ntmps22
  go_wp2_with (first | ((with_reducible refine gate_callee (f := 37) rfl ?_); refine goesL_ (some 4) rfl rfl Tryd.func37 (by kernel_rfl) rfl #[.int .i64 a0, .int .i64 10] rfl (by (try simp only [List.map_toArray, List.map_cons, List.map_nil]); first | done | rfl | (simp only [List.length_drop, List.length_take]; rfl) | (simp only [ByteArray.size_append, Int.natCast_add]; rfl)) ?_; (with_reducible refine (strconv_FormatInt.calls a0 10 t142 _ A2.out ?side1).mono ?_); (case side1 => exact HTB.out.below (by repeat (first | (with_reducible first | exact HB.out | apply below_alloc | apply pw_below_drewN | apply below_drew1) | exact HB.out))); rintro e w3 ⟨rfl, hb⟩; refine ⟨_, rfl, ?_⟩; have n0_ := Aside0.mk (below_step (by repeat (first | (with_reducible first | exact HB.out | apply below_alloc | apply pw_below_drewN | apply below_drew1) | exact HB.out)) hb); clear HB; have HB := n0_; clear n0_; (try clear hb); (try clear hb2); (try clear hk); (try clear hi)))
  go_ret
  exact ⟨by first | rfl | (simp [errW_none, errW_some] <;> rfl) | (simp [*, errW_none, errW_some] <;> rfl), by repeat (first | (with_reducible first | exact HB.out | apply below_alloc | apply pw_below_drewN | apply below_drew1) | exact HB.out)⟩

/-! ### impl_twoDigits: function 23 -/
def impl_twoDigits.f (a0 : Int) : Option (ByteArray) := (impl_Decimal.f (wrap64 (Int.tdiv a0 10))).bind fun t143 => ((impl_Decimal.f (Int.tmod a0 10)).bind fun t144 => (if t143.size + t144.size ≤ 9223372036854775807 then (some (t143 ++ t144)) else (none)))
set_option maxHeartbeats 8000000 in
set_option maxRecDepth 100000 in
theorem impl_twoDigits.calls (a0 : Int) (r : ByteArray) (w : World) (h : impl_twoDigits.f a0 = some r) (hT : Go.Proofs.YtnmfndfldhgaeaaDoor.Base.Tb2 w) :
    Calls Tryd.prog 23 #[.int .i64 a0] w fun e w' => e = .returned (.string r) ∧ Below w.heap.size w w' := by
  have HTB := Aside0.mk hT
  clear hT
  have HB := Aside0.mk (Below.refl w.heap.size w)
  have H : ((impl_Decimal.f (wrap64 (Int.tdiv a0 10))).bind fun t143 => ((impl_Decimal.f (Int.tmod a0 10)).bind fun t144 => (if t143.size + t144.size ≤ 9223372036854775807 then (some (t143 ++ t144)) else (none)))) = some r := h
  clear h
  replace H := Option.bind_eq_some_iff.mp H
  obtain ⟨t143, A20, H⟩ := H
  replace H : ((impl_Decimal.f (Int.tmod a0 10)).bind fun t144 => (if t143.size + t144.size ≤ 9223372036854775807 then (some (t143 ++ t144)) else (none))) = some r := H
  have A2 := Aside0.mk A20
  clear A20
  replace H := Option.bind_eq_some_iff.mp H
  obtain ⟨t144, A30, H⟩ := H
  replace H : (if t143.size + t144.size ≤ 9223372036854775807 then (some (t143 ++ t144)) else (none)) = some r := H
  have A3 := Aside0.mk A30
  clear A30
  by_cases c4 : t143.size + t144.size ≤ 9223372036854775807
  · rw [if_pos c4] at H
    have c4b0 := eq_true c4
    have c4b1 : decide (t143.size + t144.size ≤ 9223372036854775807) = true := decide_eq_true c4
    try have c4b2 : (9223372036854775807 < t143.size + t144.size) = False := eq_false (Nat.not_lt.2 c4)
    obtain rfl := Option.some.inj H
    go_enter Tryd.func23, Tryd.ntmps23
    go_wp2_with (first | ((with_reducible refine gate_callee (f := 22) rfl ?_); refine goesL_ (some 5) rfl rfl Tryd.func22 (by kernel_rfl) rfl #[.int .i64 (wrap64 (Int.tdiv a0 10))] rfl (by (try simp only [List.map_toArray, List.map_cons, List.map_nil]); first | done | rfl | (simp only [List.length_drop, List.length_take]; rfl) | (simp only [ByteArray.size_append, Int.natCast_add]; rfl)) ?_; (with_reducible refine (impl_Decimal.calls (wrap64 (Int.tdiv a0 10)) t143 _ A2.out ?side1).mono ?_); (case side1 => exact HTB.out.below (by repeat (first | (with_reducible first | exact HB.out | apply below_alloc | apply pw_below_drewN | apply below_drew1) | exact HB.out))); rintro e w5 ⟨rfl, hb⟩; refine ⟨_, rfl, ?_⟩; have n0_ := Aside0.mk (below_step (by repeat (first | (with_reducible first | exact HB.out | apply below_alloc | apply pw_below_drewN | apply below_drew1) | exact HB.out)) hb); clear HB; have HB := n0_; clear n0_; (try clear hb); (try clear hb2); (try clear hk); (try clear hi)) | ((with_reducible refine gate_callee (f := 22) rfl ?_); refine goesL_ (some 8) rfl rfl Tryd.func22 (by kernel_rfl) rfl #[.int .i64 (Int.tmod a0 10)] rfl (by (try simp only [List.map_toArray, List.map_cons, List.map_nil]); first | done | rfl | (simp only [List.length_drop, List.length_take]; rfl) | (simp only [ByteArray.size_append, Int.natCast_add]; rfl)) ?_; (with_reducible refine (impl_Decimal.calls (Int.tmod a0 10) t144 _ A3.out ?side1).mono ?_); (case side1 => exact HTB.out.below (by repeat (first | (with_reducible first | exact HB.out | apply below_alloc | apply pw_below_drewN | apply below_drew1) | exact HB.out))); rintro e w6 ⟨rfl, hb⟩; refine ⟨_, rfl, ?_⟩; have n0_ := Aside0.mk (below_step (by repeat (first | (with_reducible first | exact HB.out | apply below_alloc | apply pw_below_drewN | apply below_drew1) | exact HB.out)) hb); clear HB; have HB := n0_; clear n0_; (try clear hb); (try clear hb2); (try clear hk); (try clear hi)))
    go_ret
    exact ⟨by first | rfl | (simp [errW_none, errW_some] <;> rfl) | (simp [*, errW_none, errW_some] <;> rfl), by repeat (first | (with_reducible first | exact HB.out | apply below_alloc | apply pw_below_drewN | apply below_drew1) | exact HB.out)⟩
  · rw [if_neg c4] at H
    exact absurd H (by simp)

/-! ### impl_ClockText: function 7 -/
def impl_ClockText.f (a0 : Int) : Option (ByteArray) := (impl_within.f a0 0 20000).bind fun t145 => (if t145 = true then ((impl_Decimal.f (wrap64 (Int.tdiv a0 60))).bind fun t146 => (if t146.size + 1 ≤ 9223372036854775807 then ((impl_twoDigits.f (Int.tmod a0 60)).bind fun t147 => (if (t146 ++ (⟨#[58]⟩ : ByteArray)).size + t147.size ≤ 9223372036854775807 then (some ((t146 ++ (⟨#[58]⟩ : ByteArray)) ++ t147)) else (none))) else (none))) else (some (⟨#[]⟩ : ByteArray)))
set_option maxHeartbeats 8000000 in
set_option maxRecDepth 100000 in
theorem impl_ClockText.calls (a0 : Int) (r : ByteArray) (w : World) (h : impl_ClockText.f a0 = some r) (hT : Go.Proofs.YtnmfndfldhgaeaaDoor.Base.Tb2 w) :
    Calls Tryd.prog 7 #[.int .i64 a0] w fun e w' => e = .returned (.string r) ∧ Below w.heap.size w w' := by
  have HTB := Aside0.mk hT
  clear hT
  have HB := Aside0.mk (Below.refl w.heap.size w)
  have H : ((impl_within.f a0 0 20000).bind fun t145 => (if t145 = true then ((impl_Decimal.f (wrap64 (Int.tdiv a0 60))).bind fun t146 => (if t146.size + 1 ≤ 9223372036854775807 then ((impl_twoDigits.f (Int.tmod a0 60)).bind fun t147 => (if (t146 ++ (⟨#[58]⟩ : ByteArray)).size + t147.size ≤ 9223372036854775807 then (some ((t146 ++ (⟨#[58]⟩ : ByteArray)) ++ t147)) else (none))) else (none))) else (some (⟨#[]⟩ : ByteArray)))) = some r := h
  clear h
  replace H := Option.bind_eq_some_iff.mp H
  obtain ⟨t145, A20, H⟩ := H
  replace H : (if t145 = true then ((impl_Decimal.f (wrap64 (Int.tdiv a0 60))).bind fun t146 => (if t146.size + 1 ≤ 9223372036854775807 then ((impl_twoDigits.f (Int.tmod a0 60)).bind fun t147 => (if (t146 ++ (⟨#[58]⟩ : ByteArray)).size + t147.size ≤ 9223372036854775807 then (some ((t146 ++ (⟨#[58]⟩ : ByteArray)) ++ t147)) else (none))) else (none))) else (some (⟨#[]⟩ : ByteArray))) = some r := H
  have A2 := Aside0.mk A20
  clear A20
  by_cases c3 : t145 = true
  · subst c3
    have H1 : ((impl_Decimal.f (wrap64 (Int.tdiv a0 60))).bind fun t146 => (if t146.size + 1 ≤ 9223372036854775807 then ((impl_twoDigits.f (Int.tmod a0 60)).bind fun t147 => (if (t146 ++ (⟨#[58]⟩ : ByteArray)).size + t147.size ≤ 9223372036854775807 then (some ((t146 ++ (⟨#[58]⟩ : ByteArray)) ++ t147)) else (none))) else (none))) = some r := by rw [if_pos rfl] at H; exact H
    clear H
    have H := H1
    clear H1
    replace H := Option.bind_eq_some_iff.mp H
    obtain ⟨t146, A40, H⟩ := H
    replace H : (if t146.size + 1 ≤ 9223372036854775807 then ((impl_twoDigits.f (Int.tmod a0 60)).bind fun t147 => (if (t146 ++ (⟨#[58]⟩ : ByteArray)).size + t147.size ≤ 9223372036854775807 then (some ((t146 ++ (⟨#[58]⟩ : ByteArray)) ++ t147)) else (none))) else (none)) = some r := H
    have A4 := Aside0.mk A40
    clear A40
    by_cases c5 : t146.size + 1 ≤ 9223372036854775807
    · rw [if_pos c5] at H
      have c5b0 := eq_true c5
      have c5b1 : decide (t146.size + 1 ≤ 9223372036854775807) = true := decide_eq_true c5
      try have c5b2 : (9223372036854775807 < t146.size + 1) = False := eq_false (Nat.not_lt.2 c5)
      replace H := Option.bind_eq_some_iff.mp H
      obtain ⟨t147, A60, H⟩ := H
      replace H : (if (t146 ++ (⟨#[58]⟩ : ByteArray)).size + t147.size ≤ 9223372036854775807 then (some ((t146 ++ (⟨#[58]⟩ : ByteArray)) ++ t147)) else (none)) = some r := H
      have A6 := Aside0.mk A60
      clear A60
      by_cases c7 : (t146 ++ (⟨#[58]⟩ : ByteArray)).size + t147.size ≤ 9223372036854775807
      · rw [if_pos c7] at H
        have c7b0 := eq_true c7
        have c7b1 : decide ((t146 ++ (⟨#[58]⟩ : ByteArray)).size + t147.size ≤ 9223372036854775807) = true := decide_eq_true c7
        try have c7b2 : (9223372036854775807 < (t146 ++ (⟨#[58]⟩ : ByteArray)).size + t147.size) = False := eq_false (Nat.not_lt.2 c7)
        try (have c7b3 := c7b2; simp only [ByteArray.size_append, show (⟨#[58]⟩ : ByteArray).size = 1 from rfl] at c7b3)
        obtain rfl := Option.some.inj H
        go_enter Tryd.func7, Tryd.ntmps7
        go_wp2_with (first | ((with_reducible refine gate_callee (f := 21) rfl ?_); refine goesL_ (some 4) rfl rfl Tryd.func21 (by kernel_rfl) rfl #[.int .i64 a0, .int .i64 0, .int .i64 20000] rfl (by (try simp only [List.map_toArray, List.map_cons, List.map_nil]); first | done | rfl | (simp only [List.length_drop, List.length_take]; rfl) | (simp only [ByteArray.size_append, Int.natCast_add]; rfl)) ?_; (with_reducible refine (impl_within.calls a0 0 20000 true _ A2.out).mono ?_); rintro e w' ⟨rfl, ⟨nd, rfl⟩⟩; refine ⟨_, rfl, ?_⟩) | ((with_reducible refine gate_callee (f := 22) rfl ?_); refine goesL_ (some 8) rfl rfl Tryd.func22 (by kernel_rfl) rfl #[.int .i64 (wrap64 (Int.tdiv a0 60))] rfl (by (try simp only [List.map_toArray, List.map_cons, List.map_nil]); first | done | rfl | (simp only [List.length_drop, List.length_take]; rfl) | (simp only [ByteArray.size_append, Int.natCast_add]; rfl)) ?_; (with_reducible refine (impl_Decimal.calls (wrap64 (Int.tdiv a0 60)) t146 _ A4.out ?side1).mono ?_); (case side1 => exact HTB.out.below (by repeat (first | (with_reducible first | exact HB.out | apply below_alloc | apply pw_below_drewN | apply below_drew1) | exact HB.out))); rintro e w8 ⟨rfl, hb⟩; refine ⟨_, rfl, ?_⟩; have n0_ := Aside0.mk (below_step (by repeat (first | (with_reducible first | exact HB.out | apply below_alloc | apply pw_below_drewN | apply below_drew1) | exact HB.out)) hb); clear HB; have HB := n0_; clear n0_; (try clear hb); (try clear hb2); (try clear hk); (try clear hi)) | ((with_reducible refine gate_callee (f := 23) rfl ?_); refine goesL_ (some 12) rfl rfl Tryd.func23 (by kernel_rfl) rfl #[.int .i64 (Int.tmod a0 60)] rfl (by (try simp only [List.map_toArray, List.map_cons, List.map_nil]); first | done | rfl | (simp only [List.length_drop, List.length_take]; rfl) | (simp only [ByteArray.size_append, Int.natCast_add]; rfl)) ?_; (with_reducible refine (impl_twoDigits.calls (Int.tmod a0 60) t147 _ A6.out ?side1).mono ?_); (case side1 => exact HTB.out.below (by repeat (first | (with_reducible first | exact HB.out | apply below_alloc | apply pw_below_drewN | apply below_drew1) | exact HB.out))); rintro e w9 ⟨rfl, hb⟩; refine ⟨_, rfl, ?_⟩; have n0_ := Aside0.mk (below_step (by repeat (first | (with_reducible first | exact HB.out | apply below_alloc | apply pw_below_drewN | apply below_drew1) | exact HB.out)) hb); clear HB; have HB := n0_; clear n0_; (try clear hb); (try clear hb2); (try clear hk); (try clear hi)))
        go_ret
        exact ⟨by first | rfl | (simp [errW_none, errW_some] <;> rfl) | (simp [*, errW_none, errW_some] <;> rfl), by repeat (first | (with_reducible first | exact HB.out | apply below_alloc | apply pw_below_drewN | apply below_drew1) | exact HB.out)⟩
      · rw [if_neg c7] at H
        exact absurd H (by simp)
    · rw [if_neg c5] at H
      exact absurd H (by simp)
  · replace c3 := Bool.eq_false_iff.mpr c3
    subst c3
    have H1 : (some (⟨#[]⟩ : ByteArray)) = some r := by rw [if_neg (show ¬ (false = true) by decide)] at H; exact H
    clear H
    have H := H1
    clear H1
    obtain rfl := Option.some.inj H
    go_enter Tryd.func7, Tryd.ntmps7
    go_wp2_with (first | ((with_reducible refine gate_callee (f := 21) rfl ?_); refine goesL_ (some 4) rfl rfl Tryd.func21 (by kernel_rfl) rfl #[.int .i64 a0, .int .i64 0, .int .i64 20000] rfl (by (try simp only [List.map_toArray, List.map_cons, List.map_nil]); first | done | rfl | (simp only [List.length_drop, List.length_take]; rfl) | (simp only [ByteArray.size_append, Int.natCast_add]; rfl)) ?_; (with_reducible refine (impl_within.calls a0 0 20000 false _ A2.out).mono ?_); rintro e w' ⟨rfl, ⟨nd, rfl⟩⟩; refine ⟨_, rfl, ?_⟩))
    go_ret
    exact ⟨by first | rfl | (simp [errW_none, errW_some] <;> rfl) | (simp [*, errW_none, errW_some] <;> rfl), by repeat (first | (with_reducible first | exact HB.out | apply below_alloc | apply pw_below_drewN | apply below_drew1) | exact HB.out)⟩

-- NOT PRINTED: function 66 (bytealg_IndexByteString)

-- NOT PRINTED: function 56 (stringslite_IndexByte)

-- NOT PRINTED: function 57 (bytealg_IndexString)

-- NOT PRINTED: function 58 (bytealg_Cutover)

-- NOT PRINTED: function 67 (bytealg_hashStr_string)

-- NOT PRINTED: function 59 (bytealg_IndexRabinKarp_string)

-- NOT PRINTED: function 46 (stringslite_Index)

-- NOT PRINTED: function 38 (stringslite_Cut)

/-! ### strings_Cut: function 27, by hand -/
section
open Go.Proofs.YtnmfndfldhgaeaaDoor.Base
def strings_Cut.f (a0 : ByteArray) (a1 : ByteArray) : Option (ByteArray × ByteArray × Bool) := if a0.size < 4294967281 then some (⟨(Lib.cut a0.data.toList a1.data.toList).1.toArray⟩, ⟨(Lib.cut a0.data.toList a1.data.toList).2.1.toArray⟩, (Lib.cut a0.data.toList a1.data.toList).2.2) else none
theorem strings_Cut.calls (a0 : ByteArray) (a1 : ByteArray) (r1 : ByteArray) (r2 : ByteArray) (r3 : Bool) (w : World) (h : strings_Cut.f a0 a1 = some (r1, r2, r3)) (hT : Go.Proofs.YtnmfndfldhgaeaaDoor.Base.Tb2 w) :
    Calls Tryd.prog 27 #[.string a0, .string a1] w fun e w' => e = .returned (.tuple #[.string r1, .string r2, .bool r3]) ∧ Below w.heap.size w w' := by
  unfold strings_Cut.f at h
  split at h
  · rename_i hc
    simp only [Option.some.injEq, Prod.mk.injEq] at h
    obtain ⟨rfl, rfl, rfl⟩ := h
    obtain ⟨m, hm⟩ := hT.max
    refine (Tryd.strings_Cut a0 a1 m w hc hm).mono fun e w' ⟨he, n, hw⟩ => ⟨he, ?_⟩
    rw [hw]
    exact pw_below_drewN (Below.refl _ _) n
  · cases h
end


end Go.Proofs.YtnmfndfldhgaeaaDoor.QFnExactReadClock
