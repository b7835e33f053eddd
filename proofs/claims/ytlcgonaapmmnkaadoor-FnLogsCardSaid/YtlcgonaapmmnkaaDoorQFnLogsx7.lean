import Derived.Test.YtlcgonaapmmnkaaDoorSq
import Derived.Test.YtlcgonaapmmnkaaDoorQFnLogsx0
import Derived.Test.YtlcgonaapmmnkaaDoorQFnLogsx3
import Derived.Test.YtlcgonaapmmnkaaDoorQFnLogsx4
namespace Go.Proofs.YtlcgonaapmmnkaaDoor.QFnLogs
open Sq (fl pu_ gl_ b20_ b21_ b30_ b31_ b32_ od_ rr_ be_)
open Base (bwl_ bst_ bsz_ bkb_ nbl_ nbr_ kbl_ bkm_)
open Go.RowKit Go.Proofs.YtlcgonaapmmnkaaDoorW.PrintWords Go.Proofs.YtlcgonaapmmnkaaDoorW.PrintLast Go.Proofs.YtlcgonaapmmnkaaDoorW.PrintMore
attribute [local go_sem] max2_int min2_int max_two min_two max_three min_three max_four min_four
set_option linter.unusedVariables false
set_option linter.unusedSimpArgs false
mutual
def spec_l01Number.j0 : Nat → ByteArray → ByteArray → Bool → Option (Int × Bool)
 | 0, _, _, _ => none
 | k + 1, x0, x4, x14 => if x14 = true then (if 1 ≤ (x4.size : Int) then (spec_l01Number.j1 k x0 (x4.extract 1 x4.size)) else (none)) else (spec_l01Number.j1 k x0 x4)
def spec_l01Number.j1 : Nat → ByteArray → ByteArray → Option (Int × Bool)
 | 0, _, _ => none
 | k + 1, x0, x4 => if (x4.size : Int) < 1 then (spec_l01Number.j2 k x0 x4 true) else (spec_l01Number.j2 k x0 x4 (decide ((x4.size : Int) > 18)))
def spec_l01Number.j2 : Nat → ByteArray → ByteArray → Bool → Option (Int × Bool)
 | 0, _, _, _ => none
 | k + 1, x0, x4, x24 => if x24 = true then (some (0, false)) else (spec_l01Number.l0 k x0 x4 0 0)
def spec_l01Number.l0 : Nat → ByteArray → ByteArray → Int → Int → Option (Int × Bool)
 | 0, _, _, _, _ => none
 | k + 1, x0, x4, x5, x6 => if x6 < (x4.size : Int) then (if 0 ≤ x6 then ((spec_l01Digit.f (bt x4 x6)).bind fun t132 => (if t132 = true then (spec_l01Number.l0 k x0 x4 (wrap64 ((wrap64 (10 * x5)) + (((bt x4 x6) - 48) % 256))) (wrap64 (x6 + 1))) else (some (0, false)))) else (none)) else (if (x4.size : Int) < (x0.size : Int) then ((spec_l01Dec.f k (wrap64 (-x5))).bind fun t133 => (if t133.toList = x0.toList then (some (wrap64 (-x5), true)) else (some (0, false)))) else ((spec_l01Dec.f k x5).bind fun t134 => (if t134.toList = x0.toList then (some (x5, true)) else (some (0, false)))))
end
def spec_l01Number.f (k : Nat) (a0 : ByteArray) : Option (Int × Bool) := if a0.toList = ([] : List UInt8) then (spec_l01Number.j0 k a0 a0 false) else (if 0 < (a0.size : Int) then (spec_l01Number.j0 k a0 a0 ((bt a0 0) == 45)) else (none))
theorem spec_l01Number.mono_l : ∀ k, (∀ y0 y1 y2, LeO (spec_l01Number.j0 k y0 y1 y2) (spec_l01Number.j0 (k + 1) y0 y1 y2)) ∧ (∀ y0 y1, LeO (spec_l01Number.j1 k y0 y1) (spec_l01Number.j1 (k + 1) y0 y1)) ∧ (∀ y0 y1 y2, LeO (spec_l01Number.j2 k y0 y1 y2) (spec_l01Number.j2 (k + 1) y0 y1 y2)) ∧ (∀ y0 y1 y2 y3, LeO (spec_l01Number.l0 k y0 y1 y2 y3) (spec_l01Number.l0 (k + 1) y0 y1 y2 y3))
 | 0 => ⟨fun _ _ _ r h => by simp [spec_l01Number.j0] at h, fun _ _ r h => by simp [spec_l01Number.j1] at h, fun _ _ _ r h => by simp [spec_l01Number.j2] at h, fun _ _ _ _ r h => by simp [spec_l01Number.l0] at h⟩
 | k + 1 => by
  obtain ⟨ih0, ih1, ih2, ih3⟩ := spec_l01Number.mono_l k
  refine ⟨?_, ?_, ?_, ?_⟩
  ·intro y0 y1 y2
   unfold spec_l01Number.j0
   repeat' first
   | (with_reducible exact ih0 _ _ _)
   | (with_reducible exact ih1 _ _)
   | (with_reducible exact ih2 _ _ _)
   | (with_reducible exact ih3 _ _ _ _)
   | (with_reducible exact spec_l01Dec.mono _ _)
   | (with_reducible exact LeO.refl _)
   | (with_reducible exact LeO.none _)
   | (with_reducible refine LeO.ite ?_ ?_)
   | (with_reducible refine LeO.bind ?_ (fun _ => ?_))
   | exact ih0 _ _ _
   | exact ih1 _ _
   | exact ih2 _ _ _
   | exact ih3 _ _ _ _
   | exact spec_l01Dec.mono _ _
   | exact LeO.none _
   | refine LeO.ite ?_ ?_
   | refine LeO.bind ?_ (fun _ => ?_)
  ·intro y0 y1
   unfold spec_l01Number.j1
   repeat' first
   | (with_reducible exact ih0 _ _ _)
   | (with_reducible exact ih1 _ _)
   | (with_reducible exact ih2 _ _ _)
   | (with_reducible exact ih3 _ _ _ _)
   | (with_reducible exact spec_l01Dec.mono _ _)
   | (with_reducible exact LeO.refl _)
   | (with_reducible exact LeO.none _)
   | (with_reducible refine LeO.ite ?_ ?_)
   | (with_reducible refine LeO.bind ?_ (fun _ => ?_))
   | exact ih0 _ _ _
   | exact ih1 _ _
   | exact ih2 _ _ _
   | exact ih3 _ _ _ _
   | exact spec_l01Dec.mono _ _
   | exact LeO.none _
   | refine LeO.ite ?_ ?_
   | refine LeO.bind ?_ (fun _ => ?_)
  ·intro y0 y1 y2
   unfold spec_l01Number.j2
   repeat' first
   | (with_reducible exact ih0 _ _ _)
   | (with_reducible exact ih1 _ _)
   | (with_reducible exact ih2 _ _ _)
   | (with_reducible exact ih3 _ _ _ _)
   | (with_reducible exact spec_l01Dec.mono _ _)
   | (with_reducible exact LeO.refl _)
   | (with_reducible exact LeO.none _)
   | (with_reducible refine LeO.ite ?_ ?_)
   | (with_reducible refine LeO.bind ?_ (fun _ => ?_))
   | exact ih0 _ _ _
   | exact ih1 _ _
   | exact ih2 _ _ _
   | exact ih3 _ _ _ _
   | exact spec_l01Dec.mono _ _
   | exact LeO.none _
   | refine LeO.ite ?_ ?_
   | refine LeO.bind ?_ (fun _ => ?_)
  ·intro y0 y1 y2 y3
   unfold spec_l01Number.l0
   repeat' first
   | (with_reducible exact ih0 _ _ _)
   | (with_reducible exact ih1 _ _)
   | (with_reducible exact ih2 _ _ _)
   | (with_reducible exact ih3 _ _ _ _)
   | (with_reducible exact spec_l01Dec.mono _ _)
   | (with_reducible exact LeO.refl _)
   | (with_reducible exact LeO.none _)
   | (with_reducible refine LeO.ite ?_ ?_)
   | (with_reducible refine LeO.bind ?_ (fun _ => ?_))
   | exact ih0 _ _ _
   | exact ih1 _ _
   | exact ih2 _ _ _
   | exact ih3 _ _ _ _
   | exact spec_l01Dec.mono _ _
   | exact LeO.none _
   | refine LeO.ite ?_ ?_
   | refine LeO.bind ?_ (fun _ => ?_)
theorem spec_l01Number.mono : ∀ a0 k, LeO (spec_l01Number.f k a0) (spec_l01Number.f (k + 1) a0) := by
 intro a0 k
 obtain ⟨ih0, ih1, ih2, ih3⟩ := spec_l01Number.mono_l k
 unfold spec_l01Number.f
 repeat' first
   | (with_reducible exact ih0 _ _ _)
   | (with_reducible exact ih1 _ _)
   | (with_reducible exact ih2 _ _ _)
   | (with_reducible exact ih3 _ _ _ _)
   | (with_reducible exact spec_l01Dec.mono _ _)
   | (with_reducible exact LeO.refl _)
   | (with_reducible exact LeO.none _)
   | (with_reducible refine LeO.ite ?_ ?_)
   | (with_reducible refine LeO.bind ?_ (fun _ => ?_))
   | exact ih0 _ _ _
   | exact ih1 _ _
   | exact ih2 _ _ _
   | exact ih3 _ _ _ _
   | exact spec_l01Dec.mono _ _
   | exact LeO.none _
   | refine LeO.ite ?_ ?_
   | refine LeO.bind ?_ (fun _ => ?_)
set_option maxHeartbeats 8000000 in
set_option maxRecDepth 100000 in
theorem spec_l01Number.calls (k : Nat) (a0 : ByteArray) (r1 : Int) (r2 : Bool) (w : World) (h : spec_l01Number.f k a0 = some (r1, r2)) :
  Calls Tryd.prog 97 #[.string a0] w fun e w' => e = .returned (.tuple #[.int .i64 r1, .bool r2]) ∧ Below w.heap.size w w' := by
 have HB := Aside0.mk (Below.refl w.heap.size w)
 have H : (if a0.toList = ([] : List UInt8) then (spec_l01Number.j0 k a0 a0 false) else (if 0 < (a0.size : Int) then (spec_l01Number.j0 k a0 a0 ((bt a0 0) == 45)) else (none))) = some (r1, r2) := h
 clear h
 have HC2 := Aside0.mk H
 clear H
 go_enter Tryd.func97, Tryd.ntmps97
 go_upto_region 2 with (fail)
 go_cut [14] (fun v14 wc => ∃ (kq : Nat) (x14_1 : Bool), v14 = .bool x14_1 ∧ Aside0 (spec_l01Number.j0 kq a0 a0 x14_1 = some (r1, r2)) ∧ Aside0 (kq ≤ k) ∧ Aside0 (Below w.heap.size w wc))
 case first =>
  have H := HC2.out
  clear HC2
  by_cases c3 : a0.toList = ([] : List UInt8)
  ·rw [if_pos c3] at H
   have c3b0 : (a0.toList == ([] : List UInt8)) = true := beq_iff_eq.mpr c3
   have c3b1 : (a0.toList != ([] : List UInt8)) = false := bne_eq_false_iff_eq.mpr c3
   clear c3
   (first | rw [c3b0] | (simp only [i64_w, i32_w]; rw [c3b0]) | skip)
   have H' := Aside0.mk H
   clear H
   go_wp2
   go_meet
   case rel => exact ⟨_, (false), (by first | rfl | (simp; done) | (simp [*]; done)), H', ⟨by first | omega | exact Nat.le_refl _⟩, ⟨bwl_⟩⟩
  ·rw [if_neg c3] at H
   have c3b0 : (a0.toList == ([] : List UInt8)) = false := beq_eq_false_iff_ne.mpr c3
   have c3b1 : (a0.toList != ([] : List UInt8)) = true := bne_iff_ne.mpr c3
   (first | rw [c3b0] | (simp only [i64_w, i32_w]; rw [c3b0]) | skip)
   by_cases c4 : 0 < (a0.size : Int)
   ·rw [if_pos c4] at H
    have c4b0 : decide (0 < (a0.size : Int)) = true := decide_eq_true c4
    have c4b1 : decide (0 < a0.size) = true := decide_eq_true (by omega)
    clear c4
    have H' := Aside0.mk H
    clear H
    have p5 : 0 ≤ (0 : Int) := (by omega)
    have q5 : 0 < a0.size := (by have : (0 : Int) < (a0.size : Int) := od_; omega)
    have hx5 : ∀ h : 0 < a0.size, ((a0[0]'h).toNat : Int) = bt a0 0 := bt_at a0 0
    clear p5
    have qi5 : (0 < (a0.size : Int)) = True := eq_true (od_)
    replace q5 := eq_true q5
    go_wp2
    go_meet
    case rel => exact ⟨_, (((bt a0 0) == 45)), (by first | rfl | (simp; done) | (simp [*]; done)), H', ⟨by first | omega | exact Nat.le_refl _⟩, ⟨bwl_⟩⟩
   ·rw [if_neg c4] at H
    exact absurd H (by simp)
 case rest =>
  clear HC2
  (try clear c3);(try clear c3b0);(try clear c3b1);(try clear c4);(try clear c4b0);(try clear c4b1);(try clear p5);(try clear q5);(try clear hx5);(try clear qi5);(try clear p5);(try clear q5)
  obtain ⟨kq, x14_1, rfl, HA, HJ1, HB⟩ := hcut
  cases kq with
  | zero => exact absurd HA.out (by simp [spec_l01Number.j0])
  | succ kj1 =>
   have H := HA.out
   clear HA
   simp only [spec_l01Number.j0] at H
   have HC6 := Aside0.mk H
   clear H
   go_upto_if 14 with (fail)
   go_cut [4] (fun v4 wc => ∃ (kq : Nat) (x4_5 : ByteArray), v4 = .string x4_5 ∧ Aside0 (spec_l01Number.j1 kq a0 x4_5 = some (r1, r2)) ∧ Aside0 (kq ≤ kj1) ∧ Aside0 (Below w.heap.size w wc))
   case first =>
    have H := HC6.out
    clear HC6
    by_cases c7 : x14_1 = true
    ·subst c7
     rw [if_pos rfl] at H
     by_cases c8 : 1 ≤ (a0.size : Int)
     ·rw [if_pos c8] at H
      have c8b0 := eq_true c8
      have c8b1 : decide (1 ≤ (a0.size : Int)) = true := decide_eq_true c8
      clear c8
      have H' := Aside0.mk H
      clear H
      go_wp2
      go_meet
      case rel => exact ⟨_, (a0.extract 1 a0.size), (by first | rfl | (simp; done) | (simp [*]; done)), H', ⟨by have := HJ1.out; first | omega | exact Nat.le_refl _⟩, ⟨bwl_⟩⟩
     ·rw [if_neg c8] at H
      exact absurd H (by simp)
    ·replace c7 := Bool.eq_false_iff.mpr c7
     subst c7
     rw [if_neg (show ¬ (false = true) by decide)] at H
     have H' := Aside0.mk H
     clear H
     go_wp2
     go_meet
     case rel => exact ⟨_, (a0), (by first | rfl | (simp; done) | (simp [*]; done)), H', ⟨by have := HJ1.out; first | omega | exact Nat.le_refl _⟩, ⟨bwl_⟩⟩
   case rest =>
    clear HC6
    (try clear c3);(try clear c3b0);(try clear c3b1);(try clear c4);(try clear c4b0);(try clear c4b1);(try clear p5);(try clear q5);(try clear hx5);(try clear qi5);(try clear c7);(try clear c8);(try clear c8b0);(try clear c8b1);(try clear p5);(try clear q5)
    obtain ⟨kq, x4_5, rfl, HA, HJ5, HB⟩ := hcut
    cases kq with
    | zero => exact absurd HA.out (by simp [spec_l01Number.j1])
    | succ kj5 =>
     have H := HA.out
     clear HA
     simp only [spec_l01Number.j1] at H
     have HC9 := Aside0.mk H
     clear H
     go_upto_region 4 with (fail)
     go_cut [24] (fun v24 wc => ∃ (kq : Nat) (x24_8 : Bool), v24 = .bool x24_8 ∧ Aside0 (spec_l01Number.j2 kq a0 x4_5 x24_8 = some (r1, r2)) ∧ Aside0 (kq ≤ kj5) ∧ Aside0 (Below w.heap.size w wc))
     case first =>
      have H := HC9.out
      clear HC9
      by_cases c10 : (x4_5.size : Int) < 1
      ·rw [if_pos c10] at H
       have c10b0 : decide ((x4_5.size : Int) < 1) = true := decide_eq_true c10
       have c10b1 : decide (x4_5.size < 1) = true := decide_eq_true (by omega)
       clear c10
       (first | rw [c10b0] | (simp only [i64_w, i32_w]; rw [c10b0]) | skip)
       have H' := Aside0.mk H
       clear H
       go_wp2
       go_meet
       case rel => exact ⟨_, (true), (by first | rfl | (simp; done) | (simp [*]; done)), H', ⟨by have := HJ1.out; have := HJ5.out; first | omega | exact Nat.le_refl _⟩, ⟨bwl_⟩⟩
      ·rw [if_neg c10] at H
       have c10b0 : decide ((x4_5.size : Int) < 1) = false := decide_eq_false c10
       have c10b1 : decide (x4_5.size < 1) = false := decide_eq_false (by omega)
       clear c10
       (first | rw [c10b0] | (simp only [i64_w, i32_w]; rw [c10b0]) | skip)
       have H' := Aside0.mk H
       clear H
       go_wp2
       go_meet
       case rel => exact ⟨_, (decide ((x4_5.size : Int) > 18)), (by first | rfl | (simp; done) | (simp [*]; done)), H', ⟨by have := HJ1.out; have := HJ5.out; first | omega | exact Nat.le_refl _⟩, ⟨bwl_⟩⟩
     case rest =>
      clear HC9
      (try clear c3);(try clear c3b0);(try clear c3b1);(try clear c4);(try clear c4b0);(try clear c4b1);(try clear p5);(try clear q5);(try clear hx5);(try clear qi5);(try clear c7);(try clear c8);(try clear c8b0);(try clear c8b1);(try clear c10);(try clear c10b0);(try clear c10b1);(try clear p5);(try clear q5)
      obtain ⟨kq, x24_8, rfl, HA, HJ8, HB⟩ := hcut
      cases kq with
      | zero => exact absurd HA.out (by simp [spec_l01Number.j2])
      | succ kj8 =>
       have H := HA.out
       clear HA
       simp only [spec_l01Number.j2] at H
       by_cases c11 : x24_8 = true
       ·subst c11
        rw [if_pos rfl] at H
        simp only [Option.some.injEq, Prod.mk.injEq] at H
        obtain ⟨rfl, rfl⟩ := H
        go_wp2
        go_ret2
        exact ⟨rr_, bwl_⟩
       ·replace c11 := Bool.eq_false_iff.mpr c11
        subst c11
        rw [if_neg (show ¬ (false = true) by decide)] at H
        have H' := Aside0.mk H
        clear H
        go_wp2
        go_loopg [5, 6] kj8 (fun kq v5 v6 w' => ∃ (x5_4 : Int) (x6_4 : Int), v5 = .int .i64 x5_4 ∧ v6 = .int .i64 x6_4 ∧ Aside0 (spec_l01Number.l0 kq a0 x4_5 x5_4 x6_4 = some (r1, r2)) ∧ Aside0 (kq ≤ kj8) ∧ Aside0 (Below w.heap.size w w'))
        case atStart => exact ⟨(0), (0), (by first | rfl | (simp; done) | (simp [*]; done)), (by first | rfl | (simp; done) | (simp [*]; done)), H', ⟨Nat.le_refl _⟩, ⟨bwl_⟩⟩
        case round =>
         clear H'
         (try clear c3);(try clear c3b0);(try clear c3b1);(try clear c4);(try clear c4b0);(try clear c4b1);(try clear p5);(try clear q5);(try clear hx5);(try clear qi5);(try clear c7);(try clear c8);(try clear c8b0);(try clear c8b1);(try clear c10);(try clear c10b0);(try clear c10b1);(try clear c11);(try clear p5);(try clear q5)
         obtain ⟨x5_4, x6_4, rfl, rfl, HA, HK4, HB⟩ := hrel
         cases gk with
         | zero => exact absurd HA.out (by simp [spec_l01Number.l0])
         | succ k4 =>
          have H := HA.out
          clear HA
          simp only [spec_l01Number.l0] at H
          by_cases c12 : x6_4 < (x4_5.size : Int)
          ·rw [if_pos c12] at H
           have c12b0 : decide (x6_4 < (x4_5.size : Int)) = true := decide_eq_true c12
           clear c12
           by_cases c13 : 0 ≤ x6_4
           ·rw [if_pos c13] at H
            have c13b0 : decide (0 ≤ x6_4) = true := decide_eq_true c13
            clear c13
            replace H := Option.bind_eq_some_iff.mp H
            obtain ⟨t132, A150, H⟩ := H
            (try dsimp only at H)
            have A15 := Aside0.mk A150
            clear A150
            by_cases c16 : t132 = true
            ·subst c16
             rw [if_pos rfl] at H
             have H' := Aside0.mk H
             clear H
             have p14 : 0 ≤ (x6_4 : Int) := od_
             have q14 : x6_4 < (x4_5.size : Int) := od_
             have hx14 := bt_at x4_5 x6_4
             replace p14 := eq_true p14
             replace q14 := eq_true q14
             go_wp2_with (first | ((with_reducible refine gate_callee (f := 94) rfl ?_); refine goesL_ (some 34) rfl rfl Tryd.func94 (by kernel_rfl) rfl #[.int .u8 (bt x4_5 x6_4)] rfl (by (try simp only [List.map_toArray, List.map_cons, List.map_nil]); first | done | rfl | (simp only [List.length_drop, List.length_take]; rfl)) ?_; (with_reducible refine (spec_l01Digit.calls (bt x4_5 x6_4) true _ A15.out).mono ?_); rintro e w' ⟨rfl, ⟨nd, rfl⟩⟩; refine ⟨_, rfl, ?_⟩; have p17 : 0 ≤ (x6_4 : Int) := od_; have q17 : x6_4 < (x4_5.size : Int) := od_; have hx17 := bt_at x4_5 x6_4; replace p17 := eq_true p17; replace q17 := eq_true q17))
             go_roundg k4
             case measure => have := HJ1.out; have := HJ5.out; have := HJ8.out; have := HK4.out; omega
             case rel => exact ⟨(wrap64 ((wrap64 (10 * x5_4)) + (((bt x4_5 x6_4) - 48) % 256))), (wrap64 (x6_4 + 1)), (by first | rfl | (simp; done) | (simp [*]; done)), (by first | rfl | (simp; done) | (simp [*]; done)), H', ⟨by have := HJ1.out; have := HJ5.out; have := HJ8.out; have := HK4.out; omega⟩, ⟨bwl_⟩⟩
            ·replace c16 := Bool.eq_false_iff.mpr c16
             subst c16
             rw [if_neg (show ¬ (false = true) by decide)] at H
             simp only [Option.some.injEq, Prod.mk.injEq] at H
             obtain ⟨rfl, rfl⟩ := H
             have p14 : 0 ≤ (x6_4 : Int) := od_
             have q14 : x6_4 < (x4_5.size : Int) := od_
             have hx14 := bt_at x4_5 x6_4
             replace p14 := eq_true p14
             replace q14 := eq_true q14
             go_wp2_with (first | ((with_reducible refine gate_callee (f := 94) rfl ?_); refine goesL_ (some 34) rfl rfl Tryd.func94 (by kernel_rfl) rfl #[.int .u8 (bt x4_5 x6_4)] rfl (by (try simp only [List.map_toArray, List.map_cons, List.map_nil]); first | done | rfl | (simp only [List.length_drop, List.length_take]; rfl)) ?_; (with_reducible refine (spec_l01Digit.calls (bt x4_5 x6_4) false _ A15.out).mono ?_); rintro e w' ⟨rfl, ⟨nd, rfl⟩⟩; refine ⟨_, rfl, ?_⟩))
             go_ret2
             exact ⟨rr_, bwl_⟩
           ·rw [if_neg c13] at H
            exact absurd H (by simp)
          ·rw [if_neg c12] at H
           have c12b0 : decide (x6_4 < (x4_5.size : Int)) = false := decide_eq_false c12
           clear c12
           by_cases c18 : (x4_5.size : Int) < (a0.size : Int)
           ·rw [if_pos c18] at H
            have c18b0 : decide ((x4_5.size : Int) < (a0.size : Int)) = true := decide_eq_true c18
            have c18b1 : decide (x4_5.size < a0.size) = true := decide_eq_true (Int.ofNat_lt.mp c18)
            clear c18
            replace H := Option.bind_eq_some_iff.mp H
            obtain ⟨t133, A190, H⟩ := H
            (try dsimp only at H)
            have A19 := Aside0.mk A190
            clear A190
            by_cases c20 : t133.toList = a0.toList
            ·rw [if_pos c20] at H
             have c20b0 : (t133.toList == a0.toList) = true := beq_iff_eq.mpr c20
             have c20b1 : (t133.toList != a0.toList) = false := bne_eq_false_iff_eq.mpr c20
             clear c20
             simp only [Option.some.injEq, Prod.mk.injEq] at H
             obtain ⟨rfl, rfl⟩ := H
             go_wp2_with (first | ((with_reducible refine gate_callee (f := 86) rfl ?_); refine goesL_ (some 52) rfl rfl Tryd.func86 (by kernel_rfl) rfl #[.int .i64 (wrap64 (-x5_4))] rfl (by (try simp only [List.map_toArray, List.map_cons, List.map_nil]); first | done | rfl | (simp only [List.length_drop, List.length_take]; rfl)) ?_; (with_reducible refine (spec_l01Dec.calls k4 (wrap64 (-x5_4)) t133 _ A19.out).mono ?_); rintro e w21 ⟨rfl, hb⟩; refine ⟨_, rfl, ?_⟩; replace HB := bst_ hb; clear hb))
             go_ret2
             exact ⟨rr_, bwl_⟩
            ·rw [if_neg c20] at H
             have c20b0 : (t133.toList == a0.toList) = false := beq_eq_false_iff_ne.mpr c20
             have c20b1 : (t133.toList != a0.toList) = true := bne_iff_ne.mpr c20
             simp only [Option.some.injEq, Prod.mk.injEq] at H
             obtain ⟨rfl, rfl⟩ := H
             go_wp2_with (first | ((with_reducible refine gate_callee (f := 86) rfl ?_); refine goesL_ (some 52) rfl rfl Tryd.func86 (by kernel_rfl) rfl #[.int .i64 (wrap64 (-x5_4))] rfl (by (try simp only [List.map_toArray, List.map_cons, List.map_nil]); first | done | rfl | (simp only [List.length_drop, List.length_take]; rfl)) ?_; (with_reducible refine (spec_l01Dec.calls k4 (wrap64 (-x5_4)) t133 _ A19.out).mono ?_); rintro e w22 ⟨rfl, hb⟩; refine ⟨_, rfl, ?_⟩; replace HB := bst_ hb; clear hb))
             go_ret2
             exact ⟨rr_, bwl_⟩
           ·rw [if_neg c18] at H
            have c18b0 : decide ((x4_5.size : Int) < (a0.size : Int)) = false := decide_eq_false c18
            have c18b1 : decide (x4_5.size < a0.size) = false := decide_eq_false (fun h => c18 (Int.ofNat_lt.mpr h))
            clear c18
            replace H := Option.bind_eq_some_iff.mp H
            obtain ⟨t134, A230, H⟩ := H
            (try dsimp only at H)
            have A23 := Aside0.mk A230
            clear A230
            by_cases c24 : t134.toList = a0.toList
            ·rw [if_pos c24] at H
             have c24b0 : (t134.toList == a0.toList) = true := beq_iff_eq.mpr c24
             have c24b1 : (t134.toList != a0.toList) = false := bne_eq_false_iff_eq.mpr c24
             clear c24
             simp only [Option.some.injEq, Prod.mk.injEq] at H
             obtain ⟨rfl, rfl⟩ := H
             go_wp2_with (first | ((with_reducible refine gate_callee (f := 86) rfl ?_); refine goesL_ (some 52) rfl rfl Tryd.func86 (by kernel_rfl) rfl #[.int .i64 x5_4] rfl (by (try simp only [List.map_toArray, List.map_cons, List.map_nil]); first | done | rfl | (simp only [List.length_drop, List.length_take]; rfl)) ?_; (with_reducible refine (spec_l01Dec.calls k4 x5_4 t134 _ A23.out).mono ?_); rintro e w25 ⟨rfl, hb⟩; refine ⟨_, rfl, ?_⟩; replace HB := bst_ hb; clear hb))
             go_ret2
             exact ⟨rr_, bwl_⟩
            ·rw [if_neg c24] at H
             have c24b0 : (t134.toList == a0.toList) = false := beq_eq_false_iff_ne.mpr c24
             have c24b1 : (t134.toList != a0.toList) = true := bne_iff_ne.mpr c24
             simp only [Option.some.injEq, Prod.mk.injEq] at H
             obtain ⟨rfl, rfl⟩ := H
             go_wp2_with (first | ((with_reducible refine gate_callee (f := 86) rfl ?_); refine goesL_ (some 52) rfl rfl Tryd.func86 (by kernel_rfl) rfl #[.int .i64 x5_4] rfl (by (try simp only [List.map_toArray, List.map_cons, List.map_nil]); first | done | rfl | (simp only [List.length_drop, List.length_take]; rfl)) ?_; (with_reducible refine (spec_l01Dec.calls k4 x5_4 t134 _ A23.out).mono ?_); rintro e w26 ⟨rfl, hb⟩; refine ⟨_, rfl, ?_⟩; replace HB := bst_ hb; clear hb))
             go_ret2
             exact ⟨rr_, bwl_⟩
section
open Go.Proofs.YtlcgonaapmmnkaaDoor.Base
def blankFrom (s : ByteArray) (i : Nat) : Nat := if h : i < s.size ∧ ¬ bt s (i : Int) = 32 then blankFrom s (i + 1) else i
termination_by s.size - i
decreasing_by omega
theorem blank_go {s : ByteArray} {i : Nat} (h : i < s.size) (hb : ¬ bt s (i : Int) = 32) : blankFrom s i = blankFrom s (i + 1) := by rw [blankFrom, dif_pos ⟨h, hb⟩]
theorem blank_end {s : ByteArray} {i : Nat} (h : ¬ i < s.size) : blankFrom s i = i := by rw [blankFrom, dif_neg (fun g => h g.1)]
theorem blank_here {s : ByteArray} {i : Nat} (hb : bt s (i : Int) = 32) : blankFrom s i = i := by rw [blankFrom, dif_neg (fun g => g.2 hb)]
theorem blank_le (s : ByteArray) : ∀ (d i : Nat), s.size - i = d → i ≤ blankFrom s i ∧ (i ≤ s.size → blankFrom s i ≤ s.size)
 | 0, i, h => by rw [blank_end (by omega)]; exact ⟨Nat.le_refl _, fun h => h⟩
 | d + 1, i, h => by
  by_cases hb : bt s (i : Int) = 32
  ·rw [blank_here hb]; exact ⟨Nat.le_refl _, fun h => h⟩
  ·rw [blank_go (by omega) hb]
   have := blank_le s d (i + 1) (by omega)
   exact ⟨by omega, fun _ => this.2 (by omega)⟩
def spec_l27Body.f (k : Nat) (a0 : ByteArray) : Option (Int × ByteArray × ByteArray × Bool) :=
 if a0.size ≤ 140737488351232 then
  if a0.size ≤ blankFrom a0 (blankFrom a0 0 + 1) then some (0, ⟨#[]⟩, ⟨#[]⟩, false) else
   (spec_l01Number.f k (a0.extract 0 (blankFrom a0 0))).bind fun t => if t.2 = true then
    (spec_l27One.f k t.1 (a0.extract (blankFrom a0 0 + 1) (blankFrom a0 (blankFrom a0 0 + 1))) (a0.extract (blankFrom a0 (blankFrom a0 0 + 1) + 1) a0.size)).bind fun u => if u.1 = true then some (u.2.1, u.2.2.1, u.2.2.2, true) else some (0, ⟨#[]⟩, ⟨#[]⟩, false)
   else some (0, ⟨#[]⟩, ⟨#[]⟩, false)
 else none
theorem spec_l27Body.mono : ∀ a0 k, LeO (spec_l27Body.f k a0) (spec_l27Body.f (k + 1) a0) := fun a0 k => by
 unfold spec_l27Body.f
 exact LeO.ite (LeO.ite (LeO.refl _) (LeO.bind (spec_l01Number.mono _ _) fun t => LeO.ite (LeO.bind (spec_l27One.mono _ _ _ _) fun u => LeO.refl _) (LeO.refl _))) (LeO.refl _)
set_option maxHeartbeats 8000000 in
set_option maxRecDepth 100000 in
theorem spec_l27Body.calls (k : Nat) (a0 : ByteArray) (r1 : Int) (r2 : ByteArray) (r3 : ByteArray) (r4 : Bool) (w : World) (h : spec_l27Body.f k a0 = some (r1, r2, r3, r4)) :
  Calls Tryd.prog 98 #[.string a0] w fun e w' => e = .returned (.tuple #[.agg #[.int .i64 r1, .string r2, .string r3], .bool r4]) ∧ Below w.heap.size w w' := by
 unfold spec_l27Body.f at h
 split at h
 case isFalse => cases h
 rename_i hsz
 have HA := Aside0.mk h
 clear h
 have B0 := Aside0.mk (blank_le a0 _ 0 rfl)
 have B1 := Aside0.mk (blank_le a0 _ (blankFrom a0 0 + 1) rfl)
 have hu26 := Tryd.underlying26
 go_enter Tryd.func98, Tryd.ntmps98
 go_wp2_with ((with_reducible refine gate_dst (N := 2) rfl ?_); refine be_ 2 #[.int .i64 0, .string (⟨#[]⟩ : ByteArray), .string (⟨#[]⟩ : ByteArray)] 26 ?_; intro gb hg w2 hbox hb; have BK := Aside0.mk hbox; have HB := Aside0.mk hb; have GE := Aside0.mk (Nat.le_of_eq hg.symm); clear hbox hb hg)
 go_loop [4] (fun v4 => ∃ i : Nat, v4 = .int .i64 i ∧ i ≤ a0.size ∧ Aside0 (blankFrom a0 0 = blankFrom a0 i)) (fun v4 => a0.size - (intOf v4).toNat)
 case atStart => exact ⟨0, rfl, Nat.zero_le _, ⟨rfl⟩⟩
 case round =>
  obtain ⟨i, rfl, hi, hb⟩ := hrel
  by_cases hgo : i < a0.size ∧ ¬ bt a0 (i : Int) = 32
  ·obtain ⟨hlt, h32⟩ := hgo
   have hx : ∀ h : i < a0.size, ((a0[i]'h).toNat : Int) = bt a0 (i : Int) := by simpa using bt_at a0 (i : Int)
   have HH := Aside0.mk (blank_go hlt h32)
   have p1 : (bt a0 (i : Int) == 32) = false := by simpa using h32
   have p2 : (bt a0 (i : Int) != 32) = true := by simpa using h32
   go_wp2
   go_round
   case rel => exact ⟨i + 1, by go_num, by omega, ⟨by rw [hb.out, HH.out]⟩⟩
   case measure => simp [intOf]; omega
  ·have hst : blankFrom a0 0 = i := by
    rw [hb.out]
    by_cases hlt : i < a0.size
    ·exact blank_here (Decidable.not_not.mp fun g => hgo ⟨hlt, g⟩)
    ·exact blank_end hlt
   have HA1 := HA.out
   have B1' := B1.out
   rw [hst] at HA1 B1'
   have HA2 := Aside0.mk HA1
   have HST := Aside0.mk hst
   obtain ⟨b1, b2⟩ := B1'
   clear HA1 hst
   have hdec : (i < a0.size ∧ bt a0 (i : Int) = 32) ∨ ¬ i < a0.size := by
    by_cases hlt : i < a0.size
    ·exact .inl ⟨hlt, Decidable.not_not.mp fun g => hgo ⟨hlt, g⟩⟩
    ·exact .inr hlt
   have hx : ∀ h : i < a0.size, ((a0[i]'h).toNat : Int) = bt a0 (i : Int) := by simpa using bt_at a0 (i : Int)
   clear hgo
   rcases hdec with ⟨hlt, h32⟩ | hlt
   all_goals
    (try rw [h32] at hx)
    (try clear h32)
    go_wp2
    go_loop [5] (fun v5 => ∃ j : Nat, v5 = .int .i64 j ∧ i + 1 ≤ j ∧ (j ≤ a0.size ∨ j = i + 1) ∧ Aside0 (blankFrom a0 (i + 1) = blankFrom a0 j)) (fun v5 => a0.size - (intOf v5).toNat)
    case atStart => exact ⟨i + 1, by go_num, Nat.le_refl _, .inr rfl, ⟨rfl⟩⟩
    case round =>
     obtain ⟨j, rfl, hj1, hj2, hbj⟩ := hrel
     by_cases hgo : j < a0.size ∧ ¬ bt a0 (j : Int) = 32
     ·obtain ⟨hlj, h32⟩ := hgo
      have hxj : ∀ h : j < a0.size, ((a0[j]'h).toNat : Int) = bt a0 (j : Int) := by simpa using bt_at a0 (j : Int)
      have HH := Aside0.mk (blank_go hlj h32)
      have p1 : (bt a0 (j : Int) == 32) = false := by simpa using h32
      have p2 : (bt a0 (j : Int) != 32) = true := by simpa using h32
      clear hx
      go_wp2
      go_round
      case rel => exact ⟨j + 1, by go_num, by omega, by omega, ⟨by rw [hbj.out, HH.out]⟩⟩
      case measure => simp [intOf]; omega
     ·have hst : blankFrom a0 (i + 1) = j := by
       rw [hbj.out]
       by_cases hlj : j < a0.size
       ·exact blank_here (Decidable.not_not.mp fun g => hgo ⟨hlj, g⟩)
       ·exact blank_end hlj
      have HA1 := HA2.out
      rw [hst] at HA1 b1 b2
      have hdec : (j < a0.size ∧ bt a0 (j : Int) = 32) ∨ ¬ j < a0.size := by
       by_cases hlj : j < a0.size
       ·exact .inl ⟨hlj, Decidable.not_not.mp fun g => hgo ⟨hlj, g⟩⟩
       ·exact .inr hlj
      have hxj : ∀ h : j < a0.size, ((a0[j]'h).toNat : Int) = bt a0 (j : Int) := by simpa using bt_at a0 (j : Int)
      clear hx hst hgo
      rcases hdec with ⟨hlj, h32⟩ | hlj
      ·try (exfalso; omega)
       all_goals
        rw [if_neg (by omega)] at HA1
        rw [h32] at hxj
        have p0 : (0 : Int) ≤ (i : Int) + 1 := by omega
        have p1 : (i : Int) + 1 ≤ (j : Int) := by omega
        have p2 : (j : Int) ≤ (a0.size : Int) := by omega
        have p3 : (j : Int) + 1 ≤ (a0.size : Int) := by omega
        have p4 : (i : Int) ≤ (a0.size : Int) := by omega
        have p5 : ¬ (a0.size : Int) ≤ (j : Int) := by omega
        obtain ⟨⟨t1, t2⟩, ht, HA3⟩ := Option.bind_eq_some_iff.mp HA1
        have HT := Aside0.mk ht
        try simp only [] at HA3
        have HA4 := Aside0.mk HA3
        clear ht HA1 HA3 h32
        go_wp2_with (go_at_call 97; (with_reducible refine (spec_l01Number.calls k _ t1 t2 _ HT.out).mono ?_); rintro e w3 ⟨rfl, hb3⟩; have HB3 := Aside0.mk hb3; clear hb3)
        clear hxj
        have HB4 : Aside0 (Below w.heap.size w (w3.alloc (.cells #[.int .i64 t1, .string (a0.extract (i + 1) j), .string (a0.extract (j + 1) a0.size)] 26)).drew) := ⟨below_drew1 (below_alloc (below_step HB.out HB3.out) _)⟩
        have BK4 : Aside0 ((w3.alloc (.cells #[.int .i64 t1, .string (a0.extract (i + 1) j), .string (a0.extract (j + 1) a0.size)] 26)).drew.heap[gb]? = some (.cells #[.int .i64 0, .string (⟨#[]⟩ : ByteArray), .string (⟨#[]⟩ : ByteArray)] 26 (0, 0))) := ⟨blk_drew (blk_alloc (blk_below BK.out HB3.out) _)⟩
        have HI4 : Aside0 (IsS26 w (w3.alloc (.cells #[.int .i64 t1, .string (a0.extract (i + 1) j), .string (a0.extract (j + 1) a0.size)] 26)).drew w3.heap.size t1 (a0.extract (i + 1) j) (a0.extract (j + 1) a0.size)) := ⟨⟨blk_drew (blk_new w3 _), (below_step HB.out HB3.out).size⟩⟩
        have GN : Aside0 (gb < w3.heap.size) := ⟨blk_lt (blk_below BK.out HB3.out)⟩
        cases t2 with
        | false =>
         have HA5 := HA4.out
         simp only [Bool.false_eq_true, if_false, Option.some.injEq, Prod.mk.injEq] at HA5
         obtain ⟨rfl, rfl, rfl, rfl⟩ := HA5
         go_region
         obtain ⟨w4, hw4⟩ : ∃ w4, w4 = (w3.alloc (.cells #[.int .i64 t1, .string (a0.extract (i + 1) j), .string (a0.extract (j + 1) a0.size)] 26)).drew := ⟨_, rfl⟩
         rw [← hw4] at HB4 BK4 HI4 ⊢
         clear hw4
         have hc0 := cellS26_0 BK4.out
         have hc1 := cellS26_1 BK4.out
         have hc2 := cellS26_2 BK4.out
         have hf : ∀ o, w4.frozen? ⟨gb, o, none⟩ = false := fun o => by simp [World.frozen?, BK4.out]
         go_wp2
         refine bodyPost_ret (results_ct rfl _ _ gb 26 #[.int .i64 0, .string (⟨#[]⟩ : ByteArray), .string (⟨#[]⟩ : ByteArray)] (0, 0) _ rfl (by refine blk_put (cs := #[.int .i64 0, .string (⟨#[]⟩ : ByteArray), .string (⟨#[]⟩ : ByteArray)]) ?_ 2 _ rfl; refine blk_put (cs := #[.int .i64 0, .string (⟨#[]⟩ : ByteArray), .string (⟨#[]⟩ : ByteArray)]) ?_ 1 _ rfl; refine blk_put (cs := #[.int .i64 0, .string (⟨#[]⟩ : ByteArray), .string (⟨#[]⟩ : ByteArray)]) ?_ 0 _ rfl; exact BK4.out) Tryd.underlying26 rfl (by kernel_rfl)) rfl ?_
         exact ⟨rfl, below_set (below_set (below_set HB4.out GE.out) GE.out) GE.out⟩
        | true =>
         have HA5 := HA4.out
         simp only [if_true] at HA5
         obtain ⟨⟨u0, u1, u2, u3⟩, hu, HA6⟩ := Option.bind_eq_some_iff.mp HA5
         try simp only [] at HA6
         have HU := Aside0.mk hu
         have HA7 := Aside0.mk HA6
         clear hu HA5 HA6
         go_region
         obtain ⟨w4, hw4⟩ : ∃ w4, w4 = (w3.alloc (.cells #[.int .i64 t1, .string (a0.extract (i + 1) j), .string (a0.extract (j + 1) a0.size)] 26)).drew := ⟨_, rfl⟩
         rw [← hw4] at HB4 BK4 HI4 ⊢
         clear hw4
         have I1 := Aside0.mk (spec_l27One.calls k w3.heap.size t1 (a0.extract (i + 1) j) (a0.extract (j + 1) a0.size) u0 u1 u2 u3 w w4 HI4.out HB4.out HU.out)
         have HL4 := Aside0.mk (blk_lt BK4.out)
         cases u0 with
         | false =>
          have HA8 := HA7.out
          simp only [Bool.false_eq_true, if_false, Option.some.injEq, Prod.mk.injEq] at HA8
          obtain ⟨rfl, rfl, rfl, rfl⟩ := HA8
          go_wp2_with (go_at_call 57; (with_reducible refine I1.out.mono ?_); rintro e w5 ⟨rfl, hI5, hB5, hK5⟩; have BK5 := Aside0.mk ((hK5.2 gb HL4.out (Nat.ne_of_lt GN.out) (by simp)).trans BK4.out); have HB5 := Aside0.mk hB5; have hc0 := cellS26_0 BK5.out; have hc1 := cellS26_1 BK5.out; have hc2 := cellS26_2 BK5.out; have hf : ∀ o, w5.frozen? ⟨gb, o, none⟩ = false := (fun o => by simp [World.frozen?, BK5.out]); clear hI5 hB5 hK5)
          refine bodyPost_ret (results_ct rfl _ _ gb 26 #[.int .i64 0, .string (⟨#[]⟩ : ByteArray), .string (⟨#[]⟩ : ByteArray)] (0, 0) _ rfl (by refine blk_put (cs := #[.int .i64 0, .string (⟨#[]⟩ : ByteArray), .string (⟨#[]⟩ : ByteArray)]) ?_ 2 _ rfl; refine blk_put (cs := #[.int .i64 0, .string (⟨#[]⟩ : ByteArray), .string (⟨#[]⟩ : ByteArray)]) ?_ 1 _ rfl; refine blk_put (cs := #[.int .i64 0, .string (⟨#[]⟩ : ByteArray), .string (⟨#[]⟩ : ByteArray)]) ?_ 0 _ rfl; exact BK5.out) Tryd.underlying26 rfl (by kernel_rfl)) rfl ?_
          exact ⟨rfl, below_set (below_set (below_set HB5.out GE.out) GE.out) GE.out⟩
         | true =>
          have HA8 := HA7.out
          simp only [if_true, Option.some.injEq, Prod.mk.injEq] at HA8
          obtain ⟨rfl, rfl, rfl, rfl⟩ := HA8
          go_wp2_with (go_at_call 57; (with_reducible refine I1.out.mono ?_); rintro e w5 ⟨rfl, hI5, hB5, hK5⟩; have BK5 := Aside0.mk ((hK5.2 gb HL4.out (Nat.ne_of_lt GN.out) (by simp)).trans BK4.out); have HB5 := Aside0.mk hB5; have hc0 := cellS26_0 BK5.out; have hc1 := cellS26_1 BK5.out; have hc2 := cellS26_2 BK5.out; have hf : ∀ o, w5.frozen? ⟨gb, o, none⟩ = false := (fun o => by simp [World.frozen?, BK5.out]); have hd0 := cellS26_0 hI5.1; have hd1 := cellS26_1 hI5.1; have hd2 := cellS26_2 hI5.1; clear hI5 hB5 hK5)
          refine bodyPost_ret (results_ct rfl _ _ gb 26 #[.int .i64 u1, .string u2, .string u3] (0, 0) _ rfl (by refine blk_put (cs := #[.int .i64 u1, .string u2, .string (⟨#[]⟩ : ByteArray)]) ?_ 2 _ rfl; refine blk_put (cs := #[.int .i64 u1, .string (⟨#[]⟩ : ByteArray), .string (⟨#[]⟩ : ByteArray)]) ?_ 1 _ rfl; refine blk_put (cs := #[.int .i64 0, .string (⟨#[]⟩ : ByteArray), .string (⟨#[]⟩ : ByteArray)]) ?_ 0 _ rfl; exact BK5.out) Tryd.underlying26 rfl (by kernel_rfl)) rfl ?_
          exact ⟨rfl, below_set (below_set (below_set HB5.out GE.out) GE.out) GE.out⟩
      ·have hle : a0.size ≤ j := by omega
       rw [if_pos hle] at HA1
       simp only [Option.some.injEq, Prod.mk.injEq] at HA1
       obtain ⟨rfl, rfl, rfl, rfl⟩ := HA1
       have p5 : (a0.size : Int) ≤ (j : Int) := by omega
       have hc0 := cellS26_0 BK.out
       have hc1 := cellS26_1 BK.out
       have hc2 := cellS26_2 BK.out
       have hf : ∀ o, w2.frozen? ⟨gb, o, none⟩ = false := fun o => by simp [World.frozen?, BK.out]
       go_wp2
       refine bodyPost_ret (results_ct rfl _ _ gb 26 #[.int .i64 0, .string (⟨#[]⟩ : ByteArray), .string (⟨#[]⟩ : ByteArray)] (0, 0) _ rfl (by refine blk_put (cs := #[.int .i64 0, .string (⟨#[]⟩ : ByteArray), .string (⟨#[]⟩ : ByteArray)]) ?_ 2 _ rfl; refine blk_put (cs := #[.int .i64 0, .string (⟨#[]⟩ : ByteArray), .string (⟨#[]⟩ : ByteArray)]) ?_ 1 _ rfl; refine blk_put (cs := #[.int .i64 0, .string (⟨#[]⟩ : ByteArray), .string (⟨#[]⟩ : ByteArray)]) ?_ 0 _ rfl; exact BK.out) Tryd.underlying26 rfl (by kernel_rfl)) rfl ?_
       exact ⟨rfl, below_set (below_set (below_set HB.out GE.out) GE.out) GE.out⟩
end
section
open Go.Proofs.YtlcgonaapmmnkaaDoor.Base
def colonFrom (s : ByteArray) (i : Nat) : Nat := if h : i < s.size ∧ i < 4 ∧ ¬ bt s (i : Int) = 58 then colonFrom s (i + 1) else i
termination_by s.size - i
decreasing_by omega
theorem colon_go {s : ByteArray} {i : Nat} (h : i < s.size) (h4 : i < 4) (hb : ¬ bt s (i : Int) = 58) : colonFrom s i = colonFrom s (i + 1) := by rw [colonFrom, dif_pos ⟨h, h4, hb⟩]
theorem colon_stop {s : ByteArray} {i : Nat} (h : ¬ (i < s.size ∧ i < 4 ∧ ¬ bt s (i : Int) = 58)) : colonFrom s i = i := by rw [colonFrom, dif_neg h]
def noEntry : Int × ByteArray × ByteArray × Int × Bool := (0, ⟨#[]⟩, ⟨#[]⟩, 0, false)
def spec_l27Next.f (k : Nat) (a0 : ByteArray) : Option (Int × ByteArray × ByteArray × Int × Bool) :=
 if a0.size ≤ 140737488351232 then
  (spec_l01Number.f k (a0.extract 0 (colonFrom a0 0))).bind fun t =>
   if t.1 ≤ 4611686018427387904 then
    if t.2 = true ∧ 1 ≤ t.1 ∧ ((colonFrom a0 0 : Nat) : Int) + 1 + t.1 ≤ (a0.size : Int) then
     (spec_l27Body.f k (a0.extract (colonFrom a0 0 + 1) (colonFrom a0 0 + 1 + t.1.toNat))).bind fun u => if u.2.2.2 = true then
      (spec_l27Frame.g k u.1 u.2.1 u.2.2.1).bind fun r => if r.size ≤ a0.size ∧ ((a0.extract 0 r.size).toList == r.toList) = true then some (u.1, u.2.1, u.2.2.1, (r.size : Int), true) else some noEntry
     else some noEntry
    else some noEntry
   else none
 else none
theorem spec_l27Next.mono : ∀ a0 k, LeO (spec_l27Next.f k a0) (spec_l27Next.f (k + 1) a0) := fun a0 k => by
 unfold spec_l27Next.f
 exact LeO.ite (LeO.bind (spec_l01Number.mono _ _) fun t => LeO.ite (LeO.ite (LeO.bind (spec_l27Body.mono _ _) fun u => LeO.ite (LeO.bind (spec_l27Frame.g_mono _ _ _ _) fun r => LeO.refl _) (LeO.refl _)) (LeO.refl _)) (LeO.refl _)) (LeO.refl _)
set_option maxHeartbeats 8000000 in
set_option maxRecDepth 100000 in
theorem spec_l27Next.calls (k : Nat) (a0 : ByteArray) (r1 : Int) (r2 : ByteArray) (r3 : ByteArray) (r4 : Int) (r5 : Bool) (w : World) (h : spec_l27Next.f k a0 = some (r1, r2, r3, r4, r5)) :
  Calls Tryd.prog 88 #[.string a0] w fun e w' => e = .returned (.tuple #[.agg #[.int .i64 r1, .string r2, .string r3], .int .i64 r4, .bool r5]) ∧ Below w.heap.size w w' := by
 unfold spec_l27Next.f at h
 split at h
 case isFalse => cases h
 rename_i hsz
 replace h := Option.bind_eq_some_iff.mp h
 obtain ⟨⟨t1, t2⟩, ht, h⟩ := h
 split at h
 case isFalse => cases h
 rename_i hbig
 try simp only [] at h hbig
 have HT0 := Aside0.mk ht
 have HA := Aside0.mk h
 clear h ht
 have hu26 := Tryd.underlying26
 go_enter Tryd.func88, Tryd.ntmps88
 go_wp2_with ((with_reducible refine gate_dst (N := 2) rfl ?_); refine be_ 2 #[.int .i64 0, .string (⟨#[]⟩ : ByteArray), .string (⟨#[]⟩ : ByteArray)] 26 ?_; intro gb hg w2 hbox hb; have BK := Aside0.mk hbox; have HB := Aside0.mk hb; have GE := Aside0.mk (Nat.le_of_eq hg.symm); clear hbox hb hg)
 go_loop [5] (fun v5 => ∃ i : Nat, v5 = .int .i64 i ∧ i ≤ a0.size ∧ i ≤ 4 ∧ Aside0 (colonFrom a0 0 = colonFrom a0 i)) (fun v5 => a0.size - (intOf v5).toNat)
 case atStart => exact ⟨0, rfl, Nat.zero_le _, Nat.zero_le _, ⟨rfl⟩⟩
 case round =>
  obtain ⟨i, rfl, hi, hi4, hb⟩ := hrel
  have hx : ∀ h : i < a0.size, ((a0[i]'h).toNat : Int) = bt a0 (i : Int) := by simpa using bt_at a0 (i : Int)
  by_cases hgo : i < a0.size ∧ i < 4 ∧ ¬ bt a0 (i : Int) = 58
  ·obtain ⟨hlt, h4, h58⟩ := hgo
   have HH := Aside0.mk (colon_go hlt h4 h58)
   have p1 : (bt a0 (i : Int) == 58) = false := by simpa using h58
   have p2 : (bt a0 (i : Int) != 58) = true := by simpa using h58
   have p3 : (i : Int) < 4 := by omega
   go_wp2
   go_round
   case rel => exact ⟨i + 1, by go_num, by omega, by omega, ⟨by rw [hb.out, HH.out]⟩⟩
   case measure => simp [intOf]; omega
  ·have hst : colonFrom a0 0 = i := by rw [hb.out]; exact colon_stop hgo
   have HA1 := HA.out
   have HT1 := HT0.out
   rw [hst] at HA1 HT1
   have HT := Aside0.mk HT1
   have HA2 := Aside0.mk HA1
   clear HA1 HT1 hst hb
   have hdec : ¬ i < a0.size ∨ (i < a0.size ∧ ¬ (i : Int) < 4) ∨ (i < a0.size ∧ (i : Int) < 4 ∧ bt a0 (i : Int) = 58) := by
    by_cases hlt : i < a0.size
    ·by_cases h4 : i < 4
     ·exact .inr (.inr ⟨hlt, by omega, Decidable.not_not.mp fun g => hgo ⟨hlt, h4, g⟩⟩)
     ·exact .inr (.inl ⟨hlt, by omega⟩)
    ·exact .inl hlt
   have p4 : (i : Int) ≤ (a0.size : Int) := by omega
   clear hgo
   rcases hdec with hlt | ⟨hlt, h4⟩ | ⟨hlt, h4, h58⟩
   all_goals
    (try rw [h58] at hx)
    (try clear h58)
    by_cases hpass : t2 = true ∧ 1 ≤ t1 ∧ (i : Int) + 1 + t1 ≤ (a0.size : Int)
    ·have HA3 := HA2.out
     rw [if_pos hpass] at HA3
     obtain ⟨hp1, hp2, hp3⟩ := hpass
     try (exfalso; omega)
     all_goals
      subst hp1
      obtain ⟨m, rfl⟩ : ∃ m : Nat, t1 = (m : Int) := ⟨t1.toNat, by omega⟩
      obtain ⟨⟨u0, u1, u2, u3⟩, hu, HA4⟩ := Option.bind_eq_some_iff.mp HA3
      try simp only [Int.toNat_natCast] at HA4 hu
      have HU := Aside0.mk hu
      have HA5 := Aside0.mk HA4
      clear hu HA3 HA4 HA2
      have q1 : ¬ (m : Int) < 1 := by omega
      have q2 : ¬ (a0.size : Int) < (i : Int) + 1 + (m : Int) := by omega
      have q3 : (0 : Int) ≤ (i : Int) + 1 := by omega
      have q4 : (i : Int) + 1 ≤ (i : Int) + 1 + (m : Int) := by omega
      have q5 : ((i : Int) + 1 + (m : Int)).toNat = i + 1 + m := by omega
      go_upto_region 8 with (first | (go_at_call 97; (with_reducible refine (spec_l01Number.calls k _ _ _ _ HT.out).mono ?_); rintro e w3 ⟨rfl, hb3⟩; have HB3 := Aside0.mk (below_step HB.out hb3); have BK3 := Aside0.mk (blk_below BK.out hb3); clear hb3) | (go_at_call 98; (with_reducible refine (spec_l27Body.calls k _ u0 u1 u2 u3 _ HU.out).mono ?_); rintro e w4 ⟨rfl, hb4⟩; have HB4 := Aside0.mk (below_step HB3.out hb4); have BK4 := Aside0.mk (blk_below BK3.out hb4); clear hb4))
      have HB5 : Aside0 (Below w.heap.size w (w4.alloc (.cells #[.int .i64 u0, .string u1, .string u2] 26))) := ⟨below_alloc HB4.out _⟩
      have BK5 : Aside0 ((w4.alloc (.cells #[.int .i64 u0, .string u1, .string u2] 26)).heap[gb]? = some (.cells #[.int .i64 0, .string (⟨#[]⟩ : ByteArray), .string (⟨#[]⟩ : ByteArray)] 26 (0, 0))) := ⟨blk_alloc BK4.out _⟩
      have HI5 : Aside0 (IsS26 w (w4.alloc (.cells #[.int .i64 u0, .string u1, .string u2] 26)) w4.heap.size u0 u1 u2) := ⟨⟨blk_new w4 _, HB4.out.size⟩⟩
      obtain ⟨w5, hw5⟩ : ∃ w5, w5 = w4.alloc (.cells #[.int .i64 u0, .string u1, .string u2] 26) := ⟨_, rfl⟩
      rw [← hw5] at HB5 BK5 HI5 ⊢
      clear hw5 q1 q2 q3 q4 q5
      cases u3 with
      | false =>
       have HA6 := HA5.out
       simp only [Bool.false_eq_true, if_false, Option.some.injEq, noEntry, Prod.mk.injEq] at HA6
       obtain ⟨rfl, rfl, rfl, rfl, rfl⟩ := HA6
       (have hc0 := cellS26_0 BK5.out; have hc1 := cellS26_1 BK5.out; have hc2 := cellS26_2 BK5.out; have hf : ∀ o, w5.frozen? ⟨gb, o, none⟩ = false := (fun o => by simp [World.frozen?, BK5.out]))
       go_wp2
       refine bodyPost_ret (results_ctt rfl _ _ gb 26 #[.int .i64 0, .string (⟨#[]⟩ : ByteArray), .string (⟨#[]⟩ : ByteArray)] (0, 0) _ rfl (by refine blk_put (cs := #[.int .i64 0, .string (⟨#[]⟩ : ByteArray), .string (⟨#[]⟩ : ByteArray)]) ?_ 2 _ rfl; refine blk_put (cs := #[.int .i64 0, .string (⟨#[]⟩ : ByteArray), .string (⟨#[]⟩ : ByteArray)]) ?_ 1 _ rfl; refine blk_put (cs := #[.int .i64 0, .string (⟨#[]⟩ : ByteArray), .string (⟨#[]⟩ : ByteArray)]) ?_ 0 _ rfl; exact BK5.out) Tryd.underlying26 rfl (by kernel_rfl)) rfl ?_
       exact ⟨rfl, below_set (below_set (below_set HB5.out GE.out) GE.out) GE.out⟩
      | true =>
       have HA6 := HA5.out
       simp only [if_true] at HA6
       obtain ⟨fr, hfr, HA7⟩ := Option.bind_eq_some_iff.mp HA6
       have I6 := Aside0.mk (spec_l27Frame.at_ k ⟨w4.heap.size, 0, none⟩ u0 u1 u2 fr w5 (cellS26_0 HI5.out.1) (cellS26_1 HI5.out.1) (cellS26_2 HI5.out.1) hfr)
       have HA8 := Aside0.mk HA7
       clear hfr HA6 HA7
       by_cases hfs : fr.size ≤ a0.size
       ·cases hfe : (a0.extract 0 fr.size).toList == fr.toList with
        | false =>
         have HA9 := HA8.out
         rw [if_neg (fun g => by rw [hfe] at g; exact absurd g.2 (by simp))] at HA9
         simp only [noEntry, Option.some.injEq, Prod.mk.injEq] at HA9
         obtain ⟨rfl, rfl, rfl, rfl, rfl⟩ := HA9
         have s1 : ¬ (a0.size : Int) < (fr.size : Int) := by omega
         have s2 : (fr.size : Int) ≤ (a0.size : Int) := by omega
         go_wp2_with (go_at_call 58; (with_reducible refine I6.out.mono ?_); rintro e w6 ⟨rfl, hb6⟩; have HB6 := Aside0.mk (below_step HB5.out hb6); have BK6 := Aside0.mk (blk_below BK5.out hb6); have HI6 := Aside0.mk (HI5.out.below hb6); clear hb6; have hc0 := cellS26_0 BK6.out; have hc1 := cellS26_1 BK6.out; have hc2 := cellS26_2 BK6.out; have hf : ∀ o, w6.frozen? ⟨gb, o, none⟩ = false := (fun o => by simp [World.frozen?, BK6.out]))
         refine bodyPost_ret (results_ctt rfl _ _ gb 26 #[.int .i64 0, .string (⟨#[]⟩ : ByteArray), .string (⟨#[]⟩ : ByteArray)] (0, 0) _ rfl (by refine blk_put (cs := #[.int .i64 0, .string (⟨#[]⟩ : ByteArray), .string (⟨#[]⟩ : ByteArray)]) ?_ 2 _ rfl; refine blk_put (cs := #[.int .i64 0, .string (⟨#[]⟩ : ByteArray), .string (⟨#[]⟩ : ByteArray)]) ?_ 1 _ rfl; refine blk_put (cs := #[.int .i64 0, .string (⟨#[]⟩ : ByteArray), .string (⟨#[]⟩ : ByteArray)]) ?_ 0 _ rfl; exact BK6.out) Tryd.underlying26 rfl (by kernel_rfl)) rfl ?_
         exact ⟨rfl, below_set (below_set (below_set HB6.out GE.out) GE.out) GE.out⟩
        | true =>
         have HA9 := HA8.out
         rw [if_pos ⟨hfs, hfe⟩] at HA9
         simp only [Option.some.injEq, Prod.mk.injEq] at HA9
         obtain ⟨rfl, rfl, rfl, rfl, rfl⟩ := HA9
         have s1 : ¬ (a0.size : Int) < (fr.size : Int) := by omega
         have s2 : (fr.size : Int) ≤ (a0.size : Int) := by omega
         go_wp2_with (go_at_call 58; (with_reducible refine I6.out.mono ?_); rintro e w6 ⟨rfl, hb6⟩; have HB6 := Aside0.mk (below_step HB5.out hb6); have BK6 := Aside0.mk (blk_below BK5.out hb6); have HI6 := Aside0.mk (HI5.out.below hb6); clear hb6; have hc0 := cellS26_0 BK6.out; have hc1 := cellS26_1 BK6.out; have hc2 := cellS26_2 BK6.out; have hf : ∀ o, w6.frozen? ⟨gb, o, none⟩ = false := (fun o => by simp [World.frozen?, BK6.out]); have hd0 := cellS26_0 HI6.out.1; have hd1 := cellS26_1 HI6.out.1; have hd2 := cellS26_2 HI6.out.1)
         refine bodyPost_ret (results_ctt rfl _ _ gb 26 #[.int .i64 u0, .string u1, .string u2] (0, 0) _ rfl (by refine blk_put (cs := #[.int .i64 u0, .string u1, .string (⟨#[]⟩ : ByteArray)]) ?_ 2 _ rfl; refine blk_put (cs := #[.int .i64 u0, .string (⟨#[]⟩ : ByteArray), .string (⟨#[]⟩ : ByteArray)]) ?_ 1 _ rfl; refine blk_put (cs := #[.int .i64 0, .string (⟨#[]⟩ : ByteArray), .string (⟨#[]⟩ : ByteArray)]) ?_ 0 _ rfl; exact BK6.out) Tryd.underlying26 rfl (by kernel_rfl)) rfl ?_
         exact ⟨rfl, below_set (below_set (below_set HB6.out GE.out) GE.out) GE.out⟩
       ·have HA9 := HA8.out
        rw [if_neg (fun g => hfs g.1)] at HA9
        simp only [noEntry, Option.some.injEq, Prod.mk.injEq] at HA9
        obtain ⟨rfl, rfl, rfl, rfl, rfl⟩ := HA9
        have s1 : (a0.size : Int) < (fr.size : Int) := by omega
        go_wp2_with (go_at_call 58; (with_reducible refine I6.out.mono ?_); rintro e w6 ⟨rfl, hb6⟩; have HB6 := Aside0.mk (below_step HB5.out hb6); have BK6 := Aside0.mk (blk_below BK5.out hb6); have HI6 := Aside0.mk (HI5.out.below hb6); clear hb6; have hc0 := cellS26_0 BK6.out; have hc1 := cellS26_1 BK6.out; have hc2 := cellS26_2 BK6.out; have hf : ∀ o, w6.frozen? ⟨gb, o, none⟩ = false := (fun o => by simp [World.frozen?, BK6.out]))
        refine bodyPost_ret (results_ctt rfl _ _ gb 26 #[.int .i64 0, .string (⟨#[]⟩ : ByteArray), .string (⟨#[]⟩ : ByteArray)] (0, 0) _ rfl (by refine blk_put (cs := #[.int .i64 0, .string (⟨#[]⟩ : ByteArray), .string (⟨#[]⟩ : ByteArray)]) ?_ 2 _ rfl; refine blk_put (cs := #[.int .i64 0, .string (⟨#[]⟩ : ByteArray), .string (⟨#[]⟩ : ByteArray)]) ?_ 1 _ rfl; refine blk_put (cs := #[.int .i64 0, .string (⟨#[]⟩ : ByteArray), .string (⟨#[]⟩ : ByteArray)]) ?_ 0 _ rfl; exact BK6.out) Tryd.underlying26 rfl (by kernel_rfl)) rfl ?_
        exact ⟨rfl, below_set (below_set (below_set HB6.out GE.out) GE.out) GE.out⟩
    ·have HA3 := HA2.out
     rw [if_neg hpass] at HA3
     simp only [noEntry, Option.some.injEq, Prod.mk.injEq] at HA3
     obtain ⟨rfl, rfl, rfl, rfl, rfl⟩ := HA3
     cases t2 with
     | false =>
      go_wp2_with (go_at_call 97; (with_reducible refine (spec_l01Number.calls k _ _ _ _ HT.out).mono ?_); rintro e w3 ⟨rfl, hb3⟩; have HB3 := Aside0.mk (below_step HB.out hb3); have BK3 := Aside0.mk (blk_below BK.out hb3); clear hb3; have hc0 := cellS26_0 BK3.out; have hc1 := cellS26_1 BK3.out; have hc2 := cellS26_2 BK3.out; have hf : ∀ o, w3.frozen? ⟨gb, o, none⟩ = false := (fun o => by simp [World.frozen?, BK3.out]))
      refine bodyPost_ret (results_ctt rfl _ _ gb 26 #[.int .i64 0, .string (⟨#[]⟩ : ByteArray), .string (⟨#[]⟩ : ByteArray)] (0, 0) _ rfl (by refine blk_put (cs := #[.int .i64 0, .string (⟨#[]⟩ : ByteArray), .string (⟨#[]⟩ : ByteArray)]) ?_ 2 _ rfl; refine blk_put (cs := #[.int .i64 0, .string (⟨#[]⟩ : ByteArray), .string (⟨#[]⟩ : ByteArray)]) ?_ 1 _ rfl; refine blk_put (cs := #[.int .i64 0, .string (⟨#[]⟩ : ByteArray), .string (⟨#[]⟩ : ByteArray)]) ?_ 0 _ rfl; exact BK3.out) Tryd.underlying26 rfl (by kernel_rfl)) rfl ?_
      exact ⟨rfl, below_set (below_set (below_set HB3.out GE.out) GE.out) GE.out⟩
     | true =>
      by_cases hn1 : t1 < 1
      ·go_wp2_with (go_at_call 97; (with_reducible refine (spec_l01Number.calls k _ _ _ _ HT.out).mono ?_); rintro e w3 ⟨rfl, hb3⟩; have HB3 := Aside0.mk (below_step HB.out hb3); have BK3 := Aside0.mk (blk_below BK.out hb3); clear hb3; have hc0 := cellS26_0 BK3.out; have hc1 := cellS26_1 BK3.out; have hc2 := cellS26_2 BK3.out; have hf : ∀ o, w3.frozen? ⟨gb, o, none⟩ = false := (fun o => by simp [World.frozen?, BK3.out]))
       refine bodyPost_ret (results_ctt rfl _ _ gb 26 #[.int .i64 0, .string (⟨#[]⟩ : ByteArray), .string (⟨#[]⟩ : ByteArray)] (0, 0) _ rfl (by refine blk_put (cs := #[.int .i64 0, .string (⟨#[]⟩ : ByteArray), .string (⟨#[]⟩ : ByteArray)]) ?_ 2 _ rfl; refine blk_put (cs := #[.int .i64 0, .string (⟨#[]⟩ : ByteArray), .string (⟨#[]⟩ : ByteArray)]) ?_ 1 _ rfl; refine blk_put (cs := #[.int .i64 0, .string (⟨#[]⟩ : ByteArray), .string (⟨#[]⟩ : ByteArray)]) ?_ 0 _ rfl; exact BK3.out) Tryd.underlying26 rfl (by kernel_rfl)) rfl ?_
       exact ⟨rfl, below_set (below_set (below_set HB3.out GE.out) GE.out) GE.out⟩
      ·have q2 : (a0.size : Int) < (i : Int) + 1 + t1 := by
        rcases Int.lt_or_le (a0.size : Int) ((i : Int) + 1 + t1) with g | g
        ·exact g
        ·exact absurd ⟨rfl, by omega, g⟩ hpass
       go_wp2_with (go_at_call 97; (with_reducible refine (spec_l01Number.calls k _ _ _ _ HT.out).mono ?_); rintro e w3 ⟨rfl, hb3⟩; have HB3 := Aside0.mk (below_step HB.out hb3); have BK3 := Aside0.mk (blk_below BK.out hb3); clear hb3; have hc0 := cellS26_0 BK3.out; have hc1 := cellS26_1 BK3.out; have hc2 := cellS26_2 BK3.out; have hf : ∀ o, w3.frozen? ⟨gb, o, none⟩ = false := (fun o => by simp [World.frozen?, BK3.out]))
       refine bodyPost_ret (results_ctt rfl _ _ gb 26 #[.int .i64 0, .string (⟨#[]⟩ : ByteArray), .string (⟨#[]⟩ : ByteArray)] (0, 0) _ rfl (by refine blk_put (cs := #[.int .i64 0, .string (⟨#[]⟩ : ByteArray), .string (⟨#[]⟩ : ByteArray)]) ?_ 2 _ rfl; refine blk_put (cs := #[.int .i64 0, .string (⟨#[]⟩ : ByteArray), .string (⟨#[]⟩ : ByteArray)]) ?_ 1 _ rfl; refine blk_put (cs := #[.int .i64 0, .string (⟨#[]⟩ : ByteArray), .string (⟨#[]⟩ : ByteArray)]) ?_ 0 _ rfl; exact BK3.out) Tryd.underlying26 rfl (by kernel_rfl)) rfl ?_
       exact ⟨rfl, below_set (below_set (below_set HB3.out GE.out) GE.out) GE.out⟩
end
end Go.Proofs.YtlcgonaapmmnkaaDoor.QFnLogs
