import Derived.Test.YtlcgonaapmmnkaaDoorSq
import Derived.Test.YtlcgonaapmmnkaaDoorQFnLogsx0
import Derived.Test.YtlcgonaapmmnkaaDoorQFnLogsx4
import Derived.Test.YtlcgonaapmmnkaaDoorQFnLogsx5
namespace Go.Proofs.YtlcgonaapmmnkaaDoor.QFnLogs
open Sq (fl pu_ gl_ b20_ b21_ b30_ b31_ b32_ od_ rr_ be_)
open Base (bwl_ bst_ bsz_ bkb_ nbl_ nbr_ kbl_ bkm_)
open Go.RowKit Go.Proofs.YtlcgonaapmmnkaaDoorW.PrintWords Go.Proofs.YtlcgonaapmmnkaaDoorW.PrintLast Go.Proofs.YtlcgonaapmmnkaaDoorW.PrintMore
attribute [local go_sem] max2_int min2_int max_two min_two max_three min_three max_four min_four
set_option linter.unusedVariables false
set_option linter.unusedSimpArgs false
mutual
def impl_ValidEntry.j0 : Nat → Bool → Int → ByteArray → ByteArray → Option (Bool)
 | 0, _, _, _, _ => none
 | k + 1, x19, x123000, x123001, x123002 => if x19 = true then (some false) else (impl_ValidEntry.l0 k 0 x123000 x123001 x123002)
def impl_ValidEntry.l0 : Nat → Int → Int → ByteArray → ByteArray → Option (Bool)
 | 0, _, _, _, _ => none
 | k + 1, x3, x123000, x123001, x123002 => if x3 < (x123002.size : Int) then (if 0 ≤ x3 then (if (bt x123002 x3) < 32 then (some false) else (if (bt x123002 x3) > 126 then (some false) else (impl_ValidEntry.l0 k (wrap64 (x3 + 1)) x123000 x123001 x123002))) else (none)) else (some true)
end
def impl_ValidEntry.f (k : Nat) (a0_0 : Int) (a0_1 : ByteArray) (a0_2 : ByteArray) : Option (Bool) := (impl_within.f a0_0 0 20000).bind fun t123 => (if t123 = true then ((impl_IsName.f k a0_1).bind fun t124 => (if t124 = true then (impl_ValidEntry.j0 k (decide ((a0_2.size : Int) > 60)) a0_0 a0_1 a0_2) else (impl_ValidEntry.j0 k true a0_0 a0_1 a0_2))) else (impl_ValidEntry.j0 k true a0_0 a0_1 a0_2))
theorem impl_ValidEntry.mono_l : ∀ k, (∀ y0 y1 y2 y3, LeO (impl_ValidEntry.j0 k y0 y1 y2 y3) (impl_ValidEntry.j0 (k + 1) y0 y1 y2 y3)) ∧ (∀ y0 y1 y2 y3, LeO (impl_ValidEntry.l0 k y0 y1 y2 y3) (impl_ValidEntry.l0 (k + 1) y0 y1 y2 y3))
 | 0 => ⟨fun _ _ _ _ r h => by simp [impl_ValidEntry.j0] at h, fun _ _ _ _ r h => by simp [impl_ValidEntry.l0] at h⟩
 | k + 1 => by
  obtain ⟨ih0, ih1⟩ := impl_ValidEntry.mono_l k
  refine ⟨?_, ?_⟩
  ·intro y0 y1 y2 y3
   unfold impl_ValidEntry.j0
   repeat' first
   | (with_reducible exact ih0 _ _ _ _)
   | (with_reducible exact ih1 _ _ _ _)
   | (with_reducible exact impl_IsName.mono _ _)
   | (with_reducible exact LeO.refl _)
   | (with_reducible exact LeO.none _)
   | (with_reducible refine LeO.ite ?_ ?_)
   | (with_reducible refine LeO.bind ?_ (fun _ => ?_))
   | exact ih0 _ _ _ _
   | exact ih1 _ _ _ _
   | exact impl_IsName.mono _ _
   | exact LeO.none _
   | refine LeO.ite ?_ ?_
   | refine LeO.bind ?_ (fun _ => ?_)
  ·intro y0 y1 y2 y3
   unfold impl_ValidEntry.l0
   repeat' first
   | (with_reducible exact ih0 _ _ _ _)
   | (with_reducible exact ih1 _ _ _ _)
   | (with_reducible exact impl_IsName.mono _ _)
   | (with_reducible exact LeO.refl _)
   | (with_reducible exact LeO.none _)
   | (with_reducible refine LeO.ite ?_ ?_)
   | (with_reducible refine LeO.bind ?_ (fun _ => ?_))
   | exact ih0 _ _ _ _
   | exact ih1 _ _ _ _
   | exact impl_IsName.mono _ _
   | exact LeO.none _
   | refine LeO.ite ?_ ?_
   | refine LeO.bind ?_ (fun _ => ?_)
theorem impl_ValidEntry.mono : ∀ a0 a1 a2 k, LeO (impl_ValidEntry.f k a0 a1 a2) (impl_ValidEntry.f (k + 1) a0 a1 a2) := by
 intro a0 a1 a2 k
 obtain ⟨ih0, ih1⟩ := impl_ValidEntry.mono_l k
 unfold impl_ValidEntry.f
 repeat' first
   | (with_reducible exact ih0 _ _ _ _)
   | (with_reducible exact ih1 _ _ _ _)
   | (with_reducible exact impl_IsName.mono _ _)
   | (with_reducible exact LeO.refl _)
   | (with_reducible exact LeO.none _)
   | (with_reducible refine LeO.ite ?_ ?_)
   | (with_reducible refine LeO.bind ?_ (fun _ => ?_))
   | exact ih0 _ _ _ _
   | exact ih1 _ _ _ _
   | exact impl_IsName.mono _ _
   | exact LeO.none _
   | refine LeO.ite ?_ ?_
   | refine LeO.bind ?_ (fun _ => ?_)
set_option maxHeartbeats 8000000 in
set_option maxRecDepth 100000 in
theorem impl_ValidEntry.calls (k : Nat) (a0_0 : Int) (a0_1 : ByteArray) (a0_2 : ByteArray) (r : Bool) (w : World) (h : impl_ValidEntry.f k a0_0 a0_1 a0_2 = some r) :
  Calls Tryd.prog 55 #[.agg #[.int .i64 a0_0, .string a0_1, .string a0_2]] w fun e w' => e = .returned (.bool r) ∧ Below w.heap.size w w' := by
 have hu26 := Tryd.underlying26
 have HB := Aside0.mk (Below.refl w.heap.size w)
 have H : ((impl_within.f a0_0 0 20000).bind fun t123 => (if t123 = true then ((impl_IsName.f k a0_1).bind fun t124 => (if t124 = true then (impl_ValidEntry.j0 k (decide ((a0_2.size : Int) > 60)) a0_0 a0_1 a0_2) else (impl_ValidEntry.j0 k true a0_0 a0_1 a0_2))) else (impl_ValidEntry.j0 k true a0_0 a0_1 a0_2))) = some r := h
 clear h
 have HC2 := Aside0.mk H
 clear H
 go_enter Tryd.func55, Tryd.ntmps55
 go_upto_region 1 with (first | ((with_reducible refine gate_dst (N := 1) rfl ?_); (try (refine gate_guard (by rfl) ?_; dsimp only)); refine be_ 1 #[.int .i64 a0_0, .string a0_1, .string a0_2] 26 ?_; intro gb122 hg w3 hbox hb; have BK122 := Aside0.mk (hbox); have GW122 := bsz_ hg; have GE122 := bsz_ hg; replace HB := bst_ hb; clear hb hbox hg))
 (try simp only [Act.put, List.setIfInBounds_toArray, List.set_cons_zero, List.set_cons_succ])
 go_cut [19] (fun v19 wc => ∃ (kq : Nat) (x19_1 : Bool), v19 = .bool x19_1 ∧ Aside0 (impl_ValidEntry.j0 kq x19_1 a0_0 a0_1 a0_2 = some r) ∧ Aside0 (kq ≤ k) ∧ Aside0 (wc.heap[gb122]? = some (.cells #[.int .i64 a0_0, .string a0_1, .string a0_2] 26 (0, 0))) ∧ Aside0 (Below w.heap.size w wc))
 case first =>
  have H := HC2.out
  clear HC2
  replace H := Option.bind_eq_some_iff.mp H
  obtain ⟨t123, A40, H⟩ := H
  (try dsimp only at H)
  have A4 := Aside0.mk A40
  clear A40
  by_cases c5 : t123 = true
  ·subst c5
   rw [if_pos rfl] at H
   replace H := Option.bind_eq_some_iff.mp H
   obtain ⟨t124, A60, H⟩ := H
   (try dsimp only at H)
   have A6 := Aside0.mk A60
   clear A60
   by_cases c7 : t124 = true
   ·subst c7
    rw [if_pos rfl] at H
    have H' := Aside0.mk H
    clear H
    have hcz8_0 := b30_ BK122
    have hcz8_1 := b31_ BK122
    have hcz8_2 := b32_ BK122
    have hfz8_0 := blk_frozen BK122.out 0
    have hfz8_1 := blk_frozen BK122.out 1
    have hfz8_2 := blk_frozen BK122.out 2
    go_wp2_with (first | ((with_reducible refine gate_callee (f := 63) rfl ?_); refine gl_ (some 6) Tryd.func63 #[.int .i64 a0_0, .int .i64 0, .int .i64 20000] ?_; (with_reducible refine (impl_within.calls a0_0 0 20000 true _ A4.out).mono ?_); rintro e w' ⟨rfl, ⟨nd, rfl⟩⟩; refine ⟨_, rfl, ?_⟩) | (go_at_call 70; (with_reducible refine (impl_IsName.calls k a0_1 true _ A6.out).mono ?_); rintro e w' ⟨rfl, ⟨nd, rfl⟩⟩))
    go_meet
    case rel => exact ⟨_, (decide ((a0_2.size : Int) > 60)), (by first | rfl | (simp; done) | (simp [*]; done)), H', ⟨by first | omega | exact Nat.le_refl _⟩, ⟨by (with_reducible repeat (first | refine blk_drewN ?_ _ | refine blk_drew ?_ | refine blk_alloc ?_ _)); exact BK122.out⟩, ⟨bwl_⟩⟩
   ·replace c7 := Bool.eq_false_iff.mpr c7
    subst c7
    rw [if_neg (show ¬ (false = true) by decide)] at H
    have H' := Aside0.mk H
    clear H
    have hcz9_0 := b30_ BK122
    have hcz9_1 := b31_ BK122
    have hcz9_2 := b32_ BK122
    have hfz9_0 := blk_frozen BK122.out 0
    have hfz9_1 := blk_frozen BK122.out 1
    have hfz9_2 := blk_frozen BK122.out 2
    go_wp2_with (first | ((with_reducible refine gate_callee (f := 63) rfl ?_); refine gl_ (some 6) Tryd.func63 #[.int .i64 a0_0, .int .i64 0, .int .i64 20000] ?_; (with_reducible refine (impl_within.calls a0_0 0 20000 true _ A4.out).mono ?_); rintro e w' ⟨rfl, ⟨nd, rfl⟩⟩; refine ⟨_, rfl, ?_⟩) | (go_at_call 70; (with_reducible refine (impl_IsName.calls k a0_1 false _ A6.out).mono ?_); rintro e w' ⟨rfl, ⟨nd, rfl⟩⟩))
    go_meet
    case rel => exact ⟨_, (true), (by first | rfl | (simp; done) | (simp [*]; done)), H', ⟨by first | omega | exact Nat.le_refl _⟩, ⟨by (with_reducible repeat (first | refine blk_drewN ?_ _ | refine blk_drew ?_ | refine blk_alloc ?_ _)); exact BK122.out⟩, ⟨bwl_⟩⟩
  ·replace c5 := Bool.eq_false_iff.mpr c5
   subst c5
   rw [if_neg (show ¬ (false = true) by decide)] at H
   have H' := Aside0.mk H
   clear H
   have hcz10_0 := b30_ BK122
   have hcz10_1 := b31_ BK122
   have hcz10_2 := b32_ BK122
   have hfz10_0 := blk_frozen BK122.out 0
   have hfz10_1 := blk_frozen BK122.out 1
   have hfz10_2 := blk_frozen BK122.out 2
   go_wp2_with (first | ((with_reducible refine gate_callee (f := 63) rfl ?_); refine gl_ (some 6) Tryd.func63 #[.int .i64 a0_0, .int .i64 0, .int .i64 20000] ?_; (with_reducible refine (impl_within.calls a0_0 0 20000 false _ A4.out).mono ?_); rintro e w' ⟨rfl, ⟨nd, rfl⟩⟩; refine ⟨_, rfl, ?_⟩))
   go_meet
   case rel => exact ⟨_, (true), (by first | rfl | (simp; done) | (simp [*]; done)), H', ⟨by first | omega | exact Nat.le_refl _⟩, ⟨by (with_reducible repeat (first | refine blk_drewN ?_ _ | refine blk_drew ?_ | refine blk_alloc ?_ _)); exact BK122.out⟩, ⟨bwl_⟩⟩
 case rest =>
  clear HC2
  (try clear c5);(try clear c7);(try clear hcz10_0);(try clear hcz10_1);(try clear hcz10_2);(try clear hcz8_0);(try clear hcz8_1);(try clear hcz8_2);(try clear hcz9_0);(try clear hcz9_1);(try clear hcz9_2);(try clear hfz10_0);(try clear hfz10_1);(try clear hfz10_2);(try clear hfz8_0);(try clear hfz8_1);(try clear hfz8_2);(try clear hfz9_0);(try clear hfz9_1);(try clear hfz9_2)
  obtain ⟨kq, x19_1, rfl, HA, HJ1, BK122, HB⟩ := hcut
  cases kq with
  | zero => exact absurd HA.out (by simp [impl_ValidEntry.j0])
  | succ kj1 =>
   have H := HA.out
   clear HA
   simp only [impl_ValidEntry.j0] at H
   by_cases c11 : x19_1 = true
   ·subst c11
    rw [if_pos rfl] at H
    obtain rfl := Option.some.inj H
    go_wp2
    go_ret
    exact ⟨rr_, bwl_⟩
   ·replace c11 := Bool.eq_false_iff.mpr c11
    subst c11
    rw [if_neg (show ¬ (false = true) by decide)] at H
    have H' := Aside0.mk H
    clear H
    go_wp2
    go_loopg [3] kj1 (fun kq v3 w' => ∃ (x3_2 : Int), v3 = .int .i64 x3_2 ∧ Aside0 (impl_ValidEntry.l0 kq x3_2 a0_0 a0_1 a0_2 = some r) ∧ Aside0 (kq ≤ kj1) ∧ Aside0 (w'.heap[gb122]? = some (.cells #[.int .i64 a0_0, .string a0_1, .string a0_2] 26 (0, 0))) ∧ Aside0 (Below w.heap.size w w'))
    case atStart => exact ⟨(0), (by first | rfl | (simp; done) | (simp [*]; done)), H', ⟨Nat.le_refl _⟩, ⟨by (with_reducible repeat (first | refine blk_drewN ?_ _ | refine blk_drew ?_ | refine blk_alloc ?_ _)); exact BK122.out⟩, ⟨bwl_⟩⟩
    case round =>
     clear H'
     (try clear c5);(try clear c7);(try clear c11);(try clear hcz10_0);(try clear hcz10_1);(try clear hcz10_2);(try clear hcz8_0);(try clear hcz8_1);(try clear hcz8_2);(try clear hcz9_0);(try clear hcz9_1);(try clear hcz9_2);(try clear hfz10_0);(try clear hfz10_1);(try clear hfz10_2);(try clear hfz8_0);(try clear hfz8_1);(try clear hfz8_2);(try clear hfz9_0);(try clear hfz9_1);(try clear hfz9_2)
     obtain ⟨x3_2, rfl, HA, HK2, BK122, HB⟩ := hrel
     cases gk with
     | zero => exact absurd HA.out (by simp [impl_ValidEntry.l0])
     | succ k2 =>
      have H := HA.out
      clear HA
      simp only [impl_ValidEntry.l0] at H
      by_cases c12 : x3_2 < (a0_2.size : Int)
      ·rw [if_pos c12] at H
       have c12b0 : decide (x3_2 < (a0_2.size : Int)) = true := decide_eq_true c12
       clear c12
       by_cases c13 : 0 ≤ x3_2
       ·rw [if_pos c13] at H
        have c13b0 : decide (0 ≤ x3_2) = true := decide_eq_true c13
        clear c13
        by_cases c15 : (bt a0_2 x3_2) < 32
        ·rw [if_pos c15] at H
         have c15b0 : decide ((bt a0_2 x3_2) < 32) = true := decide_eq_true c15
         clear c15
         obtain rfl := Option.some.inj H
         have hcz16_0 := b30_ BK122
         have hcz16_1 := b31_ BK122
         have hcz16_2 := b32_ BK122
         have hfz16_0 := blk_frozen BK122.out 0
         have hfz16_1 := blk_frozen BK122.out 1
         have hfz16_2 := blk_frozen BK122.out 2
         have p14 : 0 ≤ (x3_2 : Int) := od_
         have q14 : x3_2 < (a0_2.size : Int) := od_
         have hx14 := bt_at a0_2 x3_2
         replace p14 := eq_true p14
         replace q14 := eq_true q14
         go_wp2
         go_ret
         exact ⟨rr_, bwl_⟩
        ·rw [if_neg c15] at H
         have c15b0 : decide ((bt a0_2 x3_2) < 32) = false := decide_eq_false c15
         clear c15
         by_cases c18 : (bt a0_2 x3_2) > 126
         ·rw [if_pos c18] at H
          have c18b0 : decide (126 < (bt a0_2 x3_2)) = true := decide_eq_true c18
          clear c18
          obtain rfl := Option.some.inj H
          have hcz19_0 := b30_ BK122
          have hcz19_1 := b31_ BK122
          have hcz19_2 := b32_ BK122
          have hfz19_0 := blk_frozen BK122.out 0
          have hfz19_1 := blk_frozen BK122.out 1
          have hfz19_2 := blk_frozen BK122.out 2
          have p14 : 0 ≤ (x3_2 : Int) := od_
          have q14 : x3_2 < (a0_2.size : Int) := od_
          have hx14 := bt_at a0_2 x3_2
          replace p14 := eq_true p14
          replace q14 := eq_true q14
          have p17 : 0 ≤ (x3_2 : Int) := od_
          have q17 : x3_2 < (a0_2.size : Int) := od_
          have hx17 := bt_at a0_2 x3_2
          replace p17 := eq_true p17
          replace q17 := eq_true q17
          go_wp2
          go_ret
          exact ⟨rr_, bwl_⟩
         ·rw [if_neg c18] at H
          have c18b0 : decide (126 < (bt a0_2 x3_2)) = false := decide_eq_false c18
          clear c18
          have H' := Aside0.mk H
          clear H
          have hcz20_0 := b30_ BK122
          have hcz20_1 := b31_ BK122
          have hcz20_2 := b32_ BK122
          have hfz20_0 := blk_frozen BK122.out 0
          have hfz20_1 := blk_frozen BK122.out 1
          have hfz20_2 := blk_frozen BK122.out 2
          have p14 : 0 ≤ (x3_2 : Int) := od_
          have q14 : x3_2 < (a0_2.size : Int) := od_
          have hx14 := bt_at a0_2 x3_2
          replace p14 := eq_true p14
          replace q14 := eq_true q14
          have p17 : 0 ≤ (x3_2 : Int) := od_
          have q17 : x3_2 < (a0_2.size : Int) := od_
          have hx17 := bt_at a0_2 x3_2
          replace p17 := eq_true p17
          replace q17 := eq_true q17
          go_wp2
          go_roundg k2
          case measure => have := HJ1.out; have := HK2.out; omega
          case rel => exact ⟨(wrap64 (x3_2 + 1)), (by first | rfl | (simp; done) | (simp [*]; done)), H', ⟨by have := HJ1.out; have := HK2.out; omega⟩, ⟨by (with_reducible repeat (first | refine blk_drewN ?_ _ | refine blk_drew ?_ | refine blk_alloc ?_ _)); exact BK122.out⟩, ⟨bwl_⟩⟩
       ·rw [if_neg c13] at H
        exact absurd H (by simp)
      ·rw [if_neg c12] at H
       have c12b0 : decide (x3_2 < (a0_2.size : Int)) = false := decide_eq_false c12
       clear c12
       obtain rfl := Option.some.inj H
       have hcz21_0 := b30_ BK122
       have hcz21_1 := b31_ BK122
       have hcz21_2 := b32_ BK122
       have hfz21_0 := blk_frozen BK122.out 0
       have hfz21_1 := blk_frozen BK122.out 1
       have hfz21_2 := blk_frozen BK122.out 2
       go_wp2
       go_ret
       exact ⟨rr_, bwl_⟩
section
open Go.Proofs.YtlcgonaapmmnkaaDoor.Base
def strconv_FormatInt.f (a0 : Int) (a1 : Int) : Option ByteArray := if a1 = 10 ∧ -9223372036854775808 ≤ a0 ∧ a0 ≤ 9223372036854775807 then some ⟨(Lib.itoa a0).toArray⟩ else none
theorem strconv_FormatInt.calls (a0 : Int) (a1 : Int) (r : ByteArray) (w : World) (h : strconv_FormatInt.f a0 a1 = some r) (hT : Go.Proofs.YtlcgonaapmmnkaaDoor.Base.Tb2 w) :
  Calls Tryd.prog 87 #[.int .i64 a0, .int .i64 a1] w fun e w' => e = .returned (.string r) ∧ Below w.heap.size w w' := by
 unfold strconv_FormatInt.f at h
 split at h
 ·rename_i hc
  obtain ⟨rfl, h0, h1⟩ := hc
  obtain rfl := Option.some.inj h
  refine (Tryd.strconv_FormatInt_10 a0 h0 h1 w hT.tab).mono fun e w' ⟨he, k, os, hw⟩ => ⟨he, ?_⟩
  rw [hw]
  exact Lib.below_grow _ w (Nat.le_refl _) k os
 ·cases h
end
def impl_Decimal.f (a0 : Int) : Option (ByteArray) := (strconv_FormatInt.f a0 10).bind fun t125 => (some t125)
set_option maxHeartbeats 8000000 in
set_option maxRecDepth 100000 in
theorem impl_Decimal.calls (a0 : Int) (r : ByteArray) (w : World) (h : impl_Decimal.f a0 = some r) (hT : Go.Proofs.YtlcgonaapmmnkaaDoor.Base.Tb2 w) :
  Calls Tryd.prog 59 #[.int .i64 a0] w fun e w' => e = .returned (.string r) ∧ Below w.heap.size w w' := by
 have HTB := Aside0.mk hT
 clear hT
 have HB := Aside0.mk (Below.refl w.heap.size w)
 have H : ((strconv_FormatInt.f a0 10).bind fun t125 => (some t125)) = some r := h
 clear h
 replace H := Option.bind_eq_some_iff.mp H
 obtain ⟨t125, A20, H⟩ := H
 (try dsimp only at H)
 have A2 := Aside0.mk A20
 clear A20
 obtain rfl := Option.some.inj H
 go_enter Tryd.func59, Tryd.ntmps59
 go_wp2_with (first | ((with_reducible refine gate_callee (f := 87) rfl ?_); refine gl_ (some 4) Tryd.func87 #[.int .i64 a0, .int .i64 10] ?_; (with_reducible refine (strconv_FormatInt.calls a0 10 t125 _ A2.out ?side1).mono ?_); (case side1 => exact HTB.out.below bwl_); rintro e w3 ⟨rfl, hb⟩; refine ⟨_, rfl, ?_⟩; replace HB := bst_ hb; clear hb))
 go_ret
 exact ⟨rr_, bwl_⟩
def impl_FrameOf.f (k : Nat) (a0_0 : Int) (a0_1 : ByteArray) (a0_2 : ByteArray) : Option (ByteArray) := (impl_ValidEntry.f k a0_0 a0_1 a0_2).bind fun t127 => (if t127 = true then ((impl_Decimal.f a0_0).bind fun t128 => (if t128.size + 1 ≤ 9223372036854775807 then (if (t128 ++ (⟨#[32]⟩ : ByteArray)).size + a0_1.size ≤ 9223372036854775807 then (if ((t128 ++ (⟨#[32]⟩ : ByteArray)) ++ a0_1).size + 1 ≤ 9223372036854775807 then (if (((t128 ++ (⟨#[32]⟩ : ByteArray)) ++ a0_1) ++ (⟨#[32]⟩ : ByteArray)).size + a0_2.size ≤ 9223372036854775807 then ((impl_Decimal.f (((((t128 ++ (⟨#[32]⟩ : ByteArray)) ++ a0_1) ++ (⟨#[32]⟩ : ByteArray)) ++ a0_2).size : Int)).bind fun t129 => (if t129.size + 1 ≤ 9223372036854775807 then (if (t129 ++ (⟨#[58]⟩ : ByteArray)).size + ((((t128 ++ (⟨#[32]⟩ : ByteArray)) ++ a0_1) ++ (⟨#[32]⟩ : ByteArray)) ++ a0_2).size ≤ 9223372036854775807 then (if ((t129 ++ (⟨#[58]⟩ : ByteArray)) ++ ((((t128 ++ (⟨#[32]⟩ : ByteArray)) ++ a0_1) ++ (⟨#[32]⟩ : ByteArray)) ++ a0_2)).size + 1 ≤ 9223372036854775807 then ((impl_SumOf.f k ((((t128 ++ (⟨#[32]⟩ : ByteArray)) ++ a0_1) ++ (⟨#[32]⟩ : ByteArray)) ++ a0_2)).bind fun t130 => ((impl_Decimal.f t130).bind fun t131 => (if (((t129 ++ (⟨#[58]⟩ : ByteArray)) ++ ((((t128 ++ (⟨#[32]⟩ : ByteArray)) ++ a0_1) ++ (⟨#[32]⟩ : ByteArray)) ++ a0_2)) ++ (⟨#[35]⟩ : ByteArray)).size + t131.size ≤ 9223372036854775807 then (if ((((t129 ++ (⟨#[58]⟩ : ByteArray)) ++ ((((t128 ++ (⟨#[32]⟩ : ByteArray)) ++ a0_1) ++ (⟨#[32]⟩ : ByteArray)) ++ a0_2)) ++ (⟨#[35]⟩ : ByteArray)) ++ t131).size + 1 ≤ 9223372036854775807 then (some (((((t129 ++ (⟨#[58]⟩ : ByteArray)) ++ ((((t128 ++ (⟨#[32]⟩ : ByteArray)) ++ a0_1) ++ (⟨#[32]⟩ : ByteArray)) ++ a0_2)) ++ (⟨#[35]⟩ : ByteArray)) ++ t131) ++ (⟨#[10]⟩ : ByteArray))) else (none)) else (none)))) else (none)) else (none)) else (none))) else (none)) else (none)) else (none)) else (none))) else (some (⟨#[]⟩ : ByteArray)))
theorem impl_FrameOf.mono : ∀ a0 a1 a2 k, LeO (impl_FrameOf.f k a0 a1 a2) (impl_FrameOf.f (k + 1) a0 a1 a2) := by
 intro a0 a1 a2 k
 unfold impl_FrameOf.f
 repeat' first
   | (with_reducible exact impl_SumOf.mono _ _)
   | (with_reducible exact impl_ValidEntry.mono _ _ _ _)
   | (with_reducible exact LeO.refl _)
   | (with_reducible exact LeO.none _)
   | (with_reducible refine LeO.ite ?_ ?_)
   | (with_reducible refine LeO.bind ?_ (fun _ => ?_))
   | exact impl_SumOf.mono _ _
   | exact impl_ValidEntry.mono _ _ _ _
   | exact LeO.none _
   | refine LeO.ite ?_ ?_
   | refine LeO.bind ?_ (fun _ => ?_)
def impl_FrameOf.T3 : Bool × List (List Nat × List Nat) := (true, [([], []), ([0], [0]), ([1], [1]), ([2], [2]), ([], []), ([4], [4]), ([3, 5], [3, 5]), ([6], [6]), ([], []), ([8], [8]), ([7, 9], [7, 9]), ([10, 2, 0, 1, 2, 3, 4, 5, 6, 7, 8, 9, 10], [10])])
def impl_FrameOf.B3 : List Nat := [0, 1, 3, 7, 0, 16, 63, 127, 0, 256, 1023, 2047]
theorem impl_FrameOf.tab3 : rtab .any (opsOf Tryd.f17 3) = impl_FrameOf.T3 := by kernel_rfl
theorem impl_FrameOf.bits3 : waitsOk impl_FrameOf.T3.2 impl_FrameOf.B3 = true := by kernel_rfl
set_option maxHeartbeats 8000000 in
set_option maxRecDepth 100000 in
theorem impl_FrameOf.calls (k : Nat) (a0_0 : Int) (a0_1 : ByteArray) (a0_2 : ByteArray) (r : ByteArray) (w : World) (h : impl_FrameOf.f k a0_0 a0_1 a0_2 = some r) (hT : Go.Proofs.YtlcgonaapmmnkaaDoor.Base.Tb2 w) :
  Calls Tryd.prog 17 #[.agg #[.int .i64 a0_0, .string a0_1, .string a0_2]] w fun e w' => e = .returned (.string r) ∧ Below w.heap.size w w' := by
 have HTB := Aside0.mk hT
 clear hT
 have hu26 := Tryd.underlying26
 have HB := Aside0.mk (Below.refl w.heap.size w)
 have H : ((impl_ValidEntry.f k a0_0 a0_1 a0_2).bind fun t127 => (if t127 = true then ((impl_Decimal.f a0_0).bind fun t128 => (if t128.size + 1 ≤ 9223372036854775807 then (if (t128 ++ (⟨#[32]⟩ : ByteArray)).size + a0_1.size ≤ 9223372036854775807 then (if ((t128 ++ (⟨#[32]⟩ : ByteArray)) ++ a0_1).size + 1 ≤ 9223372036854775807 then (if (((t128 ++ (⟨#[32]⟩ : ByteArray)) ++ a0_1) ++ (⟨#[32]⟩ : ByteArray)).size + a0_2.size ≤ 9223372036854775807 then ((impl_Decimal.f (((((t128 ++ (⟨#[32]⟩ : ByteArray)) ++ a0_1) ++ (⟨#[32]⟩ : ByteArray)) ++ a0_2).size : Int)).bind fun t129 => (if t129.size + 1 ≤ 9223372036854775807 then (if (t129 ++ (⟨#[58]⟩ : ByteArray)).size + ((((t128 ++ (⟨#[32]⟩ : ByteArray)) ++ a0_1) ++ (⟨#[32]⟩ : ByteArray)) ++ a0_2).size ≤ 9223372036854775807 then (if ((t129 ++ (⟨#[58]⟩ : ByteArray)) ++ ((((t128 ++ (⟨#[32]⟩ : ByteArray)) ++ a0_1) ++ (⟨#[32]⟩ : ByteArray)) ++ a0_2)).size + 1 ≤ 9223372036854775807 then ((impl_SumOf.f k ((((t128 ++ (⟨#[32]⟩ : ByteArray)) ++ a0_1) ++ (⟨#[32]⟩ : ByteArray)) ++ a0_2)).bind fun t130 => ((impl_Decimal.f t130).bind fun t131 => (if (((t129 ++ (⟨#[58]⟩ : ByteArray)) ++ ((((t128 ++ (⟨#[32]⟩ : ByteArray)) ++ a0_1) ++ (⟨#[32]⟩ : ByteArray)) ++ a0_2)) ++ (⟨#[35]⟩ : ByteArray)).size + t131.size ≤ 9223372036854775807 then (if ((((t129 ++ (⟨#[58]⟩ : ByteArray)) ++ ((((t128 ++ (⟨#[32]⟩ : ByteArray)) ++ a0_1) ++ (⟨#[32]⟩ : ByteArray)) ++ a0_2)) ++ (⟨#[35]⟩ : ByteArray)) ++ t131).size + 1 ≤ 9223372036854775807 then (some (((((t129 ++ (⟨#[58]⟩ : ByteArray)) ++ ((((t128 ++ (⟨#[32]⟩ : ByteArray)) ++ a0_1) ++ (⟨#[32]⟩ : ByteArray)) ++ a0_2)) ++ (⟨#[35]⟩ : ByteArray)) ++ t131) ++ (⟨#[10]⟩ : ByteArray))) else (none)) else (none)))) else (none)) else (none)) else (none))) else (none)) else (none)) else (none)) else (none))) else (some (⟨#[]⟩ : ByteArray)))) = some r := h
 clear h
 replace H := Option.bind_eq_some_iff.mp H
 obtain ⟨t127, A20, H⟩ := H
 (try dsimp only at H)
 have A2 := Aside0.mk A20
 clear A20
 by_cases c3 : t127 = true
 ·subst c3
  rw [if_pos rfl] at H
  replace H := Option.bind_eq_some_iff.mp H
  obtain ⟨t128, A40, H⟩ := H
  (try dsimp only at H)
  have A4 := Aside0.mk A40
  clear A40
  by_cases c5 : t128.size + 1 ≤ 9223372036854775807
  ·rw [if_pos c5] at H
   have c5b0 := eq_true c5
   have c5b1 : decide (t128.size + 1 ≤ 9223372036854775807) = true := decide_eq_true c5
   try have c5b2 : (9223372036854775807 < t128.size + 1) = False := eq_false (Nat.not_lt.2 c5)
   by_cases c6 : (t128 ++ (⟨#[32]⟩ : ByteArray)).size + a0_1.size ≤ 9223372036854775807
   ·rw [if_pos c6] at H
    have c6b0 := eq_true c6
    have c6b1 : decide ((t128 ++ (⟨#[32]⟩ : ByteArray)).size + a0_1.size ≤ 9223372036854775807) = true := decide_eq_true c6
    try have c6b2 : (9223372036854775807 < (t128 ++ (⟨#[32]⟩ : ByteArray)).size + a0_1.size) = False := eq_false (Nat.not_lt.2 c6)
    try (have c6b3 := c6b2; simp only [ByteArray.size_append, show (⟨#[32]⟩ : ByteArray).size = 1 from rfl] at c6b3)
    by_cases c7 : ((t128 ++ (⟨#[32]⟩ : ByteArray)) ++ a0_1).size + 1 ≤ 9223372036854775807
    ·rw [if_pos c7] at H
     have c7b0 := eq_true c7
     have c7b1 : decide (((t128 ++ (⟨#[32]⟩ : ByteArray)) ++ a0_1).size + 1 ≤ 9223372036854775807) = true := decide_eq_true c7
     try have c7b2 : (9223372036854775807 < ((t128 ++ (⟨#[32]⟩ : ByteArray)) ++ a0_1).size + 1) = False := eq_false (Nat.not_lt.2 c7)
     try (have c7b3 := c7b2; simp only [ByteArray.size_append, show (⟨#[32]⟩ : ByteArray).size = 1 from rfl] at c7b3)
     by_cases c8 : (((t128 ++ (⟨#[32]⟩ : ByteArray)) ++ a0_1) ++ (⟨#[32]⟩ : ByteArray)).size + a0_2.size ≤ 9223372036854775807
     ·rw [if_pos c8] at H
      have c8b0 := eq_true c8
      have c8b1 : decide ((((t128 ++ (⟨#[32]⟩ : ByteArray)) ++ a0_1) ++ (⟨#[32]⟩ : ByteArray)).size + a0_2.size ≤ 9223372036854775807) = true := decide_eq_true c8
      try have c8b2 : (9223372036854775807 < (((t128 ++ (⟨#[32]⟩ : ByteArray)) ++ a0_1) ++ (⟨#[32]⟩ : ByteArray)).size + a0_2.size) = False := eq_false (Nat.not_lt.2 c8)
      try (have c8b3 := c8b2; simp only [ByteArray.size_append, show (⟨#[32]⟩ : ByteArray).size = 1 from rfl] at c8b3)
      replace H := Option.bind_eq_some_iff.mp H
      obtain ⟨t129, A90, H⟩ := H
      (try dsimp only at H)
      have A9 := Aside0.mk A90
      clear A90
      by_cases c10 : t129.size + 1 ≤ 9223372036854775807
      ·rw [if_pos c10] at H
       have c10b0 := eq_true c10
       have c10b1 : decide (t129.size + 1 ≤ 9223372036854775807) = true := decide_eq_true c10
       try have c10b2 : (9223372036854775807 < t129.size + 1) = False := eq_false (Nat.not_lt.2 c10)
       by_cases c11 : (t129 ++ (⟨#[58]⟩ : ByteArray)).size + ((((t128 ++ (⟨#[32]⟩ : ByteArray)) ++ a0_1) ++ (⟨#[32]⟩ : ByteArray)) ++ a0_2).size ≤ 9223372036854775807
       ·rw [if_pos c11] at H
        have c11b0 := eq_true c11
        have c11b1 : decide ((t129 ++ (⟨#[58]⟩ : ByteArray)).size + ((((t128 ++ (⟨#[32]⟩ : ByteArray)) ++ a0_1) ++ (⟨#[32]⟩ : ByteArray)) ++ a0_2).size ≤ 9223372036854775807) = true := decide_eq_true c11
        try have c11b2 : (9223372036854775807 < (t129 ++ (⟨#[58]⟩ : ByteArray)).size + ((((t128 ++ (⟨#[32]⟩ : ByteArray)) ++ a0_1) ++ (⟨#[32]⟩ : ByteArray)) ++ a0_2).size) = False := eq_false (Nat.not_lt.2 c11)
        try (have c11b3 := c11b2; simp only [ByteArray.size_append, show (⟨#[32]⟩ : ByteArray).size = 1 from rfl, show (⟨#[58]⟩ : ByteArray).size = 1 from rfl] at c11b3)
        by_cases c12 : ((t129 ++ (⟨#[58]⟩ : ByteArray)) ++ ((((t128 ++ (⟨#[32]⟩ : ByteArray)) ++ a0_1) ++ (⟨#[32]⟩ : ByteArray)) ++ a0_2)).size + 1 ≤ 9223372036854775807
        ·rw [if_pos c12] at H
         have c12b0 := eq_true c12
         have c12b1 : decide (((t129 ++ (⟨#[58]⟩ : ByteArray)) ++ ((((t128 ++ (⟨#[32]⟩ : ByteArray)) ++ a0_1) ++ (⟨#[32]⟩ : ByteArray)) ++ a0_2)).size + 1 ≤ 9223372036854775807) = true := decide_eq_true c12
         try have c12b2 : (9223372036854775807 < ((t129 ++ (⟨#[58]⟩ : ByteArray)) ++ ((((t128 ++ (⟨#[32]⟩ : ByteArray)) ++ a0_1) ++ (⟨#[32]⟩ : ByteArray)) ++ a0_2)).size + 1) = False := eq_false (Nat.not_lt.2 c12)
         try (have c12b3 := c12b2; simp only [ByteArray.size_append, show (⟨#[32]⟩ : ByteArray).size = 1 from rfl, show (⟨#[58]⟩ : ByteArray).size = 1 from rfl] at c12b3)
         replace H := Option.bind_eq_some_iff.mp H
         obtain ⟨t130, A130, H⟩ := H
         (try dsimp only at H)
         have A13 := Aside0.mk A130
         clear A130
         replace H := Option.bind_eq_some_iff.mp H
         obtain ⟨t131, A140, H⟩ := H
         (try dsimp only at H)
         have A14 := Aside0.mk A140
         clear A140
         by_cases c15 : (((t129 ++ (⟨#[58]⟩ : ByteArray)) ++ ((((t128 ++ (⟨#[32]⟩ : ByteArray)) ++ a0_1) ++ (⟨#[32]⟩ : ByteArray)) ++ a0_2)) ++ (⟨#[35]⟩ : ByteArray)).size + t131.size ≤ 9223372036854775807
         ·rw [if_pos c15] at H
          have c15b0 := eq_true c15
          have c15b1 : decide ((((t129 ++ (⟨#[58]⟩ : ByteArray)) ++ ((((t128 ++ (⟨#[32]⟩ : ByteArray)) ++ a0_1) ++ (⟨#[32]⟩ : ByteArray)) ++ a0_2)) ++ (⟨#[35]⟩ : ByteArray)).size + t131.size ≤ 9223372036854775807) = true := decide_eq_true c15
          try have c15b2 : (9223372036854775807 < (((t129 ++ (⟨#[58]⟩ : ByteArray)) ++ ((((t128 ++ (⟨#[32]⟩ : ByteArray)) ++ a0_1) ++ (⟨#[32]⟩ : ByteArray)) ++ a0_2)) ++ (⟨#[35]⟩ : ByteArray)).size + t131.size) = False := eq_false (Nat.not_lt.2 c15)
          try (have c15b3 := c15b2; simp only [ByteArray.size_append, show (⟨#[32]⟩ : ByteArray).size = 1 from rfl, show (⟨#[35]⟩ : ByteArray).size = 1 from rfl, show (⟨#[58]⟩ : ByteArray).size = 1 from rfl] at c15b3)
          by_cases c16 : ((((t129 ++ (⟨#[58]⟩ : ByteArray)) ++ ((((t128 ++ (⟨#[32]⟩ : ByteArray)) ++ a0_1) ++ (⟨#[32]⟩ : ByteArray)) ++ a0_2)) ++ (⟨#[35]⟩ : ByteArray)) ++ t131).size + 1 ≤ 9223372036854775807
          ·rw [if_pos c16] at H
           have c16b0 := eq_true c16
           have c16b1 : decide (((((t129 ++ (⟨#[58]⟩ : ByteArray)) ++ ((((t128 ++ (⟨#[32]⟩ : ByteArray)) ++ a0_1) ++ (⟨#[32]⟩ : ByteArray)) ++ a0_2)) ++ (⟨#[35]⟩ : ByteArray)) ++ t131).size + 1 ≤ 9223372036854775807) = true := decide_eq_true c16
           try have c16b2 : (9223372036854775807 < ((((t129 ++ (⟨#[58]⟩ : ByteArray)) ++ ((((t128 ++ (⟨#[32]⟩ : ByteArray)) ++ a0_1) ++ (⟨#[32]⟩ : ByteArray)) ++ a0_2)) ++ (⟨#[35]⟩ : ByteArray)) ++ t131).size + 1) = False := eq_false (Nat.not_lt.2 c16)
           try (have c16b3 := c16b2; simp only [ByteArray.size_append, show (⟨#[32]⟩ : ByteArray).size = 1 from rfl, show (⟨#[35]⟩ : ByteArray).size = 1 from rfl, show (⟨#[58]⟩ : ByteArray).size = 1 from rfl] at c16b3)
           obtain rfl := Option.some.inj H
           go_enter Tryd.func17, Tryd.ntmps17
           try go_wp2_with (first | ((with_reducible refine gate_dst (N := 1) rfl ?_); refine be_ 1 #[.int .i64 a0_0, .string a0_1, .string a0_2] 26 ?_; intro gb126 hg w17 hbox hb; have BK126 := Aside0.mk (hbox); have GW126 := bsz_ hg; have GE126 := bsz_ hg; replace HB := bst_ hb; clear hb hbox hg; have hcz18_0 := b30_ BK126; have hcz18_1 := b31_ BK126; have hcz18_2 := b32_ BK126; have hfz18_0 := blk_frozen BK126.out 0; have hfz18_1 := blk_frozen BK126.out 1; have hfz18_2 := blk_frozen BK126.out 2) | ((with_reducible refine gate_callee (f := 55) rfl ?_); refine gl_ (some 5) Tryd.func55 #[.agg #[.int .i64 a0_0, .string a0_1, .string a0_2]] ?_; (with_reducible refine (impl_ValidEntry.calls k a0_0 a0_1 a0_2 true _ A2.out).mono ?_); rintro e w19 ⟨rfl, hb⟩; refine ⟨_, rfl, ?_⟩; replace BK126 := bkb_ BK126 hb; replace HB := bst_ hb; clear hb))
           replace BK126 := Aside0.mk (blk_drew BK126.out)
           replace HB := Aside0.mk (below_drew1 HB.out)
           refine start_ (n := 12) (S := fun w' => w'.cell? ⟨gb126, 0, none⟩ = some (.int .i64 a0_0) ∧ w'.cell? ⟨gb126, 1, none⟩ = some (.string a0_1) ∧ w'.cell? ⟨gb126, 2, none⟩ = some (.string a0_2)) (ds := []) (fl 12 0) (by kernel_rfl) rfl rfl ⟨(blk_cell BK126.out 0).trans rfl, (blk_cell BK126.out 1).trans rfl, (blk_cell BK126.out 2).trans rfl⟩ (fun hHeld => ?_); refine with_tabW impl_FrameOf.tab3 impl_FrameOf.bits3 (fun HT_ HW_ => ?_)
           generalize w19.drew = w20 at BK126 HB hHeld ⊢
           refine pu_ (i := 0) (N := some 7) (fl 12 1) (any_of HT_.out (by kernel_rfl)) ?_
           refine pu_ (i := 4) (N := some 11) (fl 12 17) (any_of HT_.out (by kernel_rfl)) ?_
           refine pu_ (i := 8) (N := some 15) (fl 12 273) (any_of HT_.out (by kernel_rfl)) ?_
           refine take_ (i := 1) (N := some 8) (v := ?_) (a' := ?_) (fl 12 275) rfl rfl (take_ofW HT_.out HW_.out (by kernel_rfl)) (fun _ _ _ h => h) (Or.inl ⟨by rfl, ?_⟩) hHeld ?_ ?_
           rotate_left
           ·rintro w' ⟨s0, s1, s2⟩
            go_simp
            with_reducible rfl
           rotate_left
           ·simp only [Act.put, List.setIfInBounds_toArray, List.set_cons_zero, List.set_cons_succ, i64_w, i32_w]
            rfl
           refine take_ (i := 5) (N := some 12) (v := ?_) (a' := ?_) (fl 12 307) rfl rfl (take_ofW HT_.out HW_.out (by kernel_rfl)) (fun _ _ _ h => h) (Or.inl ⟨by rfl, ?_⟩) hHeld ?_ ?_
           rotate_left
           ·rintro w' ⟨s0, s1, s2⟩
            go_simp
            with_reducible rfl
           rotate_left
           ·simp only [Act.put, List.setIfInBounds_toArray, List.set_cons_zero, List.set_cons_succ, i64_w, i32_w]
            rfl
           refine take_ (i := 9) (N := some 16) (v := ?_) (a' := ?_) (fl 12 819) rfl rfl (take_ofW HT_.out HW_.out (by kernel_rfl)) (fun _ _ _ h => h) (Or.inl ⟨by rfl, ?_⟩) hHeld ?_ ?_
           rotate_left
           ·rintro w' ⟨s0, s1, s2⟩
            go_simp
            with_reducible rfl
           rotate_left
           ·simp only [Act.put, List.setIfInBounds_toArray, List.set_cons_zero, List.set_cons_succ, i64_w, i32_w]
            rfl
           refine one_ (i := 2) (N := some 9) (fl 12 823) rfl rfl (one_of HT_.out (by kernel_rfl)) (by decide) (fun K hK => ?_)
           refine goes_ Tryd.func59 (by kernel_rfl) rfl #[.int .i64 a0_0] (by rfl) rfl rfl (by (try simp only [List.map_toArray, List.map_cons, List.map_nil]); first | done | rfl | (simp only [List.length_drop, List.length_take]; rfl) | (simp only [ByteArray.size_append, Int.natCast_add]; rfl)) ?_
           with_reducible refine (impl_Decimal.calls a0_0 t128 _ A4.out ?side1).mono ?_
           (case side1 => exact HTB.out.below bwl_)
           rintro e w21 ⟨rfl, hb⟩
           refine ⟨_, rfl, ?_⟩
           replace BK126 := bkb_ BK126 hb
           replace HB := bst_ hb
           (try clear hb);(try clear hb2);(try clear hk);(try clear hi)
           refine hK.out _ _ ⟨(blk_cell BK126.out 0).trans rfl, (blk_cell BK126.out 1).trans rfl, (blk_cell BK126.out 2).trans rfl⟩ (fun hHeld => ?_)
           clear hK K
           refine norm_ (a' := ?_) ?_ ?_
           rotate_left
           ·show Act.put _ (some 9) _ = _
            simp only [Act.put, List.setIfInBounds_toArray, List.set_cons_zero, List.set_cons_succ, i64_w, i32_w]
            rfl
           refine pu_ (i := 3) (N := some 10) (fl 12 831) (any_of HT_.out (by kernel_rfl)) ?_
           refine pu_ (i := 6) (N := some 13) (fl 12 895) (any_of HT_.out (by kernel_rfl)) ?_
           refine pu_ (i := 7) (N := some 14) (fl 12 1023) (any_of HT_.out (by kernel_rfl)) ?_
           refine pu_ (i := 10) (N := some 17) (fl 12 2047) (any_of HT_.out (by kernel_rfl)) ?_
           refine pu_ (i := 11) (N := some 3) (fl 12 4095) (any_of HT_.out (by kernel_rfl)) ?_
           refine done_ (done_of HT_.out (by kernel_rfl)) ?_
           try go_wp2_with (first | ((with_reducible refine gate_callee (f := 59) rfl ?_); refine gl_ (some 20) Tryd.func59 #[.int .i64 (((((t128 ++ (⟨#[32]⟩ : ByteArray)) ++ a0_1) ++ (⟨#[32]⟩ : ByteArray)) ++ a0_2).size : Int)] ?_; (with_reducible refine (impl_Decimal.calls (((((t128 ++ (⟨#[32]⟩ : ByteArray)) ++ a0_1) ++ (⟨#[32]⟩ : ByteArray)) ++ a0_2).size : Int) t129 _ A9.out ?side1).mono ?_); (case side1 => exact HTB.out.below bwl_); rintro e w22 ⟨rfl, hb⟩; refine ⟨_, rfl, ?_⟩; replace BK126 := bkb_ BK126 hb; replace HB := bst_ hb; clear hb) | ((with_reducible refine gate_callee (f := 53) rfl ?_); refine gl_ (some 26) Tryd.func53 #[.string ((((t128 ++ (⟨#[32]⟩ : ByteArray)) ++ a0_1) ++ (⟨#[32]⟩ : ByteArray)) ++ a0_2)] ?_; (with_reducible refine (impl_SumOf.calls k ((((t128 ++ (⟨#[32]⟩ : ByteArray)) ++ a0_1) ++ (⟨#[32]⟩ : ByteArray)) ++ a0_2) t130 _ A13.out).mono ?_); rintro e w' ⟨rfl, ⟨nd, rfl⟩⟩; refine ⟨_, rfl, ?_⟩) | ((with_reducible refine gate_callee (f := 59) rfl ?_); refine gl_ (some 27) Tryd.func59 #[.int .i64 t130] ?_; (with_reducible refine (impl_Decimal.calls t130 t131 _ A14.out ?side1).mono ?_); (case side1 => exact HTB.out.below bwl_); rintro e w23 ⟨rfl, hb⟩; refine ⟨_, rfl, ?_⟩; replace BK126 := bkb_ BK126 hb; replace HB := bst_ hb; clear hb))
           go_ret
           exact ⟨rr_, bwl_⟩
          ·rw [if_neg c16] at H
           exact absurd H (by simp)
         ·rw [if_neg c15] at H
          exact absurd H (by simp)
        ·rw [if_neg c12] at H
         exact absurd H (by simp)
       ·rw [if_neg c11] at H
        exact absurd H (by simp)
      ·rw [if_neg c10] at H
       exact absurd H (by simp)
     ·rw [if_neg c8] at H
      exact absurd H (by simp)
    ·rw [if_neg c7] at H
     exact absurd H (by simp)
   ·rw [if_neg c6] at H
    exact absurd H (by simp)
  ·rw [if_neg c5] at H
   exact absurd H (by simp)
 ·replace c3 := Bool.eq_false_iff.mpr c3
  subst c3
  rw [if_neg (show ¬ (false = true) by decide)] at H
  obtain rfl := Option.some.inj H
  go_enter Tryd.func17, Tryd.ntmps17
  go_wp2_with (first | ((with_reducible refine gate_dst (N := 1) rfl ?_); refine be_ 1 #[.int .i64 a0_0, .string a0_1, .string a0_2] 26 ?_; intro gb126 hg w24 hbox hb; have BK126 := Aside0.mk (hbox); have GW126 := bsz_ hg; have GE126 := bsz_ hg; replace HB := bst_ hb; clear hb hbox hg; have hcz25_0 := b30_ BK126; have hcz25_1 := b31_ BK126; have hcz25_2 := b32_ BK126; have hfz25_0 := blk_frozen BK126.out 0; have hfz25_1 := blk_frozen BK126.out 1; have hfz25_2 := blk_frozen BK126.out 2) | ((with_reducible refine gate_callee (f := 55) rfl ?_); refine gl_ (some 5) Tryd.func55 #[.agg #[.int .i64 a0_0, .string a0_1, .string a0_2]] ?_; (with_reducible refine (impl_ValidEntry.calls k a0_0 a0_1 a0_2 false _ A2.out).mono ?_); rintro e w26 ⟨rfl, hb⟩; refine ⟨_, rfl, ?_⟩; replace BK126 := bkb_ BK126 hb; replace HB := bst_ hb; clear hb))
  go_ret
  exact ⟨rr_, bwl_⟩
end Go.Proofs.YtlcgonaapmmnkaaDoor.QFnLogs
