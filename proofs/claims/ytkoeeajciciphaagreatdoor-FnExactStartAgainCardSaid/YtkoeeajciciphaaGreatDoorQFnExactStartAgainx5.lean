import Derived.Test.YtkoeeajciciphaaGreatDoorSq
import Derived.Test.YtkoeeajciciphaaGreatDoorS4
import Derived.Test.YtkoeeajciciphaaGreatDoorQFnExactStartAgainx0
import Derived.Test.YtkoeeajciciphaaGreatDoorQFnExactStartAgainx3
namespace Go.Proofs.YtkoeeajciciphaaGreatDoor.QFnExactStartAgain
open Sq (fl pu_ gl_ b20_ b21_ b30_ b31_ b32_ od_ rr_ be_)
open Sq
open Go.RowKit Go.Proofs.YtkoeeajciciphaaGreatDoorW.PrintWords Go.Proofs.YtkoeeajciciphaaGreatDoorW.PrintLast Go.Proofs.YtkoeeajciciphaaGreatDoorW.PrintMore
attribute [local go_sem] max2_int min2_int max_two min_two max_three min_three max_four min_four
set_option linter.unusedVariables false
set_option linter.unusedSimpArgs false
set_option maxHeartbeats 8000000
set_option maxRecDepth 100000
def impl_within.f (a0 : Int) (a1 : Int) (a2 : Int) : Option (Bool) := if a0 ≥ a1 then (some (decide (a0 ≤ a2))) else (some false)
theorem impl_within.calls (a0 : Int) (a1 : Int) (a2 : Int) (r : Bool) (w : World) (h : impl_within.f a0 a1 a2 = some r) :
  Calls Tryz.prog 24 #[.int .i64 a0, .int .i64 a1, .int .i64 a2] w fun e w' => e = .returned (.bool r) ∧ Drawn0 w w' := by
 have H := h
 clear h
 unfold impl_within.f at H
 revert H
 refine if_ ?_ ?_ <;> intro c4b0 H
 ·obtain rfl := Option.some.inj H
  go_enter Tryz.func24, Tryz.ntmps24
  go_wp2
  go_ret
  exact ⟨re_, dw_⟩
 ·obtain rfl := Option.some.inj H
  go_enter Tryz.func24, Tryz.ntmps24
  go_wp2
  go_ret
  exact ⟨re_, dw_⟩
mutual
def impl_IsName.j0 : Nat → ByteArray → Bool → Option (Bool)
 | 0, _, _ => none
 | k + 1, x0, x21 => if x21 = true then (some false) else (impl_IsName.l0 k x0 0)
def impl_IsName.l0 : Nat → ByteArray → Int → Option (Bool)
 | 0, _, _ => none
 | k + 1, x0, x3 => if x3 < (x0.size : Int) then (if 0 ≤ x3 then (if (bt x0 x3) < 97 then (if (bt x0 x3) < 48 then (if (bt x0 x3) = 45 then (impl_IsName.l0 k x0 (wrap64 (x3 + 1))) else (some false)) else (if (bt x0 x3) > 57 then (if (bt x0 x3) = 45 then (impl_IsName.l0 k x0 (wrap64 (x3 + 1))) else (some false)) else (impl_IsName.l0 k x0 (wrap64 (x3 + 1))))) else (if (bt x0 x3) > 122 then (if (bt x0 x3) < 48 then (if (bt x0 x3) = 45 then (impl_IsName.l0 k x0 (wrap64 (x3 + 1))) else (some false)) else (if (bt x0 x3) > 57 then (if (bt x0 x3) = 45 then (impl_IsName.l0 k x0 (wrap64 (x3 + 1))) else (some false)) else (impl_IsName.l0 k x0 (wrap64 (x3 + 1))))) else (impl_IsName.l0 k x0 (wrap64 (x3 + 1))))) else (none)) else (some true)
end
def impl_IsName.f (k : Nat) (a0 : ByteArray) : Option (Bool) := if (a0.size : Int) < 1 then (impl_IsName.j0 k a0 true) else (if (a0.size : Int) > 12 then (impl_IsName.j0 k a0 true) else (if 0 < (a0.size : Int) then (if (bt a0 0) < 97 then (impl_IsName.j0 k a0 true) else (impl_IsName.j0 k a0 (decide ((bt a0 0) > 122)))) else (none)))
theorem impl_IsName.mono_l : ∀ k, (∀ y0 y1, LeO (impl_IsName.j0 k y0 y1) (impl_IsName.j0 (k + 1) y0 y1)) ∧ (∀ y0 y1, LeO (impl_IsName.l0 k y0 y1) (impl_IsName.l0 (k + 1) y0 y1))
 | 0 => ⟨fun _ _ r h => by simp [impl_IsName.j0] at h, fun _ _ r h => by simp [impl_IsName.l0] at h⟩
 | k + 1 => by
  obtain ⟨ih0, ih1⟩ := impl_IsName.mono_l k
  refine ⟨?_, ?_⟩
  ·intro y0 y1
   unfold impl_IsName.j0
   exact mo_
  ·intro y0 y1
   unfold impl_IsName.l0
   exact mo_
theorem impl_IsName.mono : ∀ a0 k, LeO (impl_IsName.f k a0) (impl_IsName.f (k + 1) a0) := by
 intro a0 k
 obtain ⟨ih0, ih1⟩ := impl_IsName.mono_l k
 unfold impl_IsName.f
 exact mo_
theorem impl_IsName.calls (k : Nat) (a0 : ByteArray) (r : Bool) (w : World) (h : impl_IsName.f k a0 = some r) :
  Calls Tryz.prog 90 #[.string a0] w fun e w' => e = .returned (.bool r) ∧ Drawn0 w w' := by
 have H := h
 clear h
 unfold impl_IsName.f at H
 have HC2 := Aside0.mk H
 clear H
 go_enter Tryz.func90, Tryz.ntmps90
 go_upto_region 1 with (fail)
 go_cut [21] (fun v21 wc => ∃ (kq : Nat) (x21_1 : Bool), v21 = .bool x21_1 ∧ Aside0 (impl_IsName.j0 kq a0 x21_1 = some r) ∧ Aside0 (kq ≤ k) ∧ Drawn0 w wc)
 case first =>
  have H := HC2.out
  clear HC2
  by_cases c3 : (a0.size : Int) < 1
  ·rw [if_pos c3] at H
   have c3b0 : decide ((a0.size : Int) < 1) = true := decide_eq_true c3
   have c3b1 : decide (a0.size < 1) = true := decide_eq_true (by omega)
   clear c3
   (first | rw [c3b0] | (simp only [i64_w, i32_w]; rw [c3b0]) | skip)
   have H' := Aside0.mk H
   clear H
   go_wp2
   go_meet
   case rel => exact ⟨_, (true), re_, H', ⟨by first | omega | exact Nat.le_refl _⟩, dw_⟩
  ·rw [if_neg c3] at H
   have c3b0 : decide ((a0.size : Int) < 1) = false := decide_eq_false c3
   have c3b1 : decide (a0.size < 1) = false := decide_eq_false (by omega)
   clear c3
   (first | rw [c3b0] | (simp only [i64_w, i32_w]; rw [c3b0]) | skip)
   by_cases c4 : (a0.size : Int) > 12
   ·rw [if_pos c4] at H
    have c4b0 : decide (12 < (a0.size : Int)) = true := decide_eq_true c4
    have c4b1 : decide (12 < a0.size) = true := decide_eq_true (by omega)
    clear c4
    have H' := Aside0.mk H
    clear H
    go_wp2
    go_meet
    case rel => exact ⟨_, (true), re_, H', ⟨by first | omega | exact Nat.le_refl _⟩, dw_⟩
   ·rw [if_neg c4] at H
    have c4b0 : decide (12 < (a0.size : Int)) = false := decide_eq_false c4
    have c4b1 : decide (12 < a0.size) = false := decide_eq_false (by omega)
    clear c4
    by_cases c5 : 0 < (a0.size : Int)
    ·rw [if_pos c5] at H
     have c5b0 : decide (0 < (a0.size : Int)) = true := decide_eq_true c5
     have c5b1 : decide (0 < a0.size) = true := decide_eq_true (by omega)
     clear c5
     revert H
     refine if_ ?_ ?_ <;> intro c7b0 H
     ·have H' := Aside0.mk H
      clear H
      have p6 : 0 ≤ (0 : Int) := (by omega)
      have q6 : 0 < a0.size := (by have : (0 : Int) < (a0.size : Int) := od_; omega)
      have hx6 : ∀ h : 0 < a0.size, ((a0[0]'h).toNat : Int) = bt a0 0 := bt_at a0 0
      clear p6
      have qi6 : (0 < (a0.size : Int)) = True := eq_true (od_)
      replace q6 := eq_true q6
      go_wp2
      go_meet
      case rel => exact ⟨_, (true), re_, H', ⟨by first | omega | exact Nat.le_refl _⟩, dw_⟩
     ·have H' := Aside0.mk H
      clear H
      have p6 : 0 ≤ (0 : Int) := (by omega)
      have q6 : 0 < a0.size := (by have : (0 : Int) < (a0.size : Int) := od_; omega)
      have hx6 : ∀ h : 0 < a0.size, ((a0[0]'h).toNat : Int) = bt a0 0 := bt_at a0 0
      clear p6
      have qi6 : (0 < (a0.size : Int)) = True := eq_true (od_)
      replace q6 := eq_true q6
      have p8 : 0 ≤ (0 : Int) := (by omega)
      have q8 : 0 < a0.size := (by have : (0 : Int) < (a0.size : Int) := od_; omega)
      have hx8 : ∀ h : 0 < a0.size, ((a0[0]'h).toNat : Int) = bt a0 0 := bt_at a0 0
      clear p8
      have qi8 : (0 < (a0.size : Int)) = True := eq_true (od_)
      replace q8 := eq_true q8
      go_wp2
      go_meet
      case rel => exact ⟨_, (decide ((bt a0 0) > 122)), re_, H', ⟨by first | omega | exact Nat.le_refl _⟩, dw_⟩
    ·rw [if_neg c5] at H
     exact absurd H (by simp)
 case rest =>
  clear HC2
  obtain ⟨kq, x21_1, rfl, HA, HJ1, ⟨mc1, rfl⟩⟩ := hcut
  cases kq with
  | zero => exact absurd HA.out (by simp [impl_IsName.j0])
  | succ kj1 =>
   have H := HA.out
   clear HA
   simp only [impl_IsName.j0] at H
   revert H
   refine ib_ ?_ ?_ <;> rintro rfl H
   ·obtain rfl := Option.some.inj H
    go_wp2
    go_ret
    exact ⟨re_, dw_⟩
   ·have H' := Aside0.mk H
    clear H
    go_wp2
    go_loopg [3] kj1 (fun kq v3 w' => ∃ (x3_2 : Int), v3 = .int .i64 x3_2 ∧ Aside0 (impl_IsName.l0 kq a0 x3_2 = some r) ∧ Aside0 (kq ≤ kj1) ∧ Drawn0 w w')
    case atStart => exact ⟨(0), re_, H', ⟨Nat.le_refl _⟩, dw_⟩
    case round =>
     clear H'
     obtain ⟨x3_2, rfl, HA, HK2, ⟨m2, rfl⟩⟩ := hrel
     cases gk with
     | zero => exact absurd HA.out (by simp [impl_IsName.l0])
     | succ k2 =>
      have H := HA.out
      clear HA
      simp only [impl_IsName.l0] at H
      revert H
      refine if_ ?_ ?_ <;> intro c10b0 H
      ·revert H
       refine in_ ?_
       intro c11b0 H
       revert H
       refine if_ ?_ ?_ <;> intro c13b0 H
       ·revert H
        refine if_ ?_ ?_ <;> intro c15b0 H
        ·by_cases c17 : (bt a0 x3_2) = 45
         ·rw [if_pos c17] at H
          have c17b0 : ((bt a0 x3_2) == 45) = true := beq_iff_eq.mpr c17
          have c17b1 : ((bt a0 x3_2) != 45) = false := bne_eq_false_iff_eq.mpr c17
          clear c17
          have H' := Aside0.mk H
          clear H
          have p12 := bt_ a0 x3_2
          have p14 := bt_ a0 x3_2
          have p16 := bt_ a0 x3_2
          go_wp2
          go_roundg k2
          case measure => have := HJ1.out; have := HK2.out; omega
          case rel => exact ⟨(wrap64 (x3_2 + 1)), re_, H', ⟨by have := HJ1.out; have := HK2.out; omega⟩, dw_⟩
         ·rw [if_neg c17] at H
          have c17b0 : ((bt a0 x3_2) == 45) = false := beq_eq_false_iff_ne.mpr c17
          have c17b1 : ((bt a0 x3_2) != 45) = true := bne_iff_ne.mpr c17
          obtain rfl := Option.some.inj H
          have p12 := bt_ a0 x3_2
          have p14 := bt_ a0 x3_2
          have p16 := bt_ a0 x3_2
          go_wp2
          go_ret
          exact ⟨re_, dw_⟩
        ·revert H
         refine if_ ?_ ?_ <;> intro c19b0 H
         ·by_cases c21 : (bt a0 x3_2) = 45
          ·rw [if_pos c21] at H
           have c21b0 : ((bt a0 x3_2) == 45) = true := beq_iff_eq.mpr c21
           have c21b1 : ((bt a0 x3_2) != 45) = false := bne_eq_false_iff_eq.mpr c21
           clear c21
           have H' := Aside0.mk H
           clear H
           have p12 := bt_ a0 x3_2
           have p14 := bt_ a0 x3_2
           have p18 := bt_ a0 x3_2
           have p20 := bt_ a0 x3_2
           go_wp2
           go_roundg k2
           case measure => have := HJ1.out; have := HK2.out; omega
           case rel => exact ⟨(wrap64 (x3_2 + 1)), re_, H', ⟨by have := HJ1.out; have := HK2.out; omega⟩, dw_⟩
          ·rw [if_neg c21] at H
           have c21b0 : ((bt a0 x3_2) == 45) = false := beq_eq_false_iff_ne.mpr c21
           have c21b1 : ((bt a0 x3_2) != 45) = true := bne_iff_ne.mpr c21
           obtain rfl := Option.some.inj H
           have p12 := bt_ a0 x3_2
           have p14 := bt_ a0 x3_2
           have p18 := bt_ a0 x3_2
           have p20 := bt_ a0 x3_2
           go_wp2
           go_ret
           exact ⟨re_, dw_⟩
         ·have H' := Aside0.mk H
          clear H
          have p12 := bt_ a0 x3_2
          have p14 := bt_ a0 x3_2
          have p18 := bt_ a0 x3_2
          go_wp2
          go_roundg k2
          case measure => have := HJ1.out; have := HK2.out; omega
          case rel => exact ⟨(wrap64 (x3_2 + 1)), re_, H', ⟨by have := HJ1.out; have := HK2.out; omega⟩, dw_⟩
       ·revert H
        refine if_ ?_ ?_ <;> intro c23b0 H
        ·revert H
         refine if_ ?_ ?_ <;> intro c25b0 H
         ·by_cases c27 : (bt a0 x3_2) = 45
          ·rw [if_pos c27] at H
           have c27b0 : ((bt a0 x3_2) == 45) = true := beq_iff_eq.mpr c27
           have c27b1 : ((bt a0 x3_2) != 45) = false := bne_eq_false_iff_eq.mpr c27
           clear c27
           have H' := Aside0.mk H
           clear H
           have p12 := bt_ a0 x3_2
           have p22 := bt_ a0 x3_2
           have p24 := bt_ a0 x3_2
           have p26 := bt_ a0 x3_2
           go_wp2
           go_roundg k2
           case measure => have := HJ1.out; have := HK2.out; omega
           case rel => exact ⟨(wrap64 (x3_2 + 1)), re_, H', ⟨by have := HJ1.out; have := HK2.out; omega⟩, dw_⟩
          ·rw [if_neg c27] at H
           have c27b0 : ((bt a0 x3_2) == 45) = false := beq_eq_false_iff_ne.mpr c27
           have c27b1 : ((bt a0 x3_2) != 45) = true := bne_iff_ne.mpr c27
           obtain rfl := Option.some.inj H
           have p12 := bt_ a0 x3_2
           have p22 := bt_ a0 x3_2
           have p24 := bt_ a0 x3_2
           have p26 := bt_ a0 x3_2
           go_wp2
           go_ret
           exact ⟨re_, dw_⟩
         ·revert H
          refine if_ ?_ ?_ <;> intro c29b0 H
          ·by_cases c31 : (bt a0 x3_2) = 45
           ·rw [if_pos c31] at H
            have c31b0 : ((bt a0 x3_2) == 45) = true := beq_iff_eq.mpr c31
            have c31b1 : ((bt a0 x3_2) != 45) = false := bne_eq_false_iff_eq.mpr c31
            clear c31
            have H' := Aside0.mk H
            clear H
            have p12 := bt_ a0 x3_2
            have p22 := bt_ a0 x3_2
            have p24 := bt_ a0 x3_2
            have p28 := bt_ a0 x3_2
            have p30 := bt_ a0 x3_2
            go_wp2
            go_roundg k2
            case measure => have := HJ1.out; have := HK2.out; omega
            case rel => exact ⟨(wrap64 (x3_2 + 1)), re_, H', ⟨by have := HJ1.out; have := HK2.out; omega⟩, dw_⟩
           ·rw [if_neg c31] at H
            have c31b0 : ((bt a0 x3_2) == 45) = false := beq_eq_false_iff_ne.mpr c31
            have c31b1 : ((bt a0 x3_2) != 45) = true := bne_iff_ne.mpr c31
            obtain rfl := Option.some.inj H
            have p12 := bt_ a0 x3_2
            have p22 := bt_ a0 x3_2
            have p24 := bt_ a0 x3_2
            have p28 := bt_ a0 x3_2
            have p30 := bt_ a0 x3_2
            go_wp2
            go_ret
            exact ⟨re_, dw_⟩
          ·have H' := Aside0.mk H
           clear H
           have p12 := bt_ a0 x3_2
           have p22 := bt_ a0 x3_2
           have p24 := bt_ a0 x3_2
           have p28 := bt_ a0 x3_2
           go_wp2
           go_roundg k2
           case measure => have := HJ1.out; have := HK2.out; omega
           case rel => exact ⟨(wrap64 (x3_2 + 1)), re_, H', ⟨by have := HJ1.out; have := HK2.out; omega⟩, dw_⟩
        ·have H' := Aside0.mk H
         clear H
         have p12 := bt_ a0 x3_2
         have p22 := bt_ a0 x3_2
         go_wp2
         go_roundg k2
         case measure => have := HJ1.out; have := HK2.out; omega
         case rel => exact ⟨(wrap64 (x3_2 + 1)), re_, H', ⟨by have := HJ1.out; have := HK2.out; omega⟩, dw_⟩
      ·obtain rfl := Option.some.inj H
       go_wp2
       go_ret
       exact ⟨re_, dw_⟩
def slices_Index_string_string.l0 : Nat → List ByteArray → ByteArray → Int → Int → Option (Int)
 | 0, _, _, _, _ => none
 | k + 1, x0, x1, x7, x8 => if x8 < x7 then (if 0 ≤ x8 then (if x8 < (x0.length : Int) then (if x1.toList = (rdOf ByteArray.empty x0 x8).toList then (some x8) else (slices_Index_string_string.l0 k x0 x1 x7 (wrap64 (x8 + 1)))) else (none)) else (none)) else (some (-1))
def slices_Index_string_string.f (k : Nat) (l0 : List ByteArray) (a1 : ByteArray) : Option (Int) := slices_Index_string_string.l0 k l0 a1 (l0.length : Int) 0
theorem slices_Index_string_string.mono_l : ∀ k, (∀ y0 y1 y2 y3, LeO (slices_Index_string_string.l0 k y0 y1 y2 y3) (slices_Index_string_string.l0 (k + 1) y0 y1 y2 y3))
 | 0 => fun _ _ _ _ r h => by simp [slices_Index_string_string.l0] at h
 | k + 1 => by
  have ih0 := slices_Index_string_string.mono_l k
  ·intro y0 y1 y2 y3
   unfold slices_Index_string_string.l0
   exact mo_
theorem slices_Index_string_string.mono : ∀ a0 a1 k, LeO (slices_Index_string_string.f k a0 a1) (slices_Index_string_string.f (k + 1) a0 a1) := by
 intro a0 a1 k
 have ih0 := slices_Index_string_string.mono_l k
 unfold slices_Index_string_string.f
 exact mo_
theorem slices_Index_string_string.calls (k : Nat) (A0 : Option Addr) (c0 : Nat) (l0 : List ByteArray) (a1 : ByteArray) (r : Int) (w : World) (hr0 : Kd.C Kd.string w A0 l0.length l0) (hc0 : l0.length ≤ c0) (h : slices_Index_string_string.f k l0 a1 = some r) :
  Calls Tryz.prog 108 #[.slice A0 l0.length c0, .string a1] w fun e w' => e = .returned (.int .i64 r) ∧ Drawn0 w w' := by
 have HR0 := Aside0.mk hr0
 have HC0 := Aside0.mk hc0
 clear hr0 hc0
 have H := h
 clear h
 unfold slices_Index_string_string.f at H
 have H' := Aside0.mk H
 clear H
 go_enter Tryz.func108, Tryz.ntmps108
 go_wp2
 go_loopg [8] k (fun kq v8 w' => ∃ (x8_1 : Int), v8 = .int .i64 x8_1 ∧ Aside0 (slices_Index_string_string.l0 kq l0 a1 (l0.length : Int) x8_1 = some r) ∧ Aside0 (kq ≤ k) ∧ Drawn0 w w')
 case atStart => exact ⟨(0), re_, H', ⟨Nat.le_refl _⟩, dw_⟩
 case round =>
  clear H'
  obtain ⟨x8_1, rfl, HA, HK1, ⟨m1, rfl⟩⟩ := hrel
  cases gk with
  | zero => exact absurd HA.out (by simp [slices_Index_string_string.l0])
  | succ k1 =>
   have H := HA.out
   clear HA
   simp only [slices_Index_string_string.l0] at H
   revert H
   refine if_ ?_ ?_ <;> intro c3b0 H
   ·revert H
    refine in_ ?_
    intro c4b0 H
    revert H
    refine in_ ?_
    intro c5b0 H
    by_cases c6 : a1.toList = (rdOf ByteArray.empty l0 x8_1).toList
    ·rw [if_pos c6] at H
     have c6b0 : (a1.toList == (rdOf ByteArray.empty l0 x8_1).toList) = true := beq_iff_eq.mpr c6
     have c6b1 : (a1.toList != (rdOf ByteArray.empty l0 x8_1).toList) = false := bne_eq_false_iff_eq.mpr c6
     clear c6
     obtain rfl := Option.some.inj H
     have p331 : 0 ≤ (x8_1 : Int) := od_
     have q331 : x8_1 < (l0.length : Int) := od_
     obtain ⟨ad331, e331, hx331_0⟩ := Kd.at_string HR0.out x8_1 p331 q331
     cases e331
     replace p331 := eq_true p331
     replace q331 := eq_true q331
     go_wp2
     go_ret
     exact ⟨re_, dw_⟩
    ·rw [if_neg c6] at H
     have c6b0 : (a1.toList == (rdOf ByteArray.empty l0 x8_1).toList) = false := beq_eq_false_iff_ne.mpr c6
     have c6b1 : (a1.toList != (rdOf ByteArray.empty l0 x8_1).toList) = true := bne_iff_ne.mpr c6
     have H' := Aside0.mk H
     clear H
     have p331 : 0 ≤ (x8_1 : Int) := od_
     have q331 : x8_1 < (l0.length : Int) := od_
     obtain ⟨ad331, e331, hx331_0⟩ := Kd.at_string HR0.out x8_1 p331 q331
     cases e331
     replace p331 := eq_true p331
     replace q331 := eq_true q331
     go_wp2
     go_roundg k1
     case measure => have := HK1.out; omega
     case rel => exact ⟨(wrap64 (x8_1 + 1)), re_, H', ⟨by have := HK1.out; omega⟩, dw_⟩
   ·obtain rfl := Option.some.inj H
    go_wp2
    go_ret
    exact ⟨re_, dw_⟩
def slices_Contains_string_string.f (k : Nat) (l0 : List ByteArray) (a1 : ByteArray) : Option (Bool) := (slices_Index_string_string.f k l0 a1).bind fun t332 => (some (decide (t332 ≥ 0)))
theorem slices_Contains_string_string.mono : ∀ a0 a1 k, LeO (slices_Contains_string_string.f k a0 a1) (slices_Contains_string_string.f (k + 1) a0 a1) := by
 intro a0 a1 k
 unfold slices_Contains_string_string.f
 have m0 := @slices_Index_string_string.mono
 exact mo_
theorem slices_Contains_string_string.calls (k : Nat) (A0 : Option Addr) (c0 : Nat) (l0 : List ByteArray) (a1 : ByteArray) (r : Bool) (w : World) (hr0 : Kd.C Kd.string w A0 l0.length l0) (hc0 : l0.length ≤ c0) (h : slices_Contains_string_string.f k l0 a1 = some r) :
  Calls Tryz.prog 92 #[.slice A0 l0.length c0, .string a1] w fun e w' => e = .returned (.bool r) ∧ Drawn0 w w' := by
 have HR0 := Aside0.mk hr0
 have HC0 := Aside0.mk hc0
 clear hr0 hc0
 have H := h
 clear h
 unfold slices_Contains_string_string.f at H
 revert H
 refine bn_ ?_
 intro t332 A3 H
 obtain rfl := Option.some.inj H
 go_enter Tryz.func92, Tryz.ntmps92
 go_wp2_with (first | ((with_reducible refine gc_ 108 rfl ?_); refine cl_ Tryz.func108 (slices_Index_string_string.calls _ _ _ _ _ _ _ (kc_ HR0) HC0.out A3.out) ?_; rintro _ ⟨nd, rfl⟩))
 go_ret
 exact ⟨re_, dw_⟩
section
open Go.Proofs.YtkoeeajciciphaaGreatDoor.Base
theorem name_loop_impl (s : ByteArray) (h : s.size ≤ 12) : Ev (fun k => impl_IsName.l0 k s 0) ((List.range s.size).all fun i => nameByte (bt s i)) := by
 have := all_lt s.size (fun i => nameByte (bt s i)) (fun k i => impl_IsName.l0 k s i) true false (fun i hi hp => ⟨0, fun k _ => ?_⟩) (fun i hi hp => Ev.const fun k => ?_) (fun _ => Ev.const fun k => ?_)
 ·rw [ite_bool] at this
  exact this
 ·have hp := of_decide_eq_true hp
  simp only [impl_IsName.l0]
  rw [if_pos (by omega), if_pos (by omega), w64 (by omega) (by omega)]
  repeat' split
  all_goals first | rfl | (exfalso; omega)
 ·have hp := of_decide_eq_false hp
  simp only [impl_IsName.l0]
  rw [if_pos (by omega), if_pos (by omega)]
  repeat' split
  all_goals first | rfl | (exfalso; omega)
 ·simp only [impl_IsName.l0]
  rw [if_neg (by omega)]
theorem name_impl (s : ByteArray) : Ev (fun k => impl_IsName.f k s) (isNameB s) := by
 unfold isNameB
 by_cases h0 : s.size < 1
 ·rw [decide_eq_false (by omega), Bool.false_and]
  refine Ev.const fun k => ?_
  unfold impl_IsName.f
  rw [if_pos (by omega)]
  simp only [impl_IsName.j0, if_true]
 ·by_cases h12 : s.size ≤ 12
  ·by_cases hs : 97 ≤ bt s 0 ∧ bt s 0 ≤ 122
   ·rw [decide_eq_true ⟨by omega, h12, hs⟩, Bool.true_and]
    refine Ev.step (f := fun k => impl_IsName.l0 k s 0) (fun k => ?_) (name_loop_impl s h12)
    simp only [impl_IsName.f]
    rw [if_neg (by omega), if_neg (by omega), if_pos (by omega), if_neg (by omega), decide_eq_false (by omega)]
    simp only [impl_IsName.j0, Bool.false_eq_true, if_false]
   ·rw [decide_eq_false (fun h => hs h.2.2), Bool.false_and]
    refine Ev.const fun k => ?_
    simp only [impl_IsName.f]
    rw [if_neg (by omega), if_neg (by omega), if_pos (by omega)]
    by_cases h1 : bt s 0 < 97
    ·rw [if_pos h1]
     simp only [impl_IsName.j0, if_true]
    ·rw [if_neg h1, decide_eq_true (by omega)]
     simp only [impl_IsName.j0, if_true]
  ·rw [decide_eq_false (by omega), Bool.false_and]
   refine Ev.const fun k => ?_
   unfold impl_IsName.f
   rw [if_neg (by omega), if_pos (by omega)]
   simp only [impl_IsName.j0, if_true]
theorem railNamed1 (x : S97) (B0 : Nat) (nm : ByteArray) (w : World) (hB0 : B0 < w.heap.size) (hc0 : w.cell? ⟨B0, 0, none⟩ = some (.string nm)) :
  Calls Tryz.prog 107 #[.agg #[.string x.f0, .string x.f1, .int .i64 x.f2], .pointer (some ⟨B0, 0, none⟩)] w fun e w' => e = .returned (.bool (x.f0.toList == nm.toList)) ∧ Below w.heap.size w w' := by
 go_enter Tryz.func107, Tryz.ntmps107
 go_wp2
 go_ret
 exact ⟨rfl, (Below.refl _ _).alloc (Nat.le_refl _) _⟩
theorem railNamedIndex (A0 : Option Addr) (c0 : Nat) (l0 : List S97) (B0 : Nat) (nm : ByteArray) (w : World) (hr0 : Kd.C k97 w A0 l0.length l0) (hB0 : B0 < w.heap.size) (hc0 : w.cell? ⟨B0, 0, none⟩ = some (.string nm)) :
  Calls Tryz.prog 106 #[.slice A0 l0.length c0, .func (.func 107) #[] #[.pointer (some ⟨B0, 0, none⟩)]] w fun e w' => e = .returned (.int .i64 (idxOf (fun x : S97 => x.f0.toList == nm.toList) l0)) ∧ Below w.heap.size w w' := by
 have hm := Kd.C_max hr0
 have HR0 := Aside0.mk hr0
 have HC0 := Aside0.mk hc0
 have HB0 := Aside0.mk hB0
 clear hr0 hc0 hB0
 have eg : ∀ args w, (callFunc 107 args).run Tryz.prog w = .ok (.enter 107 args) w := enters_of Tryz.func107 (by kernel_rfl) rfl
 go_enter Tryz.func106, Tryz.ntmps106
 go_wp2
 go_loopw [5, 8] (fun _ v8 w' => ∃ i : Nat, v8 = .int .i64 i ∧ i ≤ l0.length ∧ Aside0 (∀ j (hj : j < l0.length), j < i → (fun x : S97 => x.f0.toList == nm.toList) l0[j] = false) ∧ Aside0 (Below w.heap.size w w')) (fun _ v8 _ => l0.length - (intOf v8).toNat)
 case atStart => exact ⟨0, rfl, Nat.zero_le _, ⟨fun j _ hj => absurd hj (Nat.not_lt_zero _)⟩, ⟨Below.refl _ _⟩⟩
 case round =>
  obtain ⟨i, rfl, hi, hf, hw⟩ := hrel
  have HRw := Aside0.mk (Kd.C_below HR0.out hw.out)
  by_cases hlt : i < l0.length
  ·have p1 : (0 : Int) ≤ (i : Int) := Int.natCast_nonneg i
   have p2 : (i : Int) < (l0.length : Int) := Int.ofNat_lt.2 hlt
   obtain ⟨ad, rfl, d0, d1, d2⟩ := at_T97 HRw.out (i : Int) p1 p2
   rw [Int.toNat_natCast] at d0 d1 d2
   have I1 := Aside0.mk (railNamed1 (rd_T97 l0 i) B0 nm wr (by have := hw.out.size; have := HB0.out; omega) ((hw.out.cell (p := ⟨B0, 0, none⟩) HB0.out).trans HC0.out))
   generalize hv : ((rd_T97 l0 i).f0.toList == nm.toList) = v at I1
   have HV := Aside0.mk hv
   clear hv
   cases v with
   | true =>
    go_wp2_with (go_at_fn 107; (with_reducible refine I1.out.mono ?_); rintro e w' ⟨rfl, hb'⟩)
    go_ret
    have hh : idxOf (fun x : S97 => x.f0.toList == nm.toList) l0 = i := idx_hit hlt (by rw [← rdRail l0 i hlt]; exact HV.out) (fun j hj => hf.out j (by omega) hj)
    exact ⟨by rw [hh]; rfl, below_then hw.out hw.out.size hb'⟩
   | false =>
    go_wp2_with (go_at_fn 107; (with_reducible refine I1.out.mono ?_); rintro e w' ⟨rfl, hb'⟩)
    go_roundw
    case rel => exact ⟨i + 1, by go_num, by omega, ⟨fun j hj hji => by
     by_cases e : j = i
     ·subst e; rw [← rdRail l0 j hlt]; exact HV.out
     ·exact hf.out j hj (by omega)⟩, ⟨below_then hw.out hw.out.size hb'⟩⟩
    case measure => simp [intOf]; omega
  ·go_wp2
   go_ret
   have hh : idxOf (fun x : S97 => x.f0.toList == nm.toList) l0 = -1 := idx_miss (fun j hj => hf.out j hj (by omega))
   exact ⟨by rw [hh]; rfl, hw.out⟩
theorem railNamed_calls (A : Option Addr) (c : Nat) (xs : List S97) (v1 v2 : Value) (nm : ByteArray) (w : World) (hr : Kd.C k97 w A xs.length xs) :
  Calls Tryz.prog 91 #[.agg #[.slice A xs.length c, v1, v2], .string nm] w fun e w' => e = .returned (.int .i64 (railIdx xs nm)) ∧ Below w.heap.size w w' := by
 have hm := Kd.C_max hr
 have I1 : Aside0 (∀ W B0, Below w.heap.size w W → B0 < W.heap.size → W.cell? ⟨B0, 0, none⟩ = some (.string nm) → Calls Tryz.prog 106 #[.slice A xs.length c, .func (.func 107) #[] #[.pointer (some ⟨B0, 0, none⟩)]] W fun e w' => e = .returned (.int .i64 (railIdx xs nm)) ∧ Below W.heap.size W w') := ⟨fun W B0 hb h0 g0 => railNamedIndex A c xs B0 nm W (Kd.C_below hr hb) h0 g0⟩
 clear hr
 generalize railIdx xs nm = ix at *
 have hu := Tryz.underlying37
 go_enter Tryz.func91, Tryz.ntmps91
 go_upto_region 1 with (first | ((with_reducible refine gd_ 2 rfl ?_); refine be_ 2 #[.slice A xs.length c, v1, v2] 37 ?_; intro gb hgb w2 hbox hb; have BK := Aside0.mk hbox; have HB := Aside0.mk hb; have GB := Aside0.mk (Nat.le_of_eq hgb.symm); clear hbox hb hgb; have b20 := (blk_cell BK.out 0).trans rfl) | fail)
 have z2 := HB.out.size
 have b21 : (w2.alloc (.cells #[.string nm] 9)).cell? ⟨gb, 0, none⟩ = some (.slice A xs.length c) := (blk_cell (blk_alloc BK.out _) 0).trans rfl
 go_wp2_with (first | (go_at_call 106; (with_reducible refine (I1.out _ _ ?hb1 ?hs0 ?hc0).mono ?_); (case hb1 => first | exact below_alloc (below_alloc HB.out _) _ | exact below_alloc HB.out _); (case hs0 => (simp <;> omega)); (case hc0 => first | exact q0 | exact q1 | simp [World.cell?_alloc_new]); rintro e w4 ⟨rfl, hb⟩; have HB4 := Aside0.mk (below_step (by first | exact below_alloc (below_alloc HB.out _) _ | exact below_alloc HB.out _) hb); clear hb) | fail)
 go_ret
 exact ⟨rfl, HB4.out⟩
theorem belayOf1 (x : S101) (B0 : Nat) (nm : ByteArray) (w : World) (hB0 : B0 < w.heap.size) (hc0 : w.cell? ⟨B0, 0, none⟩ = some (.string nm)) :
  Calls Tryz.prog 110 #[.agg #[.string x.f0, .string x.f1, .int .i64 x.f2], .pointer (some ⟨B0, 0, none⟩)] w fun e w' => e = .returned (.bool (x.f0.toList == nm.toList)) ∧ Below w.heap.size w w' := by
 go_enter Tryz.func110, Tryz.ntmps110
 go_wp2
 go_ret
 exact ⟨rfl, (Below.refl _ _).alloc (Nat.le_refl _) _⟩
theorem belayOfIndex (A0 : Option Addr) (c0 : Nat) (l0 : List S101) (B0 : Nat) (nm : ByteArray) (w : World) (hr0 : Kd.C k101 w A0 l0.length l0) (hB0 : B0 < w.heap.size) (hc0 : w.cell? ⟨B0, 0, none⟩ = some (.string nm)) :
  Calls Tryz.prog 109 #[.slice A0 l0.length c0, .func (.func 110) #[] #[.pointer (some ⟨B0, 0, none⟩)]] w fun e w' => e = .returned (.int .i64 (idxOf (fun x : S101 => x.f0.toList == nm.toList) l0)) ∧ Below w.heap.size w w' := by
 have hm := Kd.C_max hr0
 have HR0 := Aside0.mk hr0
 have HC0 := Aside0.mk hc0
 have HB0 := Aside0.mk hB0
 clear hr0 hc0 hB0
 have eg : ∀ args w, (callFunc 110 args).run Tryz.prog w = .ok (.enter 110 args) w := enters_of Tryz.func110 (by kernel_rfl) rfl
 go_enter Tryz.func109, Tryz.ntmps109
 go_wp2
 go_loopw [5, 8] (fun _ v8 w' => ∃ i : Nat, v8 = .int .i64 i ∧ i ≤ l0.length ∧ Aside0 (∀ j (hj : j < l0.length), j < i → (fun x : S101 => x.f0.toList == nm.toList) l0[j] = false) ∧ Aside0 (Below w.heap.size w w')) (fun _ v8 _ => l0.length - (intOf v8).toNat)
 case atStart => exact ⟨0, rfl, Nat.zero_le _, ⟨fun j _ hj => absurd hj (Nat.not_lt_zero _)⟩, ⟨Below.refl _ _⟩⟩
 case round =>
  obtain ⟨i, rfl, hi, hf, hw⟩ := hrel
  have HRw := Aside0.mk (Kd.C_below HR0.out hw.out)
  by_cases hlt : i < l0.length
  ·have p1 : (0 : Int) ≤ (i : Int) := Int.natCast_nonneg i
   have p2 : (i : Int) < (l0.length : Int) := Int.ofNat_lt.2 hlt
   obtain ⟨ad, rfl, d0, d1, d2⟩ := at_T101 HRw.out (i : Int) p1 p2
   rw [Int.toNat_natCast] at d0 d1 d2
   have I1 := Aside0.mk (belayOf1 (rd_T101 l0 i) B0 nm wr (by have := hw.out.size; have := HB0.out; omega) ((hw.out.cell (p := ⟨B0, 0, none⟩) HB0.out).trans HC0.out))
   generalize hv : ((rd_T101 l0 i).f0.toList == nm.toList) = v at I1
   have HV := Aside0.mk hv
   clear hv
   cases v with
   | true =>
    go_wp2_with (go_at_fn 110; (with_reducible refine I1.out.mono ?_); rintro e w' ⟨rfl, hb'⟩)
    go_ret
    have hh : idxOf (fun x : S101 => x.f0.toList == nm.toList) l0 = i := idx_hit hlt (by rw [← rdBelay l0 i hlt]; exact HV.out) (fun j hj => hf.out j (by omega) hj)
    exact ⟨by rw [hh]; rfl, below_then hw.out hw.out.size hb'⟩
   | false =>
    go_wp2_with (go_at_fn 110; (with_reducible refine I1.out.mono ?_); rintro e w' ⟨rfl, hb'⟩)
    go_roundw
    case rel => exact ⟨i + 1, by go_num, by omega, ⟨fun j hj hji => by
     by_cases e : j = i
     ·subst e; rw [← rdBelay l0 j hlt]; exact HV.out
     ·exact hf.out j hj (by omega)⟩, ⟨below_then hw.out hw.out.size hb'⟩⟩
    case measure => simp [intOf]; omega
  ·go_wp2
   go_ret
   have hh : idxOf (fun x : S101 => x.f0.toList == nm.toList) l0 = -1 := idx_miss (fun j hj => hf.out j hj (by omega))
   exact ⟨by rw [hh]; rfl, hw.out⟩
theorem belayOf_calls (A : Option Addr) (c : Nat) (xs : List S101) (v0 v1 : Value) (nm : ByteArray) (w : World) (hr : Kd.C k101 w A xs.length xs) :
  Calls Tryz.prog 94 #[.agg #[v0, v1, .slice A xs.length c], .string nm] w fun e w' => e = .returned (.int .i64 (beLn xs nm)) ∧ Below w.heap.size w w' := by
 have hm := Kd.C_max hr
 have I1 : Aside0 (∀ W B0, Below w.heap.size w W → B0 < W.heap.size → W.cell? ⟨B0, 0, none⟩ = some (.string nm) → Calls Tryz.prog 109 #[.slice A xs.length c, .func (.func 110) #[] #[.pointer (some ⟨B0, 0, none⟩)]] W fun e w' => e = .returned (.int .i64 (beLn xs nm)) ∧ Below W.heap.size W w') := ⟨fun W B0 hb h0 g0 => belayOfIndex A c xs B0 nm W (Kd.C_below hr hb) h0 g0⟩
 clear hr
 generalize beLn xs nm = ix at *
 have hu := Tryz.underlying37
 go_enter Tryz.func94, Tryz.ntmps94
 go_upto_region 1 with (first | ((with_reducible refine gd_ 2 rfl ?_); refine be_ 2 #[v0, v1, .slice A xs.length c] 37 ?_; intro gb hgb w2 hbox hb; have BK := Aside0.mk hbox; have HB := Aside0.mk hb; have GB := Aside0.mk (Nat.le_of_eq hgb.symm); clear hbox hb hgb; have b20 := (blk_cell BK.out 2).trans rfl) | fail)
 have z2 := HB.out.size
 have b21 : (w2.alloc (.cells #[.string nm] 9)).cell? ⟨gb, 2, none⟩ = some (.slice A xs.length c) := (blk_cell (blk_alloc BK.out _) 2).trans rfl
 go_wp2_with (first | (go_at_call 109; (with_reducible refine (I1.out _ _ ?hb1 ?hs0 ?hc0).mono ?_); (case hb1 => first | exact below_alloc (below_alloc HB.out _) _ | exact below_alloc HB.out _); (case hs0 => (simp <;> omega)); (case hc0 => first | exact q0 | exact q1 | simp [World.cell?_alloc_new]); rintro e w4 ⟨rfl, hb⟩; have HB4 := Aside0.mk (below_step (by first | exact below_alloc (below_alloc HB.out _) _ | exact below_alloc HB.out _) hb); clear hb) | fail)
 go_ret
 exact ⟨rfl, HB4.out⟩
theorem belayAt1 (x : S101) (B0 : Nat) (rl : ByteArray) (B1 : Nat) (pn : Int) (w : World) (hB0 : B0 < w.heap.size) (hc0 : w.cell? ⟨B0, 0, none⟩ = some (.string rl)) (hB1 : B1 < w.heap.size) (hc1 : w.cell? ⟨B1, 0, none⟩ = some (.int .i64 pn)) :
  Calls Tryz.prog 111 #[.agg #[.string x.f0, .string x.f1, .int .i64 x.f2], .pointer (some ⟨B0, 0, none⟩), .pointer (some ⟨B1, 0, none⟩)] w fun e w' => e = .returned (.bool (x.f1.toList == rl.toList && x.f2 == pn)) ∧ Below w.heap.size w w' := by
 generalize e1 : (x.f1.toList == rl.toList) = s1
 generalize e2 : (x.f2 == pn) = s2
 cases s1 <;> cases s2
 all_goals
  go_enter Tryz.func111, Tryz.ntmps111
  go_wp2
  go_ret
  exact ⟨rfl, (Below.refl _ _).alloc (Nat.le_refl _) _⟩
theorem belayAtIndex (A0 : Option Addr) (c0 : Nat) (l0 : List S101) (B0 : Nat) (rl : ByteArray) (B1 : Nat) (pn : Int) (w : World) (hr0 : Kd.C k101 w A0 l0.length l0) (hB0 : B0 < w.heap.size) (hc0 : w.cell? ⟨B0, 0, none⟩ = some (.string rl)) (hB1 : B1 < w.heap.size) (hc1 : w.cell? ⟨B1, 0, none⟩ = some (.int .i64 pn)) :
  Calls Tryz.prog 109 #[.slice A0 l0.length c0, .func (.func 111) #[] #[.pointer (some ⟨B0, 0, none⟩), .pointer (some ⟨B1, 0, none⟩)]] w fun e w' => e = .returned (.int .i64 (idxOf (fun x : S101 => x.f1.toList == rl.toList && x.f2 == pn) l0)) ∧ Below w.heap.size w w' := by
 have hm := Kd.C_max hr0
 have HR0 := Aside0.mk hr0
 have HC0 := Aside0.mk hc0
 have HB0 := Aside0.mk hB0
 have HC1 := Aside0.mk hc1
 have HB1 := Aside0.mk hB1
 clear hr0 hc0 hB0 hc1 hB1
 have eg : ∀ args w, (callFunc 111 args).run Tryz.prog w = .ok (.enter 111 args) w := enters_of Tryz.func111 (by kernel_rfl) rfl
 go_enter Tryz.func109, Tryz.ntmps109
 go_wp2
 go_loopw [5, 8] (fun _ v8 w' => ∃ i : Nat, v8 = .int .i64 i ∧ i ≤ l0.length ∧ Aside0 (∀ j (hj : j < l0.length), j < i → (fun x : S101 => x.f1.toList == rl.toList && x.f2 == pn) l0[j] = false) ∧ Aside0 (Below w.heap.size w w')) (fun _ v8 _ => l0.length - (intOf v8).toNat)
 case atStart => exact ⟨0, rfl, Nat.zero_le _, ⟨fun j _ hj => absurd hj (Nat.not_lt_zero _)⟩, ⟨Below.refl _ _⟩⟩
 case round =>
  obtain ⟨i, rfl, hi, hf, hw⟩ := hrel
  have HRw := Aside0.mk (Kd.C_below HR0.out hw.out)
  by_cases hlt : i < l0.length
  ·have p1 : (0 : Int) ≤ (i : Int) := Int.natCast_nonneg i
   have p2 : (i : Int) < (l0.length : Int) := Int.ofNat_lt.2 hlt
   obtain ⟨ad, rfl, d0, d1, d2⟩ := at_T101 HRw.out (i : Int) p1 p2
   rw [Int.toNat_natCast] at d0 d1 d2
   have I1 := Aside0.mk (belayAt1 (rd_T101 l0 i) B0 rl B1 pn wr (by have := hw.out.size; have := HB0.out; omega) ((hw.out.cell (p := ⟨B0, 0, none⟩) HB0.out).trans HC0.out) (by have := hw.out.size; have := HB1.out; omega) ((hw.out.cell (p := ⟨B1, 0, none⟩) HB1.out).trans HC1.out))
   generalize hv : ((rd_T101 l0 i).f1.toList == rl.toList && (rd_T101 l0 i).f2 == pn) = v at I1
   have HV := Aside0.mk hv
   clear hv
   cases v with
   | true =>
    go_wp2_with (go_at_fn 111; (with_reducible refine I1.out.mono ?_); rintro e w' ⟨rfl, hb'⟩)
    go_ret
    have hh : idxOf (fun x : S101 => x.f1.toList == rl.toList && x.f2 == pn) l0 = i := idx_hit hlt (by rw [← rdBelay l0 i hlt]; exact HV.out) (fun j hj => hf.out j (by omega) hj)
    exact ⟨by rw [hh]; rfl, below_then hw.out hw.out.size hb'⟩
   | false =>
    go_wp2_with (go_at_fn 111; (with_reducible refine I1.out.mono ?_); rintro e w' ⟨rfl, hb'⟩)
    go_roundw
    case rel => exact ⟨i + 1, by go_num, by omega, ⟨fun j hj hji => by
     by_cases e : j = i
     ·subst e; rw [← rdBelay l0 j hlt]; exact HV.out
     ·exact hf.out j hj (by omega)⟩, ⟨below_then hw.out hw.out.size hb'⟩⟩
    case measure => simp [intOf]; omega
  ·go_wp2
   go_ret
   have hh : idxOf (fun x : S101 => x.f1.toList == rl.toList && x.f2 == pn) l0 = -1 := idx_miss (fun j hj => hf.out j hj (by omega))
   exact ⟨by rw [hh]; rfl, hw.out⟩
theorem belayAt_calls (A : Option Addr) (c : Nat) (xs : List S101) (v0 v1 : Value) (rl : ByteArray) (pn : Int) (w : World) (hr : Kd.C k101 w A xs.length xs) :
  Calls Tryz.prog 95 #[.agg #[v0, v1, .slice A xs.length c], .string rl, .int .i64 pn] w fun e w' => e = .returned (.int .i64 (beAt xs rl pn)) ∧ Below w.heap.size w w' := by
 have hm := Kd.C_max hr
 have I1 : Aside0 (∀ W B0 B1, Below w.heap.size w W → B0 < W.heap.size → W.cell? ⟨B0, 0, none⟩ = some (.string rl) → B1 < W.heap.size → W.cell? ⟨B1, 0, none⟩ = some (.int .i64 pn) → Calls Tryz.prog 109 #[.slice A xs.length c, .func (.func 111) #[] #[.pointer (some ⟨B0, 0, none⟩), .pointer (some ⟨B1, 0, none⟩)]] W fun e w' => e = .returned (.int .i64 (beAt xs rl pn)) ∧ Below W.heap.size W w') := ⟨fun W B0 B1 hb h0 g0 h1 g1 => belayAtIndex A c xs B0 rl B1 pn W (Kd.C_below hr hb) h0 g0 h1 g1⟩
 clear hr
 generalize beAt xs rl pn = ix at *
 have hu := Tryz.underlying37
 go_enter Tryz.func95, Tryz.ntmps95
 go_upto_region 1 with (first | ((with_reducible refine gd_ 3 rfl ?_); refine be_ 3 #[v0, v1, .slice A xs.length c] 37 ?_; intro gb hgb w2 hbox hb; have BK := Aside0.mk hbox; have HB := Aside0.mk hb; have GB := Aside0.mk (Nat.le_of_eq hgb.symm); clear hbox hb hgb; have b20 := (blk_cell BK.out 2).trans rfl) | fail)
 have z2 := HB.out.size
 have b21 : ((w2.alloc (.cells #[.string rl] 9)).alloc (.cells #[.int .i64 pn] 2)).cell? ⟨gb, 2, none⟩ = some (.slice A xs.length c) := (blk_cell (blk_alloc (blk_alloc BK.out _) _) 2).trans rfl
 have q0 : ((w2.alloc (.cells #[.string rl] 9)).alloc (.cells #[.int .i64 pn] 2)).cell? ⟨w2.heap.size, 0, none⟩ = some (.string rl) := ((below_alloc (Below.refl (w2.alloc (.cells #[.string rl] 9)).heap.size (w2.alloc (.cells #[.string rl] 9))) _).cell (p := ⟨w2.heap.size, 0, none⟩) (by simp)).trans ((World.cell?_alloc_new _ _ _ _).trans rfl)
 have q1 : ((w2.alloc (.cells #[.string rl] 9)).alloc (.cells #[.int .i64 pn] 2)).cell? ⟨w2.heap.size + 1, 0, none⟩ = some (.int .i64 pn) := by
  have := World.cell?_alloc_new (w2.alloc (.cells #[.string rl] 9)) #[.int .i64 pn] 2 0
  rw [show (w2.alloc (.cells #[.string rl] 9)).heap.size = w2.heap.size + 1 from by simp] at this
  exact this
 go_wp2_with (first | (go_at_call 109; (with_reducible refine (I1.out _ _ _ ?hb1 ?hs0 ?hc0 ?hs1 ?hc1).mono ?_); (case hb1 => first | exact below_alloc (below_alloc HB.out _) _ | exact below_alloc HB.out _); (case hs0 => (simp <;> omega)); (case hc0 => first | exact q0 | exact q1 | simp [World.cell?_alloc_new]); (case hs1 => (simp <;> omega)); (case hc1 => first | exact q0 | exact q1 | simp [World.cell?_alloc_new]); rintro e w4 ⟨rfl, hb⟩; have HB4 := Aside0.mk (below_step (by first | exact below_alloc (below_alloc HB.out _) _ | exact below_alloc HB.out _) hb); clear hb) | fail)
 go_ret
 exact ⟨rfl, HB4.out⟩
theorem has_idx (l : List ByteArray) (s : ByteArray) (hm : l.length ≤ 9223372036854775807) : ∀ m i : Nat, l.length - i = m → i ≤ l.length → ∃ v : Int, Ev (fun k => slices_Index_string_string.l0 k l s (l.length : Int) (i : Int)) v ∧ decide (v ≥ 0) = (l.drop i).any (fun x => x.toList == s.toList) := by
 intro m
 induction m with
 | zero =>
  intro i h hi
  refine ⟨-1, Ev.const fun k => ?_, ?_⟩
  ·simp only [slices_Index_string_string.l0]
   rw [if_neg (by omega)]
  ·rw [List.drop_of_length_le (by omega)]; rfl
 | succ m ih =>
  intro i h hi
  have hlt : i < l.length := by omega
  rw [List.drop_eq_getElem_cons hlt, List.any_cons]
  by_cases e : s.toList = (l[i]).toList
  ·refine ⟨i, Ev.const fun k => ?_, ?_⟩
   ·simp only [slices_Index_string_string.l0]
    rw [if_pos (by omega), if_pos (by omega), if_pos (by omega), rdLine l i hlt, if_pos e]
   ·rw [e]; simp
  ·obtain ⟨v, hv, hd⟩ := ih (i + 1) (by omega) (by omega)
   refine ⟨v, Ev.step (f := fun k => slices_Index_string_string.l0 k l s (l.length : Int) ((i + 1 : Nat) : Int)) (fun k => ?_) hv, ?_⟩
   ·simp only [slices_Index_string_string.l0]
    rw [if_pos (by omega), if_pos (by omega), if_pos (by omega), rdLine l i hlt, if_neg e, w64 (by omega) (by omega)]
    rfl
   ·rw [hd, show ((l[i]).toList == s.toList) = false by simpa using fun h => e h.symm]; rfl
theorem has_c (A : Option Addr) (c : Nat) (l : List ByteArray) (nm : ByteArray) (w : World) (hr : Kd.C Kd.string w A l.length l) (hc : l.length ≤ c) : Calls Tryz.prog 92 #[.slice A l.length c, .string nm] w fun e w' => e = .returned (.bool (hasLn l nm)) ∧ Below w.heap.size w w' := by
 obtain ⟨v, hv, hd⟩ := has_idx l nm (Kd.C_max hr) (l.length - 0) 0 rfl (Nat.zero_le _)
 obtain ⟨k, hk⟩ := Ev.pick hv
 have hk := hk k (Nat.le_refl _)
 refine (slices_Contains_string_string.calls k A c l nm (hasLn l nm) w hr hc ?_).mono fun e w' ⟨he, hd⟩ => ⟨he, Drawn0.below hd⟩
 have h1 : slices_Index_string_string.f k l nm = some v := hk
 unfold slices_Contains_string_string.f
 rw [h1, Option.bind_some, hd]
 rfl
theorem iname_c (nm : ByteArray) : ∀ w, Calls Tryz.prog 90 #[.string nm] w fun e w' => e = .returned (.bool (isNameB nm)) ∧ Below w.heap.size w w' := fun w => by
 obtain ⟨k, hk⟩ := (name_impl nm).rounds
 exact (impl_IsName.calls k nm _ w hk).mono fun e w' ⟨he, hd⟩ => ⟨he, Drawn0.below hd⟩
theorem within_c (a b c : Int) : ∀ w, Calls Tryz.prog 24 #[.int .i64 a, .int .i64 b, .int .i64 c] w fun e w' => e = .returned (.bool (decide (b ≤ a ∧ a ≤ c))) ∧ Below w.heap.size w w' := fun w => by
 refine (impl_within.calls a b c _ w ?_).mono fun e w' ⟨he, hd⟩ => ⟨he, Drawn0.below hd⟩
 unfold impl_within.f
 by_cases hh : a ≥ b
 ·rw [if_pos hh]; congr 1; apply Bool.eq_iff_iff.mpr; simp; omega
 ·rw [if_neg hh]; congr 1; symm; simp; omega
theorem hasPin_calls (A : Option Addr) (c : Nat) (xs : List S97) (v1 v2 : Value) (rl : ByteArray) (pn m2 : Int) (w : World) (hr : Kd.C k97 w A xs.length xs) (h0 : 0 ≤ railIdx xs rl) (hm2 : (rd_T97 xs (railIdx xs rl)).f2 = m2) :
  Calls Tryz.prog 93 #[.agg #[.slice A xs.length c, v1, v2], .string rl, .int .i64 pn] w fun e w' => e = .returned (.bool (decide (1 ≤ pn ∧ pn ≤ m2))) ∧ Below w.heap.size w w' := by
 have hm := Kd.C_max hr
 have I1 : Aside0 (∀ W, Below w.heap.size w W → Calls Tryz.prog 91 #[.agg #[.slice A xs.length c, v1, v2], .string rl] W fun e w' => e = .returned (.int .i64 (railIdx xs rl)) ∧ Below W.heap.size W w') := ⟨fun W hb => railNamed_calls A c xs v1 v2 rl W (Kd.C_below hr hb)⟩
 have I2 := Aside0.mk (within_c pn 1 m2)
 have HR := Aside0.mk hr
 clear hr
 have hir := idx_range (fun x : S97 => x.f0.toList == rl.toList) xs
 obtain ⟨ix, hix⟩ : ∃ ix, railIdx xs rl = ix := ⟨_, rfl⟩
 rw [hix] at I1 h0 hm2
 unfold railIdx at hix
 rw [hix] at hir
 clear hix
 have hlt : ix < (xs.length : Int) := by rcases hir with h | h <;> omega
 obtain ⟨ad, ea, -, -, x2⟩ := at_T97 HR.out ix h0 hlt
 subst ea
 rw [hm2] at x2
 have H0 := eq_true h0
 have X2 := Aside0.mk x2
 clear x2 hir
 generalize decide (1 ≤ pn ∧ pn ≤ m2) = d at *
 have hu := Tryz.underlying37
 go_enter Tryz.func93, Tryz.ntmps93
 go_wp2_with (first | ((with_reducible refine gd_ 3 rfl ?_); refine be_ 3 #[.slice (some ad) xs.length c, v1, v2] 37 ?_; intro gb hgb w2 hbox hb; have BK := Aside0.mk hbox; have HB := Aside0.mk hb; have GB := Aside0.mk (Nat.le_of_eq hgb.symm); clear hbox hb hgb; have b20 := (blk_cell BK.out 0).trans rfl; have b21 := (blk_cell BK.out 1).trans rfl; have b22 := (blk_cell BK.out 2).trans rfl) | (go_at_call 91; (with_reducible refine (I1.out _ HB.out).mono ?_); rintro e w3 ⟨rfl, hb⟩; have HB3 := Aside0.mk (below_step HB.out hb); have b30 := (blk_cell (blk_below BK.out hb) 0).trans rfl; have x23 := pw_cell_below HB3.out X2.out; clear hb) | (go_at_call 24; (with_reducible refine (I2.out _).mono ?_); rintro e w4 ⟨rfl, hb⟩; have HB4 := Aside0.mk (below_step HB3.out hb); clear hb) | fail)
 go_ret
 exact ⟨rfl, HB4.out⟩
theorem addLine_calls (g : Nat) (v0 v1 v2 : Value) (R : RT) (nm : ByteArray) (w0 w : World) (hX : Rg w0 w g v0 v1 v2 R) (hcap : R.2.1.length ≤ 60) :
  Calls Tryz.prog 61 #[.pointer (some ⟨g, 0, none⟩), .string nm] w fun e w' => e = .returned (.int .i64 (addLineP R nm).1) ∧ RgTo w0 w w' g v0 v1 v2 (addLineP R nm).2 := by
 have I1 := Aside0.mk (iname_c nm)
 obtain ⟨-, ⟨A, c, e⟩, -⟩ := hX.form
 subst e
 have I2 : Aside0 (∀ W, Below w.heap.size w W → Calls Tryz.prog 92 #[.slice A R.2.1.length c, .string nm] W fun e w' => e = .returned (.bool (hasLn R.2.1 nm)) ∧ Below W.heap.size W w') := ⟨fun W hb => has_c A c R.2.1 nm W (Kd.R_reads' (hX.step hb).r1).2.2 (Kd.R_reads' hX.r1).2.1⟩
 have HX := Aside0.mk hX
 clear hX
 have LM := Aside0.mk hcap
 unfold addLineP
 generalize isNameB nm = q at *
 generalize hasLn R.2.1 nm = u at *
 cases q with
 | false =>
  go_enter Tryz.func61, Tryz.ntmps61
  go_wp2_with (first | (go_at_call 90; (with_reducible refine (I1.out _).mono ?_); rintro e w3 ⟨rfl, hb⟩; have HB3 := Aside0.mk hb; have c13 := (HX.out.step hb).c1; clear hb) | fail)
  go_ret
  try simp only [if_true, if_false, Bool.false_eq_true]
  exact ⟨rfl, HX.out.same HB3.out⟩
 | true =>
  cases u with
  | true =>
   go_enter Tryz.func61, Tryz.ntmps61
   go_wp2_with (first | (go_at_call 90; (with_reducible refine (I1.out _).mono ?_); rintro e w3 ⟨rfl, hb⟩; have HB3 := Aside0.mk hb; have c13 := (HX.out.step hb).c1; clear hb) | (go_at_call 92; (with_reducible refine (I2.out _ HB3.out).mono ?_); rintro e w4 ⟨rfl, hb⟩; have HB4 := Aside0.mk (below_step HB3.out hb); have c14 := (HX.out.step HB4.out).c1; have X4 := Aside0.mk (HX.out.step HB4.out); clear hb) | fail)
   go_ret
   try simp only [if_true, if_false, Bool.false_eq_true]
   exact ⟨rfl, HX.out.same HB4.out⟩
  | false =>
   by_cases h6 : 60 ≤ (R.2.1.length : Int)
   ·have h6' : ((R.2.1.length : Int) == 60) = true := by have := LM.out; simpa using (by omega : (R.2.1.length : Int) = 60)
    go_enter Tryz.func61, Tryz.ntmps61
    go_wp2_with (first | (go_at_call 90; (with_reducible refine (I1.out _).mono ?_); rintro e w3 ⟨rfl, hb⟩; have HB3 := Aside0.mk hb; have c13 := (HX.out.step hb).c1; clear hb) | (go_at_call 92; (with_reducible refine (I2.out _ HB3.out).mono ?_); rintro e w4 ⟨rfl, hb⟩; have HB4 := Aside0.mk (below_step HB3.out hb); have c14 := (HX.out.step HB4.out).c1; have X4 := Aside0.mk (HX.out.step HB4.out); clear hb) | fail)
    go_ret
    try simp only [if_true, if_false, Bool.false_eq_true]
    try rw [if_pos h6]
    exact ⟨rfl, HX.out.same HB4.out⟩
   ·have h6' : ((R.2.1.length : Int) == 60) = false := by simpa using (by omega : ¬ (R.2.1.length : Int) = 60)
    go_enter Tryz.func61, Tryz.ntmps61
    go_wp2_with (first | (go_at_call 90; (with_reducible refine (I1.out _).mono ?_); rintro e w3 ⟨rfl, hb⟩; have HB3 := Aside0.mk hb; have c13 := (HX.out.step hb).c1; clear hb) | (go_at_call 92; (with_reducible refine (I2.out _ HB3.out).mono ?_); rintro e w4 ⟨rfl, hb⟩; have HB4 := Aside0.mk (below_step HB3.out hb); have c14 := (HX.out.step HB4.out).c1; have X4 := Aside0.mk (HX.out.step HB4.out); clear hb) | ((with_reducible refine gate_builtin (b := .append) (xs := #[.tmp 27, .tmp 29]) rfl ?_); at_builtin; refine Kd.R_append Kd.string (w0 := w0) w0.heap.size rfl (.tmp 27) (.tmp 29) 23 9 (.string ⟨#[]⟩) 16 rfl Tryz.underlying23 info9 rfl (by decide) (by omega) (.slice A R.2.1.length c) R.2.1 nm [.string nm] (fun _ => True) (fun _ => False) rfl rfl ?bP (fun _ hk => hk.elim) ?bF ?bO ?bB ?bS ?bL ?_; (case bP => exact rfl); (case bB => exact X4.out.low); (case bF => exact (fun _ _ => trivial)); (case bO => exact X4.out.r1); (case bS => exact X4.out.low.size); (case bL => have := LM.out; omega); intro v7 w7 ho hb hg hat; obtain ⟨A7, c7, e7⟩ := Kd.R_slice ho; subst e7; have e1 : (R.2.1 ++ [nm]).length = R.2.1.length + 1 := (by simp); rw [e1] at ho hat; clear e1; have hR7 := Aside0.mk (HX.out.app1 HB4.out ho hg hb hat); have cc : w7.cell? ⟨g, 1, none⟩ = some (.slice A R.2.1.length c) := (blk_cell (blk_grown X4.out.blk hg (Kd.R_ne X4.out.r1 X4.out.blk (by decide))) 1).trans rfl; have ff : w7.frozen? ⟨g, 1, none⟩ = false := blk_frozen (blk_grown X4.out.blk hg (Kd.R_ne X4.out.r1 X4.out.blk (by decide))) 1; clear ho hb hg hat) | fail)
    go_ret
    try simp only [if_true, if_false, Bool.false_eq_true]
    try rw [if_neg h6]
    exact ⟨rfl, hR7.out⟩
theorem addRail_calls (g : Nat) (v0 v1 v2 : Value) (R : RT) (r : S97) (w0 w : World) (hX : Rg w0 w g v0 v1 v2 R) (hcap : R.1.length ≤ 10) :
  Calls Tryz.prog 60 #[.pointer (some ⟨g, 0, none⟩), .agg #[.string r.f0, .string r.f1, .int .i64 r.f2]] w fun e w' => e = .returned (.int .i64 (addRailP R r).1) ∧ RgTo w0 w w' g v0 v1 v2 (addRailP R r).2 := by
 have I1 := Aside0.mk (iname_c r.f0)
 have I2 := Aside0.mk (within_c r.f2 1 30)
 obtain ⟨⟨A, c, e⟩, ⟨A1, c1, e1⟩, ⟨A2, c2, e2⟩⟩ := hX.form
 subst e
 subst e1
 subst e2
 have I3 : Aside0 (∀ W, Below w.heap.size w W → Calls Tryz.prog 91 #[.agg #[.slice A R.1.length c, .slice A1 R.2.1.length c1, .slice A2 R.2.2.length c2], .string r.f0] W fun e w' => e = .returned (.int .i64 (railIdx R.1 r.f0)) ∧ Below W.heap.size W w') := ⟨fun W hb => railNamed_calls A c R.1 _ _ r.f0 W (Kd.R_reads' (hX.step hb).r0).2.2⟩
 have HX := Aside0.mk hX
 clear hX
 have LM := Aside0.mk hcap
 obtain ⟨f0, f1, f2⟩ := r
 simp only at I1 I2 I3 ⊢
 unfold addRailP
 simp only
 generalize isNameB f0 = q at *
 obtain ⟨ix, hix⟩ : ∃ ix, railIdx R.1 f0 = ix := ⟨_, rfl⟩
 rw [hix] at I3 ⊢
 clear hix
 generalize hd : decide (1 ≤ f2 ∧ f2 ≤ 30) = d at *
 clear hd
 have hu := Tryz.underlying97
 cases q with
 | false =>
  go_enter Tryz.func60, Tryz.ntmps60
  go_wp2_with (first | ((with_reducible refine gd_ 3 rfl ?_); refine be_ 3 #[.string f0, .string f1, .int .i64 f2] 97 ?_; intro gb hgb w2 hbox hb; have BK2 := Aside0.mk hbox; have HB2 := Aside0.mk hb; have GB := Aside0.mk (Nat.le_of_eq hgb.symm); clear hbox hb hgb; have b20 := (blk_cell BK2.out 0).trans rfl; have b21 := (blk_cell BK2.out 1).trans rfl; have b22 := (blk_cell BK2.out 2).trans rfl) | (go_at_call 90; (with_reducible refine (I1.out _).mono ?_); rintro e w3 ⟨rfl, hb⟩; have BK3 := Aside0.mk (blk_below BK2.out hb); have HB3 := Aside0.mk (below_step HB2.out hb); clear hb; have b30 := (blk_cell BK3.out 0).trans rfl; have b31 := (blk_cell BK3.out 1).trans rfl; have b32 := (blk_cell BK3.out 2).trans rfl) | fail)
  go_ret
  try simp only [if_true, if_false, Bool.false_eq_true]
  exact ⟨rfl, HX.out.same HB3.out⟩
 | true =>
  generalize hsd : sideB f1 = sd
  have HSD := Aside0.mk hsd
  cases sd with
  | false =>
   unfold sideB at hsd
   simp only [Bool.or_eq_false_iff] at hsd
   obtain ⟨⟨e1, e2⟩, e3⟩ := hsd
   go_enter Tryz.func60, Tryz.ntmps60
   go_wp2_with (first | ((with_reducible refine gd_ 3 rfl ?_); refine be_ 3 #[.string f0, .string f1, .int .i64 f2] 97 ?_; intro gb hgb w2 hbox hb; have BK2 := Aside0.mk hbox; have HB2 := Aside0.mk hb; have GB := Aside0.mk (Nat.le_of_eq hgb.symm); clear hbox hb hgb; have b20 := (blk_cell BK2.out 0).trans rfl; have b21 := (blk_cell BK2.out 1).trans rfl; have b22 := (blk_cell BK2.out 2).trans rfl) | (go_at_call 90; (with_reducible refine (I1.out _).mono ?_); rintro e w3 ⟨rfl, hb⟩; have BK3 := Aside0.mk (blk_below BK2.out hb); have HB3 := Aside0.mk (below_step HB2.out hb); clear hb; have b30 := (blk_cell BK3.out 0).trans rfl; have b31 := (blk_cell BK3.out 1).trans rfl; have b32 := (blk_cell BK3.out 2).trans rfl) | fail)
   go_ret
   try simp only [if_true, if_false, Bool.false_eq_true]
   exact ⟨rfl, HX.out.same HB3.out⟩
  | true =>
   clear hsd
   cases d with
   | false =>
    go_enter Tryz.func60, Tryz.ntmps60
    go_upto_region 3 with (first | ((with_reducible refine gd_ 3 rfl ?_); refine be_ 3 #[.string f0, .string f1, .int .i64 f2] 97 ?_; intro gb hgb w2 hbox hb; have BK2 := Aside0.mk hbox; have HB2 := Aside0.mk hb; have GB := Aside0.mk (Nat.le_of_eq hgb.symm); clear hbox hb hgb; have b20 := (blk_cell BK2.out 0).trans rfl; have b21 := (blk_cell BK2.out 1).trans rfl; have b22 := (blk_cell BK2.out 2).trans rfl) | (go_at_call 90; (with_reducible refine (I1.out _).mono ?_); rintro e w3 ⟨rfl, hb⟩; have BK3 := Aside0.mk (blk_below BK2.out hb); have HB3 := Aside0.mk (below_step HB2.out hb); clear hb; have b30 := (blk_cell BK3.out 0).trans rfl; have b31 := (blk_cell BK3.out 1).trans rfl; have b32 := (blk_cell BK3.out 2).trans rfl) | fail)
    go_cut [10] (fun v10 wc => v10 = .bool false ∧ wc = w3)
    case first =>
     generalize e1 : (f1.toList == [112]) = s1
     generalize e2 : (f1.toList == [115]) = s2
     generalize e3 : (f1.toList == [109]) = s3
     have HE := Aside0.mk (And.intro e1 (And.intro e2 e3))
     cases s1 <;> cases s2 <;> cases s3
     case false.false.false => exact absurd HSD.out (by unfold sideB; rw [HE.out.1, HE.out.2.1, HE.out.2.2]; simp)
     all_goals
      go_wp2
      go_meet
      exact ⟨rfl, rfl⟩
    case rest =>
     obtain ⟨rfl, hw⟩ := hcut
     replace hw := hw.symm
     subst hw
     go_wp2_with (first | ((with_reducible refine gd_ 3 rfl ?_); refine be_ 3 #[.string f0, .string f1, .int .i64 f2] 97 ?_; intro gb hgb w2 hbox hb; have BK2 := Aside0.mk hbox; have HB2 := Aside0.mk hb; have GB := Aside0.mk (Nat.le_of_eq hgb.symm); clear hbox hb hgb; have b20 := (blk_cell BK2.out 0).trans rfl; have b21 := (blk_cell BK2.out 1).trans rfl; have b22 := (blk_cell BK2.out 2).trans rfl) | (go_at_call 90; (with_reducible refine (I1.out _).mono ?_); rintro e w3 ⟨rfl, hb⟩; have BK3 := Aside0.mk (blk_below BK2.out hb); have HB3 := Aside0.mk (below_step HB2.out hb); clear hb; have b30 := (blk_cell BK3.out 0).trans rfl; have b31 := (blk_cell BK3.out 1).trans rfl; have b32 := (blk_cell BK3.out 2).trans rfl) | (go_at_call 24; (with_reducible refine (I2.out _).mono ?_); rintro e w4 ⟨rfl, hb⟩; have BK4 := Aside0.mk (blk_below BK3.out hb); have HB4 := Aside0.mk (below_step HB3.out hb); clear hb; have b40 := (blk_cell BK4.out 0).trans rfl; have b41 := (blk_cell BK4.out 1).trans rfl; have b42 := (blk_cell BK4.out 2).trans rfl; have X4 := Aside0.mk (HX.out.step HB4.out); have c40 := X4.out.c0; have c41 := X4.out.c1; have c42 := X4.out.c2) | fail)
     go_ret
     try simp only [if_true, if_false, Bool.false_eq_true]
     exact ⟨rfl, HX.out.same HB4.out⟩
   | true =>
    go_enter Tryz.func60, Tryz.ntmps60
    go_upto_region 3 with (first | ((with_reducible refine gd_ 3 rfl ?_); refine be_ 3 #[.string f0, .string f1, .int .i64 f2] 97 ?_; intro gb hgb w2 hbox hb; have BK2 := Aside0.mk hbox; have HB2 := Aside0.mk hb; have GB := Aside0.mk (Nat.le_of_eq hgb.symm); clear hbox hb hgb; have b20 := (blk_cell BK2.out 0).trans rfl; have b21 := (blk_cell BK2.out 1).trans rfl; have b22 := (blk_cell BK2.out 2).trans rfl) | (go_at_call 90; (with_reducible refine (I1.out _).mono ?_); rintro e w3 ⟨rfl, hb⟩; have BK3 := Aside0.mk (blk_below BK2.out hb); have HB3 := Aside0.mk (below_step HB2.out hb); clear hb; have b30 := (blk_cell BK3.out 0).trans rfl; have b31 := (blk_cell BK3.out 1).trans rfl; have b32 := (blk_cell BK3.out 2).trans rfl) | fail)
    go_cut [10] (fun v10 wc => v10 = .bool false ∧ wc = w3)
    case first =>
     generalize e1 : (f1.toList == [112]) = s1
     generalize e2 : (f1.toList == [115]) = s2
     generalize e3 : (f1.toList == [109]) = s3
     have HE := Aside0.mk (And.intro e1 (And.intro e2 e3))
     cases s1 <;> cases s2 <;> cases s3
     case false.false.false => exact absurd HSD.out (by unfold sideB; rw [HE.out.1, HE.out.2.1, HE.out.2.2]; simp)
     all_goals
      go_wp2
      go_meet
      exact ⟨rfl, rfl⟩
    case rest =>
     obtain ⟨rfl, hw⟩ := hcut
     replace hw := hw.symm
     subst hw
     go_upto_region 7 with (first | ((with_reducible refine gd_ 3 rfl ?_); refine be_ 3 #[.string f0, .string f1, .int .i64 f2] 97 ?_; intro gb hgb w2 hbox hb; have BK2 := Aside0.mk hbox; have HB2 := Aside0.mk hb; have GB := Aside0.mk (Nat.le_of_eq hgb.symm); clear hbox hb hgb; have b20 := (blk_cell BK2.out 0).trans rfl; have b21 := (blk_cell BK2.out 1).trans rfl; have b22 := (blk_cell BK2.out 2).trans rfl) | (go_at_call 90; (with_reducible refine (I1.out _).mono ?_); rintro e w3 ⟨rfl, hb⟩; have BK3 := Aside0.mk (blk_below BK2.out hb); have HB3 := Aside0.mk (below_step HB2.out hb); clear hb; have b30 := (blk_cell BK3.out 0).trans rfl; have b31 := (blk_cell BK3.out 1).trans rfl; have b32 := (blk_cell BK3.out 2).trans rfl) | (go_at_call 24; (with_reducible refine (I2.out _).mono ?_); rintro e w4 ⟨rfl, hb⟩; have BK4 := Aside0.mk (blk_below BK3.out hb); have HB4 := Aside0.mk (below_step HB3.out hb); clear hb; have b40 := (blk_cell BK4.out 0).trans rfl; have b41 := (blk_cell BK4.out 1).trans rfl; have b42 := (blk_cell BK4.out 2).trans rfl; have X4 := Aside0.mk (HX.out.step HB4.out); have c40 := X4.out.c0; have c41 := X4.out.c1; have c42 := X4.out.c2) | fail)
     refine start_ (n := 8) (S := fun w' => w'.cell? ⟨g, 0, none⟩ = some (.slice A R.1.length c) ∧ w'.cell? ⟨g, 1, none⟩ = some (.slice A1 R.2.1.length c1) ∧ w'.cell? ⟨g, 2, none⟩ = some (.slice A2 R.2.2.length c2) ∧ w'.cell? ⟨gb, 0, none⟩ = some (.string f0)) (ds := [5]) (fl 8 0) (by kernel_rfl) rfl rfl ⟨c40, c41, c42, b40⟩ (fun hHeld => ?_)
     refine pk_ 0 (some 30) (fl 8 1) ?_
     refine pk_ 1 (some 31) (fl 8 3) ?_
     refine pk_ 3 (some 33) (fl 8 11) ?_
     refine tk_ 2 (some 32) (fl 8 15) hHeld ?_
     refine tk_ 4 (some 34) (fl 8 31) hHeld ?_
     refine last_ (i := 5) (N := some 35) (fl 8 63) rfl rfl (by kernel_rfl) (by decide) (fun K hK => ?_)
     refine goes_ Tryz.func91 (by kernel_rfl) rfl #[.agg #[.slice A R.1.length c, .slice A1 R.2.1.length c1, .slice A2 R.2.2.length c2], .string f0] (by rfl) rfl rfl (by simp only [List.map_toArray, List.map_cons, List.map_nil]; rfl) ?_
     with_reducible refine (I3.out _ (below_step HB4.out (below_drew1 (Below.refl w4.heap.size w4)))).mono ?_
     rintro e w5 ⟨rfl, hb⟩
     refine ⟨_, rfl, ?_⟩
     have hx5 := Aside0.mk (below_step (below_drew1 (Below.refl w4.heap.size w4)) hb)
     have HB5 := Aside0.mk (below_step HB4.out hx5.out)
     have BK5 := Aside0.mk (blk_below BK4.out hx5.out)
     clear hb
     refine hK.out _ _ ?_
     clear hK K
     refine norm_ (a' := ?_) ?_ ?_
     rotate_left
     ·show Act.put _ (some 35) _ = _
      simp only [Act.put, List.setIfInBounds_toArray, List.set_cons_zero, List.set_cons_succ, i64_w, i32_w]
      rfl
     refine pk_ 6 (some 36) (fl 8 127) ?_
     refine pk_ 7 (some 29) (fl 8 255) ?_
     refine done_ (by kernel_rfl) ?_
     have b50 := (blk_cell BK5.out 0).trans rfl
     have b51 := (blk_cell BK5.out 1).trans rfl
     have b52 := (blk_cell BK5.out 2).trans rfl
     have X5 := Aside0.mk (HX.out.step HB5.out)
     have c50 := X5.out.c0
     by_cases h5 : 0 ≤ ix
     ·have h5' := eq_true h5
      go_wp2
      go_ret
      try simp only [if_true, if_false, Bool.false_eq_true]
      exact ⟨rfl, HX.out.same HB5.out⟩
     ·have h5' := eq_false h5
      by_cases h8 : 10 ≤ (R.1.length : Int)
      ·have h8e : ((R.1.length : Int) == 10) = true := by have := LM.out; simpa using (by omega : (R.1.length : Int) = 10)
       have h8' := eq_true h8
       go_wp2
       go_ret
       try simp only [if_true, if_false, Bool.false_eq_true]
       try rw [if_pos h8]
       exact ⟨rfl, HX.out.same HB5.out⟩
      ·have h8e : ((R.1.length : Int) == 10) = false := by simpa using (by omega : ¬ (R.1.length : Int) = 10)
       have h8' := eq_false h8
       go_upto_region 11 with (fail)
       have hne : some gb ≠ (Value.slice A R.1.length c).ownBlock := fun e => by have := Kd.R_lt HX.out.r0 gb e.symm; have := GB.out; omega
       refine start_ (n := 11) (S := fun w' => w'.cell? ⟨g, 0, none⟩ = some (.slice A R.1.length c) ∧ w'.cell? ⟨gb, 0, none⟩ = some (.string f0) ∧ w'.cell? ⟨gb, 1, none⟩ = some (.string f1) ∧ w'.cell? ⟨gb, 2, none⟩ = some (.int .i64 f2)) (ds := [10]) (fl 11 0) (by kernel_rfl) rfl rfl ⟨c50, b50, b51, b52⟩ (fun hHeld => ?_)
       refine pk_ 0 (some 44) (fl 11 1) ?_
       refine pk_ 1 (some 45) (fl 11 3) ?_
       refine pk_ 2 (some 46) (fl 11 7) ?_
       refine pk_ 3 (some 47) (fl 11 15) ?_
       refine tk_ 4 (some 48) (fl 11 31) hHeld ?_
       refine tk_ 5 (some 49) (fl 11 63) hHeld ?_
       refine one_ (i := 6) (N := some 50) (fl 11 127) rfl rfl (by kernel_rfl) (by decide) (fun K hK => ?_)
       refine value_ (w1 := ?_) (v := ?_) (by rfl) rfl ?_ ?_
       rotate_left 2
       ·go_simp
        constructor
        ·rfl
        ·rfl
       refine hK.out _ _ ⟨pw_cell_below (below_alloc (Below.refl _ _) _) hHeld.1, pw_cell_below (below_alloc (Below.refl _ _) _) hHeld.2.1, pw_cell_below (below_alloc (Below.refl _ _) _) hHeld.2.2.1, pw_cell_below (below_alloc (Below.refl _ _) _) hHeld.2.2.2⟩ (fun hHeld => ?_)
       clear hK K
       refine norm_ (a' := ?_) ?_ ?_
       rotate_left
       ·show Act.put _ (some 50) _ = _
        simp only [Act.put, List.setIfInBounds_toArray, List.set_cons_zero, List.set_cons_succ, i64_w, i32_w]
        rfl
       refine one_ (i := 7) (N := some 51) (fl 11 255) rfl rfl (by kernel_rfl) (by decide) (fun K hK => ?_)
       rw [show ((w5.alloc (.cells #[.string f0, .string f1, .int .i64 f2] 97)).drew : World) = w5.drew.alloc (.cells #[.string f0, .string f1, .int .i64 f2] 97) from rfl]
       refine Kd.R_append_step k97 (w0 := w0) w0.heap.size (by rfl) (.tmp 48) (.tmp 50) 34 97 (.agg #[.string ⟨#[]⟩, .string ⟨#[]⟩, .int .i64 0]) 40 (by rfl) Tryz.underlying34 info97 rfl (by decide) (by omega) (.slice A R.1.length c) R.1 ⟨f0, f1, f2⟩ [.string f0, .string f1, .int .i64 f2] (fun _ => True) (fun _ => False) (by rfl) (by rfl) ?bP (fun _ hk => hk.elim) (fun _ _ => trivial) (Kd.R_drew X5.out.r0) (below_drew1 X5.out.low) X5.out.low.size (by have := LM.out; omega) ?_
       case bP => exact k97_mkM _ _ _ (⟨f0, f1, f2⟩ : S97)
       intro v9 w9 ho hb hg hat
       obtain ⟨A7, c7, e7⟩ := Kd.R_slice ho
       subst e7
       have eL : (R.1 ++ [(⟨f0, f1, f2⟩ : S97)]).length = R.1.length + 1 := (by simp)
       rw [eL] at ho hat
       have hrg := blk_grown (blk_drew X5.out.blk) hg (Kd.R_ne X5.out.r0 X5.out.blk (by decide))
       have cc := (blk_cell hrg 0).trans rfl
       have ff := blk_frozen hrg 0
       have hbx := blk_grown (blk_drew BK5.out) hg hne
       have hR7 := Aside0.mk (HX.out.app0 (below_drew1 HB5.out) ho hg hb hat)
       refine hK.out _ _ ⟨cc, (blk_cell hbx 0).trans rfl, (blk_cell hbx 1).trans rfl, (blk_cell hbx 2).trans rfl⟩ (fun hHeld => ?_)
       clear hK K
       refine norm_ (a' := ?_) ?_ ?_
       rotate_left
       ·show Act.put _ (some 51) _ = _
        simp only [Act.put, List.setIfInBounds_toArray, List.set_cons_zero, List.set_cons_succ, i64_w, i32_w]
        rfl
       refine pk_ 8 (some 52) (fl 11 511) ?_
       refine pk_ 9 (some 53) (fl 11 1023) ?_
       refine last_ (i := 10) (N := none) (fl 11 2047) rfl rfl (by kernel_rfl) (by decide) (fun K hK => ?_)
       refine skip_ (w1 := ?_) (by rfl) rfl ?_ ?_
       rotate_left
       ·go_simp
        rfl
       refine hK.out _ _ ?_
       clear hK K
       refine done_ (by kernel_rfl) ?_
       go_wp2
       go_ret
       try simp only [if_true, if_false, Bool.false_eq_true]
       try rw [if_neg h8]
       exact ⟨rfl, hR7.out⟩
theorem addBelay_calls (g : Nat) (v0 v1 v2 : Value) (R : RT) (b : S101) (w0 w : World) (hX : Rg w0 w g v0 v1 v2 R) (hlen : R.2.2.length ≤ 1100000) :
  Calls Tryz.prog 62 #[.pointer (some ⟨g, 0, none⟩), .agg #[.string b.f0, .string b.f1, .int .i64 b.f2]] w fun e w' => e = .returned (.int .i64 (addBelayP R b).1) ∧ RgTo w0 w w' g v0 v1 v2 (addBelayP R b).2 := by
 have LM := Aside0.mk hlen
 clear hlen
 obtain ⟨⟨A, c, e⟩, ⟨A1, c1, e1⟩, ⟨A2, c2, e2⟩⟩ := hX.form
 subst e
 subst e1
 subst e2
 obtain ⟨f0, f1, f2⟩ := b
 simp only
 have I1 : Aside0 (∀ W, Below w.heap.size w W → Calls Tryz.prog 91 #[.agg #[.slice A R.1.length c, .slice A1 R.2.1.length c1, .slice A2 R.2.2.length c2], .string f1] W fun e w' => e = .returned (.int .i64 (railIdx R.1 f1)) ∧ Below W.heap.size W w') := ⟨fun W hb => railNamed_calls A c R.1 _ _ f1 W (Kd.R_reads' (hX.step hb).r0).2.2⟩
 have I2 : Aside0 (∀ W, Below w.heap.size w W → Calls Tryz.prog 92 #[.slice A1 R.2.1.length c1, .string f0] W fun e w' => e = .returned (.bool (hasLn R.2.1 f0)) ∧ Below W.heap.size W w') := ⟨fun W hb => has_c A1 c1 R.2.1 f0 W (Kd.R_reads' (hX.step hb).r1).2.2 (Kd.R_reads' hX.r1).2.1⟩
 have I4 : Aside0 (∀ W, Below w.heap.size w W → Calls Tryz.prog 94 #[.agg #[.slice A R.1.length c, .slice A1 R.2.1.length c1, .slice A2 R.2.2.length c2], .string f0] W fun e w' => e = .returned (.int .i64 (beLn R.2.2 f0)) ∧ Below W.heap.size W w') := ⟨fun W hb => belayOf_calls A2 c2 R.2.2 _ _ f0 W (Kd.R_reads' (hX.step hb).r2).2.2⟩
 have I5 : Aside0 (∀ W, Below w.heap.size w W → Calls Tryz.prog 95 #[.agg #[.slice A R.1.length c, .slice A1 R.2.1.length c1, .slice A2 R.2.2.length c2], .string f1, .int .i64 f2] W fun e w' => e = .returned (.int .i64 (beAt R.2.2 f1 f2)) ∧ Below W.heap.size W w') := ⟨fun W hb => belayAt_calls A2 c2 R.2.2 _ _ f1 f2 W (Kd.R_reads' (hX.step hb).r2).2.2⟩
 have I3 : Aside0 (∀ W, Below w.heap.size w W → 0 ≤ railIdx R.1 f1 → Calls Tryz.prog 93 #[.agg #[.slice A R.1.length c, .slice A1 R.2.1.length c1, .slice A2 R.2.2.length c2], .string f1, .int .i64 f2] W fun e w' => e = .returned (.bool (decide (1 ≤ f2 ∧ f2 ≤ (rd_T97 R.1 (railIdx R.1 f1)).f2))) ∧ Below W.heap.size W w') := ⟨fun W hb h0 => hasPin_calls A c R.1 _ _ f1 f2 _ W (Kd.R_reads' (hX.step hb).r0).2.2 h0 rfl⟩
 have HX := Aside0.mk hX
 clear hX
 unfold addBelayP
 simp only
 obtain ⟨ix, hix⟩ : ∃ ix, railIdx R.1 f1 = ix := ⟨_, rfl⟩
 rw [hix] at I1 I3 ⊢
 clear hix
 generalize decide (1 ≤ f2 ∧ f2 ≤ (rd_T97 R.1 ix).f2) = d at *
 generalize hasLn R.2.1 f0 = ln at *
 generalize beLn R.2.2 f0 = iz at *
 generalize beAt R.2.2 f1 f2 = ia at *
 have hu := Tryz.underlying101
 by_cases h1 : 0 ≤ ix
 ·have h1' := eq_true h1
  have H1 := Aside0.mk h1
  have h1n := eq_false (by omega : ¬ ix < 0)
  rw [if_pos h1]
  cases ln with
  | false =>
   go_enter Tryz.func62, Tryz.ntmps62
   go_upto_region 1 with (first | ((with_reducible refine gd_ 3 rfl ?_); refine be_ 3 #[.string f0, .string f1, .int .i64 f2] 101 ?_; intro gb hgb w2 hbox hb; have BK2 := Aside0.mk hbox; have HB2 := Aside0.mk hb; have GB := Aside0.mk (Nat.le_of_eq hgb.symm); clear hbox hb hgb; have b20 := (blk_cell BK2.out 0).trans rfl; have b21 := (blk_cell BK2.out 1).trans rfl; have b22 := (blk_cell BK2.out 2).trans rfl; have X2 := Aside0.mk (HX.out.step HB2.out); have c20 := X2.out.c0; have c21 := X2.out.c1; have c22 := X2.out.c2) | fail)
   refine start_ (n := 18) (S := fun w' => w'.cell? ⟨g, 0, none⟩ = some (.slice A R.1.length c) ∧ w'.cell? ⟨g, 1, none⟩ = some (.slice A1 R.2.1.length c1) ∧ w'.cell? ⟨g, 2, none⟩ = some (.slice A2 R.2.2.length c2) ∧ w'.cell? ⟨gb, 0, none⟩ = some (.string f0) ∧ w'.cell? ⟨gb, 1, none⟩ = some (.string f1)) (ds := [14]) (fl 18 0) (by kernel_rfl) rfl rfl ⟨c20, c21, c22, b20, b21⟩ (fun hHeld => ?_)
   refine pk_ 0 (some 6) (fl 18 1) ?_
   refine pk_ 1 (some 7) (fl 18 3) ?_
   refine pk_ 3 (some 9) (fl 18 11) ?_
   refine tk_ 2 (some 8) (fl 18 15) hHeld ?_
   refine tk_ 4 (some 10) (fl 18 31) hHeld ?_
   refine one_ (i := 5) (N := some 11) (fl 18 63) rfl rfl (by kernel_rfl) (by decide) (fun K hK => ?_)
   refine goes_ Tryz.func91 (by kernel_rfl) rfl #[.agg #[.slice A R.1.length c, .slice A1 R.2.1.length c1, .slice A2 R.2.2.length c2], .string f1] (by rfl) rfl rfl (by simp only [List.map_toArray, List.map_cons, List.map_nil]; rfl) ?_
   with_reducible refine (I1.out _ (below_step HB2.out (below_drew1 (Below.refl w2.heap.size w2)))).mono ?_
   rintro e w3 ⟨rfl, hb⟩
   refine ⟨_, rfl, ?_⟩
   have hx3 := Aside0.mk (below_step (below_drew1 (Below.refl w2.heap.size w2)) hb)
   have HB3 := Aside0.mk (below_step HB2.out hx3.out)
   clear hb
   refine hK.out _ _ ⟨pw_cell_below hx3.out c20, pw_cell_below hx3.out c21, pw_cell_below hx3.out c22, pw_cell_below hx3.out b20, pw_cell_below hx3.out b21⟩ (fun hHeld => ?_)
   clear hK K
   refine norm_ (a' := ?_) ?_ ?_
   rotate_left
   ·show Act.put _ (some 11) _ = _
    simp only [Act.put, List.setIfInBounds_toArray, List.set_cons_zero, List.set_cons_succ, i64_w, i32_w]
    rfl
   refine pk_ 6 (some 12) (fl 18 127) ?_
   refine pk_ 7 (some 13) (fl 18 255) ?_
   refine pk_ 8 (some 14) (fl 18 511) ?_
   refine pk_ 9 (some 15) (fl 18 1023) ?_
   refine pk_ 10 (some 16) (fl 18 2047) ?_
   refine pk_ 12 (some 18) (fl 18 6143) ?_
   refine tk_ 11 (some 17) (fl 18 8191) hHeld ?_
   refine tk_ 13 (some 19) (fl 18 16383) hHeld ?_
   refine last_ (i := 14) (N := some 20) (fl 18 32767) rfl rfl (by kernel_rfl) (by decide) (fun K hK => ?_)
   refine goes_ Tryz.func92 (by kernel_rfl) rfl #[.slice A1 R.2.1.length c1, .string f0] (by rfl) rfl rfl (by simp only [List.map_toArray, List.map_cons, List.map_nil]; rfl) ?_
   with_reducible refine (I2.out _ HB3.out).mono ?_
   rintro e w4 ⟨rfl, hb⟩
   refine ⟨_, rfl, ?_⟩
   have hx4 := Aside0.mk (below_step hx3.out hb)
   have HB4 := Aside0.mk (below_step HB2.out hx4.out)
   have BK4 := Aside0.mk (blk_below BK2.out hx4.out)
   clear hb
   refine hK.out _ _ ?_
   clear hK K
   refine norm_ (a' := ?_) ?_ ?_
   rotate_left
   ·show Act.put _ (some 20) _ = _
    simp only [Act.put, List.setIfInBounds_toArray, List.set_cons_zero, List.set_cons_succ, i64_w, i32_w]
    rfl
   refine pk_ 15 (some 21) (fl 18 65535) ?_
   refine pk_ 16 (some 22) (fl 18 131071) ?_
   refine pk_ 17 (some 5) (fl 18 262143) ?_
   refine done_ (by kernel_rfl) ?_
   have b40 := (blk_cell BK4.out 0).trans rfl
   have b41 := (blk_cell BK4.out 1).trans rfl
   have b42 := (blk_cell BK4.out 2).trans rfl
   have X4 := Aside0.mk (HX.out.step HB4.out)
   have c40 := X4.out.c0
   have c41 := X4.out.c1
   have c42 := X4.out.c2
   go_wp2
   go_ret
   try simp only [if_true, if_false, Bool.false_eq_true]
   exact ⟨rfl, HX.out.same HB4.out⟩
  | true =>
   cases d with
   | false =>
    go_enter Tryz.func62, Tryz.ntmps62
    go_upto_region 1 with (first | ((with_reducible refine gd_ 3 rfl ?_); refine be_ 3 #[.string f0, .string f1, .int .i64 f2] 101 ?_; intro gb hgb w2 hbox hb; have BK2 := Aside0.mk hbox; have HB2 := Aside0.mk hb; have GB := Aside0.mk (Nat.le_of_eq hgb.symm); clear hbox hb hgb; have b20 := (blk_cell BK2.out 0).trans rfl; have b21 := (blk_cell BK2.out 1).trans rfl; have b22 := (blk_cell BK2.out 2).trans rfl; have X2 := Aside0.mk (HX.out.step HB2.out); have c20 := X2.out.c0; have c21 := X2.out.c1; have c22 := X2.out.c2) | fail)
    refine start_ (n := 18) (S := fun w' => w'.cell? ⟨g, 0, none⟩ = some (.slice A R.1.length c) ∧ w'.cell? ⟨g, 1, none⟩ = some (.slice A1 R.2.1.length c1) ∧ w'.cell? ⟨g, 2, none⟩ = some (.slice A2 R.2.2.length c2) ∧ w'.cell? ⟨gb, 0, none⟩ = some (.string f0) ∧ w'.cell? ⟨gb, 1, none⟩ = some (.string f1)) (ds := [14]) (fl 18 0) (by kernel_rfl) rfl rfl ⟨c20, c21, c22, b20, b21⟩ (fun hHeld => ?_)
    refine pk_ 0 (some 6) (fl 18 1) ?_
    refine pk_ 1 (some 7) (fl 18 3) ?_
    refine pk_ 3 (some 9) (fl 18 11) ?_
    refine tk_ 2 (some 8) (fl 18 15) hHeld ?_
    refine tk_ 4 (some 10) (fl 18 31) hHeld ?_
    refine one_ (i := 5) (N := some 11) (fl 18 63) rfl rfl (by kernel_rfl) (by decide) (fun K hK => ?_)
    refine goes_ Tryz.func91 (by kernel_rfl) rfl #[.agg #[.slice A R.1.length c, .slice A1 R.2.1.length c1, .slice A2 R.2.2.length c2], .string f1] (by rfl) rfl rfl (by simp only [List.map_toArray, List.map_cons, List.map_nil]; rfl) ?_
    with_reducible refine (I1.out _ (below_step HB2.out (below_drew1 (Below.refl w2.heap.size w2)))).mono ?_
    rintro e w3 ⟨rfl, hb⟩
    refine ⟨_, rfl, ?_⟩
    have hx3 := Aside0.mk (below_step (below_drew1 (Below.refl w2.heap.size w2)) hb)
    have HB3 := Aside0.mk (below_step HB2.out hx3.out)
    clear hb
    refine hK.out _ _ ⟨pw_cell_below hx3.out c20, pw_cell_below hx3.out c21, pw_cell_below hx3.out c22, pw_cell_below hx3.out b20, pw_cell_below hx3.out b21⟩ (fun hHeld => ?_)
    clear hK K
    refine norm_ (a' := ?_) ?_ ?_
    rotate_left
    ·show Act.put _ (some 11) _ = _
     simp only [Act.put, List.setIfInBounds_toArray, List.set_cons_zero, List.set_cons_succ, i64_w, i32_w]
     rfl
    refine pk_ 6 (some 12) (fl 18 127) ?_
    refine pk_ 7 (some 13) (fl 18 255) ?_
    refine pk_ 8 (some 14) (fl 18 511) ?_
    refine pk_ 9 (some 15) (fl 18 1023) ?_
    refine pk_ 10 (some 16) (fl 18 2047) ?_
    refine pk_ 12 (some 18) (fl 18 6143) ?_
    refine tk_ 11 (some 17) (fl 18 8191) hHeld ?_
    refine tk_ 13 (some 19) (fl 18 16383) hHeld ?_
    refine last_ (i := 14) (N := some 20) (fl 18 32767) rfl rfl (by kernel_rfl) (by decide) (fun K hK => ?_)
    refine goes_ Tryz.func92 (by kernel_rfl) rfl #[.slice A1 R.2.1.length c1, .string f0] (by rfl) rfl rfl (by simp only [List.map_toArray, List.map_cons, List.map_nil]; rfl) ?_
    with_reducible refine (I2.out _ HB3.out).mono ?_
    rintro e w4 ⟨rfl, hb⟩
    refine ⟨_, rfl, ?_⟩
    have hx4 := Aside0.mk (below_step hx3.out hb)
    have HB4 := Aside0.mk (below_step HB2.out hx4.out)
    have BK4 := Aside0.mk (blk_below BK2.out hx4.out)
    clear hb
    refine hK.out _ _ ?_
    clear hK K
    refine norm_ (a' := ?_) ?_ ?_
    rotate_left
    ·show Act.put _ (some 20) _ = _
     simp only [Act.put, List.setIfInBounds_toArray, List.set_cons_zero, List.set_cons_succ, i64_w, i32_w]
     rfl
    refine pk_ 15 (some 21) (fl 18 65535) ?_
    refine pk_ 16 (some 22) (fl 18 131071) ?_
    refine pk_ 17 (some 5) (fl 18 262143) ?_
    refine done_ (by kernel_rfl) ?_
    have b40 := (blk_cell BK4.out 0).trans rfl
    have b41 := (blk_cell BK4.out 1).trans rfl
    have b42 := (blk_cell BK4.out 2).trans rfl
    have X4 := Aside0.mk (HX.out.step HB4.out)
    have c40 := X4.out.c0
    have c41 := X4.out.c1
    have c42 := X4.out.c2
    go_upto_region 3 with (fail)
    refine start_ (n := 10) (S := fun w' => w'.cell? ⟨g, 0, none⟩ = some (.slice A R.1.length c) ∧ w'.cell? ⟨g, 1, none⟩ = some (.slice A1 R.2.1.length c1) ∧ w'.cell? ⟨g, 2, none⟩ = some (.slice A2 R.2.2.length c2) ∧ w'.cell? ⟨gb, 1, none⟩ = some (.string f1) ∧ w'.cell? ⟨gb, 2, none⟩ = some (.int .i64 f2)) (ds := [7]) (fl 10 0) (by kernel_rfl) rfl rfl ⟨c40, c41, c42, b41, b42⟩ (fun hHeld => ?_)
    refine pk_ 0 (some 24) (fl 10 1) ?_
    refine pk_ 1 (some 25) (fl 10 3) ?_
    refine pk_ 3 (some 27) (fl 10 11) ?_
    refine pk_ 5 (some 29) (fl 10 43) ?_
    refine tk_ 2 (some 26) (fl 10 47) hHeld ?_
    refine tk_ 4 (some 28) (fl 10 63) hHeld ?_
    refine tk_ 6 (some 30) (fl 10 127) hHeld ?_
    refine last_ (i := 7) (N := some 31) (fl 10 255) rfl rfl (by kernel_rfl) (by decide) (fun K hK => ?_)
    refine goes_ Tryz.func93 (by kernel_rfl) rfl #[.agg #[.slice A R.1.length c, .slice A1 R.2.1.length c1, .slice A2 R.2.2.length c2], .string f1, .int .i64 f2] (by rfl) rfl rfl (by simp only [List.map_toArray, List.map_cons, List.map_nil]; rfl) ?_
    with_reducible refine (I3.out _ (below_step HB4.out (below_drew1 (Below.refl w4.heap.size w4))) H1.out).mono ?_
    rintro e w5 ⟨rfl, hb⟩
    refine ⟨_, rfl, ?_⟩
    have hx5 := Aside0.mk (below_step (below_drew1 (Below.refl w4.heap.size w4)) hb)
    have HB5 := Aside0.mk (below_step HB4.out hx5.out)
    have BK5 := Aside0.mk (blk_below BK4.out hx5.out)
    clear hb
    refine hK.out _ _ ?_
    clear hK K
    refine norm_ (a' := ?_) ?_ ?_
    rotate_left
    ·show Act.put _ (some 31) _ = _
     simp only [Act.put, List.setIfInBounds_toArray, List.set_cons_zero, List.set_cons_succ, i64_w, i32_w]
     rfl
    refine pk_ 8 (some 32) (fl 10 511) ?_
    refine pk_ 9 (some 23) (fl 10 1023) ?_
    refine done_ (by kernel_rfl) ?_
    have b50 := (blk_cell BK5.out 0).trans rfl
    have b51 := (blk_cell BK5.out 1).trans rfl
    have b52 := (blk_cell BK5.out 2).trans rfl
    have X5 := Aside0.mk (HX.out.step HB5.out)
    have c50 := X5.out.c0
    have c51 := X5.out.c1
    have c52 := X5.out.c2
    go_wp2
    go_ret
    try simp only [if_true, if_false, Bool.false_eq_true]
    exact ⟨rfl, HX.out.same HB5.out⟩
   | true =>
    go_enter Tryz.func62, Tryz.ntmps62
    go_upto_region 1 with (first | ((with_reducible refine gd_ 3 rfl ?_); refine be_ 3 #[.string f0, .string f1, .int .i64 f2] 101 ?_; intro gb hgb w2 hbox hb; have BK2 := Aside0.mk hbox; have HB2 := Aside0.mk hb; have GB := Aside0.mk (Nat.le_of_eq hgb.symm); clear hbox hb hgb; have b20 := (blk_cell BK2.out 0).trans rfl; have b21 := (blk_cell BK2.out 1).trans rfl; have b22 := (blk_cell BK2.out 2).trans rfl; have X2 := Aside0.mk (HX.out.step HB2.out); have c20 := X2.out.c0; have c21 := X2.out.c1; have c22 := X2.out.c2) | fail)
    refine start_ (n := 18) (S := fun w' => w'.cell? ⟨g, 0, none⟩ = some (.slice A R.1.length c) ∧ w'.cell? ⟨g, 1, none⟩ = some (.slice A1 R.2.1.length c1) ∧ w'.cell? ⟨g, 2, none⟩ = some (.slice A2 R.2.2.length c2) ∧ w'.cell? ⟨gb, 0, none⟩ = some (.string f0) ∧ w'.cell? ⟨gb, 1, none⟩ = some (.string f1)) (ds := [14]) (fl 18 0) (by kernel_rfl) rfl rfl ⟨c20, c21, c22, b20, b21⟩ (fun hHeld => ?_)
    refine pk_ 0 (some 6) (fl 18 1) ?_
    refine pk_ 1 (some 7) (fl 18 3) ?_
    refine pk_ 3 (some 9) (fl 18 11) ?_
    refine tk_ 2 (some 8) (fl 18 15) hHeld ?_
    refine tk_ 4 (some 10) (fl 18 31) hHeld ?_
    refine one_ (i := 5) (N := some 11) (fl 18 63) rfl rfl (by kernel_rfl) (by decide) (fun K hK => ?_)
    refine goes_ Tryz.func91 (by kernel_rfl) rfl #[.agg #[.slice A R.1.length c, .slice A1 R.2.1.length c1, .slice A2 R.2.2.length c2], .string f1] (by rfl) rfl rfl (by simp only [List.map_toArray, List.map_cons, List.map_nil]; rfl) ?_
    with_reducible refine (I1.out _ (below_step HB2.out (below_drew1 (Below.refl w2.heap.size w2)))).mono ?_
    rintro e w3 ⟨rfl, hb⟩
    refine ⟨_, rfl, ?_⟩
    have hx3 := Aside0.mk (below_step (below_drew1 (Below.refl w2.heap.size w2)) hb)
    have HB3 := Aside0.mk (below_step HB2.out hx3.out)
    clear hb
    refine hK.out _ _ ⟨pw_cell_below hx3.out c20, pw_cell_below hx3.out c21, pw_cell_below hx3.out c22, pw_cell_below hx3.out b20, pw_cell_below hx3.out b21⟩ (fun hHeld => ?_)
    clear hK K
    refine norm_ (a' := ?_) ?_ ?_
    rotate_left
    ·show Act.put _ (some 11) _ = _
     simp only [Act.put, List.setIfInBounds_toArray, List.set_cons_zero, List.set_cons_succ, i64_w, i32_w]
     rfl
    refine pk_ 6 (some 12) (fl 18 127) ?_
    refine pk_ 7 (some 13) (fl 18 255) ?_
    refine pk_ 8 (some 14) (fl 18 511) ?_
    refine pk_ 9 (some 15) (fl 18 1023) ?_
    refine pk_ 10 (some 16) (fl 18 2047) ?_
    refine pk_ 12 (some 18) (fl 18 6143) ?_
    refine tk_ 11 (some 17) (fl 18 8191) hHeld ?_
    refine tk_ 13 (some 19) (fl 18 16383) hHeld ?_
    refine last_ (i := 14) (N := some 20) (fl 18 32767) rfl rfl (by kernel_rfl) (by decide) (fun K hK => ?_)
    refine goes_ Tryz.func92 (by kernel_rfl) rfl #[.slice A1 R.2.1.length c1, .string f0] (by rfl) rfl rfl (by simp only [List.map_toArray, List.map_cons, List.map_nil]; rfl) ?_
    with_reducible refine (I2.out _ HB3.out).mono ?_
    rintro e w4 ⟨rfl, hb⟩
    refine ⟨_, rfl, ?_⟩
    have hx4 := Aside0.mk (below_step hx3.out hb)
    have HB4 := Aside0.mk (below_step HB2.out hx4.out)
    have BK4 := Aside0.mk (blk_below BK2.out hx4.out)
    clear hb
    refine hK.out _ _ ?_
    clear hK K
    refine norm_ (a' := ?_) ?_ ?_
    rotate_left
    ·show Act.put _ (some 20) _ = _
     simp only [Act.put, List.setIfInBounds_toArray, List.set_cons_zero, List.set_cons_succ, i64_w, i32_w]
     rfl
    refine pk_ 15 (some 21) (fl 18 65535) ?_
    refine pk_ 16 (some 22) (fl 18 131071) ?_
    refine pk_ 17 (some 5) (fl 18 262143) ?_
    refine done_ (by kernel_rfl) ?_
    have b40 := (blk_cell BK4.out 0).trans rfl
    have b41 := (blk_cell BK4.out 1).trans rfl
    have b42 := (blk_cell BK4.out 2).trans rfl
    have X4 := Aside0.mk (HX.out.step HB4.out)
    have c40 := X4.out.c0
    have c41 := X4.out.c1
    have c42 := X4.out.c2
    go_upto_region 3 with (fail)
    refine start_ (n := 10) (S := fun w' => w'.cell? ⟨g, 0, none⟩ = some (.slice A R.1.length c) ∧ w'.cell? ⟨g, 1, none⟩ = some (.slice A1 R.2.1.length c1) ∧ w'.cell? ⟨g, 2, none⟩ = some (.slice A2 R.2.2.length c2) ∧ w'.cell? ⟨gb, 1, none⟩ = some (.string f1) ∧ w'.cell? ⟨gb, 2, none⟩ = some (.int .i64 f2)) (ds := [7]) (fl 10 0) (by kernel_rfl) rfl rfl ⟨c40, c41, c42, b41, b42⟩ (fun hHeld => ?_)
    refine pk_ 0 (some 24) (fl 10 1) ?_
    refine pk_ 1 (some 25) (fl 10 3) ?_
    refine pk_ 3 (some 27) (fl 10 11) ?_
    refine pk_ 5 (some 29) (fl 10 43) ?_
    refine tk_ 2 (some 26) (fl 10 47) hHeld ?_
    refine tk_ 4 (some 28) (fl 10 63) hHeld ?_
    refine tk_ 6 (some 30) (fl 10 127) hHeld ?_
    refine last_ (i := 7) (N := some 31) (fl 10 255) rfl rfl (by kernel_rfl) (by decide) (fun K hK => ?_)
    refine goes_ Tryz.func93 (by kernel_rfl) rfl #[.agg #[.slice A R.1.length c, .slice A1 R.2.1.length c1, .slice A2 R.2.2.length c2], .string f1, .int .i64 f2] (by rfl) rfl rfl (by simp only [List.map_toArray, List.map_cons, List.map_nil]; rfl) ?_
    with_reducible refine (I3.out _ (below_step HB4.out (below_drew1 (Below.refl w4.heap.size w4))) H1.out).mono ?_
    rintro e w5 ⟨rfl, hb⟩
    refine ⟨_, rfl, ?_⟩
    have hx5 := Aside0.mk (below_step (below_drew1 (Below.refl w4.heap.size w4)) hb)
    have HB5 := Aside0.mk (below_step HB4.out hx5.out)
    have BK5 := Aside0.mk (blk_below BK4.out hx5.out)
    clear hb
    refine hK.out _ _ ?_
    clear hK K
    refine norm_ (a' := ?_) ?_ ?_
    rotate_left
    ·show Act.put _ (some 31) _ = _
     simp only [Act.put, List.setIfInBounds_toArray, List.set_cons_zero, List.set_cons_succ, i64_w, i32_w]
     rfl
    refine pk_ 8 (some 32) (fl 10 511) ?_
    refine pk_ 9 (some 23) (fl 10 1023) ?_
    refine done_ (by kernel_rfl) ?_
    have b50 := (blk_cell BK5.out 0).trans rfl
    have b51 := (blk_cell BK5.out 1).trans rfl
    have b52 := (blk_cell BK5.out 2).trans rfl
    have X5 := Aside0.mk (HX.out.step HB5.out)
    have c50 := X5.out.c0
    have c51 := X5.out.c1
    have c52 := X5.out.c2
    go_upto_region 5 with (fail)
    refine start_ (n := 8) (S := fun w' => w'.cell? ⟨g, 0, none⟩ = some (.slice A R.1.length c) ∧ w'.cell? ⟨g, 1, none⟩ = some (.slice A1 R.2.1.length c1) ∧ w'.cell? ⟨g, 2, none⟩ = some (.slice A2 R.2.2.length c2) ∧ w'.cell? ⟨gb, 0, none⟩ = some (.string f0)) (ds := [5]) (fl 8 0) (by kernel_rfl) rfl rfl ⟨c50, c51, c52, b50⟩ (fun hHeld => ?_)
    refine pk_ 0 (some 34) (fl 8 1) ?_
    refine pk_ 1 (some 35) (fl 8 3) ?_
    refine pk_ 3 (some 37) (fl 8 11) ?_
    refine tk_ 2 (some 36) (fl 8 15) hHeld ?_
    refine tk_ 4 (some 38) (fl 8 31) hHeld ?_
    refine last_ (i := 5) (N := some 39) (fl 8 63) rfl rfl (by kernel_rfl) (by decide) (fun K hK => ?_)
    refine goes_ Tryz.func94 (by kernel_rfl) rfl #[.agg #[.slice A R.1.length c, .slice A1 R.2.1.length c1, .slice A2 R.2.2.length c2], .string f0] (by rfl) rfl rfl (by simp only [List.map_toArray, List.map_cons, List.map_nil]; rfl) ?_
    with_reducible refine (I4.out _ (below_step HB5.out (below_drew1 (Below.refl w5.heap.size w5)))).mono ?_
    rintro e w6 ⟨rfl, hb⟩
    refine ⟨_, rfl, ?_⟩
    have hx5 := Aside0.mk (below_step (below_drew1 (Below.refl w5.heap.size w5)) hb)
    have HB6 := Aside0.mk (below_step HB5.out hx5.out)
    have BK6 := Aside0.mk (blk_below BK5.out hx5.out)
    clear hb
    refine hK.out _ _ ?_
    clear hK K
    refine norm_ (a' := ?_) ?_ ?_
    rotate_left
    ·show Act.put _ (some 39) _ = _
     simp only [Act.put, List.setIfInBounds_toArray, List.set_cons_zero, List.set_cons_succ, i64_w, i32_w]
     rfl
    refine pk_ 6 (some 40) (fl 8 127) ?_
    refine pk_ 7 (some 33) (fl 8 255) ?_
    refine done_ (by kernel_rfl) ?_
    have b60 := (blk_cell BK6.out 0).trans rfl
    have b61 := (blk_cell BK6.out 1).trans rfl
    have b62 := (blk_cell BK6.out 2).trans rfl
    have X6 := Aside0.mk (HX.out.step HB6.out)
    have c60 := X6.out.c0
    have c61 := X6.out.c1
    have c62 := X6.out.c2
    by_cases h5 : 0 ≤ iz
    ·have h5' := eq_true h5
     go_wp2
     go_ret
     try simp only [if_true, if_false, Bool.false_eq_true]
     exact ⟨rfl, HX.out.same HB6.out⟩
    ·have h5' := eq_false h5
     go_upto_region 7 with (fail)
     refine start_ (n := 10) (S := fun w' => w'.cell? ⟨g, 0, none⟩ = some (.slice A R.1.length c) ∧ w'.cell? ⟨g, 1, none⟩ = some (.slice A1 R.2.1.length c1) ∧ w'.cell? ⟨g, 2, none⟩ = some (.slice A2 R.2.2.length c2) ∧ w'.cell? ⟨gb, 1, none⟩ = some (.string f1) ∧ w'.cell? ⟨gb, 2, none⟩ = some (.int .i64 f2)) (ds := [7]) (fl 10 0) (by kernel_rfl) rfl rfl ⟨c60, c61, c62, b61, b62⟩ (fun hHeld => ?_)
     refine pk_ 0 (some 42) (fl 10 1) ?_
     refine pk_ 1 (some 43) (fl 10 3) ?_
     refine pk_ 3 (some 45) (fl 10 11) ?_
     refine pk_ 5 (some 47) (fl 10 43) ?_
     refine tk_ 2 (some 44) (fl 10 47) hHeld ?_
     refine tk_ 4 (some 46) (fl 10 63) hHeld ?_
     refine tk_ 6 (some 48) (fl 10 127) hHeld ?_
     refine last_ (i := 7) (N := some 49) (fl 10 255) rfl rfl (by kernel_rfl) (by decide) (fun K hK => ?_)
     refine goes_ Tryz.func95 (by kernel_rfl) rfl #[.agg #[.slice A R.1.length c, .slice A1 R.2.1.length c1, .slice A2 R.2.2.length c2], .string f1, .int .i64 f2] (by rfl) rfl rfl (by simp only [List.map_toArray, List.map_cons, List.map_nil]; rfl) ?_
     with_reducible refine (I5.out _ (below_step HB6.out (below_drew1 (Below.refl w6.heap.size w6)))).mono ?_
     rintro e w7 ⟨rfl, hb⟩
     refine ⟨_, rfl, ?_⟩
     have hx5 := Aside0.mk (below_step (below_drew1 (Below.refl w6.heap.size w6)) hb)
     have HB7 := Aside0.mk (below_step HB6.out hx5.out)
     have BK7 := Aside0.mk (blk_below BK6.out hx5.out)
     clear hb
     refine hK.out _ _ ?_
     clear hK K
     refine norm_ (a' := ?_) ?_ ?_
     rotate_left
     ·show Act.put _ (some 49) _ = _
      simp only [Act.put, List.setIfInBounds_toArray, List.set_cons_zero, List.set_cons_succ, i64_w, i32_w]
      rfl
     refine pk_ 8 (some 50) (fl 10 511) ?_
     refine pk_ 9 (some 41) (fl 10 1023) ?_
     refine done_ (by kernel_rfl) ?_
     have b70 := (blk_cell BK7.out 0).trans rfl
     have b71 := (blk_cell BK7.out 1).trans rfl
     have b72 := (blk_cell BK7.out 2).trans rfl
     have X7 := Aside0.mk (HX.out.step HB7.out)
     have c70 := X7.out.c0
     have c71 := X7.out.c1
     have c72 := X7.out.c2
     by_cases h7 : 0 ≤ ia
     ·have h7' := eq_true h7
      go_wp2
      go_ret
      try simp only [if_true, if_false, Bool.false_eq_true]
      exact ⟨rfl, HX.out.same HB7.out⟩
     ·have h7' := eq_false h7
      go_upto_region 9 with (fail)
      have hne : some gb ≠ (Value.slice A2 R.2.2.length c2).ownBlock := fun e => by have := Kd.R_lt HX.out.r2 gb e.symm; have := GB.out; omega
      refine start_ (n := 11) (S := fun w' => w'.cell? ⟨g, 2, none⟩ = some (.slice A2 R.2.2.length c2) ∧ w'.cell? ⟨gb, 0, none⟩ = some (.string f0) ∧ w'.cell? ⟨gb, 1, none⟩ = some (.string f1) ∧ w'.cell? ⟨gb, 2, none⟩ = some (.int .i64 f2)) (ds := [10]) (fl 11 0) (by kernel_rfl) rfl rfl ⟨c72, b70, b71, b72⟩ (fun hHeld => ?_)
      refine pk_ 0 (some 51) (fl 11 1) ?_
      refine pk_ 1 (some 52) (fl 11 3) ?_
      refine pk_ 2 (some 53) (fl 11 7) ?_
      refine pk_ 3 (some 54) (fl 11 15) ?_
      refine tk_ 4 (some 55) (fl 11 31) hHeld ?_
      refine tk_ 5 (some 56) (fl 11 63) hHeld ?_
      refine one_ (i := 6) (N := some 57) (fl 11 127) rfl rfl (by kernel_rfl) (by decide) (fun K hK => ?_)
      refine value_ (w1 := ?_) (v := ?_) (by rfl) rfl ?_ ?_
      rotate_left 2
      ·go_simp
       constructor
       ·rfl
       ·rfl
      refine hK.out _ _ ⟨pw_cell_below (below_alloc (Below.refl _ _) _) hHeld.1, pw_cell_below (below_alloc (Below.refl _ _) _) hHeld.2.1, pw_cell_below (below_alloc (Below.refl _ _) _) hHeld.2.2.1, pw_cell_below (below_alloc (Below.refl _ _) _) hHeld.2.2.2⟩ (fun hHeld => ?_)
      clear hK K
      refine norm_ (a' := ?_) ?_ ?_
      rotate_left
      ·show Act.put _ (some 57) _ = _
       simp only [Act.put, List.setIfInBounds_toArray, List.set_cons_zero, List.set_cons_succ, i64_w, i32_w]
       rfl
      refine one_ (i := 7) (N := some 58) (fl 11 255) rfl rfl (by kernel_rfl) (by decide) (fun K hK => ?_)
      rw [show ((w7.alloc (.cells #[.string f0, .string f1, .int .i64 f2] 101)).drew : World) = w7.drew.alloc (.cells #[.string f0, .string f1, .int .i64 f2] 101) from rfl]
      refine Kd.R_append_step k101 (w0 := w0) w0.heap.size (by rfl) (.tmp 55) (.tmp 57) 35 101 (.agg #[.string ⟨#[]⟩, .string ⟨#[]⟩, .int .i64 0]) 40 (by rfl) Tryz.underlying35 info101 rfl (by decide) (by omega) (.slice A2 R.2.2.length c2) R.2.2 ⟨f0, f1, f2⟩ [.string f0, .string f1, .int .i64 f2] (fun _ => True) (fun _ => False) (by rfl) (by rfl) ?bP (fun _ hk => hk.elim) (fun _ _ => trivial) (Kd.R_drew X7.out.r2) (below_drew1 X7.out.low) X7.out.low.size (by have := LM.out; omega) ?_
      case bP => exact k101_mkM _ _ _ (⟨f0, f1, f2⟩ : S101)
      intro v9 w9 ho hb hg hat
      obtain ⟨A7, c7, e7⟩ := Kd.R_slice ho
      subst e7
      have eL : (R.2.2 ++ [(⟨f0, f1, f2⟩ : S101)]).length = R.2.2.length + 1 := (by simp)
      rw [eL] at ho hat
      have hrg := blk_grown (blk_drew X7.out.blk) hg (Kd.R_ne X7.out.r2 X7.out.blk (by decide))
      have cc := (blk_cell hrg 2).trans rfl
      have ff := blk_frozen hrg 2
      have hbx := blk_grown (blk_drew BK7.out) hg hne
      have hR7 := Aside0.mk (HX.out.app2 (below_drew1 HB7.out) ho hg hb hat)
      refine hK.out _ _ ⟨cc, (blk_cell hbx 0).trans rfl, (blk_cell hbx 1).trans rfl, (blk_cell hbx 2).trans rfl⟩ (fun hHeld => ?_)
      clear hK K
      refine norm_ (a' := ?_) ?_ ?_
      rotate_left
      ·show Act.put _ (some 58) _ = _
       simp only [Act.put, List.setIfInBounds_toArray, List.set_cons_zero, List.set_cons_succ, i64_w, i32_w]
       rfl
      refine pk_ 8 (some 59) (fl 11 511) ?_
      refine pk_ 9 (some 60) (fl 11 1023) ?_
      refine last_ (i := 10) (N := none) (fl 11 2047) rfl rfl (by kernel_rfl) (by decide) (fun K hK => ?_)
      refine skip_ (w1 := ?_) (by rfl) rfl ?_ ?_
      rotate_left
      ·go_simp
       rfl
      refine hK.out _ _ ?_
      clear hK K
      refine done_ (by kernel_rfl) ?_
      go_wp2
      go_ret
      try simp only [if_true, if_false, Bool.false_eq_true]
      exact ⟨rfl, hR7.out⟩
 ·have h1' := eq_false h1
  have h1n := eq_true (by omega : ix < 0)
  rw [if_neg h1]
  go_enter Tryz.func62, Tryz.ntmps62
  go_upto_region 1 with (first | ((with_reducible refine gd_ 3 rfl ?_); refine be_ 3 #[.string f0, .string f1, .int .i64 f2] 101 ?_; intro gb hgb w2 hbox hb; have BK2 := Aside0.mk hbox; have HB2 := Aside0.mk hb; have GB := Aside0.mk (Nat.le_of_eq hgb.symm); clear hbox hb hgb; have b20 := (blk_cell BK2.out 0).trans rfl; have b21 := (blk_cell BK2.out 1).trans rfl; have b22 := (blk_cell BK2.out 2).trans rfl; have X2 := Aside0.mk (HX.out.step HB2.out); have c20 := X2.out.c0; have c21 := X2.out.c1; have c22 := X2.out.c2) | fail)
  refine start_ (n := 18) (S := fun w' => w'.cell? ⟨g, 0, none⟩ = some (.slice A R.1.length c) ∧ w'.cell? ⟨g, 1, none⟩ = some (.slice A1 R.2.1.length c1) ∧ w'.cell? ⟨g, 2, none⟩ = some (.slice A2 R.2.2.length c2) ∧ w'.cell? ⟨gb, 0, none⟩ = some (.string f0) ∧ w'.cell? ⟨gb, 1, none⟩ = some (.string f1)) (ds := [5]) (fl 18 0) (by kernel_rfl) rfl rfl ⟨c20, c21, c22, b20, b21⟩ (fun hHeld => ?_)
  refine pk_ 0 (some 6) (fl 18 1) ?_
  refine pk_ 1 (some 7) (fl 18 3) ?_
  refine pk_ 3 (some 9) (fl 18 11) ?_
  refine tk_ 2 (some 8) (fl 18 15) hHeld ?_
  refine tk_ 4 (some 10) (fl 18 31) hHeld ?_
  refine last_ (i := 5) (N := some 11) (fl 18 63) rfl rfl (by kernel_rfl) (by decide) (fun K hK => ?_)
  refine goes_ Tryz.func91 (by kernel_rfl) rfl #[.agg #[.slice A R.1.length c, .slice A1 R.2.1.length c1, .slice A2 R.2.2.length c2], .string f1] (by rfl) rfl rfl (by simp only [List.map_toArray, List.map_cons, List.map_nil]; rfl) ?_
  with_reducible refine (I1.out _ (below_step HB2.out (below_drew1 (Below.refl w2.heap.size w2)))).mono ?_
  rintro e w3 ⟨rfl, hb⟩
  refine ⟨_, rfl, ?_⟩
  have hx3 := Aside0.mk (below_step (below_drew1 (Below.refl w2.heap.size w2)) hb)
  have HB3 := Aside0.mk (below_step HB2.out hx3.out)
  clear hb
  refine hK.out _ _ ?_
  clear hK K
  refine norm_ (a' := ?_) ?_ ?_
  rotate_left
  ·show Act.put _ (some 11) _ = _
   simp only [Act.put, List.setIfInBounds_toArray, List.set_cons_zero, List.set_cons_succ, i64_w, i32_w]
   rfl
  refine pk_ 6 (some 12) (fl 18 127) ?_
  refine pk_ 7 (some 13) (fl 18 255) ?_
  refine pure_ (i := 8) (N := some 14) (v := undef) (a' := ?_) (fl 18 511) rfl rfl (by kernel_rfl) (fun _ _ _ h => h) (Or.inr ⟨by rfl, rfl⟩) ?_ ?_
  rotate_left
  ·simp only [Act.put, List.setIfInBounds_toArray, List.set_cons_zero, List.set_cons_succ, i64_w, i32_w]
   rfl
  refine pure_ (i := 9) (N := some 15) (v := undef) (a' := ?_) (fl 18 1023) rfl rfl (by kernel_rfl) (fun _ _ _ h => h) (Or.inr ⟨by rfl, rfl⟩) ?_ ?_
  rotate_left
  ·simp only [Act.put, List.setIfInBounds_toArray, List.set_cons_zero, List.set_cons_succ, i64_w, i32_w]
   rfl
  refine pure_ (i := 10) (N := some 16) (v := undef) (a' := ?_) (fl 18 2047) rfl rfl (by kernel_rfl) (fun _ _ _ h => h) (Or.inr ⟨by rfl, rfl⟩) ?_ ?_
  rotate_left
  ·simp only [Act.put, List.setIfInBounds_toArray, List.set_cons_zero, List.set_cons_succ, i64_w, i32_w]
   rfl
  refine pure_ (i := 11) (N := some 17) (v := undef) (a' := ?_) (fl 18 4095) rfl rfl (by kernel_rfl) (fun _ _ _ h => h) (Or.inr ⟨by rfl, rfl⟩) ?_ ?_
  rotate_left
  ·simp only [Act.put, List.setIfInBounds_toArray, List.set_cons_zero, List.set_cons_succ, i64_w, i32_w]
   rfl
  refine pure_ (i := 12) (N := some 18) (v := undef) (a' := ?_) (fl 18 8191) rfl rfl (by kernel_rfl) (fun _ _ _ h => h) (Or.inr ⟨by rfl, rfl⟩) ?_ ?_
  rotate_left
  ·simp only [Act.put, List.setIfInBounds_toArray, List.set_cons_zero, List.set_cons_succ, i64_w, i32_w]
   rfl
  refine pure_ (i := 13) (N := some 19) (v := undef) (a' := ?_) (fl 18 16383) rfl rfl (by kernel_rfl) (fun _ _ _ h => h) (Or.inr ⟨by rfl, rfl⟩) ?_ ?_
  rotate_left
  ·simp only [Act.put, List.setIfInBounds_toArray, List.set_cons_zero, List.set_cons_succ, i64_w, i32_w]
   rfl
  refine pure_ (i := 14) (N := some 20) (v := undef) (a' := ?_) (fl 18 32767) rfl rfl (by kernel_rfl) (fun _ _ _ h => h) (Or.inr ⟨by rfl, rfl⟩) ?_ ?_
  rotate_left
  ·simp only [Act.put, List.setIfInBounds_toArray, List.set_cons_zero, List.set_cons_succ, i64_w, i32_w]
   rfl
  refine pure_ (i := 15) (N := some 21) (v := undef) (a' := ?_) (fl 18 65535) rfl rfl (by kernel_rfl) (fun _ _ _ h => h) (Or.inr ⟨by rfl, rfl⟩) ?_ ?_
  rotate_left
  ·simp only [Act.put, List.setIfInBounds_toArray, List.set_cons_zero, List.set_cons_succ, i64_w, i32_w]
   rfl
  refine pk_ 16 (some 22) (fl 18 131071) ?_
  refine pk_ 17 (some 5) (fl 18 262143) ?_
  refine done_ (by kernel_rfl) ?_
  go_wp2
  go_ret
  try simp only [if_true, if_false, Bool.false_eq_true]
  exact ⟨rfl, HX.out.same HB3.out⟩
theorem validRig_calls (A0 A1 A2 : Option Addr) (c0 c1 c2 : Nat) (X : RT) (w : World) (hr0 : Kd.C k97 w A0 X.1.length X.1) (hr1 : Kd.C Kd.string w A1 X.2.1.length X.2.1) (hr2 : Kd.C k101 w A2 X.2.2.length X.2.2) (hlen : X.2.2.length ≤ 1048576) :
  Calls Tryz.prog 25 #[.agg #[.slice A0 X.1.length c0, .slice A1 X.2.1.length c1, .slice A2 X.2.2.length c2]] w fun e w' => e = .returned (.bool (rigOkP X)) ∧ Below w.heap.size w w' := by
 have hm0 := Kd.C_max hr0
 have hm1 := Kd.C_max hr1
 have hm2 := Kd.C_max hr2
 have HR0 := Aside0.mk hr0
 have HR1 := Aside0.mk hr1
 have HR2 := Aside0.mk hr2
 have HL := Aside0.mk hlen
 clear hr0 hr1 hr2 hlen
 obtain ⟨tgt, htg⟩ : ∃ tgt, rigOkP X = tgt := ⟨_, rfl⟩
 rw [htg]
 unfold rigOkP at htg
 have HT := Aside0.mk htg
 clear htg
 have hu := Tryz.underlying37
 have hu1 := Tryz.underlying97
 have hu2 := Tryz.underlying101
 go_enter Tryz.func25, Tryz.ntmps25
 go_upto_region 2 with (first | ((with_reducible refine gd_ 1 rfl ?_); refine be_ 1 #[.slice A0 X.1.length c0, .slice A1 X.2.1.length c1, .slice A2 X.2.2.length c2] 37 ?_; intro g hg w3 hbox hb; have CG := Aside0.mk hbox; have HB3 := Aside0.mk hb; clear hbox hb hg) | ((with_reducible refine gd_ 3 rfl ?_); refine be_ 3 #[.slice none 0 0, .slice none 0 0, .slice none 0 0] 37 ?_; intro gy hg w4 hbox hb; have BG := Aside0.mk hbox; have HB4 := Aside0.mk hb; have GG := Aside0.mk (Nat.le_of_eq hg.symm); clear hbox hb hg; have e0 := (blk_cell BG.out 0).trans rfl; have e1 := (blk_cell BG.out 1).trans rfl; have e2 := (blk_cell BG.out 2).trans rfl; have ef : ∀ o, w4.frozen? ⟨gy, o, none⟩ = false := fun o => blk_frozen BG.out o) | fail)
 obtain ⟨w5, hw5⟩ : ∃ w5, w5 = (((w4.setCell ⟨gy, 0, none⟩ (.slice none 0 0)).setCell ⟨gy, 1, none⟩ (.slice none 0 0)).setCell ⟨gy, 2, none⟩ (.slice none 0 0)) := ⟨_, rfl⟩
 have hX5 : Aside0 (Rg w w5 gy (.slice none 0 0) (.slice none 0 0) (.slice none 0 0) ([], [], [])) := ⟨hw5 ▸ ⟨rig_blk BG.out, Nat.le_trans (below_size HB3.out) GG.out, rig_three (Kd.R_nil _ _ _ _ _) rfl (by decide) BG.out, rig_three (Kd.R_nil _ _ _ _ _) rfl (by decide) BG.out, rig_three (Kd.R_nil _ _ _ _ _) rfl (by decide) BG.out, rig_low (below_step HB3.out HB4.out) (Nat.le_trans (below_size HB3.out) GG.out)⟩⟩
 have NG : Aside0 (g ≠ gy) := ⟨fun e => by have h1 := blk_lt CG.out; have h2 := GG.out; omega⟩
 have NGY : Aside0 (g ≠ gy) := NG
 have CG5 : Aside0 (w5.heap[g]? = some (.cells #[.slice A0 X.1.length c0, .slice A1 X.2.1.length c1, .slice A2 X.2.2.length c2] 37 (0, 0))) := ⟨by rw [hw5]; exact blk_far (blk_far (blk_far (blk_below CG.out HB4.out) NG.out _) NG.out _) NG.out _⟩
 rw [← hw5]
 clear hw5 e0 e1 e2 ef BG HB4 GG
 have c0_ := (blk_cell CG5.out 0).trans rfl
 have c1_ := (blk_cell CG5.out 1).trans rfl
 have c2_ := (blk_cell CG5.out 2).trans rfl
 go_wp2
 clear c0_ c1_ c2_
 go_loopw [5, 14] (fun v5 v14 w' => ∃ (i : Nat) (u0 u1 u2 : Value) (R : RT), v14 = .int .i64 (i : Int) ∧ i ≤ X.1.length ∧ Aside0 (Rg w w' gy u0 u1 u2 R) ∧ Aside0 (R.1.length ≤ 10 ∧ R.2.1.length ≤ 60) ∧ Aside0 (R.2.2.length ≤ 0) ∧ Aside0 ((railsP (X.1.drop i) R).any (fun R => (linesP X.2.1 R).any fun R => (belaysP X.2.2 R).isSome) = tgt) ∧ Aside0 (w'.heap[g]? = some (.cells #[.slice A0 X.1.length c0, .slice A1 X.2.1.length c1, .slice A2 X.2.2.length c2] 37 (0, 0)))) (fun v5 v14 _ => X.1.length - (intOf v14).toNat)
 case atStart => exact ⟨0, _, _, _, _, rfl, Nat.zero_le _, hX5, ⟨by simp, by simp⟩, ⟨by simp⟩, HT, CG5⟩
 case round =>
  clear hX5 HT CG5
  obtain ⟨i, u0, u1, u2, R, rfl, hi, hp, hcp, hbl, hr, hcg⟩ := hrel
  by_cases hlt : i < X.1.length
  ·have hr2 := hr.out
   rw [List.drop_eq_getElem_cons hlt] at hr2
   unfold railsP at hr2
   have q1 : (0 : Int) ≤ (i : Int) := Int.natCast_nonneg i
   have q2 : (i : Int) < (X.1.length : Int) := Int.ofNat_lt.2 hlt
   obtain ⟨ad, ea, d0, d1, d2⟩ := at_T97 (Kd.C_below HR0.out hp.out.low) (i : Int) q1 q2
   subst ea
   rw [Int.toNat_natCast] at d0 d1 d2
   rw [rdRail X.1 i hlt] at d0 d1 d2
   have hlr : ∀ W, Below wr.heap.size wr W → Calls Tryz.prog 60 #[.pointer (some ⟨gy, 0, none⟩), .agg #[.string X.1[i].f0, .string X.1[i].f1, .int .i64 X.1[i].f2]] W fun e w' => e = .returned (.int .i64 (addRailP R X.1[i]).1) ∧ RgTo w W w' gy u0 u1 u2 (addRailP R X.1[i]).2 := fun W hb => addRail_calls gy u0 u1 u2 R X.1[i] w W (hp.out.step hb) hcp.out.1
   have hcc := rail_cap R X.1[i] hcp.out
   generalize X.1[i] = x at *
   obtain ⟨pr, hpr⟩ : ∃ pr, addRailP R x = pr := ⟨_, rfl⟩
   rw [hpr] at hr2 hlr hcc
   clear hpr
   obtain ⟨kk, R2⟩ := pr
   simp only at hr2 hlr hcc
   have ILR := Aside0.mk hlr
   have HCC := Aside0.mk hcc
   clear hlr hcc hr
   by_cases hk : kk = 0
   ·subst hk
    rw [if_pos rfl] at hr2
    have HR8 := Aside0.mk hr2
    clear hr2
    go_upto_region 5 with (first | ((with_reducible refine gd_ 5 rfl ?_); refine be_ 5 #[.string ⟨#[]⟩, .string ⟨#[]⟩, .int .i64 0] 97 ?_; intro gx hg w6 hbox hb; have BX := Aside0.mk hbox; have HB6 := Aside0.mk hb; have GX := Aside0.mk (Nat.le_of_eq hg.symm); clear hbox hb hg; have x0_ := (blk_cell BX.out 0).trans rfl; have x1_ := (blk_cell BX.out 1).trans rfl; have x2_ := (blk_cell BX.out 2).trans rfl; have xf : ∀ o, w6.frozen? ⟨gx, o, none⟩ = false := fun o => blk_frozen BX.out o) | fail)
    have HBX : Below wr.heap.size wr (((w6.setCell ⟨gx, 0, none⟩ (.string x.f0)).setCell ⟨gx, 1, none⟩ (.string x.f1)).setCell ⟨gx, 2, none⟩ (.int .i64 x.f2)) := rig_low HB6.out GX.out
    have BX7 := blk_set (blk_set (blk_set BX.out 0 (.string x.f0)) 1 (.string x.f1)) 2 (.int .i64 x.f2)
    have y0 := (blk_cell BX7 0).trans rfl
    have y1 := (blk_cell BX7 1).trans rfl
    have y2 := (blk_cell BX7 2).trans rfl
    generalize (((w6.setCell ⟨gx, 0, none⟩ (.string x.f0)).setCell ⟨gx, 1, none⟩ (.string x.f1)).setCell ⟨gx, 2, none⟩ (.int .i64 x.f2)) = w7 at *
    go_wp2_with (first | (go_at_call 60; (with_reducible refine (ILR.out _ HBX).mono ?_); rintro e w8 ⟨rfl, hT⟩; replace hT := RgTo.from HBX hT; have HTT := Aside0.mk hT; have HBX8 := Aside0.mk HBX; clear hT) | fail)
    obtain ⟨z0, z1, z2, hq8, hk8_, -⟩ := HTT.out
    have hk8 := Aside0.mk hk8_
    have hp8 := Aside0.mk hq8
    have hcg8 := Aside0.mk (blk_kept hcg.out hk8.out (rs_apart hp.out hcg.out NGY.out))
    go_roundw
    case rel => exact ⟨i + 1, _, _, _, _, by go_num, by omega, hp8, ⟨HCC.out.1⟩, ⟨by rw [HCC.out.2]; exact hbl.out⟩, HR8, hcg8⟩
    case measure => simp [intOf]; omega
   ·rw [if_neg hk] at hr2
    have k2 : (kk != 0) = true := by simpa using hk
    have HR8 := Aside0.mk hr2
    clear hr2
    go_upto_region 5 with (first | ((with_reducible refine gd_ 5 rfl ?_); refine be_ 5 #[.string ⟨#[]⟩, .string ⟨#[]⟩, .int .i64 0] 97 ?_; intro gx hg w6 hbox hb; have BX := Aside0.mk hbox; have HB6 := Aside0.mk hb; have GX := Aside0.mk (Nat.le_of_eq hg.symm); clear hbox hb hg; have x0_ := (blk_cell BX.out 0).trans rfl; have x1_ := (blk_cell BX.out 1).trans rfl; have x2_ := (blk_cell BX.out 2).trans rfl; have xf : ∀ o, w6.frozen? ⟨gx, o, none⟩ = false := fun o => blk_frozen BX.out o) | fail)
    have HBX : Below wr.heap.size wr (((w6.setCell ⟨gx, 0, none⟩ (.string x.f0)).setCell ⟨gx, 1, none⟩ (.string x.f1)).setCell ⟨gx, 2, none⟩ (.int .i64 x.f2)) := rig_low HB6.out GX.out
    have BX7 := blk_set (blk_set (blk_set BX.out 0 (.string x.f0)) 1 (.string x.f1)) 2 (.int .i64 x.f2)
    have y0 := (blk_cell BX7 0).trans rfl
    have y1 := (blk_cell BX7 1).trans rfl
    have y2 := (blk_cell BX7 2).trans rfl
    generalize (((w6.setCell ⟨gx, 0, none⟩ (.string x.f0)).setCell ⟨gx, 1, none⟩ (.string x.f1)).setCell ⟨gx, 2, none⟩ (.int .i64 x.f2)) = w7 at *
    go_wp2_with (first | (go_at_call 60; (with_reducible refine (ILR.out _ HBX).mono ?_); rintro e w8 ⟨rfl, hT⟩; replace hT := RgTo.from HBX hT; have HTT := Aside0.mk hT; have HBX8 := Aside0.mk HBX; clear hT) | fail)
    go_ret
    obtain ⟨z0, z1, z2, hq8, -⟩ := HTT.out
    have hh := HR8.out
    exact ⟨by rw [← hh]; rfl, hq8.low⟩
  ·have hr2 := hr.out
   rw [List.drop_of_length_le (by omega)] at hr2
   unfold railsP at hr2
   have q2 : ¬ (i : Int) < (X.1.length : Int) := by omega
   clear hr hi hlt
   replace hr2 : (linesP X.2.1 R).any (fun R => (belaysP X.2.2 R).isSome) = tgt := hr2
   have c0_ := (blk_cell hcg.out 0).trans rfl
   have c1_ := (blk_cell hcg.out 1).trans rfl
   have c2_ := (blk_cell hcg.out 2).trans rfl
   go_wp2
   clear c0_ c1_ c2_
   go_loopw [7, 25] (fun v7 v25 w' => ∃ (i : Nat) (u0 u1 u2 : Value) (R : RT), v25 = .int .i64 (i : Int) ∧ i ≤ X.2.1.length ∧ Aside0 (Rg w w' gy u0 u1 u2 R) ∧ Aside0 (R.1.length ≤ 10 ∧ R.2.1.length ≤ 60) ∧ Aside0 (R.2.2.length ≤ 0) ∧ Aside0 ((linesP (X.2.1.drop i) R).any (fun R => (belaysP X.2.2 R).isSome) = tgt) ∧ Aside0 (w'.heap[g]? = some (.cells #[.slice A0 X.1.length c0, .slice A1 X.2.1.length c1, .slice A2 X.2.2.length c2] 37 (0, 0)))) (fun v7 v25 _ => X.2.1.length - (intOf v25).toNat)
   case atStart => exact ⟨0, _, _, _, _, rfl, Nat.zero_le _, hp, hcp, ⟨hbl.out⟩, ⟨hr2⟩, hcg⟩
   case round =>
    clear hp hcp hbl hr2 hcg
    obtain ⟨i, u0, u1, u2, R, rfl, hi, hp, hcp, hbl, hr, hcg⟩ := hrel
    by_cases hlt : i < X.2.1.length
    ·have hr2 := hr.out
     rw [List.drop_eq_getElem_cons hlt] at hr2
     unfold linesP at hr2
     have q1 : (0 : Int) ≤ (i : Int) := Int.natCast_nonneg i
     have q2 : (i : Int) < (X.2.1.length : Int) := Int.ofNat_lt.2 hlt
     obtain ⟨ad, ea, d0⟩ := Kd.at_string (Kd.C_below HR1.out hp.out.low) (i : Int) q1 q2
     subst ea
     rw [Int.toNat_natCast] at d0
     rw [rdLine X.2.1 i hlt] at d0
     have hlr := addLine_calls gy u0 u1 u2 R X.2.1[i] w wr hp.out hcp.out.2
     have hcc := line_cap R X.2.1[i] hcp.out
     generalize X.2.1[i] = x at *
     obtain ⟨pr, hpr⟩ : ∃ pr, addLineP R x = pr := ⟨_, rfl⟩
     rw [hpr] at hr2 hlr hcc
     clear hpr
     obtain ⟨kk, R2⟩ := pr
     simp only at hr2 hlr hcc
     have ILR := Aside0.mk hlr
     have HCC := Aside0.mk hcc
     clear hlr hcc hr
     by_cases hk : kk = 0
     ·subst hk
      rw [if_pos rfl] at hr2
      have HR8 := Aside0.mk hr2
      clear hr2
      go_wp2_with (first | (go_at_call 61; (with_reducible refine ILR.out.mono ?_); rintro e w8 ⟨rfl, hT⟩; have HTT := Aside0.mk hT; clear hT) | fail)
      obtain ⟨z0, z1, z2, hq8, hk8_, -⟩ := HTT.out
      have hk8 := Aside0.mk hk8_
      have hp8 := Aside0.mk hq8
      have hcg8 := Aside0.mk (blk_kept hcg.out hk8.out (rs_apart hp.out hcg.out NGY.out))
      go_roundw
      case rel => exact ⟨i + 1, _, _, _, _, by go_num, by omega, hp8, ⟨HCC.out.1⟩, ⟨by rw [HCC.out.2]; exact hbl.out⟩, HR8, hcg8⟩
      case measure => simp [intOf]; omega
     ·rw [if_neg hk] at hr2
      have k2 : (kk != 0) = true := by simpa using hk
      have HR8 := Aside0.mk hr2
      clear hr2
      go_wp2_with (first | (go_at_call 61; (with_reducible refine ILR.out.mono ?_); rintro e w8 ⟨rfl, hT⟩; have HTT := Aside0.mk hT; clear hT) | fail)
      go_ret
      obtain ⟨z0, z1, z2, hq8, -⟩ := HTT.out
      have hh := HR8.out
      exact ⟨by rw [← hh]; rfl, hq8.low⟩
    ·have hr2 := hr.out
     rw [List.drop_of_length_le (by omega)] at hr2
     unfold linesP at hr2
     have q2 : ¬ (i : Int) < (X.2.1.length : Int) := by omega
     clear hr hi hlt
     replace hr2 : (belaysP X.2.2 R).isSome = tgt := hr2
     have c0_ := (blk_cell hcg.out 0).trans rfl
     have c1_ := (blk_cell hcg.out 1).trans rfl
     have c2_ := (blk_cell hcg.out 2).trans rfl
     go_wp2
     clear c0_ c1_ c2_
     go_loopw [9, 36] (fun v9 v36 w' => ∃ (i : Nat) (u0 u1 u2 : Value) (R : RT), v36 = .int .i64 (i : Int) ∧ i ≤ X.2.2.length ∧ Aside0 (Rg w w' gy u0 u1 u2 R) ∧ Aside0 (R.1.length ≤ 10 ∧ R.2.1.length ≤ 60) ∧ Aside0 (R.2.2.length ≤ i) ∧ Aside0 ((belaysP (X.2.2.drop i) R).isSome = tgt) ∧ Aside0 (w'.heap[g]? = some (.cells #[.slice A0 X.1.length c0, .slice A1 X.2.1.length c1, .slice A2 X.2.2.length c2] 37 (0, 0)))) (fun v9 v36 _ => X.2.2.length - (intOf v36).toNat)
     case atStart => exact ⟨0, _, _, _, _, rfl, Nat.zero_le _, hp, hcp, ⟨hbl.out⟩, ⟨hr2⟩, hcg⟩
     case round =>
      clear hp hcp hbl hr2 hcg
      obtain ⟨i, u0, u1, u2, R, rfl, hi, hp, hcp, hbl, hr, hcg⟩ := hrel
      by_cases hlt : i < X.2.2.length
      ·have hr2 := hr.out
       rw [List.drop_eq_getElem_cons hlt] at hr2
       unfold belaysP at hr2
       have q1 : (0 : Int) ≤ (i : Int) := Int.natCast_nonneg i
       have q2 : (i : Int) < (X.2.2.length : Int) := Int.ofNat_lt.2 hlt
       obtain ⟨ad, ea, d0, d1, d2⟩ := at_T101 (Kd.C_below HR2.out hp.out.low) (i : Int) q1 q2
       subst ea
       rw [Int.toNat_natCast] at d0 d1 d2
       rw [rdBelay X.2.2 i hlt] at d0 d1 d2
       have hlr : ∀ W, Below wr.heap.size wr W → Calls Tryz.prog 62 #[.pointer (some ⟨gy, 0, none⟩), .agg #[.string X.2.2[i].f0, .string X.2.2[i].f1, .int .i64 X.2.2[i].f2]] W fun e w' => e = .returned (.int .i64 (addBelayP R X.2.2[i]).1) ∧ RgTo w W w' gy u0 u1 u2 (addBelayP R X.2.2[i]).2 := fun W hb => addBelay_calls gy u0 u1 u2 R X.2.2[i] w W (hp.out.step hb) (by have h1 := hbl.out; have h2 := HL.out; omega)
       have hcc := belay_len R X.2.2[i]
       have hcb := belay_cap R X.2.2[i] hcp.out
       generalize X.2.2[i] = x at *
       obtain ⟨pr, hpr⟩ : ∃ pr, addBelayP R x = pr := ⟨_, rfl⟩
       rw [hpr] at hr2 hlr hcc hcb
       clear hpr
       obtain ⟨kk, R2⟩ := pr
       simp only at hr2 hlr hcc hcb
       have ILR := Aside0.mk hlr
       have HCC := Aside0.mk hcc
       have HCB := Aside0.mk hcb
       clear hlr hcc hr hcb
       by_cases hk : kk = 0
       ·subst hk
        rw [if_pos rfl] at hr2
        have HR8 := Aside0.mk hr2
        clear hr2
        go_upto_region 17 with (first | ((with_reducible refine gd_ 9 rfl ?_); refine be_ 9 #[.string ⟨#[]⟩, .string ⟨#[]⟩, .int .i64 0] 101 ?_; intro gx hg w6 hbox hb; have BX := Aside0.mk hbox; have HB6 := Aside0.mk hb; have GX := Aside0.mk (Nat.le_of_eq hg.symm); clear hbox hb hg; have x0_ := (blk_cell BX.out 0).trans rfl; have x1_ := (blk_cell BX.out 1).trans rfl; have x2_ := (blk_cell BX.out 2).trans rfl; have xf : ∀ o, w6.frozen? ⟨gx, o, none⟩ = false := fun o => blk_frozen BX.out o) | fail)
        have HBX : Below wr.heap.size wr (((w6.setCell ⟨gx, 0, none⟩ (.string x.f0)).setCell ⟨gx, 1, none⟩ (.string x.f1)).setCell ⟨gx, 2, none⟩ (.int .i64 x.f2)) := rig_low HB6.out GX.out
        have BX7 := blk_set (blk_set (blk_set BX.out 0 (.string x.f0)) 1 (.string x.f1)) 2 (.int .i64 x.f2)
        have y0 := (blk_cell BX7 0).trans rfl
        have y1 := (blk_cell BX7 1).trans rfl
        have y2 := (blk_cell BX7 2).trans rfl
        generalize (((w6.setCell ⟨gx, 0, none⟩ (.string x.f0)).setCell ⟨gx, 1, none⟩ (.string x.f1)).setCell ⟨gx, 2, none⟩ (.int .i64 x.f2)) = w7 at *
        go_wp2_with (first | (go_at_call 62; (with_reducible refine (ILR.out _ HBX).mono ?_); rintro e w8 ⟨rfl, hT⟩; replace hT := RgTo.from HBX hT; have HTT := Aside0.mk hT; have HBX8 := Aside0.mk HBX; clear hT) | fail)
        have HCP8 : Aside0 (R2.1.length ≤ 10 ∧ R2.2.1.length ≤ 60) := HCB
        obtain ⟨z0, z1, z2, hq8, hk8_, -⟩ := HTT.out
        have hk8 := Aside0.mk hk8_
        have hp8 := Aside0.mk hq8
        have hcg8 := Aside0.mk (blk_kept hcg.out hk8.out (rs_apart hp.out hcg.out NGY.out))
        go_roundw
        case rel => exact ⟨i + 1, _, _, _, _, by go_num, by omega, hp8, HCP8, ⟨by have h1 := HCC.out; have h2 := hbl.out; omega⟩, HR8, hcg8⟩
        case measure => simp [intOf]; omega
       ·rw [if_neg hk] at hr2
        have k2 : (kk != 0) = true := by simpa using hk
        have HR8 := Aside0.mk hr2
        clear hr2
        go_upto_region 17 with (first | ((with_reducible refine gd_ 9 rfl ?_); refine be_ 9 #[.string ⟨#[]⟩, .string ⟨#[]⟩, .int .i64 0] 101 ?_; intro gx hg w6 hbox hb; have BX := Aside0.mk hbox; have HB6 := Aside0.mk hb; have GX := Aside0.mk (Nat.le_of_eq hg.symm); clear hbox hb hg; have x0_ := (blk_cell BX.out 0).trans rfl; have x1_ := (blk_cell BX.out 1).trans rfl; have x2_ := (blk_cell BX.out 2).trans rfl; have xf : ∀ o, w6.frozen? ⟨gx, o, none⟩ = false := fun o => blk_frozen BX.out o) | fail)
        have HBX : Below wr.heap.size wr (((w6.setCell ⟨gx, 0, none⟩ (.string x.f0)).setCell ⟨gx, 1, none⟩ (.string x.f1)).setCell ⟨gx, 2, none⟩ (.int .i64 x.f2)) := rig_low HB6.out GX.out
        have BX7 := blk_set (blk_set (blk_set BX.out 0 (.string x.f0)) 1 (.string x.f1)) 2 (.int .i64 x.f2)
        have y0 := (blk_cell BX7 0).trans rfl
        have y1 := (blk_cell BX7 1).trans rfl
        have y2 := (blk_cell BX7 2).trans rfl
        generalize (((w6.setCell ⟨gx, 0, none⟩ (.string x.f0)).setCell ⟨gx, 1, none⟩ (.string x.f1)).setCell ⟨gx, 2, none⟩ (.int .i64 x.f2)) = w7 at *
        go_wp2_with (first | (go_at_call 62; (with_reducible refine (ILR.out _ HBX).mono ?_); rintro e w8 ⟨rfl, hT⟩; replace hT := RgTo.from HBX hT; have HTT := Aside0.mk hT; have HBX8 := Aside0.mk HBX; clear hT) | fail)
        go_ret
        obtain ⟨z0, z1, z2, hq8, -⟩ := HTT.out
        have hh := HR8.out
        exact ⟨by rw [← hh]; rfl, hq8.low⟩
      ·have hr2 := hr.out
       rw [List.drop_of_length_le (by omega)] at hr2
       unfold belaysP at hr2
       have q2 : ¬ (i : Int) < (X.2.2.length : Int) := by omega
       clear hr hi hlt
       go_wp2
       go_ret
       exact ⟨by rw [← hr2]; rfl, hp.out.low⟩
def impl_ValidRig.f (l0_0 : List (S97)) (l0_1 : List ByteArray) (l0_2 : List (S101)) : Option (Bool) := if l0_2.length ≤ 1048576 then some (rigOkP (l0_0, l0_1, l0_2)) else none
theorem impl_ValidRig.calls (A0_0 : Option Addr) (c0_0 : Nat) (l0_0 : List (S97)) (A0_1 : Option Addr) (c0_1 : Nat) (l0_1 : List (ByteArray)) (A0_2 : Option Addr) (c0_2 : Nat) (l0_2 : List (S101)) (r : Bool) (w : World) (hr0_0 : Kd.C k97 w A0_0 l0_0.length l0_0) (hc0_0 : l0_0.length ≤ c0_0) (hr0_1 : Kd.C Kd.string w A0_1 l0_1.length l0_1) (hc0_1 : l0_1.length ≤ c0_1) (hr0_2 : Kd.C k101 w A0_2 l0_2.length l0_2) (hc0_2 : l0_2.length ≤ c0_2) (h : impl_ValidRig.f l0_0 l0_1 l0_2 = some r) :
  Calls Tryz.prog 25 #[.agg #[.slice A0_0 l0_0.length c0_0, .slice A0_1 l0_1.length c0_1, .slice A0_2 l0_2.length c0_2]] w fun e w' => e = .returned (.bool r) ∧ Below w.heap.size w w' := by
 unfold impl_ValidRig.f at h
 split at h
 ·rename_i hlen
  obtain rfl := Option.some.inj h
  exact validRig_calls A0_0 A0_1 A0_2 c0_0 c0_1 c0_2 (l0_0, l0_1, l0_2) w hr0_0 hr0_1 hr0_2 hlen
 ·cases h
end
end Go.Proofs.YtkoeeajciciphaaGreatDoor.QFnExactStartAgain
