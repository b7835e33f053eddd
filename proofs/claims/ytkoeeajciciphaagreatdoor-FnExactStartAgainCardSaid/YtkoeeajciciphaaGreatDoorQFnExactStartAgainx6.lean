import Derived.Test.YtkoeeajciciphaaGreatDoorSq
import Derived.Test.YtkoeeajciciphaaGreatDoorS4
import Derived.Test.YtkoeeajciciphaaGreatDoorQFnExactStartAgainx0
import Derived.Test.YtkoeeajciciphaaGreatDoorQFnExactStartAgainx5
namespace Go.Proofs.YtkoeeajciciphaaGreatDoor.QFnExactStartAgain
open Sq (fl pu_ gl_ b20_ b21_ b30_ b31_ b32_ od_ rr_ be_)
open Sq
open Base (bwl_ bst_ bsz_ bkb_ nbl_ nbr_ kbl_ bkm_)
open Go.RowKit Go.Proofs.YtkoeeajciciphaaGreatDoorW.PrintWords Go.Proofs.YtkoeeajciciphaaGreatDoorW.PrintLast Go.Proofs.YtkoeeajciciphaaGreatDoorW.PrintMore
attribute [local go_sem] max2_int min2_int max_two min_two max_three min_three max_four min_four
set_option linter.unusedVariables false
set_option linter.unusedSimpArgs false
set_option maxHeartbeats 8000000
set_option maxRecDepth 100000
def impl_validCoil.f (k : Nat) (a0_0 : ByteArray) (a0_1 : Int) : Option (Bool) := (impl_IsName.f k a0_0).bind fun t340 => (if t340 = true then ((impl_within.f a0_1 1 100000).bind fun t341 => (some t341)) else (some false))
theorem impl_validCoil.mono : ∀ a0 a1 k, LeO (impl_validCoil.f k a0 a1) (impl_validCoil.f (k + 1) a0 a1) := by
 intro a0 a1 k
 unfold impl_validCoil.f
 have m0 := @impl_IsName.mono
 exact mo_
theorem impl_validCoil.calls (k : Nat) (a0_0 : ByteArray) (a0_1 : Int) (r : Bool) (w : World) (h : impl_validCoil.f k a0_0 a0_1 = some r) :
  Calls Tryz.prog 63 #[.agg #[.string a0_0, .int .i64 a0_1]] w fun e w' => e = .returned (.bool r) ∧ Below w.heap.size w w' := by
 have hu69 := Tryz.underlying69
 have HB := Aside0.mk (Below.refl w.heap.size w)
 have H := h
 clear h
 unfold impl_validCoil.f at H
 revert H
 refine bn_ ?_
 intro t340 A2 H
 revert H
 refine ib_ ?_ ?_ <;> rintro rfl H
 ·revert H
  refine bn_ ?_
  intro t341 A4 H
  obtain rfl := Option.some.inj H
  go_enter Tryz.func63, Tryz.ntmps63
  go_wp2_with (first | ((with_reducible refine gd_ 1 rfl ?_); refine bx_ #[.string a0_0, .int .i64 a0_1] ?_; intro gb339 hg w5 BK339 hb; have GW339 := bsz_ hg; replace HB := bst_ hb; clear hb hg; have hcz6_0 := c2_ BK339) | ((with_reducible refine gc_ 90 rfl ?_); refine cl_ Tryz.func90 (impl_IsName.calls _ _ _ _ A2.out) ?_; rintro _ ⟨nd, rfl⟩) | (go_at_call 24; refine ca_ (impl_within.calls _ _ _ _ _ A4.out) ?_; rintro _ ⟨nd, rfl⟩))
  go_ret
  exact ⟨rr_, bwl_⟩
 ·obtain rfl := Option.some.inj H
  go_enter Tryz.func63, Tryz.ntmps63
  go_wp2_with (first | ((with_reducible refine gd_ 1 rfl ?_); refine bx_ #[.string a0_0, .int .i64 a0_1] ?_; intro gb339 hg w7 BK339 hb; have GW339 := bsz_ hg; replace HB := bst_ hb; clear hb hg; have hcz8_0 := c2_ BK339) | ((with_reducible refine gc_ 90 rfl ?_); refine cl_ Tryz.func90 (impl_IsName.calls _ _ _ _ A2.out) ?_; rintro _ ⟨nd, rfl⟩))
  go_ret
  exact ⟨rr_, bwl_⟩
def impl_ValidStockCoils.l0 : Nat → List (S69) → Int → Int → Option (Bool)
 | 0, _, _, _ => none
 | k + 1, x8, x9, x10 => if x10 < x9 then (if 0 ≤ x10 then (if x10 < (x8.length : Int) then ((impl_validCoil.f k ((rd_T69 x8 x10).f0) ((rd_T69 x8 x10).f1)).bind fun t344 => (if t344 = true then (impl_ValidStockCoils.l0 k x8 x9 (wrap64 (x10 + 1))) else (some false))) else (none)) else (none)) else (some true)
def impl_ValidStockCoils.f (k : Nat) (l0 : List (S69)) : Option (Bool) := if (l0.length : Int) > 40 then (some false) else (impl_ValidStockCoils.l0 k l0 (l0.length : Int) 0)
theorem impl_ValidStockCoils.mono_l : ∀ k, (∀ y0 y1 y2, LeO (impl_ValidStockCoils.l0 k y0 y1 y2) (impl_ValidStockCoils.l0 (k + 1) y0 y1 y2))
 | 0 => fun _ _ _ r h => by simp [impl_ValidStockCoils.l0] at h
 | k + 1 => by
  have ih0 := impl_ValidStockCoils.mono_l k
  ·intro y0 y1 y2
   unfold impl_ValidStockCoils.l0
   have m0 := @impl_validCoil.mono
   exact mo_
theorem impl_ValidStockCoils.mono : ∀ a0 k, LeO (impl_ValidStockCoils.f k a0) (impl_ValidStockCoils.f (k + 1) a0) := by
 intro a0 k
 have ih0 := impl_ValidStockCoils.mono_l k
 unfold impl_ValidStockCoils.f
 have m0 := @impl_validCoil.mono
 exact mo_
theorem impl_ValidStockCoils.calls (k : Nat) (A0 : Option Addr) (c0 : Nat) (l0 : List (S69)) (r : Bool) (w : World) (hr0 : Kd.C k69 w A0 l0.length l0) (hc0 : l0.length ≤ c0) (h : impl_ValidStockCoils.f k l0 = some r) :
  Calls Tryz.prog 26 #[.slice A0 l0.length c0] w fun e w' => e = .returned (.bool r) ∧ Below w.heap.size w w' := by
 have hu69 := Tryz.underlying69
 have HR0 := Aside0.mk hr0
 have HC0 := Aside0.mk hc0
 clear hr0 hc0
 have HB := Aside0.mk (Below.refl w.heap.size w)
 have H := h
 clear h
 unfold impl_ValidStockCoils.f at H
 by_cases c2 : (l0.length : Int) > 40
 ·rw [if_pos c2] at H
  have c2b0 : decide (40 < (l0.length : Int)) = true := decide_eq_true c2
  have c2b1 : decide (40 < l0.length) = true := decide_eq_true (by omega)
  clear c2
  obtain rfl := Option.some.inj H
  go_enter Tryz.func26, Tryz.ntmps26
  go_wp2
  go_ret
  exact ⟨rr_, bwl_⟩
 ·rw [if_neg c2] at H
  have c2b0 : decide (40 < (l0.length : Int)) = false := decide_eq_false c2
  have c2b1 : decide (40 < l0.length) = false := decide_eq_false (by omega)
  clear c2
  have H' := Aside0.mk H
  clear H
  go_enter Tryz.func26, Tryz.ntmps26
  go_wp2
  go_loopg [10] k (fun kq v10 w' => ∃ (x10_1 : Int), v10 = .int .i64 x10_1 ∧ Aside0 (impl_ValidStockCoils.l0 kq l0 (l0.length : Int) x10_1 = some r) ∧ Aside0 (kq ≤ k) ∧ Aside0 (Below w.heap.size w w'))
  case atStart => exact ⟨(0), re_, H', ⟨Nat.le_refl _⟩, ⟨bwl_⟩⟩
  case round =>
   clear H'
   (try clear c2);(try clear c2b0);(try clear c2b1)
   obtain ⟨x10_1, rfl, HA, HK1, HB⟩ := hrel
   cases gk with
   | zero => exact absurd HA.out (by simp [impl_ValidStockCoils.l0])
   | succ k1 =>
    have H := HA.out
    clear HA
    simp only [impl_ValidStockCoils.l0] at H
    revert H
    refine if_ ?_ ?_ <;> intro c3b0 H
    ·revert H
     refine in_ ?_
     intro c4b0 H
     revert H
     refine in_ ?_
     intro c5b0 H
     revert H
     refine bn_ ?_
     intro t344 A6 H
     revert H
     refine ib_ ?_ ?_ <;> rintro rfl H
     ·have H' := Aside0.mk H
      clear H
      obtain ⟨ad342, e342, hx342⟩ := at_T69 (Kd.C_below HR0.out HB.out) x10_1 od_ od_
      cases e342
      have p342 := pq_ x10_1 (l0.length : Int)
      go_wp2_with (first | ((with_reducible refine gd_ 4 rfl ?_); refine bx_ #[.string (⟨#[]⟩ : ByteArray), .int .i64 0] ?_; intro gb343 hg w8 BK343 hb; have GW343 := bsz_ hg; replace HB := bst_ hb; clear hb hg; have hcz9_0 := c2_ BK343) | ((with_reducible refine gc_ 63 rfl ?_); refine cl_ Tryz.func63 (impl_validCoil.calls _ _ _ _ _ A6.out) ?_; intro w10 hb; replace BK343 := kb2_ BK343 hb; replace HB := bst_ hb; clear hb))
      go_roundg k1
      case measure => have := HK1.out; omega
      case rel => exact ⟨(wrap64 (x10_1 + 1)), re_, H', ⟨by have := HK1.out; omega⟩, ⟨bwl_⟩⟩
     ·obtain rfl := Option.some.inj H
      obtain ⟨ad342, e342, hx342⟩ := at_T69 (Kd.C_below HR0.out HB.out) x10_1 od_ od_
      cases e342
      have p342 := pq_ x10_1 (l0.length : Int)
      go_wp2_with (first | ((with_reducible refine gd_ 4 rfl ?_); refine bx_ #[.string (⟨#[]⟩ : ByteArray), .int .i64 0] ?_; intro gb343 hg w11 BK343 hb; have GW343 := bsz_ hg; replace HB := bst_ hb; clear hb hg; have hcz12_0 := c2_ BK343) | ((with_reducible refine gc_ 63 rfl ?_); refine cl_ Tryz.func63 (impl_validCoil.calls _ _ _ _ _ A6.out) ?_; intro w13 hb; replace BK343 := kb2_ BK343 hb; replace HB := bst_ hb; clear hb))
      go_ret
      exact ⟨rr_, bwl_⟩
    ·obtain rfl := Option.some.inj H
     go_wp2
     go_ret
     exact ⟨rr_, bwl_⟩
section
open Go.Proofs.YtkoeeajciciphaaGreatDoor.Base
def strings_Cut.f (a0 : ByteArray) (a1 : ByteArray) : Option (ByteArray × ByteArray × Bool) := if a0.size < 4294967281 then some (⟨(Lib.cut a0.data.toList a1.data.toList).1.toArray⟩, ⟨(Lib.cut a0.data.toList a1.data.toList).2.1.toArray⟩, (Lib.cut a0.data.toList a1.data.toList).2.2) else none
theorem strings_Cut.calls (a0 : ByteArray) (a1 : ByteArray) (r1 : ByteArray) (r2 : ByteArray) (r3 : Bool) (w : World) (h : strings_Cut.f a0 a1 = some (r1, r2, r3)) (hT : Go.Proofs.YtkoeeajciciphaaGreatDoor.Base.Tb2 w) :
  Calls Tryz.prog 112 #[.string a0, .string a1] w fun e w' => e = .returned (.tuple #[.string r1, .string r2, .bool r3]) ∧ Below w.heap.size w w' := by
 unfold strings_Cut.f at h
 split at h
 ·rename_i hc
  simp only [Option.some.injEq, Prod.mk.injEq] at h
  obtain ⟨rfl, rfl, rfl⟩ := h
  obtain ⟨m, hm⟩ := hT.max
  refine (Tryz.strings_Cut a0 a1 m w hc hm).mono fun e w' ⟨he, n, hw⟩ => ⟨he, ?_⟩
  rw [hw]
  exact pw_below_drewN (Below.refl _ _) n
 ·cases h
end
section
open Go.Proofs.YtkoeeajciciphaaGreatDoor.Base
def strconv_FormatInt.f (a0 : Int) (a1 : Int) : Option ByteArray := if a1 = 10 ∧ -9223372036854775808 ≤ a0 ∧ a0 ≤ 9223372036854775807 then some ⟨(Lib.itoa a0).toArray⟩ else none
theorem strconv_FormatInt.calls (a0 : Int) (a1 : Int) (r : ByteArray) (w : World) (h : strconv_FormatInt.f a0 a1 = some r) (hT : Go.Proofs.YtkoeeajciciphaaGreatDoor.Base.Tb2 w) :
  Calls Tryz.prog 71 #[.int .i64 a0, .int .i64 a1] w fun e w' => e = .returned (.string r) ∧ Below w.heap.size w w' := by
 unfold strconv_FormatInt.f at h
 split at h
 ·rename_i hc
  obtain ⟨rfl, h0, h1⟩ := hc
  obtain rfl := Option.some.inj h
  refine (Tryz.strconv_FormatInt_10 a0 h0 h1 w hT.tab).mono fun e w' ⟨he, k, os, hw⟩ => ⟨he, ?_⟩
  rw [hw]
  exact Lib.below_grow _ w (Nat.le_refl _) k os
 ·cases h
end
def impl_Decimal.f (a0 : Int) : Option (ByteArray) := (strconv_FormatInt.f a0 10).bind fun t345 => (some t345)
theorem impl_Decimal.calls (a0 : Int) (r : ByteArray) (w : World) (h : impl_Decimal.f a0 = some r) (hT : Go.Proofs.YtkoeeajciciphaaGreatDoor.Base.Tb2 w) :
  Calls Tryz.prog 35 #[.int .i64 a0] w fun e w' => e = .returned (.string r) ∧ Below w.heap.size w w' := by
 have HTB := Aside0.mk hT
 clear hT
 have HB := Aside0.mk (Below.refl w.heap.size w)
 have H := h
 clear h
 unfold impl_Decimal.f at H
 revert H
 refine bn_ ?_
 intro t345 A2 H
 obtain rfl := Option.some.inj H
 go_enter Tryz.func35, Tryz.ntmps35
 go_wp2_with (first | ((with_reducible refine gc_ 71 rfl ?_); refine cl_ Tryz.func71 (strconv_FormatInt.calls _ _ _ _ A2.out (HTB.out.below bwl_)) ?_; intro w3 hb; replace HB := bst_ hb; clear hb))
 go_ret
 exact ⟨rr_, bwl_⟩
def stringslite_HasPrefix.f (a0 : ByteArray) (a1 : ByteArray) : Option (Bool) := if (a0.size : Int) ≥ (a1.size : Int) then (if 0 ≤ (a1.size : Int) then (if (a1.size : Int) ≤ (a0.size : Int) then (some ((a0.extract 0 ((a1.size : Int) : Int).toNat).toList == a1.toList)) else (none)) else (none)) else (some false)
theorem stringslite_HasPrefix.calls (a0 : ByteArray) (a1 : ByteArray) (r : Bool) (w : World) (h : stringslite_HasPrefix.f a0 a1 = some r) :
  Calls Tryz.prog 131 #[.string a0, .string a1] w fun e w' => e = .returned (.bool r) ∧ Drawn0 w w' := by
 have H := h
 clear h
 unfold stringslite_HasPrefix.f at H
 by_cases c3 : (a0.size : Int) ≥ (a1.size : Int)
 ·rw [if_pos c3] at H
  have c3b0 : decide ((a1.size : Int) ≤ (a0.size : Int)) = true := decide_eq_true c3
  have c3b1 : decide (a1.size ≤ a0.size) = true := decide_eq_true (Int.ofNat_le.mp c3)
  clear c3
  by_cases c4 : 0 ≤ (a1.size : Int)
  ·rw [if_pos c4] at H
   have c4b0 := eq_true c4
   have c4b1 : decide (0 ≤ (a1.size : Int)) = true := decide_eq_true c4
   clear c4
   by_cases c5 : (a1.size : Int) ≤ (a0.size : Int)
   ·rw [if_pos c5] at H
    have c5b0 := eq_true c5
    have c5b1 : decide ((a1.size : Int) ≤ (a0.size : Int)) = true := decide_eq_true c5
    clear c5
    obtain rfl := Option.some.inj H
    go_enter Tryz.func131, Tryz.ntmps131
    go_wp2
    go_ret
    exact ⟨re_, dw_⟩
   ·rw [if_neg c5] at H
    exact absurd H (by simp)
  ·rw [if_neg c4] at H
   exact absurd H (by simp)
 ·rw [if_neg c3] at H
  have c3b0 : decide ((a1.size : Int) ≤ (a0.size : Int)) = false := decide_eq_false c3
  have c3b1 : decide (a1.size ≤ a0.size) = false := decide_eq_false (fun h => c3 (Int.ofNat_le.mpr h))
  clear c3
  obtain rfl := Option.some.inj H
  go_enter Tryz.func131, Tryz.ntmps131
  go_wp2
  go_ret
  exact ⟨re_, dw_⟩
def stringslite_TrimPrefix.f (a0 : ByteArray) (a1 : ByteArray) : Option (ByteArray) := (stringslite_HasPrefix.f a0 a1).bind fun t346 => (if t346 = true then (if 0 ≤ (a1.size : Int) then (if (a1.size : Int) ≤ (a0.size : Int) then (some (a0.extract ((a1.size : Int) : Int).toNat a0.size)) else (none)) else (none)) else (some a0))
theorem stringslite_TrimPrefix.calls (a0 : ByteArray) (a1 : ByteArray) (r : ByteArray) (w : World) (h : stringslite_TrimPrefix.f a0 a1 = some r) :
  Calls Tryz.prog 140 #[.string a0, .string a1] w fun e w' => e = .returned (.string r) ∧ Drawn0 w w' := by
 have H := h
 clear h
 unfold stringslite_TrimPrefix.f at H
 revert H
 refine bn_ ?_
 intro t346 A3 H
 revert H
 refine ib_ ?_ ?_ <;> rintro rfl H
 ·by_cases c5 : 0 ≤ (a1.size : Int)
  ·rw [if_pos c5] at H
   have c5b0 := eq_true c5
   have c5b1 : decide (0 ≤ (a1.size : Int)) = true := decide_eq_true c5
   clear c5
   by_cases c6 : (a1.size : Int) ≤ (a0.size : Int)
   ·rw [if_pos c6] at H
    have c6b0 := eq_true c6
    have c6b1 : decide ((a1.size : Int) ≤ (a0.size : Int)) = true := decide_eq_true c6
    clear c6
    obtain rfl := Option.some.inj H
    go_enter Tryz.func140, Tryz.ntmps140
    go_wp2_with (first | ((with_reducible refine gc_ 131 rfl ?_); refine cl_ Tryz.func131 (stringslite_HasPrefix.calls _ _ _ _ A3.out) ?_; rintro _ ⟨nd, rfl⟩))
    go_ret
    exact ⟨re_, dw_⟩
   ·rw [if_neg c6] at H
    exact absurd H (by simp)
  ·rw [if_neg c5] at H
   exact absurd H (by simp)
 ·obtain rfl := Option.some.inj H
  go_enter Tryz.func140, Tryz.ntmps140
  go_wp2_with (first | ((with_reducible refine gc_ 131 rfl ?_); refine cl_ Tryz.func131 (stringslite_HasPrefix.calls _ _ _ _ A3.out) ?_; rintro _ ⟨nd, rfl⟩))
  go_ret
  exact ⟨re_, dw_⟩
def strings_TrimPrefix.f (a0 : ByteArray) (a1 : ByteArray) : Option (ByteArray) := (stringslite_TrimPrefix.f a0 a1).bind fun t347 => (some t347)
theorem strings_TrimPrefix.calls (a0 : ByteArray) (a1 : ByteArray) (r : ByteArray) (w : World) (h : strings_TrimPrefix.f a0 a1 = some r) :
  Calls Tryz.prog 127 #[.string a0, .string a1] w fun e w' => e = .returned (.string r) ∧ Drawn0 w w' := by
 have H := h
 clear h
 unfold strings_TrimPrefix.f at H
 revert H
 refine bn_ ?_
 intro t347 A3 H
 obtain rfl := Option.some.inj H
 go_enter Tryz.func127, Tryz.ntmps127
 go_wp2_with (first | ((with_reducible refine gc_ 140 rfl ?_); refine cl_ Tryz.func140 (stringslite_TrimPrefix.calls _ _ _ _ A3.out) ?_; rintro _ ⟨nd, rfl⟩))
 go_ret
 exact ⟨re_, dw_⟩
mutual
def impl_ReadDecimal.j0 : Nat → ByteArray → ByteArray → Bool → Option (Int × Bool)
 | 0, _, _, _ => none
 | k + 1, x0, x4, x16 => if x16 = true then (some (0, false)) else (impl_ReadDecimal.l0 k x0 x4 0 0)
def impl_ReadDecimal.l0 : Nat → ByteArray → ByteArray → Int → Int → Option (Int × Bool)
 | 0, _, _, _, _ => none
 | k + 1, x0, x4, x5, x6 => if x6 < (x4.size : Int) then (if 0 ≤ x6 then (if (bt x4 x6) < 48 then (some (0, false)) else (if (bt x4 x6) > 57 then (some (0, false)) else (impl_ReadDecimal.l0 k x0 x4 (wrap64 ((wrap64 (10 * x5)) + (((bt x4 x6) - 48) % 256))) (wrap64 (x6 + 1))))) else (none)) else (if (x4.size : Int) < (x0.size : Int) then ((impl_Decimal.f (wrap64 (-x5))).bind fun t349 => (if t349.toList = x0.toList then (some (wrap64 (-x5), true)) else (some (0, false)))) else ((impl_Decimal.f x5).bind fun t350 => (if t350.toList = x0.toList then (some (x5, true)) else (some (0, false)))))
end
def impl_ReadDecimal.f (k : Nat) (a0 : ByteArray) : Option (Int × Bool) := (strings_TrimPrefix.f a0 (⟨#[45]⟩ : ByteArray)).bind fun t348 => (if (t348.size : Int) < 1 then (impl_ReadDecimal.j0 k a0 t348 true) else (impl_ReadDecimal.j0 k a0 t348 (decide ((t348.size : Int) > 18))))
theorem impl_ReadDecimal.mono_l : ∀ k, (∀ y0 y1 y2, LeO (impl_ReadDecimal.j0 k y0 y1 y2) (impl_ReadDecimal.j0 (k + 1) y0 y1 y2)) ∧ (∀ y0 y1 y2 y3, LeO (impl_ReadDecimal.l0 k y0 y1 y2 y3) (impl_ReadDecimal.l0 (k + 1) y0 y1 y2 y3))
 | 0 => ⟨fun _ _ _ r h => by simp [impl_ReadDecimal.j0] at h, fun _ _ _ _ r h => by simp [impl_ReadDecimal.l0] at h⟩
 | k + 1 => by
  obtain ⟨ih0, ih1⟩ := impl_ReadDecimal.mono_l k
  refine ⟨?_, ?_⟩
  ·intro y0 y1 y2
   unfold impl_ReadDecimal.j0
   exact mo_
  ·intro y0 y1 y2 y3
   unfold impl_ReadDecimal.l0
   exact mo_
theorem impl_ReadDecimal.mono : ∀ a0 k, LeO (impl_ReadDecimal.f k a0) (impl_ReadDecimal.f (k + 1) a0) := by
 intro a0 k
 obtain ⟨ih0, ih1⟩ := impl_ReadDecimal.mono_l k
 unfold impl_ReadDecimal.f
 exact mo_
theorem impl_ReadDecimal.calls (k : Nat) (a0 : ByteArray) (r1 : Int) (r2 : Bool) (w : World) (h : impl_ReadDecimal.f k a0 = some (r1, r2)) (hT : Go.Proofs.YtkoeeajciciphaaGreatDoor.Base.Tb2 w) :
  Calls Tryz.prog 113 #[.string a0] w fun e w' => e = .returned (.tuple #[.int .i64 r1, .bool r2]) ∧ Below w.heap.size w w' := by
 have HTB := Aside0.mk hT
 clear hT
 have HB := Aside0.mk (Below.refl w.heap.size w)
 have H := h
 clear h
 unfold impl_ReadDecimal.f at H
 revert H
 refine bn_ ?_
 intro t348 A2 H
 have HC3 := Aside0.mk H
 clear H
 go_enter Tryz.func113, Tryz.ntmps113
 go_upto_region 2 with (first | ((with_reducible refine gc_ 127 rfl ?_); refine cl_ Tryz.func127 (strings_TrimPrefix.calls _ _ _ _ A2.out) ?_; rintro _ ⟨nd, rfl⟩))
 (try simp only [Act.put, List.setIfInBounds_toArray, List.set_cons_zero, List.set_cons_succ])
 go_cut [16] (fun v16 wc => ∃ (kq : Nat) (x16_2 : Bool), v16 = .bool x16_2 ∧ Aside0 (impl_ReadDecimal.j0 kq a0 t348 x16_2 = some (r1, r2)) ∧ Aside0 (kq ≤ k) ∧ Aside0 (Below w.heap.size w wc))
 case first =>
  have H := HC3.out
  clear HC3
  by_cases c4 : (t348.size : Int) < 1
  ·rw [if_pos c4] at H
   have c4b0 : decide ((t348.size : Int) < 1) = true := decide_eq_true c4
   have c4b1 : decide (t348.size < 1) = true := decide_eq_true (by omega)
   clear c4
   (first | rw [c4b0] | (simp only [i64_w, i32_w]; rw [c4b0]) | skip)
   have H' := Aside0.mk H
   clear H
   go_wp2
   go_meet
   case rel => exact ⟨_, (true), re_, H', ⟨by first | omega | exact Nat.le_refl _⟩, ⟨bwl_⟩⟩
  ·rw [if_neg c4] at H
   have c4b0 : decide ((t348.size : Int) < 1) = false := decide_eq_false c4
   have c4b1 : decide (t348.size < 1) = false := decide_eq_false (by omega)
   clear c4
   (first | rw [c4b0] | (simp only [i64_w, i32_w]; rw [c4b0]) | skip)
   have H' := Aside0.mk H
   clear H
   go_wp2
   go_meet
   case rel => exact ⟨_, (decide ((t348.size : Int) > 18)), re_, H', ⟨by first | omega | exact Nat.le_refl _⟩, ⟨bwl_⟩⟩
 case rest =>
  clear HC3
  obtain ⟨kq, x16_2, rfl, HA, HJ2, HB⟩ := hcut
  cases kq with
  | zero => exact absurd HA.out (by simp [impl_ReadDecimal.j0])
  | succ kj2 =>
   have H := HA.out
   clear HA
   simp only [impl_ReadDecimal.j0] at H
   revert H
   refine ib_ ?_ ?_ <;> rintro rfl H
   ·simp only [Option.some.injEq, Prod.mk.injEq] at H
    obtain ⟨rfl, rfl⟩ := H
    go_wp2
    go_ret2
    exact ⟨rr_, bwl_⟩
   ·have H' := Aside0.mk H
    clear H
    go_wp2
    go_loopg [5, 6] kj2 (fun kq v5 v6 w' => ∃ (x5_2 : Int) (x6_2 : Int), v5 = .int .i64 x5_2 ∧ v6 = .int .i64 x6_2 ∧ Aside0 (impl_ReadDecimal.l0 kq a0 t348 x5_2 x6_2 = some (r1, r2)) ∧ Aside0 (kq ≤ kj2) ∧ Aside0 (Below w.heap.size w w'))
    case atStart => exact ⟨(0), (0), re_, re_, H', ⟨Nat.le_refl _⟩, ⟨bwl_⟩⟩
    case round =>
     clear H'
     obtain ⟨x5_2, x6_2, rfl, rfl, HA, HK2, HB⟩ := hrel
     cases gk with
     | zero => exact absurd HA.out (by simp [impl_ReadDecimal.l0])
     | succ k2 =>
      have H := HA.out
      clear HA
      simp only [impl_ReadDecimal.l0] at H
      revert H
      refine if_ ?_ ?_ <;> intro c6b0 H
      ·revert H
       refine in_ ?_
       intro c7b0 H
       revert H
       refine if_ ?_ ?_ <;> intro c9b0 H
       ·simp only [Option.some.injEq, Prod.mk.injEq] at H
        obtain ⟨rfl, rfl⟩ := H
        have p8 := bt_ t348 x6_2
        go_wp2
        go_ret2
        exact ⟨rr_, bwl_⟩
       ·revert H
        refine if_ ?_ ?_ <;> intro c11b0 H
        ·simp only [Option.some.injEq, Prod.mk.injEq] at H
         obtain ⟨rfl, rfl⟩ := H
         have p8 := bt_ t348 x6_2
         have p10 := bt_ t348 x6_2
         go_wp2
         go_ret2
         exact ⟨rr_, bwl_⟩
        ·have H' := Aside0.mk H
         clear H
         have p8 := bt_ t348 x6_2
         have p10 := bt_ t348 x6_2
         have p12 := bt_ t348 x6_2
         go_wp2
         go_roundg k2
         case measure => have := HJ2.out; have := HK2.out; omega
         case rel => exact ⟨(wrap64 ((wrap64 (10 * x5_2)) + (((bt t348 x6_2) - 48) % 256))), (wrap64 (x6_2 + 1)), re_, re_, H', ⟨by have := HJ2.out; have := HK2.out; omega⟩, ⟨bwl_⟩⟩
      ·by_cases c13 : (t348.size : Int) < (a0.size : Int)
       ·rw [if_pos c13] at H
        have c13b0 : decide ((t348.size : Int) < (a0.size : Int)) = true := decide_eq_true c13
        have c13b1 : decide (t348.size < a0.size) = true := decide_eq_true (Int.ofNat_lt.mp c13)
        clear c13
        revert H
        refine bn_ ?_
        intro t349 A14 H
        by_cases c15 : t349.toList = a0.toList
        ·rw [if_pos c15] at H
         have c15b0 : (t349.toList == a0.toList) = true := beq_iff_eq.mpr c15
         have c15b1 : (t349.toList != a0.toList) = false := bne_eq_false_iff_eq.mpr c15
         clear c15
         simp only [Option.some.injEq, Prod.mk.injEq] at H
         obtain ⟨rfl, rfl⟩ := H
         go_wp2_with (first | ((with_reducible refine gc_ 35 rfl ?_); refine cl_ Tryz.func35 (impl_Decimal.calls _ _ _ A14.out (HTB.out.below bwl_)) ?_; intro w16 hb; replace HB := bst_ hb; clear hb))
         go_ret2
         exact ⟨rr_, bwl_⟩
        ·rw [if_neg c15] at H
         have c15b0 : (t349.toList == a0.toList) = false := beq_eq_false_iff_ne.mpr c15
         have c15b1 : (t349.toList != a0.toList) = true := bne_iff_ne.mpr c15
         simp only [Option.some.injEq, Prod.mk.injEq] at H
         obtain ⟨rfl, rfl⟩ := H
         go_wp2_with (first | ((with_reducible refine gc_ 35 rfl ?_); refine cl_ Tryz.func35 (impl_Decimal.calls _ _ _ A14.out (HTB.out.below bwl_)) ?_; intro w17 hb; replace HB := bst_ hb; clear hb))
         go_ret2
         exact ⟨rr_, bwl_⟩
       ·rw [if_neg c13] at H
        have c13b0 : decide ((t348.size : Int) < (a0.size : Int)) = false := decide_eq_false c13
        have c13b1 : decide (t348.size < a0.size) = false := decide_eq_false (fun h => c13 (Int.ofNat_lt.mpr h))
        clear c13
        revert H
        refine bn_ ?_
        intro t350 A18 H
        by_cases c19 : t350.toList = a0.toList
        ·rw [if_pos c19] at H
         have c19b0 : (t350.toList == a0.toList) = true := beq_iff_eq.mpr c19
         have c19b1 : (t350.toList != a0.toList) = false := bne_eq_false_iff_eq.mpr c19
         clear c19
         simp only [Option.some.injEq, Prod.mk.injEq] at H
         obtain ⟨rfl, rfl⟩ := H
         go_wp2_with (first | ((with_reducible refine gc_ 35 rfl ?_); refine cl_ Tryz.func35 (impl_Decimal.calls _ _ _ A18.out (HTB.out.below bwl_)) ?_; intro w20 hb; replace HB := bst_ hb; clear hb))
         go_ret2
         exact ⟨rr_, bwl_⟩
        ·rw [if_neg c19] at H
         have c19b0 : (t350.toList == a0.toList) = false := beq_eq_false_iff_ne.mpr c19
         have c19b1 : (t350.toList != a0.toList) = true := bne_iff_ne.mpr c19
         simp only [Option.some.injEq, Prod.mk.injEq] at H
         obtain ⟨rfl, rfl⟩ := H
         go_wp2_with (first | ((with_reducible refine gc_ 35 rfl ?_); refine cl_ Tryz.func35 (impl_Decimal.calls _ _ _ A18.out (HTB.out.below bwl_)) ?_; intro w21 hb; replace HB := bst_ hb; clear hb))
         go_ret2
         exact ⟨rr_, bwl_⟩
section
open Go.Proofs.YtkoeeajciciphaaGreatDoor.Base
def strings_SplitN.f (a0 : ByteArray) (a1 : ByteArray) (a2 : Int) : Option (List ByteArray) := if a0.size < 4294967281 ∧ 1 ≤ a1.size ∧ 1 ≤ a2 ∧ a2 ≤ 1000000 then some (Lib.splitB a1 0 (min a2.toNat (a0.size + 1) - 1) a0) else none
theorem strings_SplitN.calls (a0 : ByteArray) (a1 : ByteArray) (a2 : Int) (r : List ByteArray) (w : World) (h : strings_SplitN.f a0 a1 a2 = some r) (hT : Go.Proofs.YtkoeeajciciphaaGreatDoor.Base.Tb2 w) :
  Calls Tryz.prog 114 #[.string a0, .string a1, .int .i64 a2] w fun e w' => ∃ v0_ : Value, e = .returned (v0_) ∧ Kd.R Kd.string 9 w' w.heap.size (fun _ => True) v0_ r ∧ Below w.heap.size w w' := by
 unfold strings_SplitN.f at h
 split at h
 ·rename_i hc
  obtain ⟨c0, c1, c2, c3⟩ := hc
  obtain rfl := Option.some.inj h
  obtain ⟨n, rfl⟩ : ∃ n : Nat, a2 = (n : Int) := ⟨a2.toNat, by omega⟩
  rw [Int.toNat_natCast]
  obtain ⟨m, hm⟩ := hT.max
  have hl := Lib.splitB_length_le a1 0 (min n (a0.size + 1) - 1) a0
  refine (Tryz.strings_SplitN a0 a1 n m w c0 hm c1 (by omega) (by omega)).mono fun e w' ⟨he, hw⟩ => ⟨_, he, ?_, ?_⟩
  ·rw [hw]
   refine Kd.R_of_own (enc := Value.string) (h1 := fun _ => rfl) ?_ (fun k _ => trivial)
   refine ⟨by simp [encs], .inr ⟨w.heap.size, min n (a0.size + 1), Lib.cellsOf (Lib.splitB a1 0 (min n (a0.size + 1) - 1) a0) (min n (a0.size + 1)), rfl, Nat.le_refl _, blk_new w _, by omega, by unfold maxLen; omega, by rw [Lib.cellsOf_size (by omega), Nat.mul_one], ?_⟩⟩
   unfold Lib.cellsOf encs
   rw [Nat.mul_one]
   simp
  ·rw [hw]
   exact below_alloc (Below.refl _ _) _
 ·cases h
end
mutual
def impl_ValidEntry.j0 : Nat → Bool → Int → ByteArray → ByteArray → Option (Bool)
 | 0, _, _, _, _ => none
 | k + 1, x19, x352000, x352001, x352002 => if x19 = true then (some false) else (impl_ValidEntry.l0 k 0 x352000 x352001 x352002)
def impl_ValidEntry.l0 : Nat → Int → Int → ByteArray → ByteArray → Option (Bool)
 | 0, _, _, _, _ => none
 | k + 1, x3, x352000, x352001, x352002 => if x3 < (x352002.size : Int) then (if 0 ≤ x3 then (if (bt x352002 x3) < 32 then (some false) else (if (bt x352002 x3) > 126 then (some false) else (impl_ValidEntry.l0 k (wrap64 (x3 + 1)) x352000 x352001 x352002))) else (none)) else (some true)
end
def impl_ValidEntry.f (k : Nat) (a0_0 : Int) (a0_1 : ByteArray) (a0_2 : ByteArray) : Option (Bool) := (impl_within.f a0_0 0 20000).bind fun t352 => (if t352 = true then ((impl_IsName.f k a0_1).bind fun t353 => (if t353 = true then (impl_ValidEntry.j0 k (decide ((a0_2.size : Int) > 60)) a0_0 a0_1 a0_2) else (impl_ValidEntry.j0 k true a0_0 a0_1 a0_2))) else (impl_ValidEntry.j0 k true a0_0 a0_1 a0_2))
theorem impl_ValidEntry.mono_l : ∀ k, (∀ y0 y1 y2 y3, LeO (impl_ValidEntry.j0 k y0 y1 y2 y3) (impl_ValidEntry.j0 (k + 1) y0 y1 y2 y3)) ∧ (∀ y0 y1 y2 y3, LeO (impl_ValidEntry.l0 k y0 y1 y2 y3) (impl_ValidEntry.l0 (k + 1) y0 y1 y2 y3))
 | 0 => ⟨fun _ _ _ _ r h => by simp [impl_ValidEntry.j0] at h, fun _ _ _ _ r h => by simp [impl_ValidEntry.l0] at h⟩
 | k + 1 => by
  obtain ⟨ih0, ih1⟩ := impl_ValidEntry.mono_l k
  refine ⟨?_, ?_⟩
  ·intro y0 y1 y2 y3
   unfold impl_ValidEntry.j0
   have m0 := @impl_IsName.mono
   exact mo_
  ·intro y0 y1 y2 y3
   unfold impl_ValidEntry.l0
   have m0 := @impl_IsName.mono
   exact mo_
theorem impl_ValidEntry.mono : ∀ a0 a1 a2 k, LeO (impl_ValidEntry.f k a0 a1 a2) (impl_ValidEntry.f (k + 1) a0 a1 a2) := by
 intro a0 a1 a2 k
 obtain ⟨ih0, ih1⟩ := impl_ValidEntry.mono_l k
 unfold impl_ValidEntry.f
 have m0 := @impl_IsName.mono
 exact mo_
theorem impl_ValidEntry.calls (k : Nat) (a0_0 : Int) (a0_1 : ByteArray) (a0_2 : ByteArray) (r : Bool) (w : World) (h : impl_ValidEntry.f k a0_0 a0_1 a0_2 = some r) :
  Calls Tryz.prog 129 #[.agg #[.int .i64 a0_0, .string a0_1, .string a0_2]] w fun e w' => e = .returned (.bool r) ∧ Below w.heap.size w w' := by
 have hu132 := Tryz.underlying132
 have HB := Aside0.mk (Below.refl w.heap.size w)
 have H := h
 clear h
 unfold impl_ValidEntry.f at H
 have HC2 := Aside0.mk H
 clear H
 go_enter Tryz.func129, Tryz.ntmps129
 go_upto_region 1 with (first | ((with_reducible refine gd_ 1 rfl ?_); (try (refine gate_guard (by rfl) ?_; dsimp only)); refine bx_ #[.int .i64 a0_0, .string a0_1, .string a0_2] ?_; intro gb351 hg w3 BK351 hb; have GW351 := bsz_ hg; replace HB := bst_ hb; clear hb hg))
 (try simp only [Act.put, List.setIfInBounds_toArray, List.set_cons_zero, List.set_cons_succ])
 go_cut [19] (fun v19 wc => ∃ (kq : Nat) (x19_1 : Bool), v19 = .bool x19_1 ∧ Aside0 (impl_ValidEntry.j0 kq x19_1 a0_0 a0_1 a0_2 = some r) ∧ Aside0 (kq ≤ k) ∧ Aside0 (wc.heap[gb351]? = some (.cells #[.int .i64 a0_0, .string a0_1, .string a0_2] 132 (0, 0))) ∧ Aside0 (Below w.heap.size w wc))
 case first =>
  have H := HC2.out
  clear HC2
  revert H
  refine bn_ ?_
  intro t352 A4 H
  revert H
  refine ib_ ?_ ?_ <;> rintro rfl H
  ·revert H
   refine bn_ ?_
   intro t353 A6 H
   revert H
   refine ib_ ?_ ?_ <;> rintro rfl H
   ·have H' := Aside0.mk H
    clear H
    have hcz8_0 := c3_ BK351
    go_wp2_with (first | ((with_reducible refine gc_ 24 rfl ?_); refine cl_ Tryz.func24 (impl_within.calls _ _ _ _ _ A4.out) ?_; rintro _ ⟨nd, rfl⟩) | (go_at_call 90; refine ca_ (impl_IsName.calls _ _ _ _ A6.out) ?_; rintro _ ⟨nd, rfl⟩))
    go_meet
    case rel => exact ⟨_, (decide ((a0_2.size : Int) > 60)), re_, H', ⟨by first | omega | exact Nat.le_refl _⟩, ⟨by exact kb_ BK351⟩, ⟨bwl_⟩⟩
   ·have H' := Aside0.mk H
    clear H
    have hcz9_0 := c3_ BK351
    go_wp2_with (first | ((with_reducible refine gc_ 24 rfl ?_); refine cl_ Tryz.func24 (impl_within.calls _ _ _ _ _ A4.out) ?_; rintro _ ⟨nd, rfl⟩) | (go_at_call 90; refine ca_ (impl_IsName.calls _ _ _ _ A6.out) ?_; rintro _ ⟨nd, rfl⟩))
    go_meet
    case rel => exact ⟨_, (true), re_, H', ⟨by first | omega | exact Nat.le_refl _⟩, ⟨by exact kb_ BK351⟩, ⟨bwl_⟩⟩
  ·have H' := Aside0.mk H
   clear H
   have hcz10_0 := c3_ BK351
   go_wp2_with (first | ((with_reducible refine gc_ 24 rfl ?_); refine cl_ Tryz.func24 (impl_within.calls _ _ _ _ _ A4.out) ?_; rintro _ ⟨nd, rfl⟩))
   go_meet
   case rel => exact ⟨_, (true), re_, H', ⟨by first | omega | exact Nat.le_refl _⟩, ⟨by exact kb_ BK351⟩, ⟨bwl_⟩⟩
 case rest =>
  clear HC2
  obtain ⟨kq, x19_1, rfl, HA, HJ1, BK351, HB⟩ := hcut
  cases kq with
  | zero => exact absurd HA.out (by simp [impl_ValidEntry.j0])
  | succ kj1 =>
   have H := HA.out
   clear HA
   simp only [impl_ValidEntry.j0] at H
   revert H
   refine ib_ ?_ ?_ <;> rintro rfl H
   ·obtain rfl := Option.some.inj H
    go_wp2
    go_ret
    exact ⟨rr_, bwl_⟩
   ·have H' := Aside0.mk H
    clear H
    go_wp2
    go_loopg [3] kj1 (fun kq v3 w' => ∃ (x3_2 : Int), v3 = .int .i64 x3_2 ∧ Aside0 (impl_ValidEntry.l0 kq x3_2 a0_0 a0_1 a0_2 = some r) ∧ Aside0 (kq ≤ kj1) ∧ Aside0 (w'.heap[gb351]? = some (.cells #[.int .i64 a0_0, .string a0_1, .string a0_2] 132 (0, 0))) ∧ Aside0 (Below w.heap.size w w'))
    case atStart => exact ⟨(0), re_, H', ⟨Nat.le_refl _⟩, ⟨by exact kb_ BK351⟩, ⟨bwl_⟩⟩
    case round =>
     clear H'
     obtain ⟨x3_2, rfl, HA, HK2, BK351, HB⟩ := hrel
     cases gk with
     | zero => exact absurd HA.out (by simp [impl_ValidEntry.l0])
     | succ k2 =>
      have H := HA.out
      clear HA
      simp only [impl_ValidEntry.l0] at H
      revert H
      refine if_ ?_ ?_ <;> intro c12b0 H
      ·revert H
       refine in_ ?_
       intro c13b0 H
       revert H
       refine if_ ?_ ?_ <;> intro c15b0 H
       ·obtain rfl := Option.some.inj H
        have hcz16_0 := c3_ BK351
        have p14 := bt_ a0_2 x3_2
        go_wp2
        go_ret
        exact ⟨rr_, bwl_⟩
       ·revert H
        refine if_ ?_ ?_ <;> intro c18b0 H
        ·obtain rfl := Option.some.inj H
         have hcz19_0 := c3_ BK351
         have p14 := bt_ a0_2 x3_2
         have p17 := bt_ a0_2 x3_2
         go_wp2
         go_ret
         exact ⟨rr_, bwl_⟩
        ·have H' := Aside0.mk H
         clear H
         have hcz20_0 := c3_ BK351
         have p14 := bt_ a0_2 x3_2
         have p17 := bt_ a0_2 x3_2
         go_wp2
         go_roundg k2
         case measure => have := HJ1.out; have := HK2.out; omega
         case rel => exact ⟨(wrap64 (x3_2 + 1)), re_, H', ⟨by have := HJ1.out; have := HK2.out; omega⟩, ⟨by exact kb_ BK351⟩, ⟨bwl_⟩⟩
      ·obtain rfl := Option.some.inj H
       have hcz21_0 := c3_ BK351
       go_wp2
       go_ret
       exact ⟨rr_, bwl_⟩
def impl_SumOf.l0 : Nat → ByteArray → Int → Int → Option (Int)
 | 0, _, _, _ => none
 | k + 1, x0, x3, x4 => if x4 < (x0.size : Int) then (if 0 ≤ x4 then (impl_SumOf.l0 k x0 (Int.tmod (wrap64 ((wrap64 ((wrap64 (131 * x3)) + (wrap64 (bt x0 x4)))) + 1)) 9973) (wrap64 (x4 + 1))) else (none)) else (some x3)
def impl_SumOf.f (k : Nat) (a0 : ByteArray) : Option (Int) := impl_SumOf.l0 k a0 7 0
theorem impl_SumOf.mono_l : ∀ k, (∀ y0 y1 y2, LeO (impl_SumOf.l0 k y0 y1 y2) (impl_SumOf.l0 (k + 1) y0 y1 y2))
 | 0 => fun _ _ _ r h => by simp [impl_SumOf.l0] at h
 | k + 1 => by
  have ih0 := impl_SumOf.mono_l k
  ·intro y0 y1 y2
   unfold impl_SumOf.l0
   exact mo_
theorem impl_SumOf.mono : ∀ a0 k, LeO (impl_SumOf.f k a0) (impl_SumOf.f (k + 1) a0) := by
 intro a0 k
 have ih0 := impl_SumOf.mono_l k
 unfold impl_SumOf.f
 exact mo_
theorem impl_SumOf.calls (k : Nat) (a0 : ByteArray) (r : Int) (w : World) (h : impl_SumOf.f k a0 = some r) :
  Calls Tryz.prog 130 #[.string a0] w fun e w' => e = .returned (.int .i64 r) ∧ Drawn0 w w' := by
 have H := h
 clear h
 unfold impl_SumOf.f at H
 have H' := Aside0.mk H
 clear H
 go_enter Tryz.func130, Tryz.ntmps130
 go_wp2
 go_loopg [3, 4] k (fun kq v3 v4 w' => ∃ (x3_1 : Int) (x4_1 : Int), v3 = .int .i64 x3_1 ∧ v4 = .int .i64 x4_1 ∧ Aside0 (impl_SumOf.l0 kq a0 x3_1 x4_1 = some r) ∧ Aside0 (kq ≤ k) ∧ Drawn0 w w')
 case atStart => exact ⟨(7), (0), re_, re_, H', ⟨Nat.le_refl _⟩, dw_⟩
 case round =>
  clear H'
  obtain ⟨x3_1, x4_1, rfl, rfl, HA, HK1, ⟨m1, rfl⟩⟩ := hrel
  cases gk with
  | zero => exact absurd HA.out (by simp [impl_SumOf.l0])
  | succ k1 =>
   have H := HA.out
   clear HA
   simp only [impl_SumOf.l0] at H
   revert H
   refine if_ ?_ ?_ <;> intro c2b0 H
   ·revert H
    refine in_ ?_
    intro c3b0 H
    have H' := Aside0.mk H
    clear H
    have p4 := bt_ a0 x4_1
    go_wp2
    go_roundg k1
    case measure => have := HK1.out; omega
    case rel => exact ⟨(Int.tmod (wrap64 ((wrap64 ((wrap64 (131 * x3_1)) + (wrap64 (bt a0 x4_1)))) + 1)) 9973), (wrap64 (x4_1 + 1)), re_, re_, H', ⟨by have := HK1.out; omega⟩, dw_⟩
   ·obtain rfl := Option.some.inj H
    go_wp2
    go_ret
    exact ⟨re_, dw_⟩
def impl_FrameOf.f (k : Nat) (a0_0 : Int) (a0_1 : ByteArray) (a0_2 : ByteArray) : Option (ByteArray) := (impl_ValidEntry.f k a0_0 a0_1 a0_2).bind fun t355 => (if t355 = true then ((impl_Decimal.f a0_0).bind fun t356 => (if t356.size + 1 ≤ 9223372036854775807 then (if (t356 ++ (⟨#[32]⟩ : ByteArray)).size + a0_1.size ≤ 9223372036854775807 then (if ((t356 ++ (⟨#[32]⟩ : ByteArray)) ++ a0_1).size + 1 ≤ 9223372036854775807 then (if (((t356 ++ (⟨#[32]⟩ : ByteArray)) ++ a0_1) ++ (⟨#[32]⟩ : ByteArray)).size + a0_2.size ≤ 9223372036854775807 then ((impl_Decimal.f (((((t356 ++ (⟨#[32]⟩ : ByteArray)) ++ a0_1) ++ (⟨#[32]⟩ : ByteArray)) ++ a0_2).size : Int)).bind fun t357 => (if t357.size + 1 ≤ 9223372036854775807 then (if (t357 ++ (⟨#[58]⟩ : ByteArray)).size + ((((t356 ++ (⟨#[32]⟩ : ByteArray)) ++ a0_1) ++ (⟨#[32]⟩ : ByteArray)) ++ a0_2).size ≤ 9223372036854775807 then (if ((t357 ++ (⟨#[58]⟩ : ByteArray)) ++ ((((t356 ++ (⟨#[32]⟩ : ByteArray)) ++ a0_1) ++ (⟨#[32]⟩ : ByteArray)) ++ a0_2)).size + 1 ≤ 9223372036854775807 then ((impl_SumOf.f k ((((t356 ++ (⟨#[32]⟩ : ByteArray)) ++ a0_1) ++ (⟨#[32]⟩ : ByteArray)) ++ a0_2)).bind fun t358 => ((impl_Decimal.f t358).bind fun t359 => (if (((t357 ++ (⟨#[58]⟩ : ByteArray)) ++ ((((t356 ++ (⟨#[32]⟩ : ByteArray)) ++ a0_1) ++ (⟨#[32]⟩ : ByteArray)) ++ a0_2)) ++ (⟨#[35]⟩ : ByteArray)).size + t359.size ≤ 9223372036854775807 then (if ((((t357 ++ (⟨#[58]⟩ : ByteArray)) ++ ((((t356 ++ (⟨#[32]⟩ : ByteArray)) ++ a0_1) ++ (⟨#[32]⟩ : ByteArray)) ++ a0_2)) ++ (⟨#[35]⟩ : ByteArray)) ++ t359).size + 1 ≤ 9223372036854775807 then (some (((((t357 ++ (⟨#[58]⟩ : ByteArray)) ++ ((((t356 ++ (⟨#[32]⟩ : ByteArray)) ++ a0_1) ++ (⟨#[32]⟩ : ByteArray)) ++ a0_2)) ++ (⟨#[35]⟩ : ByteArray)) ++ t359) ++ (⟨#[10]⟩ : ByteArray))) else (none)) else (none)))) else (none)) else (none)) else (none))) else (none)) else (none)) else (none)) else (none))) else (some (⟨#[]⟩ : ByteArray)))
theorem impl_FrameOf.mono : ∀ a0 a1 a2 k, LeO (impl_FrameOf.f k a0 a1 a2) (impl_FrameOf.f (k + 1) a0 a1 a2) := by
 intro a0 a1 a2 k
 unfold impl_FrameOf.f
 have m0 := @impl_SumOf.mono
 have m1 := @impl_ValidEntry.mono
 exact mo_
def impl_FrameOf.T3 : Bool × List (List Nat × List Nat) := (true, [([], []), ([0], [0]), ([1], [1]), ([2], [2]), ([], []), ([4], [4]), ([3, 5], [3, 5]), ([6], [6]), ([], []), ([8], [8]), ([7, 9], [7, 9]), ([10, 2, 0, 1, 2, 3, 4, 5, 6, 7, 8, 9, 10], [10])])
def impl_FrameOf.B3 : List Nat := [0, 1, 3, 7, 0, 16, 63, 127, 0, 256, 1023, 2047]
theorem impl_FrameOf.tab3 : rtab .any (opsOf Tryz.f115 3) = impl_FrameOf.T3 := by kernel_rfl
theorem impl_FrameOf.bits3 : waitsOk impl_FrameOf.T3.2 impl_FrameOf.B3 = true := by kernel_rfl
theorem impl_FrameOf.calls (k : Nat) (a0_0 : Int) (a0_1 : ByteArray) (a0_2 : ByteArray) (r : ByteArray) (w : World) (h : impl_FrameOf.f k a0_0 a0_1 a0_2 = some r) (hT : Go.Proofs.YtkoeeajciciphaaGreatDoor.Base.Tb2 w) :
  Calls Tryz.prog 115 #[.agg #[.int .i64 a0_0, .string a0_1, .string a0_2]] w fun e w' => e = .returned (.string r) ∧ Below w.heap.size w w' := by
 have HTB := Aside0.mk hT
 clear hT
 have hu132 := Tryz.underlying132
 have HB := Aside0.mk (Below.refl w.heap.size w)
 have H := h
 clear h
 unfold impl_FrameOf.f at H
 revert H
 refine bn_ ?_
 intro t355 A2 H
 revert H
 refine ib_ ?_ ?_ <;> rintro rfl H
 ·revert H
  refine bn_ ?_
  intro t356 A4 H
  by_cases c5 : t356.size + 1 ≤ 9223372036854775807
  ·rw [if_pos c5] at H
   have c5b0 := eq_true c5
   have c5b1 : decide (t356.size + 1 ≤ 9223372036854775807) = true := decide_eq_true c5
   try have c5b2 : (9223372036854775807 < t356.size + 1) = False := eq_false (Nat.not_lt.2 c5)
   by_cases c6 : (t356 ++ (⟨#[32]⟩ : ByteArray)).size + a0_1.size ≤ 9223372036854775807
   ·rw [if_pos c6] at H
    have c6b0 := eq_true c6
    have c6b1 : decide ((t356 ++ (⟨#[32]⟩ : ByteArray)).size + a0_1.size ≤ 9223372036854775807) = true := decide_eq_true c6
    try have c6b2 : (9223372036854775807 < (t356 ++ (⟨#[32]⟩ : ByteArray)).size + a0_1.size) = False := eq_false (Nat.not_lt.2 c6)
    try (have c6b3 := c6b2; simp only [ByteArray.size_append, show (⟨#[32]⟩ : ByteArray).size = 1 from rfl] at c6b3)
    by_cases c7 : ((t356 ++ (⟨#[32]⟩ : ByteArray)) ++ a0_1).size + 1 ≤ 9223372036854775807
    ·rw [if_pos c7] at H
     have c7b0 := eq_true c7
     have c7b1 : decide (((t356 ++ (⟨#[32]⟩ : ByteArray)) ++ a0_1).size + 1 ≤ 9223372036854775807) = true := decide_eq_true c7
     try have c7b2 : (9223372036854775807 < ((t356 ++ (⟨#[32]⟩ : ByteArray)) ++ a0_1).size + 1) = False := eq_false (Nat.not_lt.2 c7)
     try (have c7b3 := c7b2; simp only [ByteArray.size_append, show (⟨#[32]⟩ : ByteArray).size = 1 from rfl] at c7b3)
     by_cases c8 : (((t356 ++ (⟨#[32]⟩ : ByteArray)) ++ a0_1) ++ (⟨#[32]⟩ : ByteArray)).size + a0_2.size ≤ 9223372036854775807
     ·rw [if_pos c8] at H
      have c8b0 := eq_true c8
      have c8b1 : decide ((((t356 ++ (⟨#[32]⟩ : ByteArray)) ++ a0_1) ++ (⟨#[32]⟩ : ByteArray)).size + a0_2.size ≤ 9223372036854775807) = true := decide_eq_true c8
      try have c8b2 : (9223372036854775807 < (((t356 ++ (⟨#[32]⟩ : ByteArray)) ++ a0_1) ++ (⟨#[32]⟩ : ByteArray)).size + a0_2.size) = False := eq_false (Nat.not_lt.2 c8)
      try (have c8b3 := c8b2; simp only [ByteArray.size_append, show (⟨#[32]⟩ : ByteArray).size = 1 from rfl] at c8b3)
      revert H
      refine bn_ ?_
      intro t357 A9 H
      by_cases c10 : t357.size + 1 ≤ 9223372036854775807
      ·rw [if_pos c10] at H
       have c10b0 := eq_true c10
       have c10b1 : decide (t357.size + 1 ≤ 9223372036854775807) = true := decide_eq_true c10
       try have c10b2 : (9223372036854775807 < t357.size + 1) = False := eq_false (Nat.not_lt.2 c10)
       by_cases c11 : (t357 ++ (⟨#[58]⟩ : ByteArray)).size + ((((t356 ++ (⟨#[32]⟩ : ByteArray)) ++ a0_1) ++ (⟨#[32]⟩ : ByteArray)) ++ a0_2).size ≤ 9223372036854775807
       ·rw [if_pos c11] at H
        have c11b0 := eq_true c11
        have c11b1 : decide ((t357 ++ (⟨#[58]⟩ : ByteArray)).size + ((((t356 ++ (⟨#[32]⟩ : ByteArray)) ++ a0_1) ++ (⟨#[32]⟩ : ByteArray)) ++ a0_2).size ≤ 9223372036854775807) = true := decide_eq_true c11
        try have c11b2 : (9223372036854775807 < (t357 ++ (⟨#[58]⟩ : ByteArray)).size + ((((t356 ++ (⟨#[32]⟩ : ByteArray)) ++ a0_1) ++ (⟨#[32]⟩ : ByteArray)) ++ a0_2).size) = False := eq_false (Nat.not_lt.2 c11)
        try (have c11b3 := c11b2; simp only [ByteArray.size_append, show (⟨#[32]⟩ : ByteArray).size = 1 from rfl, show (⟨#[58]⟩ : ByteArray).size = 1 from rfl] at c11b3)
        by_cases c12 : ((t357 ++ (⟨#[58]⟩ : ByteArray)) ++ ((((t356 ++ (⟨#[32]⟩ : ByteArray)) ++ a0_1) ++ (⟨#[32]⟩ : ByteArray)) ++ a0_2)).size + 1 ≤ 9223372036854775807
        ·rw [if_pos c12] at H
         have c12b0 := eq_true c12
         have c12b1 : decide (((t357 ++ (⟨#[58]⟩ : ByteArray)) ++ ((((t356 ++ (⟨#[32]⟩ : ByteArray)) ++ a0_1) ++ (⟨#[32]⟩ : ByteArray)) ++ a0_2)).size + 1 ≤ 9223372036854775807) = true := decide_eq_true c12
         try have c12b2 : (9223372036854775807 < ((t357 ++ (⟨#[58]⟩ : ByteArray)) ++ ((((t356 ++ (⟨#[32]⟩ : ByteArray)) ++ a0_1) ++ (⟨#[32]⟩ : ByteArray)) ++ a0_2)).size + 1) = False := eq_false (Nat.not_lt.2 c12)
         try (have c12b3 := c12b2; simp only [ByteArray.size_append, show (⟨#[32]⟩ : ByteArray).size = 1 from rfl, show (⟨#[58]⟩ : ByteArray).size = 1 from rfl] at c12b3)
         revert H
         refine bn_ ?_
         intro t358 A13 H
         revert H
         refine bn_ ?_
         intro t359 A14 H
         by_cases c15 : (((t357 ++ (⟨#[58]⟩ : ByteArray)) ++ ((((t356 ++ (⟨#[32]⟩ : ByteArray)) ++ a0_1) ++ (⟨#[32]⟩ : ByteArray)) ++ a0_2)) ++ (⟨#[35]⟩ : ByteArray)).size + t359.size ≤ 9223372036854775807
         ·rw [if_pos c15] at H
          have c15b0 := eq_true c15
          have c15b1 : decide ((((t357 ++ (⟨#[58]⟩ : ByteArray)) ++ ((((t356 ++ (⟨#[32]⟩ : ByteArray)) ++ a0_1) ++ (⟨#[32]⟩ : ByteArray)) ++ a0_2)) ++ (⟨#[35]⟩ : ByteArray)).size + t359.size ≤ 9223372036854775807) = true := decide_eq_true c15
          try have c15b2 : (9223372036854775807 < (((t357 ++ (⟨#[58]⟩ : ByteArray)) ++ ((((t356 ++ (⟨#[32]⟩ : ByteArray)) ++ a0_1) ++ (⟨#[32]⟩ : ByteArray)) ++ a0_2)) ++ (⟨#[35]⟩ : ByteArray)).size + t359.size) = False := eq_false (Nat.not_lt.2 c15)
          try (have c15b3 := c15b2; simp only [ByteArray.size_append, show (⟨#[32]⟩ : ByteArray).size = 1 from rfl, show (⟨#[35]⟩ : ByteArray).size = 1 from rfl, show (⟨#[58]⟩ : ByteArray).size = 1 from rfl] at c15b3)
          by_cases c16 : ((((t357 ++ (⟨#[58]⟩ : ByteArray)) ++ ((((t356 ++ (⟨#[32]⟩ : ByteArray)) ++ a0_1) ++ (⟨#[32]⟩ : ByteArray)) ++ a0_2)) ++ (⟨#[35]⟩ : ByteArray)) ++ t359).size + 1 ≤ 9223372036854775807
          ·rw [if_pos c16] at H
           have c16b0 := eq_true c16
           have c16b1 : decide (((((t357 ++ (⟨#[58]⟩ : ByteArray)) ++ ((((t356 ++ (⟨#[32]⟩ : ByteArray)) ++ a0_1) ++ (⟨#[32]⟩ : ByteArray)) ++ a0_2)) ++ (⟨#[35]⟩ : ByteArray)) ++ t359).size + 1 ≤ 9223372036854775807) = true := decide_eq_true c16
           try have c16b2 : (9223372036854775807 < ((((t357 ++ (⟨#[58]⟩ : ByteArray)) ++ ((((t356 ++ (⟨#[32]⟩ : ByteArray)) ++ a0_1) ++ (⟨#[32]⟩ : ByteArray)) ++ a0_2)) ++ (⟨#[35]⟩ : ByteArray)) ++ t359).size + 1) = False := eq_false (Nat.not_lt.2 c16)
           try (have c16b3 := c16b2; simp only [ByteArray.size_append, show (⟨#[32]⟩ : ByteArray).size = 1 from rfl, show (⟨#[35]⟩ : ByteArray).size = 1 from rfl, show (⟨#[58]⟩ : ByteArray).size = 1 from rfl] at c16b3)
           obtain rfl := Option.some.inj H
           go_enter Tryz.func115, Tryz.ntmps115
           try go_wp2_with (first | ((with_reducible refine gd_ 1 rfl ?_); refine bx_ #[.int .i64 a0_0, .string a0_1, .string a0_2] ?_; intro gb354 hg w17 BK354 hb; have GW354 := bsz_ hg; replace HB := bst_ hb; clear hb hg; have hcz18_0 := c3_ BK354) | ((with_reducible refine gc_ 129 rfl ?_); refine cl_ Tryz.func129 (impl_ValidEntry.calls _ _ _ _ _ _ A2.out) ?_; intro w19 hb; replace BK354 := bkb_ BK354 hb; replace HB := bst_ hb; clear hb))
           replace BK354 := Aside0.mk (blk_drew BK354.out)
           replace HB := Aside0.mk (below_drew1 HB.out)
           refine start_ (n := 12) (S := fun w' => w'.cell? ⟨gb354, 0, none⟩ = some (.int .i64 a0_0) ∧ w'.cell? ⟨gb354, 1, none⟩ = some (.string a0_1) ∧ w'.cell? ⟨gb354, 2, none⟩ = some (.string a0_2)) (ds := []) (fl 12 0) (by kernel_rfl) rfl rfl ⟨(blk_cell BK354.out 0).trans rfl, (blk_cell BK354.out 1).trans rfl, (blk_cell BK354.out 2).trans rfl⟩ (fun hHeld => ?_); refine with_tabW impl_FrameOf.tab3 impl_FrameOf.bits3 (fun HT_ HW_ => ?_)
           generalize w19.drew = w20 at BK354 HB hHeld ⊢
           refine pu_ (i := 0) (N := some 7) (fl 12 1) (any_of HT_.out (by kernel_rfl)) ?_
           refine pu_ (i := 4) (N := some 11) (fl 12 17) (any_of HT_.out (by kernel_rfl)) ?_
           refine pu_ (i := 8) (N := some 15) (fl 12 273) (any_of HT_.out (by kernel_rfl)) ?_
           refine take_ (i := 1) (N := some 8) (v := ?_) (a' := ?_) (fl 12 275) rfl rfl (take_ofW HT_.out HW_.out (by kernel_rfl)) (fun _ _ _ h => h) (Or.inl ⟨by rfl, ?_⟩) hHeld ?_ ?_
           rotate_left
           ·rintro w' ⟨s0, s1, s2⟩
            go_simp
            with_reducible rfl
           rotate_left
           ·simp only [Act.put, List.setIfInBounds_toArray, List.set_cons_zero, List.set_cons_succ, i64_w, i32_w]
            rfl
           refine take_ (i := 5) (N := some 12) (v := ?_) (a' := ?_) (fl 12 307) rfl rfl (take_ofW HT_.out HW_.out (by kernel_rfl)) (fun _ _ _ h => h) (Or.inl ⟨by rfl, ?_⟩) hHeld ?_ ?_
           rotate_left
           ·rintro w' ⟨s0, s1, s2⟩
            go_simp
            with_reducible rfl
           rotate_left
           ·simp only [Act.put, List.setIfInBounds_toArray, List.set_cons_zero, List.set_cons_succ, i64_w, i32_w]
            rfl
           refine take_ (i := 9) (N := some 16) (v := ?_) (a' := ?_) (fl 12 819) rfl rfl (take_ofW HT_.out HW_.out (by kernel_rfl)) (fun _ _ _ h => h) (Or.inl ⟨by rfl, ?_⟩) hHeld ?_ ?_
           rotate_left
           ·rintro w' ⟨s0, s1, s2⟩
            go_simp
            with_reducible rfl
           rotate_left
           ·simp only [Act.put, List.setIfInBounds_toArray, List.set_cons_zero, List.set_cons_succ, i64_w, i32_w]
            rfl
           refine one_ (i := 2) (N := some 9) (fl 12 823) rfl rfl (one_of HT_.out (by kernel_rfl)) (by decide) (fun K hK => ?_)
           refine goes_ Tryz.func35 (by kernel_rfl) rfl #[.int .i64 a0_0] (by rfl) rfl rfl (by (try simp only [List.map_toArray, List.map_cons, List.map_nil]); first | done | rfl | (simp only [List.length_drop, List.length_take]; rfl) | (simp only [ByteArray.size_append, Int.natCast_add]; rfl)) ?_
           with_reducible refine (impl_Decimal.calls a0_0 t356 _ A4.out ?side1).mono ?_
           (case side1 => exact HTB.out.below bwl_)
           rintro e w21 ⟨rfl, hb⟩
           refine ⟨_, rfl, ?_⟩
           replace BK354 := bkb_ BK354 hb
           replace HB := bst_ hb
           (try clear hb)
           refine hK.out _ _ ⟨(blk_cell BK354.out 0).trans rfl, (blk_cell BK354.out 1).trans rfl, (blk_cell BK354.out 2).trans rfl⟩ (fun hHeld => ?_)
           clear hK K
           refine norm_ (a' := ?_) ?_ ?_
           rotate_left
           ·show Act.put _ (some 9) _ = _
            simp only [Act.put, List.setIfInBounds_toArray, List.set_cons_zero, List.set_cons_succ, i64_w, i32_w]
            rfl
           refine pu_ (i := 3) (N := some 10) (fl 12 831) (any_of HT_.out (by kernel_rfl)) ?_
           refine pu_ (i := 6) (N := some 13) (fl 12 895) (any_of HT_.out (by kernel_rfl)) ?_
           refine pu_ (i := 7) (N := some 14) (fl 12 1023) (any_of HT_.out (by kernel_rfl)) ?_
           refine pu_ (i := 10) (N := some 17) (fl 12 2047) (any_of HT_.out (by kernel_rfl)) ?_
           refine pu_ (i := 11) (N := some 3) (fl 12 4095) (any_of HT_.out (by kernel_rfl)) ?_
           refine done_ (done_of HT_.out (by kernel_rfl)) ?_
           try go_wp2_with (first | ((with_reducible refine gc_ 35 rfl ?_); (with_reducible refine gd_ 20 rfl ?_); refine cl_ Tryz.func35 (impl_Decimal.calls _ _ _ A9.out (HTB.out.below bwl_)) ?_; intro w22 hb; replace BK354 := bkb_ BK354 hb; replace HB := bst_ hb; clear hb) | ((with_reducible refine gc_ 130 rfl ?_); refine cl_ Tryz.func130 (impl_SumOf.calls _ _ _ _ A13.out) ?_; rintro _ ⟨nd, rfl⟩) | ((with_reducible refine gc_ 35 rfl ?_); (with_reducible refine gd_ 27 rfl ?_); refine cl_ Tryz.func35 (impl_Decimal.calls _ _ _ A14.out (HTB.out.below bwl_)) ?_; intro w23 hb; replace BK354 := bkb_ BK354 hb; replace HB := bst_ hb; clear hb))
           go_ret
           exact ⟨rr_, bwl_⟩
          ·rw [if_neg c16] at H
           exact absurd H (by simp)
         ·rw [if_neg c15] at H
          exact absurd H (by simp)
        ·rw [if_neg c12] at H
         exact absurd H (by simp)
       ·rw [if_neg c11] at H
        exact absurd H (by simp)
      ·rw [if_neg c10] at H
       exact absurd H (by simp)
     ·rw [if_neg c8] at H
      exact absurd H (by simp)
    ·rw [if_neg c7] at H
     exact absurd H (by simp)
   ·rw [if_neg c6] at H
    exact absurd H (by simp)
  ·rw [if_neg c5] at H
   exact absurd H (by simp)
 ·obtain rfl := Option.some.inj H
  go_enter Tryz.func115, Tryz.ntmps115
  go_wp2_with (first | ((with_reducible refine gd_ 1 rfl ?_); refine bx_ #[.int .i64 a0_0, .string a0_1, .string a0_2] ?_; intro gb354 hg w24 BK354 hb; have GW354 := bsz_ hg; replace HB := bst_ hb; clear hb hg; have hcz25_0 := c3_ BK354) | ((with_reducible refine gc_ 129 rfl ?_); refine cl_ Tryz.func129 (impl_ValidEntry.calls _ _ _ _ _ _ A2.out) ?_; intro w26 hb; replace BK354 := bkb_ BK354 hb; replace HB := bst_ hb; clear hb))
  go_ret
  exact ⟨rr_, bwl_⟩
def strings_HasPrefix.f (a0 : ByteArray) (a1 : ByteArray) : Option (Bool) := (stringslite_HasPrefix.f a0 a1).bind fun t360 => (some t360)
theorem strings_HasPrefix.calls (a0 : ByteArray) (a1 : ByteArray) (r : Bool) (w : World) (h : strings_HasPrefix.f a0 a1 = some r) :
  Calls Tryz.prog 116 #[.string a0, .string a1] w fun e w' => e = .returned (.bool r) ∧ Drawn0 w w' := by
 have H := h
 clear h
 unfold strings_HasPrefix.f at H
 revert H
 refine bn_ ?_
 intro t360 A3 H
 obtain rfl := Option.some.inj H
 go_enter Tryz.func116, Tryz.ntmps116
 go_wp2_with (first | ((with_reducible refine gc_ 131 rfl ?_); refine cl_ Tryz.func131 (stringslite_HasPrefix.calls _ _ _ _ A3.out) ?_; rintro _ ⟨nd, rfl⟩))
 go_ret
 exact ⟨re_, dw_⟩
def impl_readFrame.j0 : Nat → ByteArray → ByteArray → Int → Bool → Option (Int × ByteArray × ByteArray × Int)
 | 0, _, _, _, _ => none
 | k + 1, x0, x5, x7, x37 => if x37 = true then (some (0, (⟨#[]⟩ : ByteArray), (⟨#[]⟩ : ByteArray), 0)) else (if 0 ≤ x7 then (if x7 ≤ (x5.size : Int) then ((strings_SplitN.f (x5.extract 0 (x7 : Int).toNat) (⟨#[32]⟩ : ByteArray) 3).bind fun t368 => (if (t368.length : Int) = 3 then (if 0 < (t368.length : Int) then ((impl_ReadDecimal.f k (rdOf ByteArray.empty t368 0)).bind fun bt372 => (if 1 < (t368.length : Int) then (if 2 < (t368.length : Int) then ((impl_FrameOf.f k bt372.1 (rdOf ByteArray.empty t368 1) (rdOf ByteArray.empty t368 2)).bind fun t377 => (if bt372.2 = true then (if t377.toList = ([] : List UInt8) then (some (0, (⟨#[]⟩ : ByteArray), (⟨#[]⟩ : ByteArray), 0)) else ((strings_HasPrefix.f x0 t377).bind fun t378 => (if t378 = true then (some (bt372.1, rdOf ByteArray.empty t368 1, rdOf ByteArray.empty t368 2, (t377.size : Int))) else (some (0, (⟨#[]⟩ : ByteArray), (⟨#[]⟩ : ByteArray), 0))))) else (some (0, (⟨#[]⟩ : ByteArray), (⟨#[]⟩ : ByteArray), 0)))) else (none)) else (none))) else (none)) else (some (0, (⟨#[]⟩ : ByteArray), (⟨#[]⟩ : ByteArray), 0)))) else (none)) else (none))
def impl_readFrame.f (k : Nat) (a0 : ByteArray) : Option (Int × ByteArray × ByteArray × Int) := (strings_Cut.f a0 (⟨#[58]⟩ : ByteArray)).bind fun bt362 => ((impl_ReadDecimal.f k bt362.1).bind fun bt365 => (if bt362.2.2 = true then (if bt365.2 = true then ((impl_within.f bt365.1 0 (bt362.2.1.size : Int)).bind fun t367 => (impl_readFrame.j0 k a0 bt362.2.1 bt365.1 (!t367))) else (impl_readFrame.j0 k a0 bt362.2.1 bt365.1 true)) else (impl_readFrame.j0 k a0 bt362.2.1 bt365.1 true)))
theorem impl_readFrame.mono_l : ∀ k, (∀ y0 y1 y2 y3, LeO (impl_readFrame.j0 k y0 y1 y2 y3) (impl_readFrame.j0 (k + 1) y0 y1 y2 y3))
 | 0 => fun _ _ _ _ r h => by simp [impl_readFrame.j0] at h
 | k + 1 => by
  have ih0 := impl_readFrame.mono_l k
  ·intro y0 y1 y2 y3
   unfold impl_readFrame.j0
   have m0 := @impl_FrameOf.mono
   have m1 := @impl_ReadDecimal.mono
   exact mo_
theorem impl_readFrame.mono : ∀ a0 k, LeO (impl_readFrame.f k a0) (impl_readFrame.f (k + 1) a0) := by
 intro a0 k
 have ih0 := impl_readFrame.mono_l k
 unfold impl_readFrame.f
 have m0 := @impl_FrameOf.mono
 have m1 := @impl_ReadDecimal.mono
 exact mo_
def impl_readFrame.T9 : Bool × List (List Nat × List Nat) := (true, [([], []), ([], []), ([1], [1]), ([2], [2]), ([], []), ([4], [4]), ([5], [5]), ([0, 3, 6], [0, 3, 6]), ([], []), ([8, 7, 0, 1, 2, 3, 4, 5, 6, 7, 8], [7, 8])])
def impl_readFrame.B9 : List Nat := [0, 0, 2, 6, 0, 16, 48, 127, 0, 511]
theorem impl_readFrame.tab9 : rtab .any (opsOf Tryz.f96 9) = impl_readFrame.T9 := by kernel_rfl
theorem impl_readFrame.bits9 : waitsOk impl_readFrame.T9.2 impl_readFrame.B9 = true := by kernel_rfl
theorem impl_readFrame.calls (k : Nat) (a0 : ByteArray) (r1 : Int) (r2 : ByteArray) (r3 : ByteArray) (r4 : Int) (w : World) (h : impl_readFrame.f k a0 = some (r1, r2, r3, r4)) (hT : Go.Proofs.YtkoeeajciciphaaGreatDoor.Base.Tb2 w) :
  Calls Tryz.prog 96 #[.string a0] w fun e w' => e = .returned (.tuple #[.agg #[.int .i64 r1, .string r2, .string r3], .int .i64 r4]) ∧ Below w.heap.size w w' := by
 have HTB := Aside0.mk hT
 clear hT
 have hu132 := Tryz.underlying132
 have HB := Aside0.mk (Below.refl w.heap.size w)
 have H := h
 clear h
 unfold impl_readFrame.f at H
 revert H
 refine bn_ ?_
 rintro ⟨t362, t363, t364⟩ A2 H
 revert H
 refine bn_ ?_
 rintro ⟨t365, t366⟩ A3 H
 have HC4 := Aside0.mk H
 clear H
 go_enter Tryz.func96, Tryz.ntmps96
 go_upto_region 3 with (first | ((with_reducible refine gd_ 2 rfl ?_); (try (refine gate_guard (by rfl) ?_; dsimp only)); refine bx_ #[.int .i64 0, .string (⟨#[]⟩ : ByteArray), .string (⟨#[]⟩ : ByteArray)] ?_; intro gb361 hg w5 BK361 hb; have GW361 := bsz_ hg; replace HB := bst_ hb; clear hb hg) | ((with_reducible refine gc_ 112 rfl ?_); refine cl_ Tryz.func112 (strings_Cut.calls _ _ _ _ _ _ A2.out (HTB.out.below bwl_)) ?_; intro w6 hb; replace BK361 := bkb_ BK361 hb; replace HB := bst_ hb; clear hb) | ((with_reducible refine gc_ 113 rfl ?_); refine cl_ Tryz.func113 (impl_ReadDecimal.calls _ _ _ _ _ A3.out (HTB.out.below bwl_)) ?_; intro w7 hb; replace BK361 := bkb_ BK361 hb; replace HB := bst_ hb; clear hb))
 (try simp only [Act.put, List.setIfInBounds_toArray, List.set_cons_zero, List.set_cons_succ])
 go_cut [37] (fun v37 wc => ∃ (kq : Nat) (x37_3 : Bool), v37 = .bool x37_3 ∧ Aside0 (impl_readFrame.j0 kq a0 t363 t365 x37_3 = some (r1, r2, r3, r4)) ∧ Aside0 (kq ≤ k) ∧ Aside0 (wc.heap[gb361]? = some (.cells #[.int .i64 0, .string (⟨#[]⟩ : ByteArray), .string (⟨#[]⟩ : ByteArray)] 132 (0, 0))) ∧ Aside0 (Below w.heap.size w wc))
 case first =>
  have H := HC4.out
  clear HC4
  revert H
  refine ib_ ?_ ?_ <;> rintro rfl H
  ·revert H
   refine ib_ ?_ ?_ <;> rintro rfl H
   ·revert H
    refine bn_ ?_
    intro t367 A10 H
    have H' := Aside0.mk H
    clear H
    go_wp2_with (first | (go_at_call 24; refine ca_ (impl_within.calls _ _ _ _ _ A10.out) ?_; rintro _ ⟨nd, rfl⟩))
    go_meet
    case rel => exact ⟨_, (!t367), re_, H', ⟨by first | omega | exact Nat.le_refl _⟩, ⟨by exact kb_ BK361⟩, ⟨bwl_⟩⟩
   ·have H' := Aside0.mk H
    clear H
    go_wp2
    go_meet
    case rel => exact ⟨_, (true), re_, H', ⟨by first | omega | exact Nat.le_refl _⟩, ⟨by exact kb_ BK361⟩, ⟨bwl_⟩⟩
  ·have H' := Aside0.mk H
   clear H
   go_wp2
   go_meet
   case rel => exact ⟨_, (true), re_, H', ⟨by first | omega | exact Nat.le_refl _⟩, ⟨by exact kb_ BK361⟩, ⟨bwl_⟩⟩
 case rest =>
  clear HC4
  obtain ⟨kq, x37_3, rfl, HA, HJ3, BK361, HB⟩ := hcut
  cases kq with
  | zero => exact absurd HA.out (by simp [impl_readFrame.j0])
  | succ kj3 =>
   have H := HA.out
   clear HA
   simp only [impl_readFrame.j0] at H
   revert H
   refine ib_ ?_ ?_ <;> rintro rfl H
   ·simp only [Option.some.injEq, Prod.mk.injEq] at H
    obtain ⟨rfl, rfl, rfl, rfl⟩ := H
    have hcz12_0 := c3_ BK361
    go_wp2
    refine bodyPost_ret (results_ct rfl _ _ gb361 132 #[.int .i64 0, .string (⟨#[]⟩ : ByteArray), .string (⟨#[]⟩ : ByteArray)] (0, 0) _ rfl (kbp_ BK361) Tryz.underlying132 rfl (by kernel_rfl)) rfl ?_
    exact ⟨rr_, bwl_⟩
   ·by_cases c13 : 0 ≤ t365
    ·rw [if_pos c13] at H
     have c13b0 := eq_true c13
     have c13b1 : decide (0 ≤ t365) = true := decide_eq_true c13
     clear c13
     by_cases c14 : t365 ≤ (t363.size : Int)
     ·rw [if_pos c14] at H
      have c14b0 := eq_true c14
      have c14b1 : decide (t365 ≤ (t363.size : Int)) = true := decide_eq_true c14
      clear c14
      revert H
      refine bn_ ?_
      intro t368 A15 H
      by_cases c16 : (t368.length : Int) = 3
      ·rw [if_pos c16] at H
       have c16b0 : ((t368.length : Int) == 3) = true := beq_iff_eq.mpr c16
       have c16b1 : ((t368.length : Int) != 3) = false := bne_eq_false_iff_eq.mpr c16
       clear c16
       by_cases c17 : 0 < (t368.length : Int)
       ·rw [if_pos c17] at H
        have c17b0 : decide (0 < (t368.length : Int)) = true := decide_eq_true c17
        have c17b1 : decide (0 < t368.length) = true := decide_eq_true (by omega)
        clear c17
        revert H
        refine bn_ ?_
        rintro ⟨t372, t373⟩ A18 H
        by_cases c19 : 1 < (t368.length : Int)
        ·rw [if_pos c19] at H
         have c19b0 : decide (1 < (t368.length : Int)) = true := decide_eq_true c19
         have c19b1 : decide (1 < t368.length) = true := decide_eq_true (by omega)
         clear c19
         by_cases c20 : 2 < (t368.length : Int)
         ·rw [if_pos c20] at H
          have c20b0 : decide (2 < (t368.length : Int)) = true := decide_eq_true c20
          have c20b1 : decide (2 < t368.length) = true := decide_eq_true (by omega)
          clear c20
          revert H
          refine bn_ ?_
          intro t377 A21 H
          revert H
          refine ib_ ?_ ?_ <;> rintro rfl H
          ·by_cases c23 : t377.toList = ([] : List UInt8)
           ·rw [if_pos c23] at H
            have c23b0 : (t377.toList == ([] : List UInt8)) = true := beq_iff_eq.mpr c23
            have c23b1 : (t377.toList != ([] : List UInt8)) = false := bne_eq_false_iff_eq.mpr c23
            clear c23
            simp only [Option.some.injEq, Prod.mk.injEq] at H
            obtain ⟨rfl, rfl, rfl, rfl⟩ := H
            try go_wp2_with (first | ((with_reducible refine gc_ 114 rfl ?_); refine ck_ Tryz.func114 (strings_SplitN.calls _ _ _ _ _ A15.out (HTB.out.below bwl_)) ?_; rintro e w24 ⟨v369, rfl, ho0, hb⟩; refine ⟨_, rfl, ?_⟩; have HO370 := kl_ ho0; replace BK361 := bkb_ BK361 hb; replace HB := bst_ hb; clear hb ho0; obtain ⟨Ao25, co25, eo25⟩ := Kd.R_slice HO370.out; subst eo25; have p371 : 0 ≤ (0 : Int) := (by omega); have q371 : 0 < (t368.length : Int) := od_; obtain ⟨ad371, e371, hx371_0⟩ := Kd.at_string (Kd.R_reads' HO370.out).2.2 0 p371 q371; cases e371; have qi371 : (0 < t368.length) = True := eq_true (by omega); (try rw [show ((0 : Int)).toNat = 0 from rfl] at hx371_0); (try rw [Addr.add_zero'] at hx371_0); replace p371 := eq_true p371; replace q371 := eq_true q371) | ((with_reducible refine gc_ 113 rfl ?_); refine cl_ Tryz.func113 (impl_ReadDecimal.calls _ _ _ _ _ A18.out (HTB.out.below bwl_)) ?_; intro w26 hb; replace HO370 := kr_ HO370 hb; replace BK361 := bkb_ BK361 hb; replace HB := bst_ hb; clear hb))
            replace HO370 := Aside0.mk (Kd.R_drew HO370.out)
            replace BK361 := Aside0.mk (blk_drew BK361.out)
            replace HB := Aside0.mk (below_drew1 HB.out)
            have p374 : 0 ≤ (1 : Int) := (by omega)
            have q374 : 1 < (t368.length : Int) := od_
            obtain ⟨ad374, e374, hx374_0⟩ := Kd.at_string (Kd.R_reads' HO370.out).2.2 1 p374 q374
            obtain rfl : ad371 = ad374 := (by injection e374)
            (try simp only [show (1 : Int).toNat = 1 from rfl, Nat.reduceMul, Nat.reduceEqDiff, Go.Addr.add, ↓reduceIte] at hx374_0)
            have qi374 : (1 < t368.length) = True := eq_true (by omega)
            (try rw [show ((1 : Int)).toNat = 1 from rfl] at hx374_0)
            replace p374 := eq_true p374
            replace q374 := eq_true q374
            have p375 : 0 ≤ (2 : Int) := (by omega)
            have q375 : 2 < (t368.length : Int) := od_
            obtain ⟨ad375, e375, hx375_0⟩ := Kd.at_string (Kd.R_reads' HO370.out).2.2 2 p375 q375
            obtain rfl : ad371 = ad375 := (by injection e375)
            (try simp only [show (2 : Int).toNat = 2 from rfl, Nat.reduceMul, Nat.reduceEqDiff, Go.Addr.add, ↓reduceIte] at hx375_0)
            have qi375 : (2 < t368.length) = True := eq_true (by omega)
            (try rw [show ((2 : Int)).toNat = 2 from rfl] at hx375_0)
            replace p375 := eq_true p375
            replace q375 := eq_true q375
            refine start_ (n := 10) (S := fun w' => w'.cell? ⟨ad371.block, ad371.off + 1, none⟩ = some (.string (rdOf ByteArray.empty t368 1)) ∧ w'.cell? ⟨ad371.block, ad371.off + 2, none⟩ = some (.string (rdOf ByteArray.empty t368 2))) (ds := []) (fl 10 0) (by kernel_rfl) rfl rfl ⟨hx374_0, hx375_0⟩ (fun hHeld => ?_); refine with_tabW impl_readFrame.tab9 impl_readFrame.bits9 (fun HT_ HW_ => ?_)
            generalize w26.drew = w27 at HO370 BK361 HB hx374_0 hx375_0 hHeld ⊢
            refine pu_ (i := 0) (N := some 54) (fl 10 1) (any_of HT_.out (by kernel_rfl)) ?_
            refine pu_ (i := 1) (N := some 55) (fl 10 3) (any_of HT_.out (by kernel_rfl)) ?_
            refine pu_ (i := 2) (N := some 56) (fl 10 7) (any_of HT_.out (by kernel_rfl)) ?_
            refine pu_ (i := 4) (N := some 58) (fl 10 23) (any_of HT_.out (by kernel_rfl)) ?_
            refine pu_ (i := 5) (N := some 59) (fl 10 55) (any_of HT_.out (by kernel_rfl)) ?_
            refine take_ (i := 3) (N := some 57) (v := ?_) (a' := ?_) (fl 10 63) rfl rfl (take_ofW HT_.out HW_.out (by kernel_rfl)) (fun _ _ _ h => h) (Or.inl ⟨by rfl, ?_⟩) hHeld ?_ ?_
            rotate_left
            ·rintro w' ⟨s0, s1⟩
             go_simp
             with_reducible rfl
            rotate_left
            ·simp only [Act.put, List.setIfInBounds_toArray, List.set_cons_zero, List.set_cons_succ, i64_w, i32_w]
             rfl
            refine take_ (i := 6) (N := some 60) (v := ?_) (a' := ?_) (fl 10 127) rfl rfl (take_ofW HT_.out HW_.out (by kernel_rfl)) (fun _ _ _ h => h) (Or.inl ⟨by rfl, ?_⟩) hHeld ?_ ?_
            rotate_left
            ·rintro w' ⟨s0, s1⟩
             go_simp
             with_reducible rfl
            rotate_left
            ·simp only [Act.put, List.setIfInBounds_toArray, List.set_cons_zero, List.set_cons_succ, i64_w, i32_w]
             rfl
            refine pu_ (i := 7) (N := some 61) (fl 10 255) (any_of HT_.out (by kernel_rfl)) ?_
            refine one_ (i := 8) (N := some 12) (fl 10 511) rfl rfl (one_of HT_.out (by kernel_rfl)) (by decide) (fun K hK => ?_)
            refine box_step ?hg (N := 12) ?hd (cs := #[.int .i64 0, .string (⟨#[]⟩ : ByteArray), .string (⟨#[]⟩ : ByteArray)]) (t := 132) ?hr ?_; (case hd => rfl); (case hg => rfl); (case hr => first | (go_simp; done) | (go_simp; rfl))
            intro gb376 hg w28 hbox hb
            have HS0_ := (hb.cell (World.block_lt_of_cell? _ _ (hHeld.1))).trans (hHeld.1)
            have HS1_ := (hb.cell (World.block_lt_of_cell? _ _ (hHeld.2))).trans (hHeld.2)
            replace HO370 := kr_ HO370 hb
            have BK376 := Aside0.mk (hbox)
            have GW376 := bsz_ hg
            have GE376 := bsz_ hg
            replace HB := bst_ hb
            have NB361_376 := nbl_ BK361 hg
            have NB376_361 := nbr_ BK361 hg
            replace BK361 := bkb_ BK361 hb
            clear hb hbox hg
            refine hK.out _ _ ⟨HS0_, HS1_⟩ (fun hHeld => ?_)
            clear hK K
            refine norm_ (a' := ?_) ?_ ?_
            rotate_left
            ·show Act.put _ (some 12) _ = _
             simp only [Act.put, List.setIfInBounds_toArray, List.set_cons_zero, List.set_cons_succ, i64_w, i32_w]
             rfl
            refine one_ (i := 9) (N := none) (fl 10 1023) rfl rfl (one_of HT_.out (by kernel_rfl)) (by decide) (fun K hK => ?_)
            have hs29 : w28.cell? ⟨gb376, 0, none⟩ = some (.int .i64 0) := (blk_cell BK376.out 0).trans rfl
            have hfs29 := blk_frozen BK376.out 0
            have hns29_0 := NB361_376.out
            have hms29_0 := NB376_361.out
            have hs30 : w28.cell? ⟨gb376, 1, none⟩ = some (.string (⟨#[]⟩ : ByteArray)) := (blk_cell BK376.out 1).trans rfl
            have hfs30 := blk_frozen BK376.out 1
            have hns30_0 := NB361_376.out
            have hms30_0 := NB376_361.out
            have hs31 : w28.cell? ⟨gb376, 2, none⟩ = some (.string (⟨#[]⟩ : ByteArray)) := (blk_cell BK376.out 2).trans rfl
            have hfs31 := blk_frozen BK376.out 2
            have hns31_0 := NB361_376.out
            have hms31_0 := NB376_361.out
            refine skip_ (w1 := ?_) (by rfl) rfl ?_ ?_
            rotate_left
            ·go_simp
             rfl
            refine hK.out _ _ ⟨((cell_far (p := ⟨gb376, _, none⟩) (by first | exact Kd.own_blk (Kd.R_ne HO370.out BK376.out (by decide)) | (rw [add_block]; exact Kd.own_blk (Kd.R_ne HO370.out BK376.out (by decide))) | (show (Addr.add _ _).block ≠ _; rw [add_block]; exact Kd.own_blk (Kd.R_ne HO370.out BK376.out (by decide))) | (dsimp only; exact Kd.own_blk (Kd.R_ne HO370.out BK376.out (by decide)))) _).trans (((cell_far (p := ⟨gb376, _, none⟩) (by first | exact Kd.own_blk (Kd.R_ne HO370.out BK376.out (by decide)) | (rw [add_block]; exact Kd.own_blk (Kd.R_ne HO370.out BK376.out (by decide))) | (show (Addr.add _ _).block ≠ _; rw [add_block]; exact Kd.own_blk (Kd.R_ne HO370.out BK376.out (by decide))) | (dsimp only; exact Kd.own_blk (Kd.R_ne HO370.out BK376.out (by decide)))) _).trans (((cell_far (p := ⟨gb376, _, none⟩) (by first | exact Kd.own_blk (Kd.R_ne HO370.out BK376.out (by decide)) | (rw [add_block]; exact Kd.own_blk (Kd.R_ne HO370.out BK376.out (by decide))) | (show (Addr.add _ _).block ≠ _; rw [add_block]; exact Kd.own_blk (Kd.R_ne HO370.out BK376.out (by decide))) | (dsimp only; exact Kd.own_blk (Kd.R_ne HO370.out BK376.out (by decide)))) _).trans (hHeld.1)))))), ((cell_far (p := ⟨gb376, _, none⟩) (by first | exact Kd.own_blk (Kd.R_ne HO370.out BK376.out (by decide)) | (rw [add_block]; exact Kd.own_blk (Kd.R_ne HO370.out BK376.out (by decide))) | (show (Addr.add _ _).block ≠ _; rw [add_block]; exact Kd.own_blk (Kd.R_ne HO370.out BK376.out (by decide))) | (dsimp only; exact Kd.own_blk (Kd.R_ne HO370.out BK376.out (by decide)))) _).trans (((cell_far (p := ⟨gb376, _, none⟩) (by first | exact Kd.own_blk (Kd.R_ne HO370.out BK376.out (by decide)) | (rw [add_block]; exact Kd.own_blk (Kd.R_ne HO370.out BK376.out (by decide))) | (show (Addr.add _ _).block ≠ _; rw [add_block]; exact Kd.own_blk (Kd.R_ne HO370.out BK376.out (by decide))) | (dsimp only; exact Kd.own_blk (Kd.R_ne HO370.out BK376.out (by decide)))) _).trans (((cell_far (p := ⟨gb376, _, none⟩) (by first | exact Kd.own_blk (Kd.R_ne HO370.out BK376.out (by decide)) | (rw [add_block]; exact Kd.own_blk (Kd.R_ne HO370.out BK376.out (by decide))) | (show (Addr.add _ _).block ≠ _; rw [add_block]; exact Kd.own_blk (Kd.R_ne HO370.out BK376.out (by decide))) | (dsimp only; exact Kd.own_blk (Kd.R_ne HO370.out BK376.out (by decide)))) _).trans (hHeld.2))))))⟩ (fun hHeld => ?_)
            clear hK K
            refine done_ (done_of HT_.out (by kernel_rfl)) ?_
            have hnb32 := NB376_361.out
            have hnc32 := NB361_376.out
            have hcz33_0 := c3_ BK376
            try go_wp2_with (first | ((with_reducible refine gc_ 115 rfl ?_); refine cl_ Tryz.func115 (impl_FrameOf.calls _ _ _ _ _ _ A21.out (HTB.out.below bwl_)) ?_; intro w34 hb; replace HO370 := krs_ HO370 hb; replace BK361 := bkb_ BK361 hb; replace BK376 := kb3_ BK376 hb; replace HB := bst_ hb; clear hb; have hcz35_0 := c3_ BK361))
            refine bodyPost_ret (results_ct rfl _ _ gb361 132 #[.int .i64 0, .string (⟨#[]⟩ : ByteArray), .string (⟨#[]⟩ : ByteArray)] (0, 0) _ rfl (kbp_ BK361) Tryz.underlying132 rfl (by kernel_rfl)) rfl ?_
            exact ⟨rr_, bwl_⟩
           ·rw [if_neg c23] at H
            have c23b0 : (t377.toList == ([] : List UInt8)) = false := beq_eq_false_iff_ne.mpr c23
            have c23b1 : (t377.toList != ([] : List UInt8)) = true := bne_iff_ne.mpr c23
            revert H
            refine bn_ ?_
            intro t378 A36 H
            revert H
            refine ib_ ?_ ?_ <;> rintro rfl H
            ·simp only [Option.some.injEq, Prod.mk.injEq] at H
             obtain ⟨rfl, rfl, rfl, rfl⟩ := H
             try go_wp2_with (first | ((with_reducible refine gc_ 114 rfl ?_); refine ck_ Tryz.func114 (strings_SplitN.calls _ _ _ _ _ A15.out (HTB.out.below bwl_)) ?_; rintro e w38 ⟨v369, rfl, ho0, hb⟩; refine ⟨_, rfl, ?_⟩; have HO370 := kl_ ho0; replace BK361 := bkb_ BK361 hb; replace HB := bst_ hb; clear hb ho0; obtain ⟨Ao39, co39, eo39⟩ := Kd.R_slice HO370.out; subst eo39; have p371 : 0 ≤ (0 : Int) := (by omega); have q371 : 0 < (t368.length : Int) := od_; obtain ⟨ad371, e371, hx371_0⟩ := Kd.at_string (Kd.R_reads' HO370.out).2.2 0 p371 q371; cases e371; have qi371 : (0 < t368.length) = True := eq_true (by omega); (try rw [show ((0 : Int)).toNat = 0 from rfl] at hx371_0); (try rw [Addr.add_zero'] at hx371_0); replace p371 := eq_true p371; replace q371 := eq_true q371) | ((with_reducible refine gc_ 113 rfl ?_); refine cl_ Tryz.func113 (impl_ReadDecimal.calls _ _ _ _ _ A18.out (HTB.out.below bwl_)) ?_; intro w40 hb; replace HO370 := kr_ HO370 hb; replace BK361 := bkb_ BK361 hb; replace HB := bst_ hb; clear hb))
             replace HO370 := Aside0.mk (Kd.R_drew HO370.out)
             replace BK361 := Aside0.mk (blk_drew BK361.out)
             replace HB := Aside0.mk (below_drew1 HB.out)
             have p374 : 0 ≤ (1 : Int) := (by omega)
             have q374 : 1 < (t368.length : Int) := od_
             obtain ⟨ad374, e374, hx374_0⟩ := Kd.at_string (Kd.R_reads' HO370.out).2.2 1 p374 q374
             obtain rfl : ad371 = ad374 := (by injection e374)
             (try simp only [show (1 : Int).toNat = 1 from rfl, Nat.reduceMul, Nat.reduceEqDiff, Go.Addr.add, ↓reduceIte] at hx374_0)
             have qi374 : (1 < t368.length) = True := eq_true (by omega)
             (try rw [show ((1 : Int)).toNat = 1 from rfl] at hx374_0)
             replace p374 := eq_true p374
             replace q374 := eq_true q374
             have p375 : 0 ≤ (2 : Int) := (by omega)
             have q375 : 2 < (t368.length : Int) := od_
             obtain ⟨ad375, e375, hx375_0⟩ := Kd.at_string (Kd.R_reads' HO370.out).2.2 2 p375 q375
             obtain rfl : ad371 = ad375 := (by injection e375)
             (try simp only [show (2 : Int).toNat = 2 from rfl, Nat.reduceMul, Nat.reduceEqDiff, Go.Addr.add, ↓reduceIte] at hx375_0)
             have qi375 : (2 < t368.length) = True := eq_true (by omega)
             (try rw [show ((2 : Int)).toNat = 2 from rfl] at hx375_0)
             replace p375 := eq_true p375
             replace q375 := eq_true q375
             refine start_ (n := 10) (S := fun w' => w'.cell? ⟨ad371.block, ad371.off + 1, none⟩ = some (.string (rdOf ByteArray.empty t368 1)) ∧ w'.cell? ⟨ad371.block, ad371.off + 2, none⟩ = some (.string (rdOf ByteArray.empty t368 2))) (ds := []) (fl 10 0) (by kernel_rfl) rfl rfl ⟨hx374_0, hx375_0⟩ (fun hHeld => ?_); refine with_tabW impl_readFrame.tab9 impl_readFrame.bits9 (fun HT_ HW_ => ?_)
             generalize w40.drew = w41 at HO370 BK361 HB hx374_0 hx375_0 hHeld ⊢
             refine pu_ (i := 0) (N := some 54) (fl 10 1) (any_of HT_.out (by kernel_rfl)) ?_
             refine pu_ (i := 1) (N := some 55) (fl 10 3) (any_of HT_.out (by kernel_rfl)) ?_
             refine pu_ (i := 2) (N := some 56) (fl 10 7) (any_of HT_.out (by kernel_rfl)) ?_
             refine pu_ (i := 4) (N := some 58) (fl 10 23) (any_of HT_.out (by kernel_rfl)) ?_
             refine pu_ (i := 5) (N := some 59) (fl 10 55) (any_of HT_.out (by kernel_rfl)) ?_
             refine take_ (i := 3) (N := some 57) (v := ?_) (a' := ?_) (fl 10 63) rfl rfl (take_ofW HT_.out HW_.out (by kernel_rfl)) (fun _ _ _ h => h) (Or.inl ⟨by rfl, ?_⟩) hHeld ?_ ?_
             rotate_left
             ·rintro w' ⟨s0, s1⟩
              go_simp
              with_reducible rfl
             rotate_left
             ·simp only [Act.put, List.setIfInBounds_toArray, List.set_cons_zero, List.set_cons_succ, i64_w, i32_w]
              rfl
             refine take_ (i := 6) (N := some 60) (v := ?_) (a' := ?_) (fl 10 127) rfl rfl (take_ofW HT_.out HW_.out (by kernel_rfl)) (fun _ _ _ h => h) (Or.inl ⟨by rfl, ?_⟩) hHeld ?_ ?_
             rotate_left
             ·rintro w' ⟨s0, s1⟩
              go_simp
              with_reducible rfl
             rotate_left
             ·simp only [Act.put, List.setIfInBounds_toArray, List.set_cons_zero, List.set_cons_succ, i64_w, i32_w]
              rfl
             refine pu_ (i := 7) (N := some 61) (fl 10 255) (any_of HT_.out (by kernel_rfl)) ?_
             refine one_ (i := 8) (N := some 12) (fl 10 511) rfl rfl (one_of HT_.out (by kernel_rfl)) (by decide) (fun K hK => ?_)
             refine box_step ?hg (N := 12) ?hd (cs := #[.int .i64 0, .string (⟨#[]⟩ : ByteArray), .string (⟨#[]⟩ : ByteArray)]) (t := 132) ?hr ?_; (case hd => rfl); (case hg => rfl); (case hr => first | (go_simp; done) | (go_simp; rfl))
             intro gb376 hg w42 hbox hb
             have HS0_ := (hb.cell (World.block_lt_of_cell? _ _ (hHeld.1))).trans (hHeld.1)
             have HS1_ := (hb.cell (World.block_lt_of_cell? _ _ (hHeld.2))).trans (hHeld.2)
             replace HO370 := kr_ HO370 hb
             have BK376 := Aside0.mk (hbox)
             have GW376 := bsz_ hg
             have GE376 := bsz_ hg
             replace HB := bst_ hb
             have NB361_376 := nbl_ BK361 hg
             have NB376_361 := nbr_ BK361 hg
             replace BK361 := bkb_ BK361 hb
             clear hb hbox hg
             refine hK.out _ _ ⟨HS0_, HS1_⟩ (fun hHeld => ?_)
             clear hK K
             refine norm_ (a' := ?_) ?_ ?_
             rotate_left
             ·show Act.put _ (some 12) _ = _
              simp only [Act.put, List.setIfInBounds_toArray, List.set_cons_zero, List.set_cons_succ, i64_w, i32_w]
              rfl
             refine one_ (i := 9) (N := none) (fl 10 1023) rfl rfl (one_of HT_.out (by kernel_rfl)) (by decide) (fun K hK => ?_)
             have hs43 : w42.cell? ⟨gb376, 0, none⟩ = some (.int .i64 0) := (blk_cell BK376.out 0).trans rfl
             have hfs43 := blk_frozen BK376.out 0
             have hns43_0 := NB361_376.out
             have hms43_0 := NB376_361.out
             have hs44 : w42.cell? ⟨gb376, 1, none⟩ = some (.string (⟨#[]⟩ : ByteArray)) := (blk_cell BK376.out 1).trans rfl
             have hfs44 := blk_frozen BK376.out 1
             have hns44_0 := NB361_376.out
             have hms44_0 := NB376_361.out
             have hs45 : w42.cell? ⟨gb376, 2, none⟩ = some (.string (⟨#[]⟩ : ByteArray)) := (blk_cell BK376.out 2).trans rfl
             have hfs45 := blk_frozen BK376.out 2
             have hns45_0 := NB361_376.out
             have hms45_0 := NB376_361.out
             refine skip_ (w1 := ?_) (by rfl) rfl ?_ ?_
             rotate_left
             ·go_simp
              rfl
             refine hK.out _ _ ⟨((cell_far (p := ⟨gb376, _, none⟩) (by first | exact Kd.own_blk (Kd.R_ne HO370.out BK376.out (by decide)) | (rw [add_block]; exact Kd.own_blk (Kd.R_ne HO370.out BK376.out (by decide))) | (show (Addr.add _ _).block ≠ _; rw [add_block]; exact Kd.own_blk (Kd.R_ne HO370.out BK376.out (by decide))) | (dsimp only; exact Kd.own_blk (Kd.R_ne HO370.out BK376.out (by decide)))) _).trans (((cell_far (p := ⟨gb376, _, none⟩) (by first | exact Kd.own_blk (Kd.R_ne HO370.out BK376.out (by decide)) | (rw [add_block]; exact Kd.own_blk (Kd.R_ne HO370.out BK376.out (by decide))) | (show (Addr.add _ _).block ≠ _; rw [add_block]; exact Kd.own_blk (Kd.R_ne HO370.out BK376.out (by decide))) | (dsimp only; exact Kd.own_blk (Kd.R_ne HO370.out BK376.out (by decide)))) _).trans (((cell_far (p := ⟨gb376, _, none⟩) (by first | exact Kd.own_blk (Kd.R_ne HO370.out BK376.out (by decide)) | (rw [add_block]; exact Kd.own_blk (Kd.R_ne HO370.out BK376.out (by decide))) | (show (Addr.add _ _).block ≠ _; rw [add_block]; exact Kd.own_blk (Kd.R_ne HO370.out BK376.out (by decide))) | (dsimp only; exact Kd.own_blk (Kd.R_ne HO370.out BK376.out (by decide)))) _).trans (hHeld.1)))))), ((cell_far (p := ⟨gb376, _, none⟩) (by first | exact Kd.own_blk (Kd.R_ne HO370.out BK376.out (by decide)) | (rw [add_block]; exact Kd.own_blk (Kd.R_ne HO370.out BK376.out (by decide))) | (show (Addr.add _ _).block ≠ _; rw [add_block]; exact Kd.own_blk (Kd.R_ne HO370.out BK376.out (by decide))) | (dsimp only; exact Kd.own_blk (Kd.R_ne HO370.out BK376.out (by decide)))) _).trans (((cell_far (p := ⟨gb376, _, none⟩) (by first | exact Kd.own_blk (Kd.R_ne HO370.out BK376.out (by decide)) | (rw [add_block]; exact Kd.own_blk (Kd.R_ne HO370.out BK376.out (by decide))) | (show (Addr.add _ _).block ≠ _; rw [add_block]; exact Kd.own_blk (Kd.R_ne HO370.out BK376.out (by decide))) | (dsimp only; exact Kd.own_blk (Kd.R_ne HO370.out BK376.out (by decide)))) _).trans (((cell_far (p := ⟨gb376, _, none⟩) (by first | exact Kd.own_blk (Kd.R_ne HO370.out BK376.out (by decide)) | (rw [add_block]; exact Kd.own_blk (Kd.R_ne HO370.out BK376.out (by decide))) | (show (Addr.add _ _).block ≠ _; rw [add_block]; exact Kd.own_blk (Kd.R_ne HO370.out BK376.out (by decide))) | (dsimp only; exact Kd.own_blk (Kd.R_ne HO370.out BK376.out (by decide)))) _).trans (hHeld.2))))))⟩ (fun hHeld => ?_)
             clear hK K
             refine done_ (done_of HT_.out (by kernel_rfl)) ?_
             have hnb46 := NB376_361.out
             have hnc46 := NB361_376.out
             have hcz47_0 := c3_ BK376
             try go_wp2_with (first | ((with_reducible refine gc_ 115 rfl ?_); refine cl_ Tryz.func115 (impl_FrameOf.calls _ _ _ _ _ _ A21.out (HTB.out.below bwl_)) ?_; intro w48 hb; replace HO370 := krs_ HO370 hb; replace BK361 := bkb_ BK361 hb; replace BK376 := kb3_ BK376 hb; replace HB := bst_ hb; clear hb) | (go_at_call 116; refine ca_ (strings_HasPrefix.calls _ _ _ _ A36.out) ?_; rintro _ ⟨nd, rfl⟩; (try (rw [drewN_self w48]; generalize hq_ : World.drewN w48 _ = w48; have n0_ : Aside0 (Kd.R Kd.string 9 w48 w.heap.size (fun _ => True) (.slice (some ad371) t368.length co39) t368) := ⟨by rw [← hq_]; exact (ks_ HO370)⟩; have n1_ : Aside0 (w48.heap[gb361]? = some (.cells #[.int .i64 0, .string (⟨#[]⟩ : ByteArray), .string (⟨#[]⟩ : ByteArray)] 132 (0, 0))) := ⟨by rw [← hq_]; exact (by exact kb_ BK361)⟩; have n2_ : Aside0 (w48.heap[gb376]? = some (.cells #[.int .i64 t372, .string (rdOf ByteArray.empty t368 1), .string (rdOf ByteArray.empty t368 2)] 132 (0, 0))) := ⟨by rw [← hq_]; exact (by exact kb_ BK376)⟩; have n3_ : Aside0 (Below w.heap.size w w48) := ⟨by rw [← hq_]; exact bwl_⟩; clear HO370 BK361 BK376 HB hq_; have HO370 := n0_; have BK361 := n1_; have BK376 := n2_; have HB := n3_; clear n0_ n1_ n2_ n3_)); have hcz49_0 := c3_ BK376; have hcz49_1 := c3_ BK361))
             refine bodyPost_ret (results_ct rfl _ _ gb361 132 #[.int .i64 t372, .string (rdOf ByteArray.empty t368 1), .string (rdOf ByteArray.empty t368 2)] (0, 0) _ rfl (kbp_ BK361) Tryz.underlying132 rfl (by kernel_rfl)) rfl ?_
             exact ⟨rr_, bwl_⟩
            ·simp only [Option.some.injEq, Prod.mk.injEq] at H
             obtain ⟨rfl, rfl, rfl, rfl⟩ := H
             try go_wp2_with (first | ((with_reducible refine gc_ 114 rfl ?_); refine ck_ Tryz.func114 (strings_SplitN.calls _ _ _ _ _ A15.out (HTB.out.below bwl_)) ?_; rintro e w51 ⟨v369, rfl, ho0, hb⟩; refine ⟨_, rfl, ?_⟩; have HO370 := kl_ ho0; replace BK361 := bkb_ BK361 hb; replace HB := bst_ hb; clear hb ho0; obtain ⟨Ao52, co52, eo52⟩ := Kd.R_slice HO370.out; subst eo52; have p371 : 0 ≤ (0 : Int) := (by omega); have q371 : 0 < (t368.length : Int) := od_; obtain ⟨ad371, e371, hx371_0⟩ := Kd.at_string (Kd.R_reads' HO370.out).2.2 0 p371 q371; cases e371; have qi371 : (0 < t368.length) = True := eq_true (by omega); (try rw [show ((0 : Int)).toNat = 0 from rfl] at hx371_0); (try rw [Addr.add_zero'] at hx371_0); replace p371 := eq_true p371; replace q371 := eq_true q371) | ((with_reducible refine gc_ 113 rfl ?_); refine cl_ Tryz.func113 (impl_ReadDecimal.calls _ _ _ _ _ A18.out (HTB.out.below bwl_)) ?_; intro w53 hb; replace HO370 := kr_ HO370 hb; replace BK361 := bkb_ BK361 hb; replace HB := bst_ hb; clear hb))
             replace HO370 := Aside0.mk (Kd.R_drew HO370.out)
             replace BK361 := Aside0.mk (blk_drew BK361.out)
             replace HB := Aside0.mk (below_drew1 HB.out)
             have p374 : 0 ≤ (1 : Int) := (by omega)
             have q374 : 1 < (t368.length : Int) := od_
             obtain ⟨ad374, e374, hx374_0⟩ := Kd.at_string (Kd.R_reads' HO370.out).2.2 1 p374 q374
             obtain rfl : ad371 = ad374 := (by injection e374)
             (try simp only [show (1 : Int).toNat = 1 from rfl, Nat.reduceMul, Nat.reduceEqDiff, Go.Addr.add, ↓reduceIte] at hx374_0)
             have qi374 : (1 < t368.length) = True := eq_true (by omega)
             (try rw [show ((1 : Int)).toNat = 1 from rfl] at hx374_0)
             replace p374 := eq_true p374
             replace q374 := eq_true q374
             have p375 : 0 ≤ (2 : Int) := (by omega)
             have q375 : 2 < (t368.length : Int) := od_
             obtain ⟨ad375, e375, hx375_0⟩ := Kd.at_string (Kd.R_reads' HO370.out).2.2 2 p375 q375
             obtain rfl : ad371 = ad375 := (by injection e375)
             (try simp only [show (2 : Int).toNat = 2 from rfl, Nat.reduceMul, Nat.reduceEqDiff, Go.Addr.add, ↓reduceIte] at hx375_0)
             have qi375 : (2 < t368.length) = True := eq_true (by omega)
             (try rw [show ((2 : Int)).toNat = 2 from rfl] at hx375_0)
             replace p375 := eq_true p375
             replace q375 := eq_true q375
             refine start_ (n := 10) (S := fun w' => w'.cell? ⟨ad371.block, ad371.off + 1, none⟩ = some (.string (rdOf ByteArray.empty t368 1)) ∧ w'.cell? ⟨ad371.block, ad371.off + 2, none⟩ = some (.string (rdOf ByteArray.empty t368 2))) (ds := []) (fl 10 0) (by kernel_rfl) rfl rfl ⟨hx374_0, hx375_0⟩ (fun hHeld => ?_); refine with_tabW impl_readFrame.tab9 impl_readFrame.bits9 (fun HT_ HW_ => ?_)
             generalize w53.drew = w54 at HO370 BK361 HB hx374_0 hx375_0 hHeld ⊢
             refine pu_ (i := 0) (N := some 54) (fl 10 1) (any_of HT_.out (by kernel_rfl)) ?_
             refine pu_ (i := 1) (N := some 55) (fl 10 3) (any_of HT_.out (by kernel_rfl)) ?_
             refine pu_ (i := 2) (N := some 56) (fl 10 7) (any_of HT_.out (by kernel_rfl)) ?_
             refine pu_ (i := 4) (N := some 58) (fl 10 23) (any_of HT_.out (by kernel_rfl)) ?_
             refine pu_ (i := 5) (N := some 59) (fl 10 55) (any_of HT_.out (by kernel_rfl)) ?_
             refine take_ (i := 3) (N := some 57) (v := ?_) (a' := ?_) (fl 10 63) rfl rfl (take_ofW HT_.out HW_.out (by kernel_rfl)) (fun _ _ _ h => h) (Or.inl ⟨by rfl, ?_⟩) hHeld ?_ ?_
             rotate_left
             ·rintro w' ⟨s0, s1⟩
              go_simp
              with_reducible rfl
             rotate_left
             ·simp only [Act.put, List.setIfInBounds_toArray, List.set_cons_zero, List.set_cons_succ, i64_w, i32_w]
              rfl
             refine take_ (i := 6) (N := some 60) (v := ?_) (a' := ?_) (fl 10 127) rfl rfl (take_ofW HT_.out HW_.out (by kernel_rfl)) (fun _ _ _ h => h) (Or.inl ⟨by rfl, ?_⟩) hHeld ?_ ?_
             rotate_left
             ·rintro w' ⟨s0, s1⟩
              go_simp
              with_reducible rfl
             rotate_left
             ·simp only [Act.put, List.setIfInBounds_toArray, List.set_cons_zero, List.set_cons_succ, i64_w, i32_w]
              rfl
             refine pu_ (i := 7) (N := some 61) (fl 10 255) (any_of HT_.out (by kernel_rfl)) ?_
             refine one_ (i := 8) (N := some 12) (fl 10 511) rfl rfl (one_of HT_.out (by kernel_rfl)) (by decide) (fun K hK => ?_)
             refine box_step ?hg (N := 12) ?hd (cs := #[.int .i64 0, .string (⟨#[]⟩ : ByteArray), .string (⟨#[]⟩ : ByteArray)]) (t := 132) ?hr ?_; (case hd => rfl); (case hg => rfl); (case hr => first | (go_simp; done) | (go_simp; rfl))
             intro gb376 hg w55 hbox hb
             have HS0_ := (hb.cell (World.block_lt_of_cell? _ _ (hHeld.1))).trans (hHeld.1)
             have HS1_ := (hb.cell (World.block_lt_of_cell? _ _ (hHeld.2))).trans (hHeld.2)
             replace HO370 := kr_ HO370 hb
             have BK376 := Aside0.mk (hbox)
             have GW376 := bsz_ hg
             have GE376 := bsz_ hg
             replace HB := bst_ hb
             have NB361_376 := nbl_ BK361 hg
             have NB376_361 := nbr_ BK361 hg
             replace BK361 := bkb_ BK361 hb
             clear hb hbox hg
             refine hK.out _ _ ⟨HS0_, HS1_⟩ (fun hHeld => ?_)
             clear hK K
             refine norm_ (a' := ?_) ?_ ?_
             rotate_left
             ·show Act.put _ (some 12) _ = _
              simp only [Act.put, List.setIfInBounds_toArray, List.set_cons_zero, List.set_cons_succ, i64_w, i32_w]
              rfl
             refine one_ (i := 9) (N := none) (fl 10 1023) rfl rfl (one_of HT_.out (by kernel_rfl)) (by decide) (fun K hK => ?_)
             have hs56 : w55.cell? ⟨gb376, 0, none⟩ = some (.int .i64 0) := (blk_cell BK376.out 0).trans rfl
             have hfs56 := blk_frozen BK376.out 0
             have hns56_0 := NB361_376.out
             have hms56_0 := NB376_361.out
             have hs57 : w55.cell? ⟨gb376, 1, none⟩ = some (.string (⟨#[]⟩ : ByteArray)) := (blk_cell BK376.out 1).trans rfl
             have hfs57 := blk_frozen BK376.out 1
             have hns57_0 := NB361_376.out
             have hms57_0 := NB376_361.out
             have hs58 : w55.cell? ⟨gb376, 2, none⟩ = some (.string (⟨#[]⟩ : ByteArray)) := (blk_cell BK376.out 2).trans rfl
             have hfs58 := blk_frozen BK376.out 2
             have hns58_0 := NB361_376.out
             have hms58_0 := NB376_361.out
             refine skip_ (w1 := ?_) (by rfl) rfl ?_ ?_
             rotate_left
             ·go_simp
              rfl
             refine hK.out _ _ ⟨((cell_far (p := ⟨gb376, _, none⟩) (by first | exact Kd.own_blk (Kd.R_ne HO370.out BK376.out (by decide)) | (rw [add_block]; exact Kd.own_blk (Kd.R_ne HO370.out BK376.out (by decide))) | (show (Addr.add _ _).block ≠ _; rw [add_block]; exact Kd.own_blk (Kd.R_ne HO370.out BK376.out (by decide))) | (dsimp only; exact Kd.own_blk (Kd.R_ne HO370.out BK376.out (by decide)))) _).trans (((cell_far (p := ⟨gb376, _, none⟩) (by first | exact Kd.own_blk (Kd.R_ne HO370.out BK376.out (by decide)) | (rw [add_block]; exact Kd.own_blk (Kd.R_ne HO370.out BK376.out (by decide))) | (show (Addr.add _ _).block ≠ _; rw [add_block]; exact Kd.own_blk (Kd.R_ne HO370.out BK376.out (by decide))) | (dsimp only; exact Kd.own_blk (Kd.R_ne HO370.out BK376.out (by decide)))) _).trans (((cell_far (p := ⟨gb376, _, none⟩) (by first | exact Kd.own_blk (Kd.R_ne HO370.out BK376.out (by decide)) | (rw [add_block]; exact Kd.own_blk (Kd.R_ne HO370.out BK376.out (by decide))) | (show (Addr.add _ _).block ≠ _; rw [add_block]; exact Kd.own_blk (Kd.R_ne HO370.out BK376.out (by decide))) | (dsimp only; exact Kd.own_blk (Kd.R_ne HO370.out BK376.out (by decide)))) _).trans (hHeld.1)))))), ((cell_far (p := ⟨gb376, _, none⟩) (by first | exact Kd.own_blk (Kd.R_ne HO370.out BK376.out (by decide)) | (rw [add_block]; exact Kd.own_blk (Kd.R_ne HO370.out BK376.out (by decide))) | (show (Addr.add _ _).block ≠ _; rw [add_block]; exact Kd.own_blk (Kd.R_ne HO370.out BK376.out (by decide))) | (dsimp only; exact Kd.own_blk (Kd.R_ne HO370.out BK376.out (by decide)))) _).trans (((cell_far (p := ⟨gb376, _, none⟩) (by first | exact Kd.own_blk (Kd.R_ne HO370.out BK376.out (by decide)) | (rw [add_block]; exact Kd.own_blk (Kd.R_ne HO370.out BK376.out (by decide))) | (show (Addr.add _ _).block ≠ _; rw [add_block]; exact Kd.own_blk (Kd.R_ne HO370.out BK376.out (by decide))) | (dsimp only; exact Kd.own_blk (Kd.R_ne HO370.out BK376.out (by decide)))) _).trans (((cell_far (p := ⟨gb376, _, none⟩) (by first | exact Kd.own_blk (Kd.R_ne HO370.out BK376.out (by decide)) | (rw [add_block]; exact Kd.own_blk (Kd.R_ne HO370.out BK376.out (by decide))) | (show (Addr.add _ _).block ≠ _; rw [add_block]; exact Kd.own_blk (Kd.R_ne HO370.out BK376.out (by decide))) | (dsimp only; exact Kd.own_blk (Kd.R_ne HO370.out BK376.out (by decide)))) _).trans (hHeld.2))))))⟩ (fun hHeld => ?_)
             clear hK K
             refine done_ (done_of HT_.out (by kernel_rfl)) ?_
             have hnb59 := NB376_361.out
             have hnc59 := NB361_376.out
             have hcz60_0 := c3_ BK376
             try go_wp2_with (first | ((with_reducible refine gc_ 115 rfl ?_); refine cl_ Tryz.func115 (impl_FrameOf.calls _ _ _ _ _ _ A21.out (HTB.out.below bwl_)) ?_; intro w61 hb; replace HO370 := krs_ HO370 hb; replace BK361 := bkb_ BK361 hb; replace BK376 := kb3_ BK376 hb; replace HB := bst_ hb; clear hb) | (go_at_call 116; refine ca_ (strings_HasPrefix.calls _ _ _ _ A36.out) ?_; rintro _ ⟨nd, rfl⟩; (try (rw [drewN_self w61]; generalize hq_ : World.drewN w61 _ = w61; have n0_ : Aside0 (Kd.R Kd.string 9 w61 w.heap.size (fun _ => True) (.slice (some ad371) t368.length co52) t368) := ⟨by rw [← hq_]; exact (ks_ HO370)⟩; have n1_ : Aside0 (w61.heap[gb361]? = some (.cells #[.int .i64 0, .string (⟨#[]⟩ : ByteArray), .string (⟨#[]⟩ : ByteArray)] 132 (0, 0))) := ⟨by rw [← hq_]; exact (by exact kb_ BK361)⟩; have n2_ : Aside0 (w61.heap[gb376]? = some (.cells #[.int .i64 t372, .string (rdOf ByteArray.empty t368 1), .string (rdOf ByteArray.empty t368 2)] 132 (0, 0))) := ⟨by rw [← hq_]; exact (by exact kb_ BK376)⟩; have n3_ : Aside0 (Below w.heap.size w w61) := ⟨by rw [← hq_]; exact bwl_⟩; clear HO370 BK361 BK376 HB hq_; have HO370 := n0_; have BK361 := n1_; have BK376 := n2_; have HB := n3_; clear n0_ n1_ n2_ n3_)); have hcz62_0 := c3_ BK361))
             refine bodyPost_ret (results_ct rfl _ _ gb361 132 #[.int .i64 0, .string (⟨#[]⟩ : ByteArray), .string (⟨#[]⟩ : ByteArray)] (0, 0) _ rfl (kbp_ BK361) Tryz.underlying132 rfl (by kernel_rfl)) rfl ?_
             exact ⟨rr_, bwl_⟩
          ·simp only [Option.some.injEq, Prod.mk.injEq] at H
           obtain ⟨rfl, rfl, rfl, rfl⟩ := H
           try go_wp2_with (first | ((with_reducible refine gc_ 114 rfl ?_); refine ck_ Tryz.func114 (strings_SplitN.calls _ _ _ _ _ A15.out (HTB.out.below bwl_)) ?_; rintro e w63 ⟨v369, rfl, ho0, hb⟩; refine ⟨_, rfl, ?_⟩; have HO370 := kl_ ho0; replace BK361 := bkb_ BK361 hb; replace HB := bst_ hb; clear hb ho0; obtain ⟨Ao64, co64, eo64⟩ := Kd.R_slice HO370.out; subst eo64; have p371 : 0 ≤ (0 : Int) := (by omega); have q371 : 0 < (t368.length : Int) := od_; obtain ⟨ad371, e371, hx371_0⟩ := Kd.at_string (Kd.R_reads' HO370.out).2.2 0 p371 q371; cases e371; have qi371 : (0 < t368.length) = True := eq_true (by omega); (try rw [show ((0 : Int)).toNat = 0 from rfl] at hx371_0); (try rw [Addr.add_zero'] at hx371_0); replace p371 := eq_true p371; replace q371 := eq_true q371) | ((with_reducible refine gc_ 113 rfl ?_); refine cl_ Tryz.func113 (impl_ReadDecimal.calls _ _ _ _ _ A18.out (HTB.out.below bwl_)) ?_; intro w65 hb; replace HO370 := kr_ HO370 hb; replace BK361 := bkb_ BK361 hb; replace HB := bst_ hb; clear hb))
           replace HO370 := Aside0.mk (Kd.R_drew HO370.out)
           replace BK361 := Aside0.mk (blk_drew BK361.out)
           replace HB := Aside0.mk (below_drew1 HB.out)
           have p374 : 0 ≤ (1 : Int) := (by omega)
           have q374 : 1 < (t368.length : Int) := od_
           obtain ⟨ad374, e374, hx374_0⟩ := Kd.at_string (Kd.R_reads' HO370.out).2.2 1 p374 q374
           obtain rfl : ad371 = ad374 := (by injection e374)
           (try simp only [show (1 : Int).toNat = 1 from rfl, Nat.reduceMul, Nat.reduceEqDiff, Go.Addr.add, ↓reduceIte] at hx374_0)
           have qi374 : (1 < t368.length) = True := eq_true (by omega)
           (try rw [show ((1 : Int)).toNat = 1 from rfl] at hx374_0)
           replace p374 := eq_true p374
           replace q374 := eq_true q374
           have p375 : 0 ≤ (2 : Int) := (by omega)
           have q375 : 2 < (t368.length : Int) := od_
           obtain ⟨ad375, e375, hx375_0⟩ := Kd.at_string (Kd.R_reads' HO370.out).2.2 2 p375 q375
           obtain rfl : ad371 = ad375 := (by injection e375)
           (try simp only [show (2 : Int).toNat = 2 from rfl, Nat.reduceMul, Nat.reduceEqDiff, Go.Addr.add, ↓reduceIte] at hx375_0)
           have qi375 : (2 < t368.length) = True := eq_true (by omega)
           (try rw [show ((2 : Int)).toNat = 2 from rfl] at hx375_0)
           replace p375 := eq_true p375
           replace q375 := eq_true q375
           refine start_ (n := 10) (S := fun w' => w'.cell? ⟨ad371.block, ad371.off + 1, none⟩ = some (.string (rdOf ByteArray.empty t368 1)) ∧ w'.cell? ⟨ad371.block, ad371.off + 2, none⟩ = some (.string (rdOf ByteArray.empty t368 2))) (ds := []) (fl 10 0) (by kernel_rfl) rfl rfl ⟨hx374_0, hx375_0⟩ (fun hHeld => ?_); refine with_tabW impl_readFrame.tab9 impl_readFrame.bits9 (fun HT_ HW_ => ?_)
           generalize w65.drew = w66 at HO370 BK361 HB hx374_0 hx375_0 hHeld ⊢
           refine pu_ (i := 0) (N := some 54) (fl 10 1) (any_of HT_.out (by kernel_rfl)) ?_
           refine pu_ (i := 1) (N := some 55) (fl 10 3) (any_of HT_.out (by kernel_rfl)) ?_
           refine pu_ (i := 2) (N := some 56) (fl 10 7) (any_of HT_.out (by kernel_rfl)) ?_
           refine pu_ (i := 4) (N := some 58) (fl 10 23) (any_of HT_.out (by kernel_rfl)) ?_
           refine pu_ (i := 5) (N := some 59) (fl 10 55) (any_of HT_.out (by kernel_rfl)) ?_
           refine take_ (i := 3) (N := some 57) (v := ?_) (a' := ?_) (fl 10 63) rfl rfl (take_ofW HT_.out HW_.out (by kernel_rfl)) (fun _ _ _ h => h) (Or.inl ⟨by rfl, ?_⟩) hHeld ?_ ?_
           rotate_left
           ·rintro w' ⟨s0, s1⟩
            go_simp
            with_reducible rfl
           rotate_left
           ·simp only [Act.put, List.setIfInBounds_toArray, List.set_cons_zero, List.set_cons_succ, i64_w, i32_w]
            rfl
           refine take_ (i := 6) (N := some 60) (v := ?_) (a' := ?_) (fl 10 127) rfl rfl (take_ofW HT_.out HW_.out (by kernel_rfl)) (fun _ _ _ h => h) (Or.inl ⟨by rfl, ?_⟩) hHeld ?_ ?_
           rotate_left
           ·rintro w' ⟨s0, s1⟩
            go_simp
            with_reducible rfl
           rotate_left
           ·simp only [Act.put, List.setIfInBounds_toArray, List.set_cons_zero, List.set_cons_succ, i64_w, i32_w]
            rfl
           refine pu_ (i := 7) (N := some 61) (fl 10 255) (any_of HT_.out (by kernel_rfl)) ?_
           refine one_ (i := 8) (N := some 12) (fl 10 511) rfl rfl (one_of HT_.out (by kernel_rfl)) (by decide) (fun K hK => ?_)
           refine box_step ?hg (N := 12) ?hd (cs := #[.int .i64 0, .string (⟨#[]⟩ : ByteArray), .string (⟨#[]⟩ : ByteArray)]) (t := 132) ?hr ?_; (case hd => rfl); (case hg => rfl); (case hr => first | (go_simp; done) | (go_simp; rfl))
           intro gb376 hg w67 hbox hb
           have HS0_ := (hb.cell (World.block_lt_of_cell? _ _ (hHeld.1))).trans (hHeld.1)
           have HS1_ := (hb.cell (World.block_lt_of_cell? _ _ (hHeld.2))).trans (hHeld.2)
           replace HO370 := kr_ HO370 hb
           have BK376 := Aside0.mk (hbox)
           have GW376 := bsz_ hg
           have GE376 := bsz_ hg
           replace HB := bst_ hb
           have NB361_376 := nbl_ BK361 hg
           have NB376_361 := nbr_ BK361 hg
           replace BK361 := bkb_ BK361 hb
           clear hb hbox hg
           refine hK.out _ _ ⟨HS0_, HS1_⟩ (fun hHeld => ?_)
           clear hK K
           refine norm_ (a' := ?_) ?_ ?_
           rotate_left
           ·show Act.put _ (some 12) _ = _
            simp only [Act.put, List.setIfInBounds_toArray, List.set_cons_zero, List.set_cons_succ, i64_w, i32_w]
            rfl
           refine one_ (i := 9) (N := none) (fl 10 1023) rfl rfl (one_of HT_.out (by kernel_rfl)) (by decide) (fun K hK => ?_)
           have hs68 : w67.cell? ⟨gb376, 0, none⟩ = some (.int .i64 0) := (blk_cell BK376.out 0).trans rfl
           have hfs68 := blk_frozen BK376.out 0
           have hns68_0 := NB361_376.out
           have hms68_0 := NB376_361.out
           have hs69 : w67.cell? ⟨gb376, 1, none⟩ = some (.string (⟨#[]⟩ : ByteArray)) := (blk_cell BK376.out 1).trans rfl
           have hfs69 := blk_frozen BK376.out 1
           have hns69_0 := NB361_376.out
           have hms69_0 := NB376_361.out
           have hs70 : w67.cell? ⟨gb376, 2, none⟩ = some (.string (⟨#[]⟩ : ByteArray)) := (blk_cell BK376.out 2).trans rfl
           have hfs70 := blk_frozen BK376.out 2
           have hns70_0 := NB361_376.out
           have hms70_0 := NB376_361.out
           refine skip_ (w1 := ?_) (by rfl) rfl ?_ ?_
           rotate_left
           ·go_simp
            rfl
           refine hK.out _ _ ⟨((cell_far (p := ⟨gb376, _, none⟩) (by first | exact Kd.own_blk (Kd.R_ne HO370.out BK376.out (by decide)) | (rw [add_block]; exact Kd.own_blk (Kd.R_ne HO370.out BK376.out (by decide))) | (show (Addr.add _ _).block ≠ _; rw [add_block]; exact Kd.own_blk (Kd.R_ne HO370.out BK376.out (by decide))) | (dsimp only; exact Kd.own_blk (Kd.R_ne HO370.out BK376.out (by decide)))) _).trans (((cell_far (p := ⟨gb376, _, none⟩) (by first | exact Kd.own_blk (Kd.R_ne HO370.out BK376.out (by decide)) | (rw [add_block]; exact Kd.own_blk (Kd.R_ne HO370.out BK376.out (by decide))) | (show (Addr.add _ _).block ≠ _; rw [add_block]; exact Kd.own_blk (Kd.R_ne HO370.out BK376.out (by decide))) | (dsimp only; exact Kd.own_blk (Kd.R_ne HO370.out BK376.out (by decide)))) _).trans (((cell_far (p := ⟨gb376, _, none⟩) (by first | exact Kd.own_blk (Kd.R_ne HO370.out BK376.out (by decide)) | (rw [add_block]; exact Kd.own_blk (Kd.R_ne HO370.out BK376.out (by decide))) | (show (Addr.add _ _).block ≠ _; rw [add_block]; exact Kd.own_blk (Kd.R_ne HO370.out BK376.out (by decide))) | (dsimp only; exact Kd.own_blk (Kd.R_ne HO370.out BK376.out (by decide)))) _).trans (hHeld.1)))))), ((cell_far (p := ⟨gb376, _, none⟩) (by first | exact Kd.own_blk (Kd.R_ne HO370.out BK376.out (by decide)) | (rw [add_block]; exact Kd.own_blk (Kd.R_ne HO370.out BK376.out (by decide))) | (show (Addr.add _ _).block ≠ _; rw [add_block]; exact Kd.own_blk (Kd.R_ne HO370.out BK376.out (by decide))) | (dsimp only; exact Kd.own_blk (Kd.R_ne HO370.out BK376.out (by decide)))) _).trans (((cell_far (p := ⟨gb376, _, none⟩) (by first | exact Kd.own_blk (Kd.R_ne HO370.out BK376.out (by decide)) | (rw [add_block]; exact Kd.own_blk (Kd.R_ne HO370.out BK376.out (by decide))) | (show (Addr.add _ _).block ≠ _; rw [add_block]; exact Kd.own_blk (Kd.R_ne HO370.out BK376.out (by decide))) | (dsimp only; exact Kd.own_blk (Kd.R_ne HO370.out BK376.out (by decide)))) _).trans (((cell_far (p := ⟨gb376, _, none⟩) (by first | exact Kd.own_blk (Kd.R_ne HO370.out BK376.out (by decide)) | (rw [add_block]; exact Kd.own_blk (Kd.R_ne HO370.out BK376.out (by decide))) | (show (Addr.add _ _).block ≠ _; rw [add_block]; exact Kd.own_blk (Kd.R_ne HO370.out BK376.out (by decide))) | (dsimp only; exact Kd.own_blk (Kd.R_ne HO370.out BK376.out (by decide)))) _).trans (hHeld.2))))))⟩ (fun hHeld => ?_)
           clear hK K
           refine done_ (done_of HT_.out (by kernel_rfl)) ?_
           have hnb71 := NB376_361.out
           have hnc71 := NB361_376.out
           have hcz72_0 := c3_ BK376
           try go_wp2_with (first | ((with_reducible refine gc_ 115 rfl ?_); refine cl_ Tryz.func115 (impl_FrameOf.calls _ _ _ _ _ _ A21.out (HTB.out.below bwl_)) ?_; intro w73 hb; replace HO370 := krs_ HO370 hb; replace BK361 := bkb_ BK361 hb; replace BK376 := kb3_ BK376 hb; replace HB := bst_ hb; clear hb; have hcz74_0 := c3_ BK361))
           refine bodyPost_ret (results_ct rfl _ _ gb361 132 #[.int .i64 0, .string (⟨#[]⟩ : ByteArray), .string (⟨#[]⟩ : ByteArray)] (0, 0) _ rfl (kbp_ BK361) Tryz.underlying132 rfl (by kernel_rfl)) rfl ?_
           exact ⟨rr_, bwl_⟩
         ·rw [if_neg c20] at H
          exact absurd H (by simp)
        ·rw [if_neg c19] at H
         exact absurd H (by simp)
       ·rw [if_neg c17] at H
        exact absurd H (by simp)
      ·rw [if_neg c16] at H
       have c16b0 : ((t368.length : Int) == 3) = false := beq_eq_false_iff_ne.mpr c16
       have c16b1 : ((t368.length : Int) != 3) = true := bne_iff_ne.mpr c16
       simp only [Option.some.injEq, Prod.mk.injEq] at H
       obtain ⟨rfl, rfl, rfl, rfl⟩ := H
       go_wp2_with (first | ((with_reducible refine gc_ 114 rfl ?_); refine ck_ Tryz.func114 (strings_SplitN.calls _ _ _ _ _ A15.out (HTB.out.below bwl_)) ?_; rintro e w75 ⟨v369, rfl, ho0, hb⟩; refine ⟨_, rfl, ?_⟩; have HO370 := kl_ ho0; replace BK361 := bkb_ BK361 hb; replace HB := bst_ hb; clear hb ho0; obtain ⟨Ao76, co76, eo76⟩ := Kd.R_slice HO370.out; subst eo76; have hcz77_0 := c3_ BK361))
       refine bodyPost_ret (results_ct rfl _ _ gb361 132 #[.int .i64 0, .string (⟨#[]⟩ : ByteArray), .string (⟨#[]⟩ : ByteArray)] (0, 0) _ rfl (kbp_ BK361) Tryz.underlying132 rfl (by kernel_rfl)) rfl ?_
       exact ⟨rr_, bwl_⟩
     ·rw [if_neg c14] at H
      exact absurd H (by simp)
    ·rw [if_neg c13] at H
     exact absurd H (by simp)
end Go.Proofs.YtkoeeajciciphaaGreatDoor.QFnExactStartAgain
