import Derived.Test.YtkoeeajciciphaaGreatDoorQFnExactDeskTextx0
import Derived.Test.YtkoeeajciciphaaGreatDoorQFnExactDeskTextx14
import Derived.Test.YtkoeeajciciphaaGreatDoorQFnExactDeskTextx17
namespace Go.Proofs.YtkoeeajciciphaaGreatDoor.QFnExactDeskText
open Base (bwl_ bst_ bsz_ bkb_ nbl_ nbr_ kbl_ bkm_)
open Go.RowKit Go.Proofs.YtkoeeajciciphaaGreatDoorW.PrintWords Go.Proofs.YtkoeeajciciphaaGreatDoorW.PrintLast Go.Proofs.YtkoeeajciciphaaGreatDoorW.PrintMore
attribute [local go_sem] max2_int min2_int max_two min_two max_three min_three max_four min_four
set_option linter.unusedVariables false
set_option linter.unusedSimpArgs false
def impl_DeskText.l0 : Nat → ByteArray → List (S69) → Int → Int → Int → List (S97) → List ByteArray → List (S101) → List (S69) → ByteArray → ByteArray → Option (ByteArray)
 | 0, _, _, _, _, _, _, _, _, _, _, _ => none
 | k + 1, x3, x28, x29, x30, x409000, x409001, x409002, x409003, x409004, x409005, x409006 => if x30 < x29 then (if 0 ≤ x30 then (if x30 < (x28.length : Int) then ((impl_CoilText.f k ((rd_T69 x28 x30).f0) ((rd_T69 x28 x30).f1)).bind fun t415 => (if 2 + t415.size ≤ 9223372036854775807 then (if x3.size + ((⟨#[59, 32]⟩ : ByteArray) ++ t415).size ≤ 9223372036854775807 then (impl_DeskText.l0 k (x3 ++ ((⟨#[59, 32]⟩ : ByteArray) ++ t415)) x28 x29 (wrap64 (x30 + 1)) x409000 x409001 x409002 x409003 x409004 x409005 x409006) else (none)) else (none))) else (none)) else (none)) else (if x3.size + 10 ≤ 9223372036854775807 then ((impl_entriesOf.f k x409005 x409006).bind fun t416 => ((impl_Decimal.f (t416.length : Int)).bind fun t419 => (if (x3 ++ (⟨#[59, 32, 101, 110, 116, 114, 105, 101, 115, 32]⟩ : ByteArray)).size + t419.size ≤ 9223372036854775807 then (some ((x3 ++ (⟨#[59, 32, 101, 110, 116, 114, 105, 101, 115, 32]⟩ : ByteArray)) ++ t419)) else (none)))) else (none))
def impl_DeskText.f (k : Nat) (a0_0 : Int) (l0_1 : List (S97)) (l0_2 : List ByteArray) (l0_3 : List (S101)) (l0_4 : List (S69)) (a0_5 : ByteArray) (a0_6 : ByteArray) : Option (ByteArray) := (impl_ValidDesk.f k a0_0 l0_1 l0_2 l0_3 l0_4 a0_5 a0_6).bind fun t409 => (if t409 = true then ((impl_Decimal.f a0_0).bind fun t410 => (if 4 + t410.size ≤ 9223372036854775807 then (if ((⟨#[100, 97, 121, 32]⟩ : ByteArray) ++ t410).size + 8 ≤ 9223372036854775807 then ((impl_Decimal.f (l0_2.length : Int)).bind fun t411 => (if (((⟨#[100, 97, 121, 32]⟩ : ByteArray) ++ t410) ++ (⟨#[59, 32, 108, 105, 110, 101, 115, 32]⟩ : ByteArray)).size + t411.size ≤ 9223372036854775807 then (if ((((⟨#[100, 97, 121, 32]⟩ : ByteArray) ++ t410) ++ (⟨#[59, 32, 108, 105, 110, 101, 115, 32]⟩ : ByteArray)) ++ t411).size + 12 ≤ 9223372036854775807 then ((impl_Decimal.f (l0_3.length : Int)).bind fun t412 => (if (((((⟨#[100, 97, 121, 32]⟩ : ByteArray) ++ t410) ++ (⟨#[59, 32, 108, 105, 110, 101, 115, 32]⟩ : ByteArray)) ++ t411) ++ (⟨#[59, 32, 109, 97, 100, 101, 32, 102, 97, 115, 116, 32]⟩ : ByteArray)).size + t412.size ≤ 9223372036854775807 then (impl_DeskText.l0 k ((((((⟨#[100, 97, 121, 32]⟩ : ByteArray) ++ t410) ++ (⟨#[59, 32, 108, 105, 110, 101, 115, 32]⟩ : ByteArray)) ++ t411) ++ (⟨#[59, 32, 109, 97, 100, 101, 32, 102, 97, 115, 116, 32]⟩ : ByteArray)) ++ t412) l0_4 (l0_4.length : Int) 0 a0_0 l0_1 l0_2 l0_3 l0_4 a0_5 a0_6) else (none))) else (none)) else (none))) else (none)) else (none))) else (some (⟨#[]⟩ : ByteArray)))
theorem impl_DeskText.mono_l : ∀ k, (∀ y0 y1 y2 y3 y4 y5 y6 y7 y8 y9 y10, LeO (impl_DeskText.l0 k y0 y1 y2 y3 y4 y5 y6 y7 y8 y9 y10) (impl_DeskText.l0 (k + 1) y0 y1 y2 y3 y4 y5 y6 y7 y8 y9 y10))
 | 0 => fun _ _ _ _ _ _ _ _ _ _ _ r h => by simp [impl_DeskText.l0] at h
 | k + 1 => by
  have ih0 := impl_DeskText.mono_l k
  ·intro y0 y1 y2 y3 y4 y5 y6 y7 y8 y9 y10
   unfold impl_DeskText.l0
   repeat' first
   | (with_reducible exact ih0 _ _ _ _ _ _ _ _ _ _ _)
   | (with_reducible exact impl_CoilText.mono _ _ _)
   | (with_reducible exact impl_ValidDesk.mono _ _ _ _ _ _ _ _)
   | (with_reducible exact impl_entriesOf.mono _ _ _)
   | (with_reducible exact LeO.refl _)
   | (with_reducible exact LeO.none _)
   | (with_reducible refine LeO.ite ?_ ?_)
   | (with_reducible refine LeO.bind ?_ (fun _ => ?_))
   | exact ih0 _ _ _ _ _ _ _ _ _ _ _
   | exact impl_CoilText.mono _ _ _
   | exact impl_ValidDesk.mono _ _ _ _ _ _ _ _
   | exact impl_entriesOf.mono _ _ _
   | exact LeO.none _
   | refine LeO.ite ?_ ?_
   | refine LeO.bind ?_ (fun _ => ?_)
theorem impl_DeskText.mono : ∀ a0 a1 a2 a3 a4 a5 a6 k, LeO (impl_DeskText.f k a0 a1 a2 a3 a4 a5 a6) (impl_DeskText.f (k + 1) a0 a1 a2 a3 a4 a5 a6) := by
 intro a0 a1 a2 a3 a4 a5 a6 k
 have ih0 := impl_DeskText.mono_l k
 unfold impl_DeskText.f
 repeat' first
   | (with_reducible exact ih0 _ _ _ _ _ _ _ _ _ _ _)
   | (with_reducible exact impl_CoilText.mono _ _ _)
   | (with_reducible exact impl_ValidDesk.mono _ _ _ _ _ _ _ _)
   | (with_reducible exact impl_entriesOf.mono _ _ _)
   | (with_reducible exact LeO.refl _)
   | (with_reducible exact LeO.none _)
   | (with_reducible refine LeO.ite ?_ ?_)
   | (with_reducible refine LeO.bind ?_ (fun _ => ?_))
   | exact ih0 _ _ _ _ _ _ _ _ _ _ _
   | exact impl_CoilText.mono _ _ _
   | exact impl_ValidDesk.mono _ _ _ _ _ _ _ _
   | exact impl_entriesOf.mono _ _ _
   | exact LeO.none _
   | refine LeO.ite ?_ ?_
   | refine LeO.bind ?_ (fun _ => ?_)
def impl_DeskText.T3 : Bool × List (List Nat × List Nat) := (true, [([], []), ([0], [0]), ([1], [1]), ([2], [2]), ([3], [3]), ([], []), ([5], [5]), ([6], [6]), ([7], [7]), ([8, 2], [8]), ([4, 9], [4, 9]), ([10], [10]), ([], []), ([12], [12]), ([13], [13]), ([14], [14]), ([15, 9], [15]), ([11, 16], [11, 16]), ([17, 16, 0, 1, 2, 3, 4, 5, 6, 7, 8, 9, 10, 11, 12, 13, 14, 15, 16, 17], [17])])
def impl_DeskText.B3 : List Nat := [0, 1, 3, 7, 15, 0, 32, 96, 224, 487, 1023, 2047, 0, 4096, 12288, 28672, 62439, 131071, 262143]
theorem impl_DeskText.tab3 : rtab .any (opsOf Tryz.f12 3) = impl_DeskText.T3 := by kernel_rfl
theorem impl_DeskText.bits3 : waitsOk impl_DeskText.T3.2 impl_DeskText.B3 = true := by kernel_rfl
set_option maxHeartbeats 8000000 in
set_option maxRecDepth 100000 in
theorem impl_DeskText.calls (k : Nat) (a0_0 : Int) (A0_1 : Option Addr) (c0_1 : Nat) (l0_1 : List (S97)) (A0_2 : Option Addr) (c0_2 : Nat) (l0_2 : List ByteArray) (A0_3 : Option Addr) (c0_3 : Nat) (l0_3 : List (S101)) (A0_4 : Option Addr) (c0_4 : Nat) (l0_4 : List (S69)) (a0_5 : ByteArray) (a0_6 : ByteArray) (r : ByteArray) (w : World) (hr0_1 : Kd.C k97 w A0_1 l0_1.length l0_1) (hc0_1 : l0_1.length ≤ c0_1) (hr0_2 : Kd.C Kd.string w A0_2 l0_2.length l0_2) (hc0_2 : l0_2.length ≤ c0_2) (hr0_3 : Kd.C k101 w A0_3 l0_3.length l0_3) (hc0_3 : l0_3.length ≤ c0_3) (hr0_4 : Kd.C k69 w A0_4 l0_4.length l0_4) (hc0_4 : l0_4.length ≤ c0_4) (h : impl_DeskText.f k a0_0 l0_1 l0_2 l0_3 l0_4 a0_5 a0_6 = some r) (hT : Go.Proofs.YtkoeeajciciphaaGreatDoor.Base.Tb2 w) :
  Calls Tryz.prog 12 #[.agg #[.int .i64 a0_0, .slice A0_1 l0_1.length c0_1, .slice A0_2 l0_2.length c0_2, .slice A0_3 l0_3.length c0_3, .slice A0_4 l0_4.length c0_4, .string a0_5, .string a0_6]] w fun e w' => e = .returned (.string r) ∧ Below w.heap.size w w' := by
 have HTB := Aside0.mk hT
 clear hT
 have hu41 := Tryz.underlying41
 have hu69 := Tryz.underlying69
 have hu39 := Tryz.underlying39
 have HR0_1 := Aside0.mk hr0_1
 have HC0_1 := Aside0.mk hc0_1
 clear hr0_1 hc0_1
 have HR0_2 := Aside0.mk hr0_2
 have HC0_2 := Aside0.mk hc0_2
 clear hr0_2 hc0_2
 have HR0_3 := Aside0.mk hr0_3
 have HC0_3 := Aside0.mk hc0_3
 clear hr0_3 hc0_3
 have HR0_4 := Aside0.mk hr0_4
 have HC0_4 := Aside0.mk hc0_4
 clear hr0_4 hc0_4
 have HB := Aside0.mk (Below.refl w.heap.size w)
 have H : ((impl_ValidDesk.f k a0_0 l0_1 l0_2 l0_3 l0_4 a0_5 a0_6).bind fun t409 => (if t409 = true then ((impl_Decimal.f a0_0).bind fun t410 => (if 4 + t410.size ≤ 9223372036854775807 then (if ((⟨#[100, 97, 121, 32]⟩ : ByteArray) ++ t410).size + 8 ≤ 9223372036854775807 then ((impl_Decimal.f (l0_2.length : Int)).bind fun t411 => (if (((⟨#[100, 97, 121, 32]⟩ : ByteArray) ++ t410) ++ (⟨#[59, 32, 108, 105, 110, 101, 115, 32]⟩ : ByteArray)).size + t411.size ≤ 9223372036854775807 then (if ((((⟨#[100, 97, 121, 32]⟩ : ByteArray) ++ t410) ++ (⟨#[59, 32, 108, 105, 110, 101, 115, 32]⟩ : ByteArray)) ++ t411).size + 12 ≤ 9223372036854775807 then ((impl_Decimal.f (l0_3.length : Int)).bind fun t412 => (if (((((⟨#[100, 97, 121, 32]⟩ : ByteArray) ++ t410) ++ (⟨#[59, 32, 108, 105, 110, 101, 115, 32]⟩ : ByteArray)) ++ t411) ++ (⟨#[59, 32, 109, 97, 100, 101, 32, 102, 97, 115, 116, 32]⟩ : ByteArray)).size + t412.size ≤ 9223372036854775807 then (impl_DeskText.l0 k ((((((⟨#[100, 97, 121, 32]⟩ : ByteArray) ++ t410) ++ (⟨#[59, 32, 108, 105, 110, 101, 115, 32]⟩ : ByteArray)) ++ t411) ++ (⟨#[59, 32, 109, 97, 100, 101, 32, 102, 97, 115, 116, 32]⟩ : ByteArray)) ++ t412) l0_4 (l0_4.length : Int) 0 a0_0 l0_1 l0_2 l0_3 l0_4 a0_5 a0_6) else (none))) else (none)) else (none))) else (none)) else (none))) else (some (⟨#[]⟩ : ByteArray)))) = some r := h
 clear h
 replace H := Option.bind_eq_some_iff.mp H
 obtain ⟨t409, A20, H⟩ := H
 replace H : (if t409 = true then ((impl_Decimal.f a0_0).bind fun t410 => (if 4 + t410.size ≤ 9223372036854775807 then (if ((⟨#[100, 97, 121, 32]⟩ : ByteArray) ++ t410).size + 8 ≤ 9223372036854775807 then ((impl_Decimal.f (l0_2.length : Int)).bind fun t411 => (if (((⟨#[100, 97, 121, 32]⟩ : ByteArray) ++ t410) ++ (⟨#[59, 32, 108, 105, 110, 101, 115, 32]⟩ : ByteArray)).size + t411.size ≤ 9223372036854775807 then (if ((((⟨#[100, 97, 121, 32]⟩ : ByteArray) ++ t410) ++ (⟨#[59, 32, 108, 105, 110, 101, 115, 32]⟩ : ByteArray)) ++ t411).size + 12 ≤ 9223372036854775807 then ((impl_Decimal.f (l0_3.length : Int)).bind fun t412 => (if (((((⟨#[100, 97, 121, 32]⟩ : ByteArray) ++ t410) ++ (⟨#[59, 32, 108, 105, 110, 101, 115, 32]⟩ : ByteArray)) ++ t411) ++ (⟨#[59, 32, 109, 97, 100, 101, 32, 102, 97, 115, 116, 32]⟩ : ByteArray)).size + t412.size ≤ 9223372036854775807 then (impl_DeskText.l0 k ((((((⟨#[100, 97, 121, 32]⟩ : ByteArray) ++ t410) ++ (⟨#[59, 32, 108, 105, 110, 101, 115, 32]⟩ : ByteArray)) ++ t411) ++ (⟨#[59, 32, 109, 97, 100, 101, 32, 102, 97, 115, 116, 32]⟩ : ByteArray)) ++ t412) l0_4 (l0_4.length : Int) 0 a0_0 l0_1 l0_2 l0_3 l0_4 a0_5 a0_6) else (none))) else (none)) else (none))) else (none)) else (none))) else (some (⟨#[]⟩ : ByteArray))) = some r := H
 have A2 := Aside0.mk A20
 clear A20
 by_cases c3 : t409 = true
 ·subst c3
  have H1 : ((impl_Decimal.f a0_0).bind fun t410 => (if 4 + t410.size ≤ 9223372036854775807 then (if ((⟨#[100, 97, 121, 32]⟩ : ByteArray) ++ t410).size + 8 ≤ 9223372036854775807 then ((impl_Decimal.f (l0_2.length : Int)).bind fun t411 => (if (((⟨#[100, 97, 121, 32]⟩ : ByteArray) ++ t410) ++ (⟨#[59, 32, 108, 105, 110, 101, 115, 32]⟩ : ByteArray)).size + t411.size ≤ 9223372036854775807 then (if ((((⟨#[100, 97, 121, 32]⟩ : ByteArray) ++ t410) ++ (⟨#[59, 32, 108, 105, 110, 101, 115, 32]⟩ : ByteArray)) ++ t411).size + 12 ≤ 9223372036854775807 then ((impl_Decimal.f (l0_3.length : Int)).bind fun t412 => (if (((((⟨#[100, 97, 121, 32]⟩ : ByteArray) ++ t410) ++ (⟨#[59, 32, 108, 105, 110, 101, 115, 32]⟩ : ByteArray)) ++ t411) ++ (⟨#[59, 32, 109, 97, 100, 101, 32, 102, 97, 115, 116, 32]⟩ : ByteArray)).size + t412.size ≤ 9223372036854775807 then (impl_DeskText.l0 k ((((((⟨#[100, 97, 121, 32]⟩ : ByteArray) ++ t410) ++ (⟨#[59, 32, 108, 105, 110, 101, 115, 32]⟩ : ByteArray)) ++ t411) ++ (⟨#[59, 32, 109, 97, 100, 101, 32, 102, 97, 115, 116, 32]⟩ : ByteArray)) ++ t412) l0_4 (l0_4.length : Int) 0 a0_0 l0_1 l0_2 l0_3 l0_4 a0_5 a0_6) else (none))) else (none)) else (none))) else (none)) else (none))) = some r := by rw [if_pos rfl] at H; exact H
  clear H
  have H := H1
  clear H1
  replace H := Option.bind_eq_some_iff.mp H
  obtain ⟨t410, A40, H⟩ := H
  replace H : (if 4 + t410.size ≤ 9223372036854775807 then (if ((⟨#[100, 97, 121, 32]⟩ : ByteArray) ++ t410).size + 8 ≤ 9223372036854775807 then ((impl_Decimal.f (l0_2.length : Int)).bind fun t411 => (if (((⟨#[100, 97, 121, 32]⟩ : ByteArray) ++ t410) ++ (⟨#[59, 32, 108, 105, 110, 101, 115, 32]⟩ : ByteArray)).size + t411.size ≤ 9223372036854775807 then (if ((((⟨#[100, 97, 121, 32]⟩ : ByteArray) ++ t410) ++ (⟨#[59, 32, 108, 105, 110, 101, 115, 32]⟩ : ByteArray)) ++ t411).size + 12 ≤ 9223372036854775807 then ((impl_Decimal.f (l0_3.length : Int)).bind fun t412 => (if (((((⟨#[100, 97, 121, 32]⟩ : ByteArray) ++ t410) ++ (⟨#[59, 32, 108, 105, 110, 101, 115, 32]⟩ : ByteArray)) ++ t411) ++ (⟨#[59, 32, 109, 97, 100, 101, 32, 102, 97, 115, 116, 32]⟩ : ByteArray)).size + t412.size ≤ 9223372036854775807 then (impl_DeskText.l0 k ((((((⟨#[100, 97, 121, 32]⟩ : ByteArray) ++ t410) ++ (⟨#[59, 32, 108, 105, 110, 101, 115, 32]⟩ : ByteArray)) ++ t411) ++ (⟨#[59, 32, 109, 97, 100, 101, 32, 102, 97, 115, 116, 32]⟩ : ByteArray)) ++ t412) l0_4 (l0_4.length : Int) 0 a0_0 l0_1 l0_2 l0_3 l0_4 a0_5 a0_6) else (none))) else (none)) else (none))) else (none)) else (none)) = some r := H
  have A4 := Aside0.mk A40
  clear A40
  by_cases c5 : 4 + t410.size ≤ 9223372036854775807
  ·rw [if_pos c5] at H
   have c5b0 := eq_true c5
   have c5b1 : decide (4 + t410.size ≤ 9223372036854775807) = true := decide_eq_true c5
   try have c5b2 : (9223372036854775807 < 4 + t410.size) = False := eq_false (Nat.not_lt.2 c5)
   by_cases c6 : ((⟨#[100, 97, 121, 32]⟩ : ByteArray) ++ t410).size + 8 ≤ 9223372036854775807
   ·rw [if_pos c6] at H
    have c6b0 := eq_true c6
    have c6b1 : decide (((⟨#[100, 97, 121, 32]⟩ : ByteArray) ++ t410).size + 8 ≤ 9223372036854775807) = true := decide_eq_true c6
    try have c6b2 : (9223372036854775807 < ((⟨#[100, 97, 121, 32]⟩ : ByteArray) ++ t410).size + 8) = False := eq_false (Nat.not_lt.2 c6)
    try (have c6b3 := c6b2; simp only [ByteArray.size_append, show (⟨#[100, 97, 121, 32]⟩ : ByteArray).size = 4 from rfl] at c6b3)
    replace H := Option.bind_eq_some_iff.mp H
    obtain ⟨t411, A70, H⟩ := H
    replace H : (if (((⟨#[100, 97, 121, 32]⟩ : ByteArray) ++ t410) ++ (⟨#[59, 32, 108, 105, 110, 101, 115, 32]⟩ : ByteArray)).size + t411.size ≤ 9223372036854775807 then (if ((((⟨#[100, 97, 121, 32]⟩ : ByteArray) ++ t410) ++ (⟨#[59, 32, 108, 105, 110, 101, 115, 32]⟩ : ByteArray)) ++ t411).size + 12 ≤ 9223372036854775807 then ((impl_Decimal.f (l0_3.length : Int)).bind fun t412 => (if (((((⟨#[100, 97, 121, 32]⟩ : ByteArray) ++ t410) ++ (⟨#[59, 32, 108, 105, 110, 101, 115, 32]⟩ : ByteArray)) ++ t411) ++ (⟨#[59, 32, 109, 97, 100, 101, 32, 102, 97, 115, 116, 32]⟩ : ByteArray)).size + t412.size ≤ 9223372036854775807 then (impl_DeskText.l0 k ((((((⟨#[100, 97, 121, 32]⟩ : ByteArray) ++ t410) ++ (⟨#[59, 32, 108, 105, 110, 101, 115, 32]⟩ : ByteArray)) ++ t411) ++ (⟨#[59, 32, 109, 97, 100, 101, 32, 102, 97, 115, 116, 32]⟩ : ByteArray)) ++ t412) l0_4 (l0_4.length : Int) 0 a0_0 l0_1 l0_2 l0_3 l0_4 a0_5 a0_6) else (none))) else (none)) else (none)) = some r := H
    have A7 := Aside0.mk A70
    clear A70
    by_cases c8 : (((⟨#[100, 97, 121, 32]⟩ : ByteArray) ++ t410) ++ (⟨#[59, 32, 108, 105, 110, 101, 115, 32]⟩ : ByteArray)).size + t411.size ≤ 9223372036854775807
    ·rw [if_pos c8] at H
     have c8b0 := eq_true c8
     have c8b1 : decide ((((⟨#[100, 97, 121, 32]⟩ : ByteArray) ++ t410) ++ (⟨#[59, 32, 108, 105, 110, 101, 115, 32]⟩ : ByteArray)).size + t411.size ≤ 9223372036854775807) = true := decide_eq_true c8
     try have c8b2 : (9223372036854775807 < (((⟨#[100, 97, 121, 32]⟩ : ByteArray) ++ t410) ++ (⟨#[59, 32, 108, 105, 110, 101, 115, 32]⟩ : ByteArray)).size + t411.size) = False := eq_false (Nat.not_lt.2 c8)
     try (have c8b3 := c8b2; simp only [ByteArray.size_append, show (⟨#[100, 97, 121, 32]⟩ : ByteArray).size = 4 from rfl, show (⟨#[59, 32, 108, 105, 110, 101, 115, 32]⟩ : ByteArray).size = 8 from rfl] at c8b3)
     by_cases c9 : ((((⟨#[100, 97, 121, 32]⟩ : ByteArray) ++ t410) ++ (⟨#[59, 32, 108, 105, 110, 101, 115, 32]⟩ : ByteArray)) ++ t411).size + 12 ≤ 9223372036854775807
     ·rw [if_pos c9] at H
      have c9b0 := eq_true c9
      have c9b1 : decide (((((⟨#[100, 97, 121, 32]⟩ : ByteArray) ++ t410) ++ (⟨#[59, 32, 108, 105, 110, 101, 115, 32]⟩ : ByteArray)) ++ t411).size + 12 ≤ 9223372036854775807) = true := decide_eq_true c9
      try have c9b2 : (9223372036854775807 < ((((⟨#[100, 97, 121, 32]⟩ : ByteArray) ++ t410) ++ (⟨#[59, 32, 108, 105, 110, 101, 115, 32]⟩ : ByteArray)) ++ t411).size + 12) = False := eq_false (Nat.not_lt.2 c9)
      try (have c9b3 := c9b2; simp only [ByteArray.size_append, show (⟨#[100, 97, 121, 32]⟩ : ByteArray).size = 4 from rfl, show (⟨#[59, 32, 108, 105, 110, 101, 115, 32]⟩ : ByteArray).size = 8 from rfl] at c9b3)
      replace H := Option.bind_eq_some_iff.mp H
      obtain ⟨t412, A100, H⟩ := H
      replace H : (if (((((⟨#[100, 97, 121, 32]⟩ : ByteArray) ++ t410) ++ (⟨#[59, 32, 108, 105, 110, 101, 115, 32]⟩ : ByteArray)) ++ t411) ++ (⟨#[59, 32, 109, 97, 100, 101, 32, 102, 97, 115, 116, 32]⟩ : ByteArray)).size + t412.size ≤ 9223372036854775807 then (impl_DeskText.l0 k ((((((⟨#[100, 97, 121, 32]⟩ : ByteArray) ++ t410) ++ (⟨#[59, 32, 108, 105, 110, 101, 115, 32]⟩ : ByteArray)) ++ t411) ++ (⟨#[59, 32, 109, 97, 100, 101, 32, 102, 97, 115, 116, 32]⟩ : ByteArray)) ++ t412) l0_4 (l0_4.length : Int) 0 a0_0 l0_1 l0_2 l0_3 l0_4 a0_5 a0_6) else (none)) = some r := H
      have A10 := Aside0.mk A100
      clear A100
      by_cases c11 : (((((⟨#[100, 97, 121, 32]⟩ : ByteArray) ++ t410) ++ (⟨#[59, 32, 108, 105, 110, 101, 115, 32]⟩ : ByteArray)) ++ t411) ++ (⟨#[59, 32, 109, 97, 100, 101, 32, 102, 97, 115, 116, 32]⟩ : ByteArray)).size + t412.size ≤ 9223372036854775807
      ·rw [if_pos c11] at H
       have c11b0 := eq_true c11
       have c11b1 : decide ((((((⟨#[100, 97, 121, 32]⟩ : ByteArray) ++ t410) ++ (⟨#[59, 32, 108, 105, 110, 101, 115, 32]⟩ : ByteArray)) ++ t411) ++ (⟨#[59, 32, 109, 97, 100, 101, 32, 102, 97, 115, 116, 32]⟩ : ByteArray)).size + t412.size ≤ 9223372036854775807) = true := decide_eq_true c11
       try have c11b2 : (9223372036854775807 < (((((⟨#[100, 97, 121, 32]⟩ : ByteArray) ++ t410) ++ (⟨#[59, 32, 108, 105, 110, 101, 115, 32]⟩ : ByteArray)) ++ t411) ++ (⟨#[59, 32, 109, 97, 100, 101, 32, 102, 97, 115, 116, 32]⟩ : ByteArray)).size + t412.size) = False := eq_false (Nat.not_lt.2 c11)
       try (have c11b3 := c11b2; simp only [ByteArray.size_append, show (⟨#[100, 97, 121, 32]⟩ : ByteArray).size = 4 from rfl, show (⟨#[59, 32, 108, 105, 110, 101, 115, 32]⟩ : ByteArray).size = 8 from rfl, show (⟨#[59, 32, 109, 97, 100, 101, 32, 102, 97, 115, 116, 32]⟩ : ByteArray).size = 12 from rfl] at c11b3)
       have H' := Aside0.mk H
       clear H
       go_enter Tryz.func12, Tryz.ntmps12
       try go_wp2_with (first | ((with_reducible refine gate_dst (N := 1) rfl ?_); refine box_event ?hg (N := 1) ?hd (cs := #[.int .i64 a0_0, .slice A0_1 l0_1.length c0_1, .slice A0_2 l0_2.length c0_2, .slice A0_3 l0_3.length c0_3, .slice A0_4 l0_4.length c0_4, .string a0_5, .string a0_6]) (t := 41) ?hr ?_; (case hd => rfl); (case hg => rfl); (case hr => first | (go_simp; done) | (go_simp; rfl)); intro gb408 hg w12 hbox hb; have BK408 := Aside0.mk (hbox); have GW408 := bsz_ hg; have GE408 := bsz_ hg; replace HB := bst_ hb; clear hb hbox hg; have hcz13_0 : w12.cell? ⟨gb408, 0, none⟩ = some (.int .i64 a0_0) := (blk_cell BK408.out 0).trans rfl; have hcz13_1 : w12.cell? ⟨gb408, 1, none⟩ = some (.slice A0_1 l0_1.length c0_1) := (blk_cell BK408.out 1).trans rfl; have hcz13_2 : w12.cell? ⟨gb408, 2, none⟩ = some (.slice A0_2 l0_2.length c0_2) := (blk_cell BK408.out 2).trans rfl; have hcz13_3 : w12.cell? ⟨gb408, 3, none⟩ = some (.slice A0_3 l0_3.length c0_3) := (blk_cell BK408.out 3).trans rfl; have hcz13_4 : w12.cell? ⟨gb408, 4, none⟩ = some (.slice A0_4 l0_4.length c0_4) := (blk_cell BK408.out 4).trans rfl; have hcz13_5 : w12.cell? ⟨gb408, 5, none⟩ = some (.string a0_5) := (blk_cell BK408.out 5).trans rfl; have hcz13_6 : w12.cell? ⟨gb408, 6, none⟩ = some (.string a0_6) := (blk_cell BK408.out 6).trans rfl; have hfz13_0 := blk_frozen BK408.out 0; have hfz13_1 := blk_frozen BK408.out 1; have hfz13_2 := blk_frozen BK408.out 2; have hfz13_3 := blk_frozen BK408.out 3; have hfz13_4 := blk_frozen BK408.out 4; have hfz13_5 := blk_frozen BK408.out 5; have hfz13_6 := blk_frozen BK408.out 6) | ((with_reducible refine gate_callee (f := 9) rfl ?_); refine goesL_ (some 7) rfl rfl Tryz.func9 (by kernel_rfl) rfl #[.agg #[.int .i64 a0_0, .slice A0_1 l0_1.length c0_1, .slice A0_2 l0_2.length c0_2, .slice A0_3 l0_3.length c0_3, .slice A0_4 l0_4.length c0_4, .string a0_5, .string a0_6]] rfl (by (try simp only [List.map_toArray, List.map_cons, List.map_nil]); first | done | rfl | (simp only [List.length_drop, List.length_take]; rfl) | (simp only [ByteArray.size_append, Int.natCast_add]; rfl)) ?_; (with_reducible refine (impl_ValidDesk.calls k a0_0 _ _ l0_1 _ _ l0_2 _ _ l0_3 _ _ l0_4 a0_5 a0_6 true _ ?side1 ?side2 ?side3 ?side4 ?side5 ?side6 ?side7 ?side8 A2.out ?side9).mono ?_); (case side1 => repeat (first | exact (Kd.C_below HR0_1.out HB.out) | (with_reducible refine Kd.C_alloc ?_ _) | (with_reducible refine Kd.C_drewN ?_ _) | (with_reducible refine Kd.C_drew ?_))); (case side2 => exact HC0_1.out); (case side3 => repeat (first | exact (Kd.C_below HR0_2.out HB.out) | (with_reducible refine Kd.C_alloc ?_ _) | (with_reducible refine Kd.C_drewN ?_ _) | (with_reducible refine Kd.C_drew ?_))); (case side4 => exact HC0_2.out); (case side5 => repeat (first | exact (Kd.C_below HR0_3.out HB.out) | (with_reducible refine Kd.C_alloc ?_ _) | (with_reducible refine Kd.C_drewN ?_ _) | (with_reducible refine Kd.C_drew ?_))); (case side6 => exact HC0_3.out); (case side7 => repeat (first | exact (Kd.C_below HR0_4.out HB.out) | (with_reducible refine Kd.C_alloc ?_ _) | (with_reducible refine Kd.C_drewN ?_ _) | (with_reducible refine Kd.C_drew ?_))); (case side8 => exact HC0_4.out); (case side9 => exact HTB.out.below bwl_); rintro e w14 ⟨rfl, hb⟩; refine ⟨_, rfl, ?_⟩; replace BK408 := bkb_ BK408 hb; replace HB := bst_ hb; (try clear hb); (try clear hb2); (try clear hk); (try clear hi)))
       replace BK408 := Aside0.mk (blk_drew BK408.out)
       replace HB := Aside0.mk (below_drew1 HB.out)
       refine start_ (n := 19) (S := fun w' => w'.cell? ⟨gb408, 0, none⟩ = some (.int .i64 a0_0) ∧ w'.cell? ⟨gb408, 1, none⟩ = some (.slice A0_1 l0_1.length c0_1) ∧ w'.cell? ⟨gb408, 2, none⟩ = some (.slice A0_2 l0_2.length c0_2) ∧ w'.cell? ⟨gb408, 3, none⟩ = some (.slice A0_3 l0_3.length c0_3) ∧ w'.cell? ⟨gb408, 4, none⟩ = some (.slice A0_4 l0_4.length c0_4) ∧ w'.cell? ⟨gb408, 5, none⟩ = some (.string a0_5) ∧ w'.cell? ⟨gb408, 6, none⟩ = some (.string a0_6)) (ds := []) #[false, false, false, false, false, false, false, false, false, false, false, false, false, false, false, false, false, false, false] (by kernel_rfl) rfl rfl ⟨(blk_cell BK408.out 0).trans rfl, (blk_cell BK408.out 1).trans rfl, (blk_cell BK408.out 2).trans rfl, (blk_cell BK408.out 3).trans rfl, (blk_cell BK408.out 4).trans rfl, (blk_cell BK408.out 5).trans rfl, (blk_cell BK408.out 6).trans rfl⟩ (fun hHeld => ?_); refine with_tabW impl_DeskText.tab3 impl_DeskText.bits3 (fun HT_ HW_ => ?_)
       generalize w14.drew = w15 at BK408 HB hHeld ⊢
       refine pure_ (i := 0) (N := some 9) (v := ?_) (a' := ?_) #[true, false, false, false, false, false, false, false, false, false, false, false, false, false, false, false, false, false, false] rfl rfl (any_of HT_.out (by kernel_rfl)) (fun _ _ _ h => h) (Or.inl ⟨by rfl, ?_⟩) ?_ ?_
       rotate_left
       ·intro w'
        go_simp
        with_reducible rfl
       rotate_left
       ·simp only [Act.put, List.setIfInBounds_toArray, List.set_cons_zero, List.set_cons_succ, i64_w, i32_w]
        rfl
       refine pure_ (i := 5) (N := some 14) (v := ?_) (a' := ?_) #[true, false, false, false, false, true, false, false, false, false, false, false, false, false, false, false, false, false, false] rfl rfl (any_of HT_.out (by kernel_rfl)) (fun _ _ _ h => h) (Or.inl ⟨by rfl, ?_⟩) ?_ ?_
       rotate_left
       ·intro w'
        go_simp
        with_reducible rfl
       rotate_left
       ·simp only [Act.put, List.setIfInBounds_toArray, List.set_cons_zero, List.set_cons_succ, i64_w, i32_w]
        rfl
       refine pure_ (i := 6) (N := some 15) (v := ?_) (a' := ?_) #[true, false, false, false, false, true, true, false, false, false, false, false, false, false, false, false, false, false, false] rfl rfl (any_of HT_.out (by kernel_rfl)) (fun _ _ _ h => h) (Or.inl ⟨by rfl, ?_⟩) ?_ ?_
       rotate_left
       ·intro w'
        go_simp
        with_reducible rfl
       rotate_left
       ·simp only [Act.put, List.setIfInBounds_toArray, List.set_cons_zero, List.set_cons_succ, i64_w, i32_w]
        rfl
       refine pure_ (i := 12) (N := some 21) (v := ?_) (a' := ?_) #[true, false, false, false, false, true, true, false, false, false, false, false, true, false, false, false, false, false, false] rfl rfl (any_of HT_.out (by kernel_rfl)) (fun _ _ _ h => h) (Or.inl ⟨by rfl, ?_⟩) ?_ ?_
       rotate_left
       ·intro w'
        go_simp
        with_reducible rfl
       rotate_left
       ·simp only [Act.put, List.setIfInBounds_toArray, List.set_cons_zero, List.set_cons_succ, i64_w, i32_w]
        rfl
       refine pure_ (i := 13) (N := some 22) (v := ?_) (a' := ?_) #[true, false, false, false, false, true, true, false, false, false, false, false, true, true, false, false, false, false, false] rfl rfl (any_of HT_.out (by kernel_rfl)) (fun _ _ _ h => h) (Or.inl ⟨by rfl, ?_⟩) ?_ ?_
       rotate_left
       ·intro w'
        go_simp
        with_reducible rfl
       rotate_left
       ·simp only [Act.put, List.setIfInBounds_toArray, List.set_cons_zero, List.set_cons_succ, i64_w, i32_w]
        rfl
       refine take_ (i := 1) (N := some 10) (v := ?_) (a' := ?_) #[true, true, false, false, false, true, true, false, false, false, false, false, true, true, false, false, false, false, false] rfl rfl (take_ofW HT_.out HW_.out (by kernel_rfl)) (fun _ _ _ h => h) (Or.inl ⟨by rfl, ?_⟩) hHeld ?_ ?_
       rotate_left
       ·rintro w' ⟨s0, s1, s2, s3, s4, s5, s6⟩
        go_simp
        with_reducible rfl
       rotate_left
       ·simp only [Act.put, List.setIfInBounds_toArray, List.set_cons_zero, List.set_cons_succ, i64_w, i32_w]
        rfl
       refine take_ (i := 7) (N := some 16) (v := ?_) (a' := ?_) #[true, true, false, false, false, true, true, true, false, false, false, false, true, true, false, false, false, false, false] rfl rfl (take_ofW HT_.out HW_.out (by kernel_rfl)) (fun _ _ _ h => h) (Or.inl ⟨by rfl, ?_⟩) hHeld ?_ ?_
       rotate_left
       ·rintro w' ⟨s0, s1, s2, s3, s4, s5, s6⟩
        go_simp
        with_reducible rfl
       rotate_left
       ·simp only [Act.put, List.setIfInBounds_toArray, List.set_cons_zero, List.set_cons_succ, i64_w, i32_w]
        rfl
       refine pure_ (i := 8) (N := some 17) (v := ?_) (a' := ?_) #[true, true, false, false, false, true, true, true, true, false, false, false, true, true, false, false, false, false, false] rfl rfl (any_of HT_.out (by kernel_rfl)) (fun _ _ _ h => h) (Or.inl ⟨by rfl, ?_⟩) ?_ ?_
       rotate_left
       ·intro w'
        go_simp
        with_reducible rfl
       rotate_left
       ·simp only [Act.put, List.setIfInBounds_toArray, List.set_cons_zero, List.set_cons_succ, i64_w, i32_w]
        rfl
       refine take_ (i := 14) (N := some 23) (v := ?_) (a' := ?_) #[true, true, false, false, false, true, true, true, true, false, false, false, true, true, true, false, false, false, false] rfl rfl (take_ofW HT_.out HW_.out (by kernel_rfl)) (fun _ _ _ h => h) (Or.inl ⟨by rfl, ?_⟩) hHeld ?_ ?_
       rotate_left
       ·rintro w' ⟨s0, s1, s2, s3, s4, s5, s6⟩
        go_simp
        with_reducible rfl
       rotate_left
       ·simp only [Act.put, List.setIfInBounds_toArray, List.set_cons_zero, List.set_cons_succ, i64_w, i32_w]
        rfl
       refine pure_ (i := 15) (N := some 24) (v := ?_) (a' := ?_) #[true, true, false, false, false, true, true, true, true, false, false, false, true, true, true, true, false, false, false] rfl rfl (any_of HT_.out (by kernel_rfl)) (fun _ _ _ h => h) (Or.inl ⟨by rfl, ?_⟩) ?_ ?_
       rotate_left
       ·intro w'
        go_simp
        with_reducible rfl
       rotate_left
       ·simp only [Act.put, List.setIfInBounds_toArray, List.set_cons_zero, List.set_cons_succ, i64_w, i32_w]
        rfl
       refine one_ (i := 2) (N := some 11) #[true, true, true, false, false, true, true, true, true, false, false, false, true, true, true, true, false, false, false] rfl rfl (one_of HT_.out (by kernel_rfl)) (by decide) (fun K hK => ?_)
       refine goes_ Tryz.func35 (by kernel_rfl) rfl #[.int .i64 a0_0] (by rfl) rfl rfl (by (try simp only [List.map_toArray, List.map_cons, List.map_nil]); first | done | rfl | (simp only [List.length_drop, List.length_take]; rfl) | (simp only [ByteArray.size_append, Int.natCast_add]; rfl)) ?_
       with_reducible refine (impl_Decimal.calls a0_0 t410 _ A4.out ?side1).mono ?_
       (case side1 => exact HTB.out.below bwl_)
       rintro e w16 ⟨rfl, hb⟩
       refine ⟨_, rfl, ?_⟩
       replace BK408 := bkb_ BK408 hb
       replace HB := bst_ hb
       (try clear hb);(try clear hb2);(try clear hk);(try clear hi)
       refine hK.out _ _ ⟨(blk_cell BK408.out 0).trans rfl, (blk_cell BK408.out 1).trans rfl, (blk_cell BK408.out 2).trans rfl, (blk_cell BK408.out 3).trans rfl, (blk_cell BK408.out 4).trans rfl, (blk_cell BK408.out 5).trans rfl, (blk_cell BK408.out 6).trans rfl⟩ (fun hHeld => ?_)
       clear hK K
       refine norm_ (a' := ?_) ?_ ?_
       rotate_left
       ·show Act.put _ (some 11) _ = _
        simp only [Act.put, List.setIfInBounds_toArray, List.set_cons_zero, List.set_cons_succ, i64_w, i32_w]
        rfl
       refine pure_ (i := 3) (N := some 12) (v := ?_) (a' := ?_) #[true, true, true, true, false, true, true, true, true, false, false, false, true, true, true, true, false, false, false] rfl rfl (any_of HT_.out (by kernel_rfl)) (fun _ _ _ h => h) (Or.inl ⟨by rfl, ?_⟩) ?_ ?_
       rotate_left
       ·intro w'
        go_simp
        with_reducible rfl
       rotate_left
       ·simp only [Act.put, List.setIfInBounds_toArray, List.set_cons_zero, List.set_cons_succ, i64_w, i32_w]
        rfl
       refine pure_ (i := 4) (N := some 13) (v := ?_) (a' := ?_) #[true, true, true, true, true, true, true, true, true, false, false, false, true, true, true, true, false, false, false] rfl rfl (any_of HT_.out (by kernel_rfl)) (fun _ _ _ h => h) (Or.inl ⟨by rfl, ?_⟩) ?_ ?_
       rotate_left
       ·intro w'
        go_simp
        with_reducible rfl
       rotate_left
       ·simp only [Act.put, List.setIfInBounds_toArray, List.set_cons_zero, List.set_cons_succ, i64_w, i32_w]
        rfl
       refine one_ (i := 9) (N := some 18) #[true, true, true, true, true, true, true, true, true, true, false, false, true, true, true, true, false, false, false] rfl rfl (one_of HT_.out (by kernel_rfl)) (by decide) (fun K hK => ?_)
       refine goes_ Tryz.func35 (by kernel_rfl) rfl #[.int .i64 (l0_2.length : Int)] (by rfl) rfl rfl (by (try simp only [List.map_toArray, List.map_cons, List.map_nil]); first | done | rfl | (simp only [List.length_drop, List.length_take]; rfl) | (simp only [ByteArray.size_append, Int.natCast_add]; rfl)) ?_
       with_reducible refine (impl_Decimal.calls (l0_2.length : Int) t411 _ A7.out ?side1).mono ?_
       (case side1 => exact HTB.out.below bwl_)
       rintro e w17 ⟨rfl, hb⟩
       refine ⟨_, rfl, ?_⟩
       replace BK408 := bkb_ BK408 hb
       replace HB := bst_ hb
       (try clear hb);(try clear hb2);(try clear hk);(try clear hi)
       refine hK.out _ _ ⟨(blk_cell BK408.out 0).trans rfl, (blk_cell BK408.out 1).trans rfl, (blk_cell BK408.out 2).trans rfl, (blk_cell BK408.out 3).trans rfl, (blk_cell BK408.out 4).trans rfl, (blk_cell BK408.out 5).trans rfl, (blk_cell BK408.out 6).trans rfl⟩ (fun hHeld => ?_)
       clear hK K
       refine norm_ (a' := ?_) ?_ ?_
       rotate_left
       ·show Act.put _ (some 18) _ = _
        simp only [Act.put, List.setIfInBounds_toArray, List.set_cons_zero, List.set_cons_succ, i64_w, i32_w]
        rfl
       refine pure_ (i := 10) (N := some 19) (v := ?_) (a' := ?_) #[true, true, true, true, true, true, true, true, true, true, true, false, true, true, true, true, false, false, false] rfl rfl (any_of HT_.out (by kernel_rfl)) (fun _ _ _ h => h) (Or.inl ⟨by rfl, ?_⟩) ?_ ?_
       rotate_left
       ·intro w'
        go_simp
        with_reducible rfl
       rotate_left
       ·simp only [Act.put, List.setIfInBounds_toArray, List.set_cons_zero, List.set_cons_succ, i64_w, i32_w]
        rfl
       refine pure_ (i := 11) (N := some 20) (v := ?_) (a' := ?_) #[true, true, true, true, true, true, true, true, true, true, true, true, true, true, true, true, false, false, false] rfl rfl (any_of HT_.out (by kernel_rfl)) (fun _ _ _ h => h) (Or.inl ⟨by rfl, ?_⟩) ?_ ?_
       rotate_left
       ·intro w'
        go_simp
        with_reducible rfl
       rotate_left
       ·simp only [Act.put, List.setIfInBounds_toArray, List.set_cons_zero, List.set_cons_succ, i64_w, i32_w]
        rfl
       refine one_ (i := 16) (N := some 25) #[true, true, true, true, true, true, true, true, true, true, true, true, true, true, true, true, true, false, false] rfl rfl (one_of HT_.out (by kernel_rfl)) (by decide) (fun K hK => ?_)
       refine goes_ Tryz.func35 (by kernel_rfl) rfl #[.int .i64 (l0_3.length : Int)] (by rfl) rfl rfl (by (try simp only [List.map_toArray, List.map_cons, List.map_nil]); first | done | rfl | (simp only [List.length_drop, List.length_take]; rfl) | (simp only [ByteArray.size_append, Int.natCast_add]; rfl)) ?_
       with_reducible refine (impl_Decimal.calls (l0_3.length : Int) t412 _ A10.out ?side1).mono ?_
       (case side1 => exact HTB.out.below bwl_)
       rintro e w18 ⟨rfl, hb⟩
       refine ⟨_, rfl, ?_⟩
       replace BK408 := bkb_ BK408 hb
       replace HB := bst_ hb
       (try clear hb);(try clear hb2);(try clear hk);(try clear hi)
       refine hK.out _ _ ⟨(blk_cell BK408.out 0).trans rfl, (blk_cell BK408.out 1).trans rfl, (blk_cell BK408.out 2).trans rfl, (blk_cell BK408.out 3).trans rfl, (blk_cell BK408.out 4).trans rfl, (blk_cell BK408.out 5).trans rfl, (blk_cell BK408.out 6).trans rfl⟩ (fun hHeld => ?_)
       clear hK K
       refine norm_ (a' := ?_) ?_ ?_
       rotate_left
       ·show Act.put _ (some 25) _ = _
        simp only [Act.put, List.setIfInBounds_toArray, List.set_cons_zero, List.set_cons_succ, i64_w, i32_w]
        rfl
       refine pure_ (i := 17) (N := some 26) (v := ?_) (a' := ?_) #[true, true, true, true, true, true, true, true, true, true, true, true, true, true, true, true, true, true, false] rfl rfl (any_of HT_.out (by kernel_rfl)) (fun _ _ _ h => h) (Or.inl ⟨by rfl, ?_⟩) ?_ ?_
       rotate_left
       ·intro w'
        go_simp
        with_reducible rfl
       rotate_left
       ·simp only [Act.put, List.setIfInBounds_toArray, List.set_cons_zero, List.set_cons_succ, i64_w, i32_w]
        rfl
       refine pure_ (i := 18) (N := some 3) (v := ?_) (a' := ?_) #[true, true, true, true, true, true, true, true, true, true, true, true, true, true, true, true, true, true, true] rfl rfl (any_of HT_.out (by kernel_rfl)) (fun _ _ _ h => h) (Or.inl ⟨by rfl, ?_⟩) ?_ ?_
       rotate_left
       ·intro w'
        go_simp
        with_reducible rfl
       rotate_left
       ·simp only [Act.put, List.setIfInBounds_toArray, List.set_cons_zero, List.set_cons_succ, i64_w, i32_w]
        rfl
       refine done_ (done_of HT_.out (by kernel_rfl)) ?_
       have hcz19_0 : w18.cell? ⟨gb408, 0, none⟩ = some (.int .i64 a0_0) := (blk_cell BK408.out 0).trans rfl
       have hcz19_1 : w18.cell? ⟨gb408, 1, none⟩ = some (.slice A0_1 l0_1.length c0_1) := (blk_cell BK408.out 1).trans rfl
       have hcz19_2 : w18.cell? ⟨gb408, 2, none⟩ = some (.slice A0_2 l0_2.length c0_2) := (blk_cell BK408.out 2).trans rfl
       have hcz19_3 : w18.cell? ⟨gb408, 3, none⟩ = some (.slice A0_3 l0_3.length c0_3) := (blk_cell BK408.out 3).trans rfl
       have hcz19_4 : w18.cell? ⟨gb408, 4, none⟩ = some (.slice A0_4 l0_4.length c0_4) := (blk_cell BK408.out 4).trans rfl
       have hcz19_5 : w18.cell? ⟨gb408, 5, none⟩ = some (.string a0_5) := (blk_cell BK408.out 5).trans rfl
       have hcz19_6 : w18.cell? ⟨gb408, 6, none⟩ = some (.string a0_6) := (blk_cell BK408.out 6).trans rfl
       have hfz19_0 := blk_frozen BK408.out 0
       have hfz19_1 := blk_frozen BK408.out 1
       have hfz19_2 := blk_frozen BK408.out 2
       have hfz19_3 := blk_frozen BK408.out 3
       have hfz19_4 := blk_frozen BK408.out 4
       have hfz19_5 := blk_frozen BK408.out 5
       have hfz19_6 := blk_frozen BK408.out 6
       try go_wp2
       go_loopg [3, 30] k (fun kq v3 v30 w' => ∃ (x3_1 : ByteArray) (x30_1 : Int), v3 = .string x3_1 ∧ v30 = .int .i64 x30_1 ∧ Aside0 (impl_DeskText.l0 kq x3_1 l0_4 (l0_4.length : Int) x30_1 a0_0 l0_1 l0_2 l0_3 l0_4 a0_5 a0_6 = some r) ∧ Aside0 (kq ≤ k) ∧ Aside0 (w'.heap[gb408]? = some (.cells #[.int .i64 a0_0, (.slice A0_1 l0_1.length c0_1), (.slice A0_2 l0_2.length c0_2), (.slice A0_3 l0_3.length c0_3), (.slice A0_4 l0_4.length c0_4), .string a0_5, .string a0_6] 41 (0, 0))) ∧ Aside0 (Below w.heap.size w w'))
       case atStart => exact ⟨((((((⟨#[100, 97, 121, 32]⟩ : ByteArray) ++ t410) ++ (⟨#[59, 32, 108, 105, 110, 101, 115, 32]⟩ : ByteArray)) ++ t411) ++ (⟨#[59, 32, 109, 97, 100, 101, 32, 102, 97, 115, 116, 32]⟩ : ByteArray)) ++ t412), (0), (by first | rfl | (simp; done) | (simp [*]; done)), (by first | rfl | (simp; done) | (simp [*]; done)), H', ⟨Nat.le_refl _⟩, ⟨by (with_reducible repeat (first | refine blk_drewN ?_ _ | refine blk_drew ?_ | refine blk_alloc ?_ _)); exact BK408.out⟩, ⟨bwl_⟩⟩
       case round =>
        clear H'
        (try clear c3);(try clear c5);(try clear c5b0);(try clear c5b1);(try clear c5b2);(try clear c6);(try clear c6b0);(try clear c6b1);(try clear c6b2);(try clear c8);(try clear c8b0);(try clear c8b1);(try clear c8b2);(try clear c9);(try clear c9b0);(try clear c9b1);(try clear c9b2);(try clear c11);(try clear c11b0);(try clear c11b1);(try clear c11b2);(try clear hcz13_0);(try clear hcz13_1);(try clear hcz13_2)
        (try clear hcz13_3);(try clear hcz13_4);(try clear hcz13_5);(try clear hcz13_6);(try clear hcz19_0);(try clear hcz19_1);(try clear hcz19_2);(try clear hcz19_3);(try clear hcz19_4);(try clear hcz19_5);(try clear hcz19_6);(try clear hfz13_0);(try clear hfz13_1);(try clear hfz13_2);(try clear hfz13_3);(try clear hfz13_4);(try clear hfz13_5);(try clear hfz13_6);(try clear hfz19_0);(try clear hfz19_1)
        (try clear hfz19_2);(try clear hfz19_3);(try clear hfz19_4);(try clear hfz19_5);(try clear hfz19_6)
        obtain ⟨x3_1, x30_1, rfl, rfl, HA, HK1, BK408, HB⟩ := hrel
        cases gk with
        | zero => exact absurd HA.out (by simp [impl_DeskText.l0])
        | succ k1 =>
         have H := HA.out
         clear HA
         simp only [impl_DeskText.l0] at H
         by_cases c20 : x30_1 < (l0_4.length : Int)
         ·rw [if_pos c20] at H
          have c20b0 : decide (x30_1 < (l0_4.length : Int)) = true := decide_eq_true c20
          clear c20
          by_cases c21 : 0 ≤ x30_1
          ·rw [if_pos c21] at H
           have c21b0 : decide (0 ≤ x30_1) = true := decide_eq_true c21
           clear c21
           by_cases c22 : x30_1 < (l0_4.length : Int)
           ·rw [if_pos c22] at H
            have c22b0 : decide (x30_1 < (l0_4.length : Int)) = true := decide_eq_true c22
            clear c22
            replace H := Option.bind_eq_some_iff.mp H
            obtain ⟨t415, A230, H⟩ := H
            replace H : (if 2 + t415.size ≤ 9223372036854775807 then (if x3_1.size + ((⟨#[59, 32]⟩ : ByteArray) ++ t415).size ≤ 9223372036854775807 then (impl_DeskText.l0 k1 (x3_1 ++ ((⟨#[59, 32]⟩ : ByteArray) ++ t415)) l0_4 (l0_4.length : Int) (wrap64 (x30_1 + 1)) a0_0 l0_1 l0_2 l0_3 l0_4 a0_5 a0_6) else (none)) else (none)) = some r := H
            have A23 := Aside0.mk A230
            clear A230
            by_cases c24 : 2 + t415.size ≤ 9223372036854775807
            ·rw [if_pos c24] at H
             have c24b0 := eq_true c24
             have c24b1 : decide (2 + t415.size ≤ 9223372036854775807) = true := decide_eq_true c24
             try have c24b2 : (9223372036854775807 < 2 + t415.size) = False := eq_false (Nat.not_lt.2 c24)
             by_cases c25 : x3_1.size + ((⟨#[59, 32]⟩ : ByteArray) ++ t415).size ≤ 9223372036854775807
             ·rw [if_pos c25] at H
              have c25b0 := eq_true c25
              have c25b1 : decide (x3_1.size + ((⟨#[59, 32]⟩ : ByteArray) ++ t415).size ≤ 9223372036854775807) = true := decide_eq_true c25
              try have c25b2 : (9223372036854775807 < x3_1.size + ((⟨#[59, 32]⟩ : ByteArray) ++ t415).size) = False := eq_false (Nat.not_lt.2 c25)
              try (have c25b3 := c25b2; simp only [ByteArray.size_append, show (⟨#[59, 32]⟩ : ByteArray).size = 2 from rfl] at c25b3)
              have H' := Aside0.mk H
              clear H
              have p413 : 0 ≤ (x30_1 : Int) := of_decide_eq_true (by first | (with_reducible assumption) | assumption)
              have q413 : x30_1 < (l0_4.length : Int) := of_decide_eq_true (by first | (with_reducible assumption) | assumption)
              obtain ⟨ad413, e413, hx413_0, hx413_1⟩ := at_T69 HR0_4.out x30_1 p413 q413
              cases e413
              replace hx413_0 := (HB.out.cell (World.block_lt_of_cell? w _ hx413_0)).trans hx413_0
              replace hx413_1 := (HB.out.cell (World.block_lt_of_cell? w _ hx413_1)).trans hx413_1
              replace p413 := eq_true p413
              replace q413 := eq_true q413
              go_wp2_with (first | ((with_reducible refine gate_dst (N := 5) rfl ?_); refine box_event ?hg (N := 5) ?hd (cs := #[.string (⟨#[]⟩ : ByteArray), .int .i64 0]) (t := 69) ?hr ?_; (case hd => rfl); (case hg => rfl); (case hr => first | (go_simp; done) | (go_simp; rfl)); intro gb414 hg w26 hbox hb; have BK414 := Aside0.mk (hbox); have GW414 := bsz_ hg; have GE414 := bsz_ hg; replace HB := bst_ hb; have NB408_414 := nbl_ BK408 hg; have NB414_408 := nbr_ BK408 hg; replace BK408 := bkb_ BK408 hb; clear hb hbox hg; have hnb27 := NB414_408.out; have hnc27 := NB408_414.out; have hcz28_0 : w26.cell? ⟨gb414, 0, none⟩ = some (.string (⟨#[]⟩ : ByteArray)) := (blk_cell BK414.out 0).trans rfl; have hcz28_1 : w26.cell? ⟨gb414, 1, none⟩ = some (.int .i64 0) := (blk_cell BK414.out 1).trans rfl; have hfz28_0 := blk_frozen BK414.out 0; have hfz28_1 := blk_frozen BK414.out 1) | ((with_reducible refine gate_callee (f := 36) rfl ?_); refine goesL_ (some 36) rfl rfl Tryz.func36 (by kernel_rfl) rfl #[.agg #[.string ((rd_T69 l0_4 x30_1).f0), .int .i64 ((rd_T69 l0_4 x30_1).f1)]] rfl (by (try simp only [List.map_toArray, List.map_cons, List.map_nil]); first | done | rfl | (simp only [List.length_drop, List.length_take]; rfl) | (simp only [ByteArray.size_append, Int.natCast_add]; rfl)) ?_; (with_reducible refine (impl_CoilText.calls k1 ((rd_T69 l0_4 x30_1).f0) ((rd_T69 l0_4 x30_1).f1) t415 _ A23.out ?side1).mono ?_); (case side1 => exact HTB.out.below bwl_); rintro e w29 ⟨rfl, hb⟩; refine ⟨_, rfl, ?_⟩; replace BK408 := bkb_ BK408 hb; replace BK414 := Aside0.mk (blk_below (g := gb414) (o := .cells #[.string ((rd_T69 l0_4 x30_1).f0), .int .i64 ((rd_T69 l0_4 x30_1).f1)] 69 (0, 0)) (by (with_reducible repeat (first | refine blk_drewN ?_ _ | refine blk_drew ?_ | refine blk_alloc ?_ _)); refine blk_put (cs := #[.string ((rd_T69 l0_4 x30_1).f0), .int .i64 0]) ?_ 1 _ rfl; (with_reducible repeat (first | refine blk_drewN ?_ _ | refine blk_drew ?_ | refine blk_alloc ?_ _)); refine blk_put (cs := #[.string (⟨#[]⟩ : ByteArray), .int .i64 0]) ?_ 0 _ rfl; (with_reducible repeat (first | refine blk_drewN ?_ _ | refine blk_drew ?_ | refine blk_alloc ?_ _)); exact BK414.out) hb); replace HB := bst_ hb; (try clear hb); (try clear hb2); (try clear hk); (try clear hi)))
              go_roundg k1
              case measure => have := HK1.out; omega
              case rel => exact ⟨(x3_1 ++ ((⟨#[59, 32]⟩ : ByteArray) ++ t415)), (wrap64 (x30_1 + 1)), (by first | rfl | (simp; done) | (simp [*]; done)), (by first | rfl | (simp; done) | (simp [*]; done)), H', ⟨by have := HK1.out; omega⟩, ⟨by (with_reducible repeat (first | refine blk_drewN ?_ _ | refine blk_drew ?_ | refine blk_alloc ?_ _)); exact BK408.out⟩, ⟨bwl_⟩⟩
             ·rw [if_neg c25] at H
              exact absurd H (by simp)
            ·rw [if_neg c24] at H
             exact absurd H (by simp)
           ·rw [if_neg c22] at H
            exact absurd H (by simp)
          ·rw [if_neg c21] at H
           exact absurd H (by simp)
         ·rw [if_neg c20] at H
          have c20b0 : decide (x30_1 < (l0_4.length : Int)) = false := decide_eq_false c20
          clear c20
          by_cases c30 : x3_1.size + 10 ≤ 9223372036854775807
          ·rw [if_pos c30] at H
           have c30b0 := eq_true c30
           have c30b1 : decide (x3_1.size + 10 ≤ 9223372036854775807) = true := decide_eq_true c30
           try have c30b2 : (9223372036854775807 < x3_1.size + 10) = False := eq_false (Nat.not_lt.2 c30)
           replace H := Option.bind_eq_some_iff.mp H
           obtain ⟨t416, A310, H⟩ := H
           replace H : ((impl_Decimal.f (t416.length : Int)).bind fun t419 => (if (x3_1 ++ (⟨#[59, 32, 101, 110, 116, 114, 105, 101, 115, 32]⟩ : ByteArray)).size + t419.size ≤ 9223372036854775807 then (some ((x3_1 ++ (⟨#[59, 32, 101, 110, 116, 114, 105, 101, 115, 32]⟩ : ByteArray)) ++ t419)) else (none))) = some r := H
           have A31 := Aside0.mk A310
           clear A310
           replace H := Option.bind_eq_some_iff.mp H
           obtain ⟨t419, A320, H⟩ := H
           replace H : (if (x3_1 ++ (⟨#[59, 32, 101, 110, 116, 114, 105, 101, 115, 32]⟩ : ByteArray)).size + t419.size ≤ 9223372036854775807 then (some ((x3_1 ++ (⟨#[59, 32, 101, 110, 116, 114, 105, 101, 115, 32]⟩ : ByteArray)) ++ t419)) else (none)) = some r := H
           have A32 := Aside0.mk A320
           clear A320
           by_cases c33 : (x3_1 ++ (⟨#[59, 32, 101, 110, 116, 114, 105, 101, 115, 32]⟩ : ByteArray)).size + t419.size ≤ 9223372036854775807
           ·rw [if_pos c33] at H
            have c33b0 := eq_true c33
            have c33b1 : decide ((x3_1 ++ (⟨#[59, 32, 101, 110, 116, 114, 105, 101, 115, 32]⟩ : ByteArray)).size + t419.size ≤ 9223372036854775807) = true := decide_eq_true c33
            try have c33b2 : (9223372036854775807 < (x3_1 ++ (⟨#[59, 32, 101, 110, 116, 114, 105, 101, 115, 32]⟩ : ByteArray)).size + t419.size) = False := eq_false (Nat.not_lt.2 c33)
            try (have c33b3 := c33b2; simp only [ByteArray.size_append, show (⟨#[59, 32, 101, 110, 116, 114, 105, 101, 115, 32]⟩ : ByteArray).size = 10 from rfl] at c33b3)
            obtain rfl := Option.some.inj H
            have hcz34_0 : wr.cell? ⟨gb408, 0, none⟩ = some (.int .i64 a0_0) := (blk_cell BK408.out 0).trans rfl
            have hcz34_1 : wr.cell? ⟨gb408, 1, none⟩ = some (.slice A0_1 l0_1.length c0_1) := (blk_cell BK408.out 1).trans rfl
            have hcz34_2 : wr.cell? ⟨gb408, 2, none⟩ = some (.slice A0_2 l0_2.length c0_2) := (blk_cell BK408.out 2).trans rfl
            have hcz34_3 : wr.cell? ⟨gb408, 3, none⟩ = some (.slice A0_3 l0_3.length c0_3) := (blk_cell BK408.out 3).trans rfl
            have hcz34_4 : wr.cell? ⟨gb408, 4, none⟩ = some (.slice A0_4 l0_4.length c0_4) := (blk_cell BK408.out 4).trans rfl
            have hcz34_5 : wr.cell? ⟨gb408, 5, none⟩ = some (.string a0_5) := (blk_cell BK408.out 5).trans rfl
            have hcz34_6 : wr.cell? ⟨gb408, 6, none⟩ = some (.string a0_6) := (blk_cell BK408.out 6).trans rfl
            have hfz34_0 := blk_frozen BK408.out 0
            have hfz34_1 := blk_frozen BK408.out 1
            have hfz34_2 := blk_frozen BK408.out 2
            have hfz34_3 := blk_frozen BK408.out 3
            have hfz34_4 := blk_frozen BK408.out 4
            have hfz34_5 := blk_frozen BK408.out 5
            have hfz34_6 := blk_frozen BK408.out 6
            go_wp2_with (first | ((with_reducible refine gate_callee (f := 37) rfl ?_); refine goesL_ (some 44) rfl rfl Tryz.func37 (by kernel_rfl) rfl #[.agg #[.string a0_5, .string a0_6]] rfl (by (try simp only [List.map_toArray, List.map_cons, List.map_nil]); first | done | rfl | (simp only [List.length_drop, List.length_take]; rfl) | (simp only [ByteArray.size_append, Int.natCast_add]; rfl)) ?_; (with_reducible refine (impl_entriesOf.calls k1 a0_5 a0_6 t416 _ A31.out ?side1).mono ?_); (case side1 => exact HTB.out.below bwl_); rintro e w35 ⟨v417, rfl, ho0, hb⟩; refine ⟨_, rfl, ?_⟩; have HO418 := Aside0.mk (Kd.R_lower ho0 (below_size bwl_)); replace BK408 := bkb_ BK408 hb; replace HB := bst_ hb; (try clear hb); (try clear hb2); (try clear hk); (try clear hi); (try clear ho0); obtain ⟨Ao36, co36, eo36⟩ := Kd.R_slice HO418.out; subst eo36) | ((with_reducible refine gate_callee (f := 35) rfl ?_); refine goesL_ (some 46) rfl rfl Tryz.func35 (by kernel_rfl) rfl #[.int .i64 (t416.length : Int)] rfl (by (try simp only [List.map_toArray, List.map_cons, List.map_nil]); first | done | rfl | (simp only [List.length_drop, List.length_take]; rfl) | (simp only [ByteArray.size_append, Int.natCast_add]; rfl)) ?_; (with_reducible refine (impl_Decimal.calls (t416.length : Int) t419 _ A32.out ?side1).mono ?_); (case side1 => exact HTB.out.below bwl_); rintro e w37 ⟨rfl, hb⟩; refine ⟨_, rfl, ?_⟩; replace HO418 := Aside0.mk (Kd.R_below (by (with_reducible repeat (first | apply Kd.R_alloc | apply Kd.R_drewN | apply Kd.R_drew)); exact HO418.out) hb); replace BK408 := bkb_ BK408 hb; replace HB := bst_ hb; (try clear hb); (try clear hb2); (try clear hk); (try clear hi)))
            go_ret
            exact ⟨by first | rfl | (simp [errW_none, errW_some] <;> rfl) | (simp [*, errW_none, errW_some] <;> rfl), bwl_⟩
           ·rw [if_neg c33] at H
            exact absurd H (by simp)
          ·rw [if_neg c30] at H
           exact absurd H (by simp)
      ·rw [if_neg c11] at H
       exact absurd H (by simp)
     ·rw [if_neg c9] at H
      exact absurd H (by simp)
    ·rw [if_neg c8] at H
     exact absurd H (by simp)
   ·rw [if_neg c6] at H
    exact absurd H (by simp)
  ·rw [if_neg c5] at H
   exact absurd H (by simp)
 ·replace c3 := Bool.eq_false_iff.mpr c3
  subst c3
  have H1 : (some (⟨#[]⟩ : ByteArray)) = some r := by rw [if_neg (show ¬ (false = true) by decide)] at H; exact H
  clear H
  have H := H1
  clear H1
  obtain rfl := Option.some.inj H
  go_enter Tryz.func12, Tryz.ntmps12
  go_wp2_with (first | ((with_reducible refine gate_dst (N := 1) rfl ?_); refine box_event ?hg (N := 1) ?hd (cs := #[.int .i64 a0_0, .slice A0_1 l0_1.length c0_1, .slice A0_2 l0_2.length c0_2, .slice A0_3 l0_3.length c0_3, .slice A0_4 l0_4.length c0_4, .string a0_5, .string a0_6]) (t := 41) ?hr ?_; (case hd => rfl); (case hg => rfl); (case hr => first | (go_simp; done) | (go_simp; rfl)); intro gb408 hg w38 hbox hb; have BK408 := Aside0.mk (hbox); have GW408 := bsz_ hg; have GE408 := bsz_ hg; replace HB := bst_ hb; clear hb hbox hg; have hcz39_0 : w38.cell? ⟨gb408, 0, none⟩ = some (.int .i64 a0_0) := (blk_cell BK408.out 0).trans rfl; have hcz39_1 : w38.cell? ⟨gb408, 1, none⟩ = some (.slice A0_1 l0_1.length c0_1) := (blk_cell BK408.out 1).trans rfl; have hcz39_2 : w38.cell? ⟨gb408, 2, none⟩ = some (.slice A0_2 l0_2.length c0_2) := (blk_cell BK408.out 2).trans rfl; have hcz39_3 : w38.cell? ⟨gb408, 3, none⟩ = some (.slice A0_3 l0_3.length c0_3) := (blk_cell BK408.out 3).trans rfl; have hcz39_4 : w38.cell? ⟨gb408, 4, none⟩ = some (.slice A0_4 l0_4.length c0_4) := (blk_cell BK408.out 4).trans rfl; have hcz39_5 : w38.cell? ⟨gb408, 5, none⟩ = some (.string a0_5) := (blk_cell BK408.out 5).trans rfl; have hcz39_6 : w38.cell? ⟨gb408, 6, none⟩ = some (.string a0_6) := (blk_cell BK408.out 6).trans rfl; have hfz39_0 := blk_frozen BK408.out 0; have hfz39_1 := blk_frozen BK408.out 1; have hfz39_2 := blk_frozen BK408.out 2; have hfz39_3 := blk_frozen BK408.out 3; have hfz39_4 := blk_frozen BK408.out 4; have hfz39_5 := blk_frozen BK408.out 5; have hfz39_6 := blk_frozen BK408.out 6) | ((with_reducible refine gate_callee (f := 9) rfl ?_); refine goesL_ (some 7) rfl rfl Tryz.func9 (by kernel_rfl) rfl #[.agg #[.int .i64 a0_0, .slice A0_1 l0_1.length c0_1, .slice A0_2 l0_2.length c0_2, .slice A0_3 l0_3.length c0_3, .slice A0_4 l0_4.length c0_4, .string a0_5, .string a0_6]] rfl (by (try simp only [List.map_toArray, List.map_cons, List.map_nil]); first | done | rfl | (simp only [List.length_drop, List.length_take]; rfl) | (simp only [ByteArray.size_append, Int.natCast_add]; rfl)) ?_; (with_reducible refine (impl_ValidDesk.calls k a0_0 _ _ l0_1 _ _ l0_2 _ _ l0_3 _ _ l0_4 a0_5 a0_6 false _ ?side1 ?side2 ?side3 ?side4 ?side5 ?side6 ?side7 ?side8 A2.out ?side9).mono ?_); (case side1 => repeat (first | exact (Kd.C_below HR0_1.out HB.out) | (with_reducible refine Kd.C_alloc ?_ _) | (with_reducible refine Kd.C_drewN ?_ _) | (with_reducible refine Kd.C_drew ?_))); (case side2 => exact HC0_1.out); (case side3 => repeat (first | exact (Kd.C_below HR0_2.out HB.out) | (with_reducible refine Kd.C_alloc ?_ _) | (with_reducible refine Kd.C_drewN ?_ _) | (with_reducible refine Kd.C_drew ?_))); (case side4 => exact HC0_2.out); (case side5 => repeat (first | exact (Kd.C_below HR0_3.out HB.out) | (with_reducible refine Kd.C_alloc ?_ _) | (with_reducible refine Kd.C_drewN ?_ _) | (with_reducible refine Kd.C_drew ?_))); (case side6 => exact HC0_3.out); (case side7 => repeat (first | exact (Kd.C_below HR0_4.out HB.out) | (with_reducible refine Kd.C_alloc ?_ _) | (with_reducible refine Kd.C_drewN ?_ _) | (with_reducible refine Kd.C_drew ?_))); (case side8 => exact HC0_4.out); (case side9 => exact HTB.out.below bwl_); rintro e w40 ⟨rfl, hb⟩; refine ⟨_, rfl, ?_⟩; replace BK408 := bkb_ BK408 hb; replace HB := bst_ hb; (try clear hb); (try clear hb2); (try clear hk); (try clear hi)))
  go_ret
  exact ⟨by first | rfl | (simp [errW_none, errW_some] <;> rfl) | (simp [*, errW_none, errW_some] <;> rfl), bwl_⟩
end Go.Proofs.YtkoeeajciciphaaGreatDoor.QFnExactDeskText
