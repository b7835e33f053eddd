import Derived.Test.YtkoeeajciciphaaGreatDoorSq
import Derived.Test.YtkoeeajciciphaaGreatDoorQFnExactDeskTextx0
import Derived.Test.YtkoeeajciciphaaGreatDoorQFnExactDeskTextx11
import Derived.Test.YtkoeeajciciphaaGreatDoorQFnExactDeskTextx14
import Derived.Test.YtkoeeajciciphaaGreatDoorQFnExactDeskTextx15
namespace Go.Proofs.YtkoeeajciciphaaGreatDoor.QFnExactDeskText
open Sq (fl pu_ gl_ b20_ b21_ b30_ b31_ b32_ od_ rr_ be_)
open Base (bwl_ bst_ bsz_ bkb_ nbl_ nbr_ kbl_ bkm_)
open Go.RowKit Go.Proofs.YtkoeeajciciphaaGreatDoorW.PrintWords Go.Proofs.YtkoeeajciciphaaGreatDoorW.PrintLast Go.Proofs.YtkoeeajciciphaaGreatDoorW.PrintMore
attribute [local go_sem] max2_int min2_int max_two min_two max_three min_three max_four min_four
set_option linter.unusedVariables false
set_option linter.unusedSimpArgs false
def impl_readFrame.j0 : Nat → ByteArray → ByteArray → Int → Bool → Option (Int × ByteArray × ByteArray × Int)
 | 0, _, _, _, _ => none
 | k + 1, x0, x5, x7, x37 => if x37 = true then (some (0, (⟨#[]⟩ : ByteArray), (⟨#[]⟩ : ByteArray), 0)) else (if 0 ≤ x7 then (if x7 ≤ (x5.size : Int) then ((strings_SplitN.f (x5.extract 0 (x7 : Int).toNat) (⟨#[32]⟩ : ByteArray) 3).bind fun t355 => (if (t355.length : Int) = 3 then (if 0 < (t355.length : Int) then ((impl_ReadDecimal.f k (rdOf ByteArray.empty t355 0)).bind fun bt359 => (if 1 < (t355.length : Int) then (if 2 < (t355.length : Int) then ((impl_FrameOf.f k bt359.1 (rdOf ByteArray.empty t355 1) (rdOf ByteArray.empty t355 2)).bind fun t364 => (if bt359.2 = true then (if t364.toList = ([] : List UInt8) then (some (0, (⟨#[]⟩ : ByteArray), (⟨#[]⟩ : ByteArray), 0)) else ((strings_HasPrefix.f x0 t364).bind fun t365 => (if t365 = true then (some (bt359.1, rdOf ByteArray.empty t355 1, rdOf ByteArray.empty t355 2, (t364.size : Int))) else (some (0, (⟨#[]⟩ : ByteArray), (⟨#[]⟩ : ByteArray), 0))))) else (some (0, (⟨#[]⟩ : ByteArray), (⟨#[]⟩ : ByteArray), 0)))) else (none)) else (none))) else (none)) else (some (0, (⟨#[]⟩ : ByteArray), (⟨#[]⟩ : ByteArray), 0)))) else (none)) else (none))
def impl_readFrame.f (k : Nat) (a0 : ByteArray) : Option (Int × ByteArray × ByteArray × Int) := (strings_Cut.f a0 (⟨#[58]⟩ : ByteArray)).bind fun bt349 => ((impl_ReadDecimal.f k bt349.1).bind fun bt352 => (if bt349.2.2 = true then (if bt352.2 = true then ((impl_within.f bt352.1 0 (bt349.2.1.size : Int)).bind fun t354 => (impl_readFrame.j0 k a0 bt349.2.1 bt352.1 (!t354))) else (impl_readFrame.j0 k a0 bt349.2.1 bt352.1 true)) else (impl_readFrame.j0 k a0 bt349.2.1 bt352.1 true)))
theorem impl_readFrame.mono_l : ∀ k, (∀ y0 y1 y2 y3, LeO (impl_readFrame.j0 k y0 y1 y2 y3) (impl_readFrame.j0 (k + 1) y0 y1 y2 y3))
 | 0 => fun _ _ _ _ r h => by simp [impl_readFrame.j0] at h
 | k + 1 => by
  have ih0 := impl_readFrame.mono_l k
  ·intro y0 y1 y2 y3
   unfold impl_readFrame.j0
   repeat' first
   | (with_reducible exact ih0 _ _ _ _)
   | (with_reducible exact impl_FrameOf.mono _ _ _ _)
   | (with_reducible exact impl_ReadDecimal.mono _ _)
   | (with_reducible exact LeO.refl _)
   | (with_reducible exact LeO.none _)
   | (with_reducible refine LeO.ite ?_ ?_)
   | (with_reducible refine LeO.bind ?_ (fun _ => ?_))
   | exact ih0 _ _ _ _
   | exact impl_FrameOf.mono _ _ _ _
   | exact impl_ReadDecimal.mono _ _
   | exact LeO.none _
   | refine LeO.ite ?_ ?_
   | refine LeO.bind ?_ (fun _ => ?_)
theorem impl_readFrame.mono : ∀ a0 k, LeO (impl_readFrame.f k a0) (impl_readFrame.f (k + 1) a0) := by
 intro a0 k
 have ih0 := impl_readFrame.mono_l k
 unfold impl_readFrame.f
 repeat' first
   | (with_reducible exact ih0 _ _ _ _)
   | (with_reducible exact impl_FrameOf.mono _ _ _ _)
   | (with_reducible exact impl_ReadDecimal.mono _ _)
   | (with_reducible exact LeO.refl _)
   | (with_reducible exact LeO.none _)
   | (with_reducible refine LeO.ite ?_ ?_)
   | (with_reducible refine LeO.bind ?_ (fun _ => ?_))
   | exact ih0 _ _ _ _
   | exact impl_FrameOf.mono _ _ _ _
   | exact impl_ReadDecimal.mono _ _
   | exact LeO.none _
   | refine LeO.ite ?_ ?_
   | refine LeO.bind ?_ (fun _ => ?_)
def impl_readFrame.T9 : Bool × List (List Nat × List Nat) := (true, [([], []), ([], []), ([1], [1]), ([2], [2]), ([], []), ([4], [4]), ([5], [5]), ([0, 3, 6], [0, 3, 6]), ([], []), ([8, 7, 0, 1, 2, 3, 4, 5, 6, 7, 8], [7, 8])])
def impl_readFrame.B9 : List Nat := [0, 0, 2, 6, 0, 16, 48, 127, 0, 511]
theorem impl_readFrame.tab9 : rtab .any (opsOf Tryz.f96 9) = impl_readFrame.T9 := by kernel_rfl
theorem impl_readFrame.bits9 : waitsOk impl_readFrame.T9.2 impl_readFrame.B9 = true := by kernel_rfl
set_option maxHeartbeats 8000000 in
set_option maxRecDepth 100000 in
theorem impl_readFrame.calls (k : Nat) (a0 : ByteArray) (r1 : Int) (r2 : ByteArray) (r3 : ByteArray) (r4 : Int) (w : World) (h : impl_readFrame.f k a0 = some (r1, r2, r3, r4)) (hT : Go.Proofs.YtkoeeajciciphaaGreatDoor.Base.Tb2 w) :
  Calls Tryz.prog 96 #[.string a0] w fun e w' => e = .returned (.tuple #[.agg #[.int .i64 r1, .string r2, .string r3], .int .i64 r4]) ∧ Below w.heap.size w w' := by
 have HTB := Aside0.mk hT
 clear hT
 have hu132 := Tryz.underlying132
 have HB := Aside0.mk (Below.refl w.heap.size w)
 have H : ((strings_Cut.f a0 (⟨#[58]⟩ : ByteArray)).bind fun bt349 => ((impl_ReadDecimal.f k bt349.1).bind fun bt352 => (if bt349.2.2 = true then (if bt352.2 = true then ((impl_within.f bt352.1 0 (bt349.2.1.size : Int)).bind fun t354 => (impl_readFrame.j0 k a0 bt349.2.1 bt352.1 (!t354))) else (impl_readFrame.j0 k a0 bt349.2.1 bt352.1 true)) else (impl_readFrame.j0 k a0 bt349.2.1 bt352.1 true)))) = some (r1, r2, r3, r4) := h
 clear h
 replace H := Option.bind_eq_some_iff.mp H
 obtain ⟨⟨t349, t350, t351⟩, A20, H⟩ := H
 (try dsimp only at H)
 have A2 := Aside0.mk A20
 clear A20
 replace H := Option.bind_eq_some_iff.mp H
 obtain ⟨⟨t352, t353⟩, A30, H⟩ := H
 (try dsimp only at H)
 have A3 := Aside0.mk A30
 clear A30
 have HC4 := Aside0.mk H
 clear H
 go_enter Tryz.func96, Tryz.ntmps96
 go_upto_region 3 with (first | ((with_reducible refine gate_dst (N := 2) rfl ?_); (try (refine gate_guard (by rfl) ?_; dsimp only)); refine be_ 2 #[.int .i64 0, .string (⟨#[]⟩ : ByteArray), .string (⟨#[]⟩ : ByteArray)] 132 ?_; intro gb348 hg w5 hbox hb; have BK348 := Aside0.mk (hbox); have GW348 := bsz_ hg; have GE348 := bsz_ hg; replace HB := bst_ hb; clear hb hbox hg) | ((with_reducible refine gate_callee (f := 112) rfl ?_); refine goesL_ (some 16) rfl rfl Tryz.func112 (by kernel_rfl) rfl #[.string a0, .string (⟨#[58]⟩ : ByteArray)] rfl (by (try simp only [List.map_toArray, List.map_cons, List.map_nil]); first | done | rfl | (simp only [List.length_drop, List.length_take]; rfl)) ?_; (with_reducible refine (strings_Cut.calls a0 (⟨#[58]⟩ : ByteArray) t349 t350 t351 _ A2.out ?side1).mono ?_); (case side1 => exact HTB.out.below bwl_); rintro e w6 ⟨rfl, hb⟩; refine ⟨_, rfl, ?_⟩; replace BK348 := bkb_ BK348 hb; replace HB := bst_ hb; clear hb) | ((with_reducible refine gate_callee (f := 113) rfl ?_); refine goesL_ (some 22) rfl rfl Tryz.func113 (by kernel_rfl) rfl #[.string t349] rfl (by (try simp only [List.map_toArray, List.map_cons, List.map_nil]); first | done | rfl | (simp only [List.length_drop, List.length_take]; rfl)) ?_; (with_reducible refine (impl_ReadDecimal.calls k t349 t352 t353 _ A3.out ?side1).mono ?_); (case side1 => exact HTB.out.below bwl_); rintro e w7 ⟨rfl, hb⟩; refine ⟨_, rfl, ?_⟩; replace BK348 := bkb_ BK348 hb; replace HB := bst_ hb; clear hb))
 (try simp only [Act.put, List.setIfInBounds_toArray, List.set_cons_zero, List.set_cons_succ])
 go_cut [37] (fun v37 wc => ∃ (kq : Nat) (x37_3 : Bool), v37 = .bool x37_3 ∧ Aside0 (impl_readFrame.j0 kq a0 t350 t352 x37_3 = some (r1, r2, r3, r4)) ∧ Aside0 (kq ≤ k) ∧ Aside0 (wc.heap[gb348]? = some (.cells #[.int .i64 0, .string (⟨#[]⟩ : ByteArray), .string (⟨#[]⟩ : ByteArray)] 132 (0, 0))) ∧ Aside0 (Below w.heap.size w wc))
 case first =>
  have H := HC4.out
  clear HC4
  by_cases c8 : t351 = true
  ·subst c8
   rw [if_pos rfl] at H
   by_cases c9 : t353 = true
   ·subst c9
    rw [if_pos rfl] at H
    replace H := Option.bind_eq_some_iff.mp H
    obtain ⟨t354, A100, H⟩ := H
    (try dsimp only at H)
    have A10 := Aside0.mk A100
    clear A100
    have H' := Aside0.mk H
    clear H
    go_wp2_with (first | (go_at_call 24; (with_reducible refine (impl_within.calls t352 0 (t350.size : Int) t354 _ A10.out).mono ?_); rintro e w' ⟨rfl, ⟨nd, rfl⟩⟩))
    go_meet
    case rel => exact ⟨_, (!t354), (by first | rfl | (simp; done) | (simp [*]; done)), H', ⟨by first | omega | exact Nat.le_refl _⟩, ⟨by (with_reducible repeat (first | refine blk_drewN ?_ _ | refine blk_drew ?_ | refine blk_alloc ?_ _)); exact BK348.out⟩, ⟨bwl_⟩⟩
   ·replace c9 := Bool.eq_false_iff.mpr c9
    subst c9
    rw [if_neg (show ¬ (false = true) by decide)] at H
    have H' := Aside0.mk H
    clear H
    go_wp2
    go_meet
    case rel => exact ⟨_, (true), (by first | rfl | (simp; done) | (simp [*]; done)), H', ⟨by first | omega | exact Nat.le_refl _⟩, ⟨by (with_reducible repeat (first | refine blk_drewN ?_ _ | refine blk_drew ?_ | refine blk_alloc ?_ _)); exact BK348.out⟩, ⟨bwl_⟩⟩
  ·replace c8 := Bool.eq_false_iff.mpr c8
   subst c8
   rw [if_neg (show ¬ (false = true) by decide)] at H
   have H' := Aside0.mk H
   clear H
   go_wp2
   go_meet
   case rel => exact ⟨_, (true), (by first | rfl | (simp; done) | (simp [*]; done)), H', ⟨by first | omega | exact Nat.le_refl _⟩, ⟨by (with_reducible repeat (first | refine blk_drewN ?_ _ | refine blk_drew ?_ | refine blk_alloc ?_ _)); exact BK348.out⟩, ⟨bwl_⟩⟩
 case rest =>
  clear HC4
  (try clear c8);(try clear c9)
  obtain ⟨kq, x37_3, rfl, HA, HJ3, BK348, HB⟩ := hcut
  cases kq with
  | zero => exact absurd HA.out (by simp [impl_readFrame.j0])
  | succ kj3 =>
   have H := HA.out
   clear HA
   simp only [impl_readFrame.j0] at H
   by_cases c11 : x37_3 = true
   ·subst c11
    rw [if_pos rfl] at H
    simp only [Option.some.injEq, Prod.mk.injEq] at H
    obtain ⟨rfl, rfl, rfl, rfl⟩ := H
    have hcz12_0 := b30_ BK348
    have hcz12_1 := b31_ BK348
    have hcz12_2 := b32_ BK348
    have hfz12_0 := blk_frozen BK348.out 0
    have hfz12_1 := blk_frozen BK348.out 1
    have hfz12_2 := blk_frozen BK348.out 2
    go_wp2
    refine bodyPost_ret (results_ct rfl _ _ gb348 132 #[.int .i64 0, .string (⟨#[]⟩ : ByteArray), .string (⟨#[]⟩ : ByteArray)] (0, 0) _ rfl (by (with_reducible repeat (first | refine blk_drewN ?_ _ | refine blk_drew ?_ | refine blk_alloc ?_ _)); refine blk_put (cs := #[.int .i64 0, .string (⟨#[]⟩ : ByteArray), .string (⟨#[]⟩ : ByteArray)]) ?_ 2 _ rfl; (with_reducible repeat (first | refine blk_drewN ?_ _ | refine blk_drew ?_ | refine blk_alloc ?_ _)); refine blk_put (cs := #[.int .i64 0, .string (⟨#[]⟩ : ByteArray), .string (⟨#[]⟩ : ByteArray)]) ?_ 1 _ rfl; (with_reducible repeat (first | refine blk_drewN ?_ _ | refine blk_drew ?_ | refine blk_alloc ?_ _)); refine blk_put (cs := #[.int .i64 0, .string (⟨#[]⟩ : ByteArray), .string (⟨#[]⟩ : ByteArray)]) ?_ 0 _ rfl; (with_reducible repeat (first | refine blk_drewN ?_ _ | refine blk_drew ?_ | refine blk_alloc ?_ _)); exact BK348.out) Tryz.underlying132 rfl (by kernel_rfl)) rfl ?_
    exact ⟨rr_, bwl_⟩
   ·replace c11 := Bool.eq_false_iff.mpr c11
    subst c11
    rw [if_neg (show ¬ (false = true) by decide)] at H
    by_cases c13 : 0 ≤ t352
    ·rw [if_pos c13] at H
     have c13b0 := eq_true c13
     have c13b1 : decide (0 ≤ t352) = true := decide_eq_true c13
     clear c13
     by_cases c14 : t352 ≤ (t350.size : Int)
     ·rw [if_pos c14] at H
      have c14b0 := eq_true c14
      have c14b1 : decide (t352 ≤ (t350.size : Int)) = true := decide_eq_true c14
      clear c14
      replace H := Option.bind_eq_some_iff.mp H
      obtain ⟨t355, A150, H⟩ := H
      (try dsimp only at H)
      have A15 := Aside0.mk A150
      clear A150
      by_cases c16 : (t355.length : Int) = 3
      ·rw [if_pos c16] at H
       have c16b0 : ((t355.length : Int) == 3) = true := beq_iff_eq.mpr c16
       have c16b1 : ((t355.length : Int) != 3) = false := bne_eq_false_iff_eq.mpr c16
       clear c16
       by_cases c17 : 0 < (t355.length : Int)
       ·rw [if_pos c17] at H
        have c17b0 : decide (0 < (t355.length : Int)) = true := decide_eq_true c17
        have c17b1 : decide (0 < t355.length) = true := decide_eq_true (by omega)
        clear c17
        replace H := Option.bind_eq_some_iff.mp H
        obtain ⟨⟨t359, t360⟩, A180, H⟩ := H
        (try dsimp only at H)
        have A18 := Aside0.mk A180
        clear A180
        by_cases c19 : 1 < (t355.length : Int)
        ·rw [if_pos c19] at H
         have c19b0 : decide (1 < (t355.length : Int)) = true := decide_eq_true c19
         have c19b1 : decide (1 < t355.length) = true := decide_eq_true (by omega)
         clear c19
         by_cases c20 : 2 < (t355.length : Int)
         ·rw [if_pos c20] at H
          have c20b0 : decide (2 < (t355.length : Int)) = true := decide_eq_true c20
          have c20b1 : decide (2 < t355.length) = true := decide_eq_true (by omega)
          clear c20
          replace H := Option.bind_eq_some_iff.mp H
          obtain ⟨t364, A210, H⟩ := H
          (try dsimp only at H)
          have A21 := Aside0.mk A210
          clear A210
          by_cases c22 : t360 = true
          ·subst c22
           rw [if_pos rfl] at H
           by_cases c23 : t364.toList = ([] : List UInt8)
           ·rw [if_pos c23] at H
            have c23b0 : (t364.toList == ([] : List UInt8)) = true := beq_iff_eq.mpr c23
            have c23b1 : (t364.toList != ([] : List UInt8)) = false := bne_eq_false_iff_eq.mpr c23
            clear c23
            simp only [Option.some.injEq, Prod.mk.injEq] at H
            obtain ⟨rfl, rfl, rfl, rfl⟩ := H
            try go_wp2_with (first | ((with_reducible refine gate_callee (f := 114) rfl ?_); refine goesL_ (some 42) rfl rfl Tryz.func114 (by kernel_rfl) rfl #[.string (t350.extract 0 (t352 : Int).toNat), .string (⟨#[32]⟩ : ByteArray), .int .i64 3] rfl (by (try simp only [List.map_toArray, List.map_cons, List.map_nil]); first | done | rfl | (simp only [List.length_drop, List.length_take]; rfl)) ?_; (with_reducible refine (strings_SplitN.calls (t350.extract 0 (t352 : Int).toNat) (⟨#[32]⟩ : ByteArray) 3 t355 _ A15.out ?side1).mono ?_); (case side1 => exact HTB.out.below bwl_); rintro e w24 ⟨v356, rfl, ho0, hb⟩; refine ⟨_, rfl, ?_⟩; have HO357 := Aside0.mk (Kd.R_lower ho0 (below_size bwl_)); replace BK348 := bkb_ BK348 hb; replace HB := bst_ hb; clear hb ho0; obtain ⟨Ao25, co25, eo25⟩ := Kd.R_slice HO357.out; subst eo25; have p358 : 0 ≤ (0 : Int) := (by omega); have q358 : 0 < (t355.length : Int) := od_; obtain ⟨ad358, e358, hx358_0⟩ := Kd.at_string (Kd.R_reads' HO357.out).2.2 0 p358 q358; cases e358; have qi358 : (0 < t355.length) = True := eq_true (by omega); (try rw [show ((0 : Int)).toNat = 0 from rfl] at hx358_0); (try rw [Addr.add_zero'] at hx358_0); replace p358 := eq_true p358; replace q358 := eq_true q358) | ((with_reducible refine gate_callee (f := 113) rfl ?_); refine goesL_ (some 51) rfl rfl Tryz.func113 (by kernel_rfl) rfl #[.string (rdOf ByteArray.empty t355 0)] rfl (by (try simp only [List.map_toArray, List.map_cons, List.map_nil]); first | done | rfl | (simp only [List.length_drop, List.length_take]; rfl)) ?_; (with_reducible refine (impl_ReadDecimal.calls kj3 (rdOf ByteArray.empty t355 0) t359 true _ A18.out ?side1).mono ?_); (case side1 => exact HTB.out.below bwl_); rintro e w26 ⟨rfl, hb⟩; refine ⟨_, rfl, ?_⟩; replace HO357 := Aside0.mk (Kd.R_below (by (with_reducible repeat (first | apply Kd.R_alloc | apply Kd.R_drewN | apply Kd.R_drew)); exact HO357.out) hb); replace BK348 := bkb_ BK348 hb; replace HB := bst_ hb; clear hb))
            replace HO357 := Aside0.mk (Kd.R_drew HO357.out)
            replace BK348 := Aside0.mk (blk_drew BK348.out)
            replace HB := Aside0.mk (below_drew1 HB.out)
            have p361 : 0 ≤ (1 : Int) := (by omega)
            have q361 : 1 < (t355.length : Int) := od_
            obtain ⟨ad361, e361, hx361_0⟩ := Kd.at_string (Kd.R_reads' HO357.out).2.2 1 p361 q361
            obtain rfl : ad358 = ad361 := (by injection e361)
            (try simp only [show (1 : Int).toNat = 1 from rfl, Nat.reduceMul, Nat.reduceEqDiff, Go.Addr.add, ↓reduceIte] at hx361_0)
            have qi361 : (1 < t355.length) = True := eq_true (by omega)
            (try rw [show ((1 : Int)).toNat = 1 from rfl] at hx361_0)
            replace p361 := eq_true p361
            replace q361 := eq_true q361
            have p362 : 0 ≤ (2 : Int) := (by omega)
            have q362 : 2 < (t355.length : Int) := od_
            obtain ⟨ad362, e362, hx362_0⟩ := Kd.at_string (Kd.R_reads' HO357.out).2.2 2 p362 q362
            obtain rfl : ad358 = ad362 := (by injection e362)
            (try simp only [show (2 : Int).toNat = 2 from rfl, Nat.reduceMul, Nat.reduceEqDiff, Go.Addr.add, ↓reduceIte] at hx362_0)
            have qi362 : (2 < t355.length) = True := eq_true (by omega)
            (try rw [show ((2 : Int)).toNat = 2 from rfl] at hx362_0)
            replace p362 := eq_true p362
            replace q362 := eq_true q362
            refine start_ (n := 10) (S := fun w' => w'.cell? ⟨ad358.block, ad358.off + 1, none⟩ = some (.string (rdOf ByteArray.empty t355 1)) ∧ w'.cell? ⟨ad358.block, ad358.off + 2, none⟩ = some (.string (rdOf ByteArray.empty t355 2))) (ds := []) (fl 10 0) (by kernel_rfl) rfl rfl ⟨hx361_0, hx362_0⟩ (fun hHeld => ?_); refine with_tabW impl_readFrame.tab9 impl_readFrame.bits9 (fun HT_ HW_ => ?_)
            generalize w26.drew = w27 at HO357 BK348 HB hx361_0 hx362_0 hHeld ⊢
            refine pu_ (i := 0) (N := some 54) (fl 10 1) (any_of HT_.out (by kernel_rfl)) ?_
            refine pu_ (i := 1) (N := some 55) (fl 10 3) (any_of HT_.out (by kernel_rfl)) ?_
            refine pu_ (i := 2) (N := some 56) (fl 10 7) (any_of HT_.out (by kernel_rfl)) ?_
            refine pu_ (i := 4) (N := some 58) (fl 10 23) (any_of HT_.out (by kernel_rfl)) ?_
            refine pu_ (i := 5) (N := some 59) (fl 10 55) (any_of HT_.out (by kernel_rfl)) ?_
            refine take_ (i := 3) (N := some 57) (v := ?_) (a' := ?_) (fl 10 63) rfl rfl (take_ofW HT_.out HW_.out (by kernel_rfl)) (fun _ _ _ h => h) (Or.inl ⟨by rfl, ?_⟩) hHeld ?_ ?_
            rotate_left
            ·rintro w' ⟨s0, s1⟩
             go_simp
             with_reducible rfl
            rotate_left
            ·simp only [Act.put, List.setIfInBounds_toArray, List.set_cons_zero, List.set_cons_succ, i64_w, i32_w]
             rfl
            refine take_ (i := 6) (N := some 60) (v := ?_) (a' := ?_) (fl 10 127) rfl rfl (take_ofW HT_.out HW_.out (by kernel_rfl)) (fun _ _ _ h => h) (Or.inl ⟨by rfl, ?_⟩) hHeld ?_ ?_
            rotate_left
            ·rintro w' ⟨s0, s1⟩
             go_simp
             with_reducible rfl
            rotate_left
            ·simp only [Act.put, List.setIfInBounds_toArray, List.set_cons_zero, List.set_cons_succ, i64_w, i32_w]
             rfl
            refine pu_ (i := 7) (N := some 61) (fl 10 255) (any_of HT_.out (by kernel_rfl)) ?_
            refine one_ (i := 8) (N := some 12) (fl 10 511) rfl rfl (one_of HT_.out (by kernel_rfl)) (by decide) (fun K hK => ?_)
            refine box_step ?hg (N := 12) ?hd (cs := #[.int .i64 0, .string (⟨#[]⟩ : ByteArray), .string (⟨#[]⟩ : ByteArray)]) (t := 132) ?hr ?_; (case hd => rfl); (case hg => rfl); (case hr => first | (go_simp; done) | (go_simp; rfl))
            intro gb363 hg w28 hbox hb
            have HS0_ := (hb.cell (World.block_lt_of_cell? _ _ (hHeld.1))).trans (hHeld.1)
            have HS1_ := (hb.cell (World.block_lt_of_cell? _ _ (hHeld.2))).trans (hHeld.2)
            replace HO357 := Aside0.mk (Kd.R_below (by (with_reducible repeat (first | apply Kd.R_alloc | apply Kd.R_drewN | apply Kd.R_drew)); exact HO357.out) hb)
            have BK363 := Aside0.mk (hbox)
            have GW363 := bsz_ hg
            have GE363 := bsz_ hg
            replace HB := bst_ hb
            have NB348_363 := nbl_ BK348 hg
            have NB363_348 := nbr_ BK348 hg
            replace BK348 := bkb_ BK348 hb
            clear hb hbox hg
            refine hK.out _ _ ⟨HS0_, HS1_⟩ (fun hHeld => ?_)
            clear hK K
            refine norm_ (a' := ?_) ?_ ?_
            rotate_left
            ·show Act.put _ (some 12) _ = _
             simp only [Act.put, List.setIfInBounds_toArray, List.set_cons_zero, List.set_cons_succ, i64_w, i32_w]
             rfl
            refine one_ (i := 9) (N := none) (fl 10 1023) rfl rfl (one_of HT_.out (by kernel_rfl)) (by decide) (fun K hK => ?_)
            have hs29 : w28.cell? ⟨gb363, 0, none⟩ = some (.int .i64 0) := (blk_cell BK363.out 0).trans rfl
            have hfs29 := blk_frozen BK363.out 0
            have hns29_0 := NB348_363.out
            have hms29_0 := NB363_348.out
            have hs30 : w28.cell? ⟨gb363, 1, none⟩ = some (.string (⟨#[]⟩ : ByteArray)) := (blk_cell BK363.out 1).trans rfl
            have hfs30 := blk_frozen BK363.out 1
            have hns30_0 := NB348_363.out
            have hms30_0 := NB363_348.out
            have hs31 : w28.cell? ⟨gb363, 2, none⟩ = some (.string (⟨#[]⟩ : ByteArray)) := (blk_cell BK363.out 2).trans rfl
            have hfs31 := blk_frozen BK363.out 2
            have hns31_0 := NB348_363.out
            have hms31_0 := NB363_348.out
            refine skip_ (w1 := ?_) (by rfl) rfl ?_ ?_
            rotate_left
            ·go_simp
             rfl
            refine hK.out _ _ ⟨((cell_far (p := ⟨gb363, _, none⟩) (by first | exact Kd.own_blk (Kd.R_ne HO357.out BK363.out (by decide)) | (rw [add_block]; exact Kd.own_blk (Kd.R_ne HO357.out BK363.out (by decide))) | (show (Addr.add _ _).block ≠ _; rw [add_block]; exact Kd.own_blk (Kd.R_ne HO357.out BK363.out (by decide))) | (dsimp only; exact Kd.own_blk (Kd.R_ne HO357.out BK363.out (by decide)))) _).trans (((cell_far (p := ⟨gb363, _, none⟩) (by first | exact Kd.own_blk (Kd.R_ne HO357.out BK363.out (by decide)) | (rw [add_block]; exact Kd.own_blk (Kd.R_ne HO357.out BK363.out (by decide))) | (show (Addr.add _ _).block ≠ _; rw [add_block]; exact Kd.own_blk (Kd.R_ne HO357.out BK363.out (by decide))) | (dsimp only; exact Kd.own_blk (Kd.R_ne HO357.out BK363.out (by decide)))) _).trans (((cell_far (p := ⟨gb363, _, none⟩) (by first | exact Kd.own_blk (Kd.R_ne HO357.out BK363.out (by decide)) | (rw [add_block]; exact Kd.own_blk (Kd.R_ne HO357.out BK363.out (by decide))) | (show (Addr.add _ _).block ≠ _; rw [add_block]; exact Kd.own_blk (Kd.R_ne HO357.out BK363.out (by decide))) | (dsimp only; exact Kd.own_blk (Kd.R_ne HO357.out BK363.out (by decide)))) _).trans (hHeld.1)))))), ((cell_far (p := ⟨gb363, _, none⟩) (by first | exact Kd.own_blk (Kd.R_ne HO357.out BK363.out (by decide)) | (rw [add_block]; exact Kd.own_blk (Kd.R_ne HO357.out BK363.out (by decide))) | (show (Addr.add _ _).block ≠ _; rw [add_block]; exact Kd.own_blk (Kd.R_ne HO357.out BK363.out (by decide))) | (dsimp only; exact Kd.own_blk (Kd.R_ne HO357.out BK363.out (by decide)))) _).trans (((cell_far (p := ⟨gb363, _, none⟩) (by first | exact Kd.own_blk (Kd.R_ne HO357.out BK363.out (by decide)) | (rw [add_block]; exact Kd.own_blk (Kd.R_ne HO357.out BK363.out (by decide))) | (show (Addr.add _ _).block ≠ _; rw [add_block]; exact Kd.own_blk (Kd.R_ne HO357.out BK363.out (by decide))) | (dsimp only; exact Kd.own_blk (Kd.R_ne HO357.out BK363.out (by decide)))) _).trans (((cell_far (p := ⟨gb363, _, none⟩) (by first | exact Kd.own_blk (Kd.R_ne HO357.out BK363.out (by decide)) | (rw [add_block]; exact Kd.own_blk (Kd.R_ne HO357.out BK363.out (by decide))) | (show (Addr.add _ _).block ≠ _; rw [add_block]; exact Kd.own_blk (Kd.R_ne HO357.out BK363.out (by decide))) | (dsimp only; exact Kd.own_blk (Kd.R_ne HO357.out BK363.out (by decide)))) _).trans (hHeld.2))))))⟩ (fun hHeld => ?_)
            clear hK K
            refine done_ (done_of HT_.out (by kernel_rfl)) ?_
            have hnb32 := NB363_348.out
            have hnc32 := NB348_363.out
            have hcz33_0 := b30_ BK363
            have hcz33_1 := b31_ BK363
            have hcz33_2 := b32_ BK363
            have hfz33_0 := blk_frozen BK363.out 0
            have hfz33_1 := blk_frozen BK363.out 1
            have hfz33_2 := blk_frozen BK363.out 2
            try go_wp2_with (first | ((with_reducible refine gate_callee (f := 115) rfl ?_); refine goesL_ (some 63) rfl rfl Tryz.func115 (by kernel_rfl) rfl #[.agg #[.int .i64 t359, .string (rdOf ByteArray.empty t355 1), .string (rdOf ByteArray.empty t355 2)]] rfl (by (try simp only [List.map_toArray, List.map_cons, List.map_nil]); first | done | rfl | (simp only [List.length_drop, List.length_take]; rfl)) ?_; (with_reducible refine (impl_FrameOf.calls kj3 t359 (rdOf ByteArray.empty t355 1) (rdOf ByteArray.empty t355 2) t364 _ A21.out ?side1).mono ?_); (case side1 => exact HTB.out.below bwl_); rintro e w34 ⟨rfl, hb⟩; refine ⟨_, rfl, ?_⟩; replace HO357 := Aside0.mk (Kd.R_below (by (with_reducible repeat (first | apply Kd.R_alloc | apply Kd.R_drewN | apply Kd.R_drew)); exact (Kd.R_mono (Kd.R_far (p := ⟨gb363, 2, none⟩) (Kd.R_far (p := ⟨gb363, 1, none⟩) (Kd.R_far (p := ⟨gb363, 0, none⟩) (Kd.R_types HO357.out BK363.out (by decide)) (fun _ hk => hk.2) (.int .i64 t359)) (fun _ hk => hk.2) (.string (rdOf ByteArray.empty t355 1))) (fun _ hk => hk.2) (.string (rdOf ByteArray.empty t355 2))) (fun _ h_ => h_.1))) hb); replace BK348 := bkb_ BK348 hb; replace BK363 := Aside0.mk (blk_below (g := gb363) (o := .cells #[.int .i64 t359, .string (rdOf ByteArray.empty t355 1), .string (rdOf ByteArray.empty t355 2)] 132 (0, 0)) (by (with_reducible repeat (first | refine blk_drewN ?_ _ | refine blk_drew ?_ | refine blk_alloc ?_ _)); refine blk_put (cs := #[.int .i64 t359, .string (rdOf ByteArray.empty t355 1), .string (⟨#[]⟩ : ByteArray)]) ?_ 2 _ rfl; (with_reducible repeat (first | refine blk_drewN ?_ _ | refine blk_drew ?_ | refine blk_alloc ?_ _)); refine blk_put (cs := #[.int .i64 t359, .string (⟨#[]⟩ : ByteArray), .string (⟨#[]⟩ : ByteArray)]) ?_ 1 _ rfl; (with_reducible repeat (first | refine blk_drewN ?_ _ | refine blk_drew ?_ | refine blk_alloc ?_ _)); refine blk_put (cs := #[.int .i64 0, .string (⟨#[]⟩ : ByteArray), .string (⟨#[]⟩ : ByteArray)]) ?_ 0 _ rfl; (with_reducible repeat (first | refine blk_drewN ?_ _ | refine blk_drew ?_ | refine blk_alloc ?_ _)); exact BK363.out) hb); replace HB := bst_ hb; clear hb; have hcz35_0 := b30_ BK348; have hcz35_1 := b31_ BK348; have hcz35_2 := b32_ BK348; have hfz35_0 := blk_frozen BK348.out 0; have hfz35_1 := blk_frozen BK348.out 1; have hfz35_2 := blk_frozen BK348.out 2))
            refine bodyPost_ret (results_ct rfl _ _ gb348 132 #[.int .i64 0, .string (⟨#[]⟩ : ByteArray), .string (⟨#[]⟩ : ByteArray)] (0, 0) _ rfl (by (with_reducible repeat (first | refine blk_drewN ?_ _ | refine blk_drew ?_ | refine blk_alloc ?_ _)); refine blk_put (cs := #[.int .i64 0, .string (⟨#[]⟩ : ByteArray), .string (⟨#[]⟩ : ByteArray)]) ?_ 2 _ rfl; (with_reducible repeat (first | refine blk_drewN ?_ _ | refine blk_drew ?_ | refine blk_alloc ?_ _)); refine blk_put (cs := #[.int .i64 0, .string (⟨#[]⟩ : ByteArray), .string (⟨#[]⟩ : ByteArray)]) ?_ 1 _ rfl; (with_reducible repeat (first | refine blk_drewN ?_ _ | refine blk_drew ?_ | refine blk_alloc ?_ _)); refine blk_put (cs := #[.int .i64 0, .string (⟨#[]⟩ : ByteArray), .string (⟨#[]⟩ : ByteArray)]) ?_ 0 _ rfl; (with_reducible repeat (first | refine blk_drewN ?_ _ | refine blk_drew ?_ | refine blk_alloc ?_ _)); exact BK348.out) Tryz.underlying132 rfl (by kernel_rfl)) rfl ?_
            exact ⟨rr_, bwl_⟩
           ·rw [if_neg c23] at H
            have c23b0 : (t364.toList == ([] : List UInt8)) = false := beq_eq_false_iff_ne.mpr c23
            have c23b1 : (t364.toList != ([] : List UInt8)) = true := bne_iff_ne.mpr c23
            replace H := Option.bind_eq_some_iff.mp H
            obtain ⟨t365, A360, H⟩ := H
            (try dsimp only at H)
            have A36 := Aside0.mk A360
            clear A360
            by_cases c37 : t365 = true
            ·subst c37
             rw [if_pos rfl] at H
             simp only [Option.some.injEq, Prod.mk.injEq] at H
             obtain ⟨rfl, rfl, rfl, rfl⟩ := H
             try go_wp2_with (first | ((with_reducible refine gate_callee (f := 114) rfl ?_); refine goesL_ (some 42) rfl rfl Tryz.func114 (by kernel_rfl) rfl #[.string (t350.extract 0 (t352 : Int).toNat), .string (⟨#[32]⟩ : ByteArray), .int .i64 3] rfl (by (try simp only [List.map_toArray, List.map_cons, List.map_nil]); first | done | rfl | (simp only [List.length_drop, List.length_take]; rfl)) ?_; (with_reducible refine (strings_SplitN.calls (t350.extract 0 (t352 : Int).toNat) (⟨#[32]⟩ : ByteArray) 3 t355 _ A15.out ?side1).mono ?_); (case side1 => exact HTB.out.below bwl_); rintro e w38 ⟨v356, rfl, ho0, hb⟩; refine ⟨_, rfl, ?_⟩; have HO357 := Aside0.mk (Kd.R_lower ho0 (below_size bwl_)); replace BK348 := bkb_ BK348 hb; replace HB := bst_ hb; clear hb ho0; obtain ⟨Ao39, co39, eo39⟩ := Kd.R_slice HO357.out; subst eo39; have p358 : 0 ≤ (0 : Int) := (by omega); have q358 : 0 < (t355.length : Int) := od_; obtain ⟨ad358, e358, hx358_0⟩ := Kd.at_string (Kd.R_reads' HO357.out).2.2 0 p358 q358; cases e358; have qi358 : (0 < t355.length) = True := eq_true (by omega); (try rw [show ((0 : Int)).toNat = 0 from rfl] at hx358_0); (try rw [Addr.add_zero'] at hx358_0); replace p358 := eq_true p358; replace q358 := eq_true q358) | ((with_reducible refine gate_callee (f := 113) rfl ?_); refine goesL_ (some 51) rfl rfl Tryz.func113 (by kernel_rfl) rfl #[.string (rdOf ByteArray.empty t355 0)] rfl (by (try simp only [List.map_toArray, List.map_cons, List.map_nil]); first | done | rfl | (simp only [List.length_drop, List.length_take]; rfl)) ?_; (with_reducible refine (impl_ReadDecimal.calls kj3 (rdOf ByteArray.empty t355 0) t359 true _ A18.out ?side1).mono ?_); (case side1 => exact HTB.out.below bwl_); rintro e w40 ⟨rfl, hb⟩; refine ⟨_, rfl, ?_⟩; replace HO357 := Aside0.mk (Kd.R_below (by (with_reducible repeat (first | apply Kd.R_alloc | apply Kd.R_drewN | apply Kd.R_drew)); exact HO357.out) hb); replace BK348 := bkb_ BK348 hb; replace HB := bst_ hb; clear hb))
             replace HO357 := Aside0.mk (Kd.R_drew HO357.out)
             replace BK348 := Aside0.mk (blk_drew BK348.out)
             replace HB := Aside0.mk (below_drew1 HB.out)
             have p361 : 0 ≤ (1 : Int) := (by omega)
             have q361 : 1 < (t355.length : Int) := od_
             obtain ⟨ad361, e361, hx361_0⟩ := Kd.at_string (Kd.R_reads' HO357.out).2.2 1 p361 q361
             obtain rfl : ad358 = ad361 := (by injection e361)
             (try simp only [show (1 : Int).toNat = 1 from rfl, Nat.reduceMul, Nat.reduceEqDiff, Go.Addr.add, ↓reduceIte] at hx361_0)
             have qi361 : (1 < t355.length) = True := eq_true (by omega)
             (try rw [show ((1 : Int)).toNat = 1 from rfl] at hx361_0)
             replace p361 := eq_true p361
             replace q361 := eq_true q361
             have p362 : 0 ≤ (2 : Int) := (by omega)
             have q362 : 2 < (t355.length : Int) := od_
             obtain ⟨ad362, e362, hx362_0⟩ := Kd.at_string (Kd.R_reads' HO357.out).2.2 2 p362 q362
             obtain rfl : ad358 = ad362 := (by injection e362)
             (try simp only [show (2 : Int).toNat = 2 from rfl, Nat.reduceMul, Nat.reduceEqDiff, Go.Addr.add, ↓reduceIte] at hx362_0)
             have qi362 : (2 < t355.length) = True := eq_true (by omega)
             (try rw [show ((2 : Int)).toNat = 2 from rfl] at hx362_0)
             replace p362 := eq_true p362
             replace q362 := eq_true q362
             refine start_ (n := 10) (S := fun w' => w'.cell? ⟨ad358.block, ad358.off + 1, none⟩ = some (.string (rdOf ByteArray.empty t355 1)) ∧ w'.cell? ⟨ad358.block, ad358.off + 2, none⟩ = some (.string (rdOf ByteArray.empty t355 2))) (ds := []) (fl 10 0) (by kernel_rfl) rfl rfl ⟨hx361_0, hx362_0⟩ (fun hHeld => ?_); refine with_tabW impl_readFrame.tab9 impl_readFrame.bits9 (fun HT_ HW_ => ?_)
             generalize w40.drew = w41 at HO357 BK348 HB hx361_0 hx362_0 hHeld ⊢
             refine pu_ (i := 0) (N := some 54) (fl 10 1) (any_of HT_.out (by kernel_rfl)) ?_
             refine pu_ (i := 1) (N := some 55) (fl 10 3) (any_of HT_.out (by kernel_rfl)) ?_
             refine pu_ (i := 2) (N := some 56) (fl 10 7) (any_of HT_.out (by kernel_rfl)) ?_
             refine pu_ (i := 4) (N := some 58) (fl 10 23) (any_of HT_.out (by kernel_rfl)) ?_
             refine pu_ (i := 5) (N := some 59) (fl 10 55) (any_of HT_.out (by kernel_rfl)) ?_
             refine take_ (i := 3) (N := some 57) (v := ?_) (a' := ?_) (fl 10 63) rfl rfl (take_ofW HT_.out HW_.out (by kernel_rfl)) (fun _ _ _ h => h) (Or.inl ⟨by rfl, ?_⟩) hHeld ?_ ?_
             rotate_left
             ·rintro w' ⟨s0, s1⟩
              go_simp
              with_reducible rfl
             rotate_left
             ·simp only [Act.put, List.setIfInBounds_toArray, List.set_cons_zero, List.set_cons_succ, i64_w, i32_w]
              rfl
             refine take_ (i := 6) (N := some 60) (v := ?_) (a' := ?_) (fl 10 127) rfl rfl (take_ofW HT_.out HW_.out (by kernel_rfl)) (fun _ _ _ h => h) (Or.inl ⟨by rfl, ?_⟩) hHeld ?_ ?_
             rotate_left
             ·rintro w' ⟨s0, s1⟩
              go_simp
              with_reducible rfl
             rotate_left
             ·simp only [Act.put, List.setIfInBounds_toArray, List.set_cons_zero, List.set_cons_succ, i64_w, i32_w]
              rfl
             refine pu_ (i := 7) (N := some 61) (fl 10 255) (any_of HT_.out (by kernel_rfl)) ?_
             refine one_ (i := 8) (N := some 12) (fl 10 511) rfl rfl (one_of HT_.out (by kernel_rfl)) (by decide) (fun K hK => ?_)
             refine box_step ?hg (N := 12) ?hd (cs := #[.int .i64 0, .string (⟨#[]⟩ : ByteArray), .string (⟨#[]⟩ : ByteArray)]) (t := 132) ?hr ?_; (case hd => rfl); (case hg => rfl); (case hr => first | (go_simp; done) | (go_simp; rfl))
             intro gb363 hg w42 hbox hb
             have HS0_ := (hb.cell (World.block_lt_of_cell? _ _ (hHeld.1))).trans (hHeld.1)
             have HS1_ := (hb.cell (World.block_lt_of_cell? _ _ (hHeld.2))).trans (hHeld.2)
             replace HO357 := Aside0.mk (Kd.R_below (by (with_reducible repeat (first | apply Kd.R_alloc | apply Kd.R_drewN | apply Kd.R_drew)); exact HO357.out) hb)
             have BK363 := Aside0.mk (hbox)
             have GW363 := bsz_ hg
             have GE363 := bsz_ hg
             replace HB := bst_ hb
             have NB348_363 := nbl_ BK348 hg
             have NB363_348 := nbr_ BK348 hg
             replace BK348 := bkb_ BK348 hb
             clear hb hbox hg
             refine hK.out _ _ ⟨HS0_, HS1_⟩ (fun hHeld => ?_)
             clear hK K
             refine norm_ (a' := ?_) ?_ ?_
             rotate_left
             ·show Act.put _ (some 12) _ = _
              simp only [Act.put, List.setIfInBounds_toArray, List.set_cons_zero, List.set_cons_succ, i64_w, i32_w]
              rfl
             refine one_ (i := 9) (N := none) (fl 10 1023) rfl rfl (one_of HT_.out (by kernel_rfl)) (by decide) (fun K hK => ?_)
             have hs43 : w42.cell? ⟨gb363, 0, none⟩ = some (.int .i64 0) := (blk_cell BK363.out 0).trans rfl
             have hfs43 := blk_frozen BK363.out 0
             have hns43_0 := NB348_363.out
             have hms43_0 := NB363_348.out
             have hs44 : w42.cell? ⟨gb363, 1, none⟩ = some (.string (⟨#[]⟩ : ByteArray)) := (blk_cell BK363.out 1).trans rfl
             have hfs44 := blk_frozen BK363.out 1
             have hns44_0 := NB348_363.out
             have hms44_0 := NB363_348.out
             have hs45 : w42.cell? ⟨gb363, 2, none⟩ = some (.string (⟨#[]⟩ : ByteArray)) := (blk_cell BK363.out 2).trans rfl
             have hfs45 := blk_frozen BK363.out 2
             have hns45_0 := NB348_363.out
             have hms45_0 := NB363_348.out
             refine skip_ (w1 := ?_) (by rfl) rfl ?_ ?_
             rotate_left
             ·go_simp
              rfl
             refine hK.out _ _ ⟨((cell_far (p := ⟨gb363, _, none⟩) (by first | exact Kd.own_blk (Kd.R_ne HO357.out BK363.out (by decide)) | (rw [add_block]; exact Kd.own_blk (Kd.R_ne HO357.out BK363.out (by decide))) | (show (Addr.add _ _).block ≠ _; rw [add_block]; exact Kd.own_blk (Kd.R_ne HO357.out BK363.out (by decide))) | (dsimp only; exact Kd.own_blk (Kd.R_ne HO357.out BK363.out (by decide)))) _).trans (((cell_far (p := ⟨gb363, _, none⟩) (by first | exact Kd.own_blk (Kd.R_ne HO357.out BK363.out (by decide)) | (rw [add_block]; exact Kd.own_blk (Kd.R_ne HO357.out BK363.out (by decide))) | (show (Addr.add _ _).block ≠ _; rw [add_block]; exact Kd.own_blk (Kd.R_ne HO357.out BK363.out (by decide))) | (dsimp only; exact Kd.own_blk (Kd.R_ne HO357.out BK363.out (by decide)))) _).trans (((cell_far (p := ⟨gb363, _, none⟩) (by first | exact Kd.own_blk (Kd.R_ne HO357.out BK363.out (by decide)) | (rw [add_block]; exact Kd.own_blk (Kd.R_ne HO357.out BK363.out (by decide))) | (show (Addr.add _ _).block ≠ _; rw [add_block]; exact Kd.own_blk (Kd.R_ne HO357.out BK363.out (by decide))) | (dsimp only; exact Kd.own_blk (Kd.R_ne HO357.out BK363.out (by decide)))) _).trans (hHeld.1)))))), ((cell_far (p := ⟨gb363, _, none⟩) (by first | exact Kd.own_blk (Kd.R_ne HO357.out BK363.out (by decide)) | (rw [add_block]; exact Kd.own_blk (Kd.R_ne HO357.out BK363.out (by decide))) | (show (Addr.add _ _).block ≠ _; rw [add_block]; exact Kd.own_blk (Kd.R_ne HO357.out BK363.out (by decide))) | (dsimp only; exact Kd.own_blk (Kd.R_ne HO357.out BK363.out (by decide)))) _).trans (((cell_far (p := ⟨gb363, _, none⟩) (by first | exact Kd.own_blk (Kd.R_ne HO357.out BK363.out (by decide)) | (rw [add_block]; exact Kd.own_blk (Kd.R_ne HO357.out BK363.out (by decide))) | (show (Addr.add _ _).block ≠ _; rw [add_block]; exact Kd.own_blk (Kd.R_ne HO357.out BK363.out (by decide))) | (dsimp only; exact Kd.own_blk (Kd.R_ne HO357.out BK363.out (by decide)))) _).trans (((cell_far (p := ⟨gb363, _, none⟩) (by first | exact Kd.own_blk (Kd.R_ne HO357.out BK363.out (by decide)) | (rw [add_block]; exact Kd.own_blk (Kd.R_ne HO357.out BK363.out (by decide))) | (show (Addr.add _ _).block ≠ _; rw [add_block]; exact Kd.own_blk (Kd.R_ne HO357.out BK363.out (by decide))) | (dsimp only; exact Kd.own_blk (Kd.R_ne HO357.out BK363.out (by decide)))) _).trans (hHeld.2))))))⟩ (fun hHeld => ?_)
             clear hK K
             refine done_ (done_of HT_.out (by kernel_rfl)) ?_
             have hnb46 := NB363_348.out
             have hnc46 := NB348_363.out
             have hcz47_0 := b30_ BK363
             have hcz47_1 := b31_ BK363
             have hcz47_2 := b32_ BK363
             have hfz47_0 := blk_frozen BK363.out 0
             have hfz47_1 := blk_frozen BK363.out 1
             have hfz47_2 := blk_frozen BK363.out 2
             try go_wp2_with (first | ((with_reducible refine gate_callee (f := 115) rfl ?_); refine goesL_ (some 63) rfl rfl Tryz.func115 (by kernel_rfl) rfl #[.agg #[.int .i64 t359, .string (rdOf ByteArray.empty t355 1), .string (rdOf ByteArray.empty t355 2)]] rfl (by (try simp only [List.map_toArray, List.map_cons, List.map_nil]); first | done | rfl | (simp only [List.length_drop, List.length_take]; rfl)) ?_; (with_reducible refine (impl_FrameOf.calls kj3 t359 (rdOf ByteArray.empty t355 1) (rdOf ByteArray.empty t355 2) t364 _ A21.out ?side1).mono ?_); (case side1 => exact HTB.out.below bwl_); rintro e w48 ⟨rfl, hb⟩; refine ⟨_, rfl, ?_⟩; replace HO357 := Aside0.mk (Kd.R_below (by (with_reducible repeat (first | apply Kd.R_alloc | apply Kd.R_drewN | apply Kd.R_drew)); exact (Kd.R_mono (Kd.R_far (p := ⟨gb363, 2, none⟩) (Kd.R_far (p := ⟨gb363, 1, none⟩) (Kd.R_far (p := ⟨gb363, 0, none⟩) (Kd.R_types HO357.out BK363.out (by decide)) (fun _ hk => hk.2) (.int .i64 t359)) (fun _ hk => hk.2) (.string (rdOf ByteArray.empty t355 1))) (fun _ hk => hk.2) (.string (rdOf ByteArray.empty t355 2))) (fun _ h_ => h_.1))) hb); replace BK348 := bkb_ BK348 hb; replace BK363 := Aside0.mk (blk_below (g := gb363) (o := .cells #[.int .i64 t359, .string (rdOf ByteArray.empty t355 1), .string (rdOf ByteArray.empty t355 2)] 132 (0, 0)) (by (with_reducible repeat (first | refine blk_drewN ?_ _ | refine blk_drew ?_ | refine blk_alloc ?_ _)); refine blk_put (cs := #[.int .i64 t359, .string (rdOf ByteArray.empty t355 1), .string (⟨#[]⟩ : ByteArray)]) ?_ 2 _ rfl; (with_reducible repeat (first | refine blk_drewN ?_ _ | refine blk_drew ?_ | refine blk_alloc ?_ _)); refine blk_put (cs := #[.int .i64 t359, .string (⟨#[]⟩ : ByteArray), .string (⟨#[]⟩ : ByteArray)]) ?_ 1 _ rfl; (with_reducible repeat (first | refine blk_drewN ?_ _ | refine blk_drew ?_ | refine blk_alloc ?_ _)); refine blk_put (cs := #[.int .i64 0, .string (⟨#[]⟩ : ByteArray), .string (⟨#[]⟩ : ByteArray)]) ?_ 0 _ rfl; (with_reducible repeat (first | refine blk_drewN ?_ _ | refine blk_drew ?_ | refine blk_alloc ?_ _)); exact BK363.out) hb); replace HB := bst_ hb; clear hb) | (go_at_call 116; (with_reducible refine (strings_HasPrefix.calls a0 t364 true _ A36.out).mono ?_); rintro e w' ⟨rfl, ⟨nd, rfl⟩⟩; (try (rw [drewN_self w48]; generalize hq_ : World.drewN w48 _ = w48; have n0_ : Aside0 (Kd.R Kd.string 9 w48 w.heap.size (fun _ => True) (.slice (some ad358) t355.length co39) t355) := ⟨by rw [← hq_]; exact (by (with_reducible repeat (first | apply Kd.R_alloc | apply Kd.R_drewN | apply Kd.R_drew)); exact HO357.out)⟩; have n1_ : Aside0 (w48.heap[gb348]? = some (.cells #[.int .i64 0, .string (⟨#[]⟩ : ByteArray), .string (⟨#[]⟩ : ByteArray)] 132 (0, 0))) := ⟨by rw [← hq_]; exact (by (with_reducible repeat (first | refine blk_drewN ?_ _ | refine blk_drew ?_ | refine blk_alloc ?_ _)); exact BK348.out)⟩; have n2_ : Aside0 (w48.heap[gb363]? = some (.cells #[.int .i64 t359, .string (rdOf ByteArray.empty t355 1), .string (rdOf ByteArray.empty t355 2)] 132 (0, 0))) := ⟨by rw [← hq_]; exact (by (with_reducible repeat (first | refine blk_drewN ?_ _ | refine blk_drew ?_ | refine blk_alloc ?_ _)); exact BK363.out)⟩; have n3_ : Aside0 (Below w.heap.size w w48) := ⟨by rw [← hq_]; exact bwl_⟩; clear HO357 BK348 BK363 HB hq_; have HO357 := n0_; have BK348 := n1_; have BK363 := n2_; have HB := n3_; clear n0_ n1_ n2_ n3_)); have hcz49_0 := b30_ BK363; have hcz49_1 := b31_ BK363; have hcz49_2 := b32_ BK363; have hfz49_0 := blk_frozen BK363.out 0; have hfz49_1 := blk_frozen BK363.out 1; have hfz49_2 := blk_frozen BK363.out 2; have hcz50_0 := b30_ BK348; have hcz50_1 := b31_ BK348; have hcz50_2 := b32_ BK348; have hfz50_0 := blk_frozen BK348.out 0; have hfz50_1 := blk_frozen BK348.out 1; have hfz50_2 := blk_frozen BK348.out 2))
             refine bodyPost_ret (results_ct rfl _ _ gb348 132 #[.int .i64 t359, .string (rdOf ByteArray.empty t355 1), .string (rdOf ByteArray.empty t355 2)] (0, 0) _ rfl (by (with_reducible repeat (first | refine blk_drewN ?_ _ | refine blk_drew ?_ | refine blk_alloc ?_ _)); refine blk_put (cs := #[.int .i64 t359, .string (rdOf ByteArray.empty t355 1), .string (⟨#[]⟩ : ByteArray)]) ?_ 2 _ rfl; (with_reducible repeat (first | refine blk_drewN ?_ _ | refine blk_drew ?_ | refine blk_alloc ?_ _)); refine blk_put (cs := #[.int .i64 t359, .string (⟨#[]⟩ : ByteArray), .string (⟨#[]⟩ : ByteArray)]) ?_ 1 _ rfl; (with_reducible repeat (first | refine blk_drewN ?_ _ | refine blk_drew ?_ | refine blk_alloc ?_ _)); refine blk_put (cs := #[.int .i64 0, .string (⟨#[]⟩ : ByteArray), .string (⟨#[]⟩ : ByteArray)]) ?_ 0 _ rfl; (with_reducible repeat (first | refine blk_drewN ?_ _ | refine blk_drew ?_ | refine blk_alloc ?_ _)); exact BK348.out) Tryz.underlying132 rfl (by kernel_rfl)) rfl ?_
             exact ⟨rr_, bwl_⟩
            ·replace c37 := Bool.eq_false_iff.mpr c37
             subst c37
             rw [if_neg (show ¬ (false = true) by decide)] at H
             simp only [Option.some.injEq, Prod.mk.injEq] at H
             obtain ⟨rfl, rfl, rfl, rfl⟩ := H
             try go_wp2_with (first | ((with_reducible refine gate_callee (f := 114) rfl ?_); refine goesL_ (some 42) rfl rfl Tryz.func114 (by kernel_rfl) rfl #[.string (t350.extract 0 (t352 : Int).toNat), .string (⟨#[32]⟩ : ByteArray), .int .i64 3] rfl (by (try simp only [List.map_toArray, List.map_cons, List.map_nil]); first | done | rfl | (simp only [List.length_drop, List.length_take]; rfl)) ?_; (with_reducible refine (strings_SplitN.calls (t350.extract 0 (t352 : Int).toNat) (⟨#[32]⟩ : ByteArray) 3 t355 _ A15.out ?side1).mono ?_); (case side1 => exact HTB.out.below bwl_); rintro e w51 ⟨v356, rfl, ho0, hb⟩; refine ⟨_, rfl, ?_⟩; have HO357 := Aside0.mk (Kd.R_lower ho0 (below_size bwl_)); replace BK348 := bkb_ BK348 hb; replace HB := bst_ hb; clear hb ho0; obtain ⟨Ao52, co52, eo52⟩ := Kd.R_slice HO357.out; subst eo52; have p358 : 0 ≤ (0 : Int) := (by omega); have q358 : 0 < (t355.length : Int) := od_; obtain ⟨ad358, e358, hx358_0⟩ := Kd.at_string (Kd.R_reads' HO357.out).2.2 0 p358 q358; cases e358; have qi358 : (0 < t355.length) = True := eq_true (by omega); (try rw [show ((0 : Int)).toNat = 0 from rfl] at hx358_0); (try rw [Addr.add_zero'] at hx358_0); replace p358 := eq_true p358; replace q358 := eq_true q358) | ((with_reducible refine gate_callee (f := 113) rfl ?_); refine goesL_ (some 51) rfl rfl Tryz.func113 (by kernel_rfl) rfl #[.string (rdOf ByteArray.empty t355 0)] rfl (by (try simp only [List.map_toArray, List.map_cons, List.map_nil]); first | done | rfl | (simp only [List.length_drop, List.length_take]; rfl)) ?_; (with_reducible refine (impl_ReadDecimal.calls kj3 (rdOf ByteArray.empty t355 0) t359 true _ A18.out ?side1).mono ?_); (case side1 => exact HTB.out.below bwl_); rintro e w53 ⟨rfl, hb⟩; refine ⟨_, rfl, ?_⟩; replace HO357 := Aside0.mk (Kd.R_below (by (with_reducible repeat (first | apply Kd.R_alloc | apply Kd.R_drewN | apply Kd.R_drew)); exact HO357.out) hb); replace BK348 := bkb_ BK348 hb; replace HB := bst_ hb; clear hb))
             replace HO357 := Aside0.mk (Kd.R_drew HO357.out)
             replace BK348 := Aside0.mk (blk_drew BK348.out)
             replace HB := Aside0.mk (below_drew1 HB.out)
             have p361 : 0 ≤ (1 : Int) := (by omega)
             have q361 : 1 < (t355.length : Int) := od_
             obtain ⟨ad361, e361, hx361_0⟩ := Kd.at_string (Kd.R_reads' HO357.out).2.2 1 p361 q361
             obtain rfl : ad358 = ad361 := (by injection e361)
             (try simp only [show (1 : Int).toNat = 1 from rfl, Nat.reduceMul, Nat.reduceEqDiff, Go.Addr.add, ↓reduceIte] at hx361_0)
             have qi361 : (1 < t355.length) = True := eq_true (by omega)
             (try rw [show ((1 : Int)).toNat = 1 from rfl] at hx361_0)
             replace p361 := eq_true p361
             replace q361 := eq_true q361
             have p362 : 0 ≤ (2 : Int) := (by omega)
             have q362 : 2 < (t355.length : Int) := od_
             obtain ⟨ad362, e362, hx362_0⟩ := Kd.at_string (Kd.R_reads' HO357.out).2.2 2 p362 q362
             obtain rfl : ad358 = ad362 := (by injection e362)
             (try simp only [show (2 : Int).toNat = 2 from rfl, Nat.reduceMul, Nat.reduceEqDiff, Go.Addr.add, ↓reduceIte] at hx362_0)
             have qi362 : (2 < t355.length) = True := eq_true (by omega)
             (try rw [show ((2 : Int)).toNat = 2 from rfl] at hx362_0)
             replace p362 := eq_true p362
             replace q362 := eq_true q362
             refine start_ (n := 10) (S := fun w' => w'.cell? ⟨ad358.block, ad358.off + 1, none⟩ = some (.string (rdOf ByteArray.empty t355 1)) ∧ w'.cell? ⟨ad358.block, ad358.off + 2, none⟩ = some (.string (rdOf ByteArray.empty t355 2))) (ds := []) (fl 10 0) (by kernel_rfl) rfl rfl ⟨hx361_0, hx362_0⟩ (fun hHeld => ?_); refine with_tabW impl_readFrame.tab9 impl_readFrame.bits9 (fun HT_ HW_ => ?_)
             generalize w53.drew = w54 at HO357 BK348 HB hx361_0 hx362_0 hHeld ⊢
             refine pu_ (i := 0) (N := some 54) (fl 10 1) (any_of HT_.out (by kernel_rfl)) ?_
             refine pu_ (i := 1) (N := some 55) (fl 10 3) (any_of HT_.out (by kernel_rfl)) ?_
             refine pu_ (i := 2) (N := some 56) (fl 10 7) (any_of HT_.out (by kernel_rfl)) ?_
             refine pu_ (i := 4) (N := some 58) (fl 10 23) (any_of HT_.out (by kernel_rfl)) ?_
             refine pu_ (i := 5) (N := some 59) (fl 10 55) (any_of HT_.out (by kernel_rfl)) ?_
             refine take_ (i := 3) (N := some 57) (v := ?_) (a' := ?_) (fl 10 63) rfl rfl (take_ofW HT_.out HW_.out (by kernel_rfl)) (fun _ _ _ h => h) (Or.inl ⟨by rfl, ?_⟩) hHeld ?_ ?_
             rotate_left
             ·rintro w' ⟨s0, s1⟩
              go_simp
              with_reducible rfl
             rotate_left
             ·simp only [Act.put, List.setIfInBounds_toArray, List.set_cons_zero, List.set_cons_succ, i64_w, i32_w]
              rfl
             refine take_ (i := 6) (N := some 60) (v := ?_) (a' := ?_) (fl 10 127) rfl rfl (take_ofW HT_.out HW_.out (by kernel_rfl)) (fun _ _ _ h => h) (Or.inl ⟨by rfl, ?_⟩) hHeld ?_ ?_
             rotate_left
             ·rintro w' ⟨s0, s1⟩
              go_simp
              with_reducible rfl
             rotate_left
             ·simp only [Act.put, List.setIfInBounds_toArray, List.set_cons_zero, List.set_cons_succ, i64_w, i32_w]
              rfl
             refine pu_ (i := 7) (N := some 61) (fl 10 255) (any_of HT_.out (by kernel_rfl)) ?_
             refine one_ (i := 8) (N := some 12) (fl 10 511) rfl rfl (one_of HT_.out (by kernel_rfl)) (by decide) (fun K hK => ?_)
             refine box_step ?hg (N := 12) ?hd (cs := #[.int .i64 0, .string (⟨#[]⟩ : ByteArray), .string (⟨#[]⟩ : ByteArray)]) (t := 132) ?hr ?_; (case hd => rfl); (case hg => rfl); (case hr => first | (go_simp; done) | (go_simp; rfl))
             intro gb363 hg w55 hbox hb
             have HS0_ := (hb.cell (World.block_lt_of_cell? _ _ (hHeld.1))).trans (hHeld.1)
             have HS1_ := (hb.cell (World.block_lt_of_cell? _ _ (hHeld.2))).trans (hHeld.2)
             replace HO357 := Aside0.mk (Kd.R_below (by (with_reducible repeat (first | apply Kd.R_alloc | apply Kd.R_drewN | apply Kd.R_drew)); exact HO357.out) hb)
             have BK363 := Aside0.mk (hbox)
             have GW363 := bsz_ hg
             have GE363 := bsz_ hg
             replace HB := bst_ hb
             have NB348_363 := nbl_ BK348 hg
             have NB363_348 := nbr_ BK348 hg
             replace BK348 := bkb_ BK348 hb
             clear hb hbox hg
             refine hK.out _ _ ⟨HS0_, HS1_⟩ (fun hHeld => ?_)
             clear hK K
             refine norm_ (a' := ?_) ?_ ?_
             rotate_left
             ·show Act.put _ (some 12) _ = _
              simp only [Act.put, List.setIfInBounds_toArray, List.set_cons_zero, List.set_cons_succ, i64_w, i32_w]
              rfl
             refine one_ (i := 9) (N := none) (fl 10 1023) rfl rfl (one_of HT_.out (by kernel_rfl)) (by decide) (fun K hK => ?_)
             have hs56 : w55.cell? ⟨gb363, 0, none⟩ = some (.int .i64 0) := (blk_cell BK363.out 0).trans rfl
             have hfs56 := blk_frozen BK363.out 0
             have hns56_0 := NB348_363.out
             have hms56_0 := NB363_348.out
             have hs57 : w55.cell? ⟨gb363, 1, none⟩ = some (.string (⟨#[]⟩ : ByteArray)) := (blk_cell BK363.out 1).trans rfl
             have hfs57 := blk_frozen BK363.out 1
             have hns57_0 := NB348_363.out
             have hms57_0 := NB363_348.out
             have hs58 : w55.cell? ⟨gb363, 2, none⟩ = some (.string (⟨#[]⟩ : ByteArray)) := (blk_cell BK363.out 2).trans rfl
             have hfs58 := blk_frozen BK363.out 2
             have hns58_0 := NB348_363.out
             have hms58_0 := NB363_348.out
             refine skip_ (w1 := ?_) (by rfl) rfl ?_ ?_
             rotate_left
             ·go_simp
              rfl
             refine hK.out _ _ ⟨((cell_far (p := ⟨gb363, _, none⟩) (by first | exact Kd.own_blk (Kd.R_ne HO357.out BK363.out (by decide)) | (rw [add_block]; exact Kd.own_blk (Kd.R_ne HO357.out BK363.out (by decide))) | (show (Addr.add _ _).block ≠ _; rw [add_block]; exact Kd.own_blk (Kd.R_ne HO357.out BK363.out (by decide))) | (dsimp only; exact Kd.own_blk (Kd.R_ne HO357.out BK363.out (by decide)))) _).trans (((cell_far (p := ⟨gb363, _, none⟩) (by first | exact Kd.own_blk (Kd.R_ne HO357.out BK363.out (by decide)) | (rw [add_block]; exact Kd.own_blk (Kd.R_ne HO357.out BK363.out (by decide))) | (show (Addr.add _ _).block ≠ _; rw [add_block]; exact Kd.own_blk (Kd.R_ne HO357.out BK363.out (by decide))) | (dsimp only; exact Kd.own_blk (Kd.R_ne HO357.out BK363.out (by decide)))) _).trans (((cell_far (p := ⟨gb363, _, none⟩) (by first | exact Kd.own_blk (Kd.R_ne HO357.out BK363.out (by decide)) | (rw [add_block]; exact Kd.own_blk (Kd.R_ne HO357.out BK363.out (by decide))) | (show (Addr.add _ _).block ≠ _; rw [add_block]; exact Kd.own_blk (Kd.R_ne HO357.out BK363.out (by decide))) | (dsimp only; exact Kd.own_blk (Kd.R_ne HO357.out BK363.out (by decide)))) _).trans (hHeld.1)))))), ((cell_far (p := ⟨gb363, _, none⟩) (by first | exact Kd.own_blk (Kd.R_ne HO357.out BK363.out (by decide)) | (rw [add_block]; exact Kd.own_blk (Kd.R_ne HO357.out BK363.out (by decide))) | (show (Addr.add _ _).block ≠ _; rw [add_block]; exact Kd.own_blk (Kd.R_ne HO357.out BK363.out (by decide))) | (dsimp only; exact Kd.own_blk (Kd.R_ne HO357.out BK363.out (by decide)))) _).trans (((cell_far (p := ⟨gb363, _, none⟩) (by first | exact Kd.own_blk (Kd.R_ne HO357.out BK363.out (by decide)) | (rw [add_block]; exact Kd.own_blk (Kd.R_ne HO357.out BK363.out (by decide))) | (show (Addr.add _ _).block ≠ _; rw [add_block]; exact Kd.own_blk (Kd.R_ne HO357.out BK363.out (by decide))) | (dsimp only; exact Kd.own_blk (Kd.R_ne HO357.out BK363.out (by decide)))) _).trans (((cell_far (p := ⟨gb363, _, none⟩) (by first | exact Kd.own_blk (Kd.R_ne HO357.out BK363.out (by decide)) | (rw [add_block]; exact Kd.own_blk (Kd.R_ne HO357.out BK363.out (by decide))) | (show (Addr.add _ _).block ≠ _; rw [add_block]; exact Kd.own_blk (Kd.R_ne HO357.out BK363.out (by decide))) | (dsimp only; exact Kd.own_blk (Kd.R_ne HO357.out BK363.out (by decide)))) _).trans (hHeld.2))))))⟩ (fun hHeld => ?_)
             clear hK K
             refine done_ (done_of HT_.out (by kernel_rfl)) ?_
             have hnb59 := NB363_348.out
             have hnc59 := NB348_363.out
             have hcz60_0 := b30_ BK363
             have hcz60_1 := b31_ BK363
             have hcz60_2 := b32_ BK363
             have hfz60_0 := blk_frozen BK363.out 0
             have hfz60_1 := blk_frozen BK363.out 1
             have hfz60_2 := blk_frozen BK363.out 2
             try go_wp2_with (first | ((with_reducible refine gate_callee (f := 115) rfl ?_); refine goesL_ (some 63) rfl rfl Tryz.func115 (by kernel_rfl) rfl #[.agg #[.int .i64 t359, .string (rdOf ByteArray.empty t355 1), .string (rdOf ByteArray.empty t355 2)]] rfl (by (try simp only [List.map_toArray, List.map_cons, List.map_nil]); first | done | rfl | (simp only [List.length_drop, List.length_take]; rfl)) ?_; (with_reducible refine (impl_FrameOf.calls kj3 t359 (rdOf ByteArray.empty t355 1) (rdOf ByteArray.empty t355 2) t364 _ A21.out ?side1).mono ?_); (case side1 => exact HTB.out.below bwl_); rintro e w61 ⟨rfl, hb⟩; refine ⟨_, rfl, ?_⟩; replace HO357 := Aside0.mk (Kd.R_below (by (with_reducible repeat (first | apply Kd.R_alloc | apply Kd.R_drewN | apply Kd.R_drew)); exact (Kd.R_mono (Kd.R_far (p := ⟨gb363, 2, none⟩) (Kd.R_far (p := ⟨gb363, 1, none⟩) (Kd.R_far (p := ⟨gb363, 0, none⟩) (Kd.R_types HO357.out BK363.out (by decide)) (fun _ hk => hk.2) (.int .i64 t359)) (fun _ hk => hk.2) (.string (rdOf ByteArray.empty t355 1))) (fun _ hk => hk.2) (.string (rdOf ByteArray.empty t355 2))) (fun _ h_ => h_.1))) hb); replace BK348 := bkb_ BK348 hb; replace BK363 := Aside0.mk (blk_below (g := gb363) (o := .cells #[.int .i64 t359, .string (rdOf ByteArray.empty t355 1), .string (rdOf ByteArray.empty t355 2)] 132 (0, 0)) (by (with_reducible repeat (first | refine blk_drewN ?_ _ | refine blk_drew ?_ | refine blk_alloc ?_ _)); refine blk_put (cs := #[.int .i64 t359, .string (rdOf ByteArray.empty t355 1), .string (⟨#[]⟩ : ByteArray)]) ?_ 2 _ rfl; (with_reducible repeat (first | refine blk_drewN ?_ _ | refine blk_drew ?_ | refine blk_alloc ?_ _)); refine blk_put (cs := #[.int .i64 t359, .string (⟨#[]⟩ : ByteArray), .string (⟨#[]⟩ : ByteArray)]) ?_ 1 _ rfl; (with_reducible repeat (first | refine blk_drewN ?_ _ | refine blk_drew ?_ | refine blk_alloc ?_ _)); refine blk_put (cs := #[.int .i64 0, .string (⟨#[]⟩ : ByteArray), .string (⟨#[]⟩ : ByteArray)]) ?_ 0 _ rfl; (with_reducible repeat (first | refine blk_drewN ?_ _ | refine blk_drew ?_ | refine blk_alloc ?_ _)); exact BK363.out) hb); replace HB := bst_ hb; clear hb) | (go_at_call 116; (with_reducible refine (strings_HasPrefix.calls a0 t364 false _ A36.out).mono ?_); rintro e w' ⟨rfl, ⟨nd, rfl⟩⟩; (try (rw [drewN_self w61]; generalize hq_ : World.drewN w61 _ = w61; have n0_ : Aside0 (Kd.R Kd.string 9 w61 w.heap.size (fun _ => True) (.slice (some ad358) t355.length co52) t355) := ⟨by rw [← hq_]; exact (by (with_reducible repeat (first | apply Kd.R_alloc | apply Kd.R_drewN | apply Kd.R_drew)); exact HO357.out)⟩; have n1_ : Aside0 (w61.heap[gb348]? = some (.cells #[.int .i64 0, .string (⟨#[]⟩ : ByteArray), .string (⟨#[]⟩ : ByteArray)] 132 (0, 0))) := ⟨by rw [← hq_]; exact (by (with_reducible repeat (first | refine blk_drewN ?_ _ | refine blk_drew ?_ | refine blk_alloc ?_ _)); exact BK348.out)⟩; have n2_ : Aside0 (w61.heap[gb363]? = some (.cells #[.int .i64 t359, .string (rdOf ByteArray.empty t355 1), .string (rdOf ByteArray.empty t355 2)] 132 (0, 0))) := ⟨by rw [← hq_]; exact (by (with_reducible repeat (first | refine blk_drewN ?_ _ | refine blk_drew ?_ | refine blk_alloc ?_ _)); exact BK363.out)⟩; have n3_ : Aside0 (Below w.heap.size w w61) := ⟨by rw [← hq_]; exact bwl_⟩; clear HO357 BK348 BK363 HB hq_; have HO357 := n0_; have BK348 := n1_; have BK363 := n2_; have HB := n3_; clear n0_ n1_ n2_ n3_)); have hcz62_0 := b30_ BK348; have hcz62_1 := b31_ BK348; have hcz62_2 := b32_ BK348; have hfz62_0 := blk_frozen BK348.out 0; have hfz62_1 := blk_frozen BK348.out 1; have hfz62_2 := blk_frozen BK348.out 2))
             refine bodyPost_ret (results_ct rfl _ _ gb348 132 #[.int .i64 0, .string (⟨#[]⟩ : ByteArray), .string (⟨#[]⟩ : ByteArray)] (0, 0) _ rfl (by (with_reducible repeat (first | refine blk_drewN ?_ _ | refine blk_drew ?_ | refine blk_alloc ?_ _)); refine blk_put (cs := #[.int .i64 0, .string (⟨#[]⟩ : ByteArray), .string (⟨#[]⟩ : ByteArray)]) ?_ 2 _ rfl; (with_reducible repeat (first | refine blk_drewN ?_ _ | refine blk_drew ?_ | refine blk_alloc ?_ _)); refine blk_put (cs := #[.int .i64 0, .string (⟨#[]⟩ : ByteArray), .string (⟨#[]⟩ : ByteArray)]) ?_ 1 _ rfl; (with_reducible repeat (first | refine blk_drewN ?_ _ | refine blk_drew ?_ | refine blk_alloc ?_ _)); refine blk_put (cs := #[.int .i64 0, .string (⟨#[]⟩ : ByteArray), .string (⟨#[]⟩ : ByteArray)]) ?_ 0 _ rfl; (with_reducible repeat (first | refine blk_drewN ?_ _ | refine blk_drew ?_ | refine blk_alloc ?_ _)); exact BK348.out) Tryz.underlying132 rfl (by kernel_rfl)) rfl ?_
             exact ⟨rr_, bwl_⟩
          ·replace c22 := Bool.eq_false_iff.mpr c22
           subst c22
           rw [if_neg (show ¬ (false = true) by decide)] at H
           simp only [Option.some.injEq, Prod.mk.injEq] at H
           obtain ⟨rfl, rfl, rfl, rfl⟩ := H
           try go_wp2_with (first | ((with_reducible refine gate_callee (f := 114) rfl ?_); refine goesL_ (some 42) rfl rfl Tryz.func114 (by kernel_rfl) rfl #[.string (t350.extract 0 (t352 : Int).toNat), .string (⟨#[32]⟩ : ByteArray), .int .i64 3] rfl (by (try simp only [List.map_toArray, List.map_cons, List.map_nil]); first | done | rfl | (simp only [List.length_drop, List.length_take]; rfl)) ?_; (with_reducible refine (strings_SplitN.calls (t350.extract 0 (t352 : Int).toNat) (⟨#[32]⟩ : ByteArray) 3 t355 _ A15.out ?side1).mono ?_); (case side1 => exact HTB.out.below bwl_); rintro e w63 ⟨v356, rfl, ho0, hb⟩; refine ⟨_, rfl, ?_⟩; have HO357 := Aside0.mk (Kd.R_lower ho0 (below_size bwl_)); replace BK348 := bkb_ BK348 hb; replace HB := bst_ hb; clear hb ho0; obtain ⟨Ao64, co64, eo64⟩ := Kd.R_slice HO357.out; subst eo64; have p358 : 0 ≤ (0 : Int) := (by omega); have q358 : 0 < (t355.length : Int) := od_; obtain ⟨ad358, e358, hx358_0⟩ := Kd.at_string (Kd.R_reads' HO357.out).2.2 0 p358 q358; cases e358; have qi358 : (0 < t355.length) = True := eq_true (by omega); (try rw [show ((0 : Int)).toNat = 0 from rfl] at hx358_0); (try rw [Addr.add_zero'] at hx358_0); replace p358 := eq_true p358; replace q358 := eq_true q358) | ((with_reducible refine gate_callee (f := 113) rfl ?_); refine goesL_ (some 51) rfl rfl Tryz.func113 (by kernel_rfl) rfl #[.string (rdOf ByteArray.empty t355 0)] rfl (by (try simp only [List.map_toArray, List.map_cons, List.map_nil]); first | done | rfl | (simp only [List.length_drop, List.length_take]; rfl)) ?_; (with_reducible refine (impl_ReadDecimal.calls kj3 (rdOf ByteArray.empty t355 0) t359 false _ A18.out ?side1).mono ?_); (case side1 => exact HTB.out.below bwl_); rintro e w65 ⟨rfl, hb⟩; refine ⟨_, rfl, ?_⟩; replace HO357 := Aside0.mk (Kd.R_below (by (with_reducible repeat (first | apply Kd.R_alloc | apply Kd.R_drewN | apply Kd.R_drew)); exact HO357.out) hb); replace BK348 := bkb_ BK348 hb; replace HB := bst_ hb; clear hb))
           replace HO357 := Aside0.mk (Kd.R_drew HO357.out)
           replace BK348 := Aside0.mk (blk_drew BK348.out)
           replace HB := Aside0.mk (below_drew1 HB.out)
           have p361 : 0 ≤ (1 : Int) := (by omega)
           have q361 : 1 < (t355.length : Int) := od_
           obtain ⟨ad361, e361, hx361_0⟩ := Kd.at_string (Kd.R_reads' HO357.out).2.2 1 p361 q361
           obtain rfl : ad358 = ad361 := (by injection e361)
           (try simp only [show (1 : Int).toNat = 1 from rfl, Nat.reduceMul, Nat.reduceEqDiff, Go.Addr.add, ↓reduceIte] at hx361_0)
           have qi361 : (1 < t355.length) = True := eq_true (by omega)
           (try rw [show ((1 : Int)).toNat = 1 from rfl] at hx361_0)
           replace p361 := eq_true p361
           replace q361 := eq_true q361
           have p362 : 0 ≤ (2 : Int) := (by omega)
           have q362 : 2 < (t355.length : Int) := od_
           obtain ⟨ad362, e362, hx362_0⟩ := Kd.at_string (Kd.R_reads' HO357.out).2.2 2 p362 q362
           obtain rfl : ad358 = ad362 := (by injection e362)
           (try simp only [show (2 : Int).toNat = 2 from rfl, Nat.reduceMul, Nat.reduceEqDiff, Go.Addr.add, ↓reduceIte] at hx362_0)
           have qi362 : (2 < t355.length) = True := eq_true (by omega)
           (try rw [show ((2 : Int)).toNat = 2 from rfl] at hx362_0)
           replace p362 := eq_true p362
           replace q362 := eq_true q362
           refine start_ (n := 10) (S := fun w' => w'.cell? ⟨ad358.block, ad358.off + 1, none⟩ = some (.string (rdOf ByteArray.empty t355 1)) ∧ w'.cell? ⟨ad358.block, ad358.off + 2, none⟩ = some (.string (rdOf ByteArray.empty t355 2))) (ds := []) (fl 10 0) (by kernel_rfl) rfl rfl ⟨hx361_0, hx362_0⟩ (fun hHeld => ?_); refine with_tabW impl_readFrame.tab9 impl_readFrame.bits9 (fun HT_ HW_ => ?_)
           generalize w65.drew = w66 at HO357 BK348 HB hx361_0 hx362_0 hHeld ⊢
           refine pu_ (i := 0) (N := some 54) (fl 10 1) (any_of HT_.out (by kernel_rfl)) ?_
           refine pu_ (i := 1) (N := some 55) (fl 10 3) (any_of HT_.out (by kernel_rfl)) ?_
           refine pu_ (i := 2) (N := some 56) (fl 10 7) (any_of HT_.out (by kernel_rfl)) ?_
           refine pu_ (i := 4) (N := some 58) (fl 10 23) (any_of HT_.out (by kernel_rfl)) ?_
           refine pu_ (i := 5) (N := some 59) (fl 10 55) (any_of HT_.out (by kernel_rfl)) ?_
           refine take_ (i := 3) (N := some 57) (v := ?_) (a' := ?_) (fl 10 63) rfl rfl (take_ofW HT_.out HW_.out (by kernel_rfl)) (fun _ _ _ h => h) (Or.inl ⟨by rfl, ?_⟩) hHeld ?_ ?_
           rotate_left
           ·rintro w' ⟨s0, s1⟩
            go_simp
            with_reducible rfl
           rotate_left
           ·simp only [Act.put, List.setIfInBounds_toArray, List.set_cons_zero, List.set_cons_succ, i64_w, i32_w]
            rfl
           refine take_ (i := 6) (N := some 60) (v := ?_) (a' := ?_) (fl 10 127) rfl rfl (take_ofW HT_.out HW_.out (by kernel_rfl)) (fun _ _ _ h => h) (Or.inl ⟨by rfl, ?_⟩) hHeld ?_ ?_
           rotate_left
           ·rintro w' ⟨s0, s1⟩
            go_simp
            with_reducible rfl
           rotate_left
           ·simp only [Act.put, List.setIfInBounds_toArray, List.set_cons_zero, List.set_cons_succ, i64_w, i32_w]
            rfl
           refine pu_ (i := 7) (N := some 61) (fl 10 255) (any_of HT_.out (by kernel_rfl)) ?_
           refine one_ (i := 8) (N := some 12) (fl 10 511) rfl rfl (one_of HT_.out (by kernel_rfl)) (by decide) (fun K hK => ?_)
           refine box_step ?hg (N := 12) ?hd (cs := #[.int .i64 0, .string (⟨#[]⟩ : ByteArray), .string (⟨#[]⟩ : ByteArray)]) (t := 132) ?hr ?_; (case hd => rfl); (case hg => rfl); (case hr => first | (go_simp; done) | (go_simp; rfl))
           intro gb363 hg w67 hbox hb
           have HS0_ := (hb.cell (World.block_lt_of_cell? _ _ (hHeld.1))).trans (hHeld.1)
           have HS1_ := (hb.cell (World.block_lt_of_cell? _ _ (hHeld.2))).trans (hHeld.2)
           replace HO357 := Aside0.mk (Kd.R_below (by (with_reducible repeat (first | apply Kd.R_alloc | apply Kd.R_drewN | apply Kd.R_drew)); exact HO357.out) hb)
           have BK363 := Aside0.mk (hbox)
           have GW363 := bsz_ hg
           have GE363 := bsz_ hg
           replace HB := bst_ hb
           have NB348_363 := nbl_ BK348 hg
           have NB363_348 := nbr_ BK348 hg
           replace BK348 := bkb_ BK348 hb
           clear hb hbox hg
           refine hK.out _ _ ⟨HS0_, HS1_⟩ (fun hHeld => ?_)
           clear hK K
           refine norm_ (a' := ?_) ?_ ?_
           rotate_left
           ·show Act.put _ (some 12) _ = _
            simp only [Act.put, List.setIfInBounds_toArray, List.set_cons_zero, List.set_cons_succ, i64_w, i32_w]
            rfl
           refine one_ (i := 9) (N := none) (fl 10 1023) rfl rfl (one_of HT_.out (by kernel_rfl)) (by decide) (fun K hK => ?_)
           have hs68 : w67.cell? ⟨gb363, 0, none⟩ = some (.int .i64 0) := (blk_cell BK363.out 0).trans rfl
           have hfs68 := blk_frozen BK363.out 0
           have hns68_0 := NB348_363.out
           have hms68_0 := NB363_348.out
           have hs69 : w67.cell? ⟨gb363, 1, none⟩ = some (.string (⟨#[]⟩ : ByteArray)) := (blk_cell BK363.out 1).trans rfl
           have hfs69 := blk_frozen BK363.out 1
           have hns69_0 := NB348_363.out
           have hms69_0 := NB363_348.out
           have hs70 : w67.cell? ⟨gb363, 2, none⟩ = some (.string (⟨#[]⟩ : ByteArray)) := (blk_cell BK363.out 2).trans rfl
           have hfs70 := blk_frozen BK363.out 2
           have hns70_0 := NB348_363.out
           have hms70_0 := NB363_348.out
           refine skip_ (w1 := ?_) (by rfl) rfl ?_ ?_
           rotate_left
           ·go_simp
            rfl
           refine hK.out _ _ ⟨((cell_far (p := ⟨gb363, _, none⟩) (by first | exact Kd.own_blk (Kd.R_ne HO357.out BK363.out (by decide)) | (rw [add_block]; exact Kd.own_blk (Kd.R_ne HO357.out BK363.out (by decide))) | (show (Addr.add _ _).block ≠ _; rw [add_block]; exact Kd.own_blk (Kd.R_ne HO357.out BK363.out (by decide))) | (dsimp only; exact Kd.own_blk (Kd.R_ne HO357.out BK363.out (by decide)))) _).trans (((cell_far (p := ⟨gb363, _, none⟩) (by first | exact Kd.own_blk (Kd.R_ne HO357.out BK363.out (by decide)) | (rw [add_block]; exact Kd.own_blk (Kd.R_ne HO357.out BK363.out (by decide))) | (show (Addr.add _ _).block ≠ _; rw [add_block]; exact Kd.own_blk (Kd.R_ne HO357.out BK363.out (by decide))) | (dsimp only; exact Kd.own_blk (Kd.R_ne HO357.out BK363.out (by decide)))) _).trans (((cell_far (p := ⟨gb363, _, none⟩) (by first | exact Kd.own_blk (Kd.R_ne HO357.out BK363.out (by decide)) | (rw [add_block]; exact Kd.own_blk (Kd.R_ne HO357.out BK363.out (by decide))) | (show (Addr.add _ _).block ≠ _; rw [add_block]; exact Kd.own_blk (Kd.R_ne HO357.out BK363.out (by decide))) | (dsimp only; exact Kd.own_blk (Kd.R_ne HO357.out BK363.out (by decide)))) _).trans (hHeld.1)))))), ((cell_far (p := ⟨gb363, _, none⟩) (by first | exact Kd.own_blk (Kd.R_ne HO357.out BK363.out (by decide)) | (rw [add_block]; exact Kd.own_blk (Kd.R_ne HO357.out BK363.out (by decide))) | (show (Addr.add _ _).block ≠ _; rw [add_block]; exact Kd.own_blk (Kd.R_ne HO357.out BK363.out (by decide))) | (dsimp only; exact Kd.own_blk (Kd.R_ne HO357.out BK363.out (by decide)))) _).trans (((cell_far (p := ⟨gb363, _, none⟩) (by first | exact Kd.own_blk (Kd.R_ne HO357.out BK363.out (by decide)) | (rw [add_block]; exact Kd.own_blk (Kd.R_ne HO357.out BK363.out (by decide))) | (show (Addr.add _ _).block ≠ _; rw [add_block]; exact Kd.own_blk (Kd.R_ne HO357.out BK363.out (by decide))) | (dsimp only; exact Kd.own_blk (Kd.R_ne HO357.out BK363.out (by decide)))) _).trans (((cell_far (p := ⟨gb363, _, none⟩) (by first | exact Kd.own_blk (Kd.R_ne HO357.out BK363.out (by decide)) | (rw [add_block]; exact Kd.own_blk (Kd.R_ne HO357.out BK363.out (by decide))) | (show (Addr.add _ _).block ≠ _; rw [add_block]; exact Kd.own_blk (Kd.R_ne HO357.out BK363.out (by decide))) | (dsimp only; exact Kd.own_blk (Kd.R_ne HO357.out BK363.out (by decide)))) _).trans (hHeld.2))))))⟩ (fun hHeld => ?_)
           clear hK K
           refine done_ (done_of HT_.out (by kernel_rfl)) ?_
           have hnb71 := NB363_348.out
           have hnc71 := NB348_363.out
           have hcz72_0 := b30_ BK363
           have hcz72_1 := b31_ BK363
           have hcz72_2 := b32_ BK363
           have hfz72_0 := blk_frozen BK363.out 0
           have hfz72_1 := blk_frozen BK363.out 1
           have hfz72_2 := blk_frozen BK363.out 2
           try go_wp2_with (first | ((with_reducible refine gate_callee (f := 115) rfl ?_); refine goesL_ (some 63) rfl rfl Tryz.func115 (by kernel_rfl) rfl #[.agg #[.int .i64 t359, .string (rdOf ByteArray.empty t355 1), .string (rdOf ByteArray.empty t355 2)]] rfl (by (try simp only [List.map_toArray, List.map_cons, List.map_nil]); first | done | rfl | (simp only [List.length_drop, List.length_take]; rfl)) ?_; (with_reducible refine (impl_FrameOf.calls kj3 t359 (rdOf ByteArray.empty t355 1) (rdOf ByteArray.empty t355 2) t364 _ A21.out ?side1).mono ?_); (case side1 => exact HTB.out.below bwl_); rintro e w73 ⟨rfl, hb⟩; refine ⟨_, rfl, ?_⟩; replace HO357 := Aside0.mk (Kd.R_below (by (with_reducible repeat (first | apply Kd.R_alloc | apply Kd.R_drewN | apply Kd.R_drew)); exact (Kd.R_mono (Kd.R_far (p := ⟨gb363, 2, none⟩) (Kd.R_far (p := ⟨gb363, 1, none⟩) (Kd.R_far (p := ⟨gb363, 0, none⟩) (Kd.R_types HO357.out BK363.out (by decide)) (fun _ hk => hk.2) (.int .i64 t359)) (fun _ hk => hk.2) (.string (rdOf ByteArray.empty t355 1))) (fun _ hk => hk.2) (.string (rdOf ByteArray.empty t355 2))) (fun _ h_ => h_.1))) hb); replace BK348 := bkb_ BK348 hb; replace BK363 := Aside0.mk (blk_below (g := gb363) (o := .cells #[.int .i64 t359, .string (rdOf ByteArray.empty t355 1), .string (rdOf ByteArray.empty t355 2)] 132 (0, 0)) (by (with_reducible repeat (first | refine blk_drewN ?_ _ | refine blk_drew ?_ | refine blk_alloc ?_ _)); refine blk_put (cs := #[.int .i64 t359, .string (rdOf ByteArray.empty t355 1), .string (⟨#[]⟩ : ByteArray)]) ?_ 2 _ rfl; (with_reducible repeat (first | refine blk_drewN ?_ _ | refine blk_drew ?_ | refine blk_alloc ?_ _)); refine blk_put (cs := #[.int .i64 t359, .string (⟨#[]⟩ : ByteArray), .string (⟨#[]⟩ : ByteArray)]) ?_ 1 _ rfl; (with_reducible repeat (first | refine blk_drewN ?_ _ | refine blk_drew ?_ | refine blk_alloc ?_ _)); refine blk_put (cs := #[.int .i64 0, .string (⟨#[]⟩ : ByteArray), .string (⟨#[]⟩ : ByteArray)]) ?_ 0 _ rfl; (with_reducible repeat (first | refine blk_drewN ?_ _ | refine blk_drew ?_ | refine blk_alloc ?_ _)); exact BK363.out) hb); replace HB := bst_ hb; clear hb; have hcz74_0 := b30_ BK348; have hcz74_1 := b31_ BK348; have hcz74_2 := b32_ BK348; have hfz74_0 := blk_frozen BK348.out 0; have hfz74_1 := blk_frozen BK348.out 1; have hfz74_2 := blk_frozen BK348.out 2))
           refine bodyPost_ret (results_ct rfl _ _ gb348 132 #[.int .i64 0, .string (⟨#[]⟩ : ByteArray), .string (⟨#[]⟩ : ByteArray)] (0, 0) _ rfl (by (with_reducible repeat (first | refine blk_drewN ?_ _ | refine blk_drew ?_ | refine blk_alloc ?_ _)); refine blk_put (cs := #[.int .i64 0, .string (⟨#[]⟩ : ByteArray), .string (⟨#[]⟩ : ByteArray)]) ?_ 2 _ rfl; (with_reducible repeat (first | refine blk_drewN ?_ _ | refine blk_drew ?_ | refine blk_alloc ?_ _)); refine blk_put (cs := #[.int .i64 0, .string (⟨#[]⟩ : ByteArray), .string (⟨#[]⟩ : ByteArray)]) ?_ 1 _ rfl; (with_reducible repeat (first | refine blk_drewN ?_ _ | refine blk_drew ?_ | refine blk_alloc ?_ _)); refine blk_put (cs := #[.int .i64 0, .string (⟨#[]⟩ : ByteArray), .string (⟨#[]⟩ : ByteArray)]) ?_ 0 _ rfl; (with_reducible repeat (first | refine blk_drewN ?_ _ | refine blk_drew ?_ | refine blk_alloc ?_ _)); exact BK348.out) Tryz.underlying132 rfl (by kernel_rfl)) rfl ?_
           exact ⟨rr_, bwl_⟩
         ·rw [if_neg c20] at H
          exact absurd H (by simp)
        ·rw [if_neg c19] at H
         exact absurd H (by simp)
       ·rw [if_neg c17] at H
        exact absurd H (by simp)
      ·rw [if_neg c16] at H
       have c16b0 : ((t355.length : Int) == 3) = false := beq_eq_false_iff_ne.mpr c16
       have c16b1 : ((t355.length : Int) != 3) = true := bne_iff_ne.mpr c16
       simp only [Option.some.injEq, Prod.mk.injEq] at H
       obtain ⟨rfl, rfl, rfl, rfl⟩ := H
       go_wp2_with (first | ((with_reducible refine gate_callee (f := 114) rfl ?_); refine goesL_ (some 42) rfl rfl Tryz.func114 (by kernel_rfl) rfl #[.string (t350.extract 0 (t352 : Int).toNat), .string (⟨#[32]⟩ : ByteArray), .int .i64 3] rfl (by (try simp only [List.map_toArray, List.map_cons, List.map_nil]); first | done | rfl | (simp only [List.length_drop, List.length_take]; rfl)) ?_; (with_reducible refine (strings_SplitN.calls (t350.extract 0 (t352 : Int).toNat) (⟨#[32]⟩ : ByteArray) 3 t355 _ A15.out ?side1).mono ?_); (case side1 => exact HTB.out.below bwl_); rintro e w75 ⟨v356, rfl, ho0, hb⟩; refine ⟨_, rfl, ?_⟩; have HO357 := Aside0.mk (Kd.R_lower ho0 (below_size bwl_)); replace BK348 := bkb_ BK348 hb; replace HB := bst_ hb; clear hb ho0; obtain ⟨Ao76, co76, eo76⟩ := Kd.R_slice HO357.out; subst eo76; have hcz77_0 := b30_ BK348; have hcz77_1 := b31_ BK348; have hcz77_2 := b32_ BK348; have hfz77_0 := blk_frozen BK348.out 0; have hfz77_1 := blk_frozen BK348.out 1; have hfz77_2 := blk_frozen BK348.out 2))
       refine bodyPost_ret (results_ct rfl _ _ gb348 132 #[.int .i64 0, .string (⟨#[]⟩ : ByteArray), .string (⟨#[]⟩ : ByteArray)] (0, 0) _ rfl (by (with_reducible repeat (first | refine blk_drewN ?_ _ | refine blk_drew ?_ | refine blk_alloc ?_ _)); refine blk_put (cs := #[.int .i64 0, .string (⟨#[]⟩ : ByteArray), .string (⟨#[]⟩ : ByteArray)]) ?_ 2 _ rfl; (with_reducible repeat (first | refine blk_drewN ?_ _ | refine blk_drew ?_ | refine blk_alloc ?_ _)); refine blk_put (cs := #[.int .i64 0, .string (⟨#[]⟩ : ByteArray), .string (⟨#[]⟩ : ByteArray)]) ?_ 1 _ rfl; (with_reducible repeat (first | refine blk_drewN ?_ _ | refine blk_drew ?_ | refine blk_alloc ?_ _)); refine blk_put (cs := #[.int .i64 0, .string (⟨#[]⟩ : ByteArray), .string (⟨#[]⟩ : ByteArray)]) ?_ 0 _ rfl; (with_reducible repeat (first | refine blk_drewN ?_ _ | refine blk_drew ?_ | refine blk_alloc ?_ _)); exact BK348.out) Tryz.underlying132 rfl (by kernel_rfl)) rfl ?_
       exact ⟨rr_, bwl_⟩
     ·rw [if_neg c14] at H
      exact absurd H (by simp)
    ·rw [if_neg c13] at H
     exact absurd H (by simp)
end Go.Proofs.YtkoeeajciciphaaGreatDoor.QFnExactDeskText
