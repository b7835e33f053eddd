import Derived.Test.YtlcgonaapmmnkaaDoorSq
import Derived.Test.YtlcgonaapmmnkaaDoorQFnLogsx0
import Derived.Test.YtlcgonaapmmnkaaDoorQFnLogsx3
import Derived.Test.YtlcgonaapmmnkaaDoorQFnLogsx5
import Derived.Test.YtlcgonaapmmnkaaDoorQFnLogsx10
namespace Go.Proofs.YtlcgonaapmmnkaaDoor.QFnLogs
open Sq (fl pu_ gl_ b20_ b21_ b30_ b31_ b32_ od_ rr_ be_)
open Base (bwl_ bst_ bsz_ bkb_ nbl_ nbr_ kbl_ bkm_)
open Go.RowKit Go.Proofs.YtlcgonaapmmnkaaDoorW.PrintWords Go.Proofs.YtlcgonaapmmnkaaDoorW.PrintLast Go.Proofs.YtlcgonaapmmnkaaDoorW.PrintMore
attribute [local go_sem] max2_int min2_int max_two min_two max_three min_three max_four min_four
set_option linter.unusedVariables false
set_option linter.unusedSimpArgs false
theorem isk32_x11 {P Q : Prop} (h : Aside0 P) (k : P → Q := by (intro h; repeat (first | (with_reducible first | exact h | apply IsS32.alloc | apply IsS32.drew | apply IsS32.drewN | apply IsS32.set_0 | apply IsS32.set_1) | exact h))) : Q := k h.out
theorem bwi32_x11 {w W : World} (h : Below w.heap.size w W := by repeat (first | (with_reducible first | exact HB.out | apply below_alloc | apply pw_below_drewN | apply below_drew1 | refine below_set ?_ (Aside0.out (by assumption)) | refine below_set ?_ (IsS32.ge (Aside0.out (by assumption)))) | exact HB.out)) : Below w.heap.size w W := h
def spec_CountKinds.l0 : Nat → ByteArray → List (S26) → Int → Int → Option (Int × Int)
 | 0, _, _, _, _ => none
 | k + 1, x1, x6, x8, x9 => if x9 < (x6.length : Int) then (if 0 ≤ x9 then (if ((rd_T26 x6 x9).f1).toList = x1.toList then (spec_CountKinds.l0 k x1 x6 (wrap64 (x8 + 1)) (wrap64 (x9 + 1))) else (spec_CountKinds.l0 k x1 x6 x8 (wrap64 (x9 + 1)))) else (none)) else (some (x8, 0))
def spec_CountKinds.f (k : Nat) (a0_0 : ByteArray) (a0_1 : ByteArray) (a1 : ByteArray) : Option (Int × Int) := (spec_l27All.f k a0_0 a0_1).bind fun bt217 => (if bt217.2.1 = 1 then (some (0, bt217.2.1)) else ((spec_IsName.f k a1).bind fun t223 => (if t223 = true then (if bt217.2.1 = 0 then (spec_CountKinds.l0 k a1 bt217.1 0 0) else (some (0, bt217.2.1))) else (some (0, 2)))))
theorem spec_CountKinds.mono_l : ∀ k, (∀ y0 y1 y2 y3, LeO (spec_CountKinds.l0 k y0 y1 y2 y3) (spec_CountKinds.l0 (k + 1) y0 y1 y2 y3))
 | 0 => fun _ _ _ _ r h => by simp [spec_CountKinds.l0] at h
 | k + 1 => by
  have ih0 := spec_CountKinds.mono_l k
  ·intro y0 y1 y2 y3
   unfold spec_CountKinds.l0
   repeat' first
   | (with_reducible exact ih0 _ _ _ _)
   | (with_reducible exact spec_IsName.mono _ _)
   | (with_reducible exact spec_l27All.mono _ _ _)
   | (with_reducible exact LeO.refl _)
   | (with_reducible exact LeO.none _)
   | (with_reducible refine LeO.ite ?_ ?_)
   | (with_reducible refine LeO.bind ?_ (fun _ => ?_))
   | exact ih0 _ _ _ _
   | exact spec_IsName.mono _ _
   | exact spec_l27All.mono _ _ _
   | exact LeO.none _
   | refine LeO.ite ?_ ?_
   | refine LeO.bind ?_ (fun _ => ?_)
theorem spec_CountKinds.mono : ∀ a0 a1 a2 k, LeO (spec_CountKinds.f k a0 a1 a2) (spec_CountKinds.f (k + 1) a0 a1 a2) := by
 intro a0 a1 a2 k
 have ih0 := spec_CountKinds.mono_l k
 unfold spec_CountKinds.f
 repeat' first
   | (with_reducible exact ih0 _ _ _ _)
   | (with_reducible exact spec_IsName.mono _ _)
   | (with_reducible exact spec_l27All.mono _ _ _)
   | (with_reducible exact LeO.refl _)
   | (with_reducible exact LeO.none _)
   | (with_reducible refine LeO.ite ?_ ?_)
   | (with_reducible refine LeO.bind ?_ (fun _ => ?_))
   | exact ih0 _ _ _ _
   | exact spec_IsName.mono _ _
   | exact spec_l27All.mono _ _ _
   | exact LeO.none _
   | refine LeO.ite ?_ ?_
   | refine LeO.bind ?_ (fun _ => ?_)
set_option maxHeartbeats 8000000 in
set_option maxRecDepth 100000 in
theorem spec_CountKinds.calls (k : Nat) (a0_0 : ByteArray) (a0_1 : ByteArray) (a1 : ByteArray) (r1 : Int) (r2 : Int) (w : World) (h : spec_CountKinds.f k a0_0 a0_1 a1 = some (r1, r2)) :
  Calls Tryd.prog 34 #[.agg #[.string a0_0, .string a0_1], .string a1] w fun e w' => e = .returned (.tuple #[.int .i64 r1, .int .i64 r2]) ∧ Below w.heap.size w w' := by
 have hu32 := Tryd.underlying32
 have HB := Aside0.mk (Below.refl w.heap.size w)
 have H : ((spec_l27All.f k a0_0 a0_1).bind fun bt217 => (if bt217.2.1 = 1 then (some (0, bt217.2.1)) else ((spec_IsName.f k a1).bind fun t223 => (if t223 = true then (if bt217.2.1 = 0 then (spec_CountKinds.l0 k a1 bt217.1 0 0) else (some (0, bt217.2.1))) else (some (0, 2)))))) = some (r1, r2) := h
 clear h
 replace H := Option.bind_eq_some_iff.mp H
 obtain ⟨⟨t217, t220, t221, t222⟩, A30, H⟩ := H
 (try dsimp only at H)
 have A3 := Aside0.mk A30
 clear A30
 by_cases c4 : t220 = 1
 ·rw [if_pos c4] at H
  have c4b0 : (t220 == 1) = true := beq_iff_eq.mpr c4
  have c4b1 : (t220 != 1) = false := bne_eq_false_iff_eq.mpr c4
  clear c4
  simp only [Option.some.injEq, Prod.mk.injEq] at H
  obtain ⟨rfl, rfl⟩ := H
  go_enter Tryd.func34, Tryd.ntmps34
  go_wp2_with (first | ((with_reducible refine gate_dst (N := 2) rfl ?_); refine be_ 2 #[.string a0_0, .string a0_1] 32 ?_; intro gb216 hg w5 hbox hb; have BK216 := Aside0.mk (hbox); have GW216 := bsz_ hg; have GE216 := bsz_ hg; replace HB := bst_ hb; clear hb hbox hg; have HI216 : Aside0 (IsS32 w _ gb216 a0_0 a0_1) := ⟨⟨by (with_reducible repeat (first | refine blk_drewN ?_ _ | refine blk_drew ?_ | refine blk_alloc ?_ _)); exact BK216.out, GW216.out⟩⟩; clear BK216) | ((with_reducible refine gate_callee (f := 68) rfl ?_); refine gl_ (some 11) Tryd.func68 #[.pointer (some ⟨gb216, 0, none⟩)] ?_; (with_reducible refine (spec_l27All.calls k gb216 a0_0 a0_1 t217 t220 t221 t222 w _ ?side1 ?side2 A3.out).mono ?_); (case side1 => exact isk32_x11 HI216); (case side2 => exact bwi32_x11); rintro e w6 ⟨v218, rfl, ho0, hi, hb, hk⟩; refine ⟨_, rfl, ?_⟩; have HO219 := Aside0.mk (Kd.R_lower ho0 (below_size bwi32_x11)); replace HB := Aside0.mk (hb); have BK216 := Aside0.mk (hi.1); clear HI216; clear hb hk hi ho0))
  go_ret2
  exact ⟨rr_, bwl_⟩
 ·rw [if_neg c4] at H
  have c4b0 : (t220 == 1) = false := beq_eq_false_iff_ne.mpr c4
  have c4b1 : (t220 != 1) = true := bne_iff_ne.mpr c4
  replace H := Option.bind_eq_some_iff.mp H
  obtain ⟨t223, A70, H⟩ := H
  (try dsimp only at H)
  have A7 := Aside0.mk A70
  clear A70
  by_cases c8 : t223 = true
  ·subst c8
   rw [if_pos rfl] at H
   by_cases c9 : t220 = 0
   ·rw [if_pos c9] at H
    have c9b0 : (t220 == 0) = true := beq_iff_eq.mpr c9
    have c9b1 : (t220 != 0) = false := bne_eq_false_iff_eq.mpr c9
    clear c9
    have H' := Aside0.mk H
    clear H
    go_enter Tryd.func34, Tryd.ntmps34
    go_wp2_with (first | ((with_reducible refine gate_dst (N := 2) rfl ?_); refine be_ 2 #[.string a0_0, .string a0_1] 32 ?_; intro gb216 hg w10 hbox hb; have BK216 := Aside0.mk (hbox); have GW216 := bsz_ hg; have GE216 := bsz_ hg; replace HB := bst_ hb; clear hb hbox hg; have HI216 : Aside0 (IsS32 w _ gb216 a0_0 a0_1) := ⟨⟨by (with_reducible repeat (first | refine blk_drewN ?_ _ | refine blk_drew ?_ | refine blk_alloc ?_ _)); exact BK216.out, GW216.out⟩⟩; clear BK216) | ((with_reducible refine gate_callee (f := 68) rfl ?_); refine gl_ (some 11) Tryd.func68 #[.pointer (some ⟨gb216, 0, none⟩)] ?_; (with_reducible refine (spec_l27All.calls k gb216 a0_0 a0_1 t217 t220 t221 t222 w _ ?side1 ?side2 A3.out).mono ?_); (case side1 => exact isk32_x11 HI216); (case side2 => exact bwi32_x11); rintro e w11 ⟨v218, rfl, ho0, hi, hb, hk⟩; refine ⟨_, rfl, ?_⟩; have HO219 := Aside0.mk (Kd.R_lower ho0 (below_size bwi32_x11)); replace HB := Aside0.mk (hb); have BK216 := Aside0.mk (hi.1); clear HI216; clear hb hk hi ho0) | ((with_reducible refine gate_callee (f := 69) rfl ?_); refine gl_ (some 18) Tryd.func69 #[.string a1] ?_; (with_reducible refine (spec_IsName.calls k a1 true _ A7.out).mono ?_); rintro e w' ⟨rfl, ⟨nd, rfl⟩⟩; refine ⟨_, rfl, ?_⟩))
    go_loopg [8, 9] k (fun kq v8 v9 w' => ∃ (x8_1 : Int) (x9_1 : Int), v8 = .int .i64 x8_1 ∧ v9 = .int .i64 x9_1 ∧ Aside0 (spec_CountKinds.l0 kq a1 t217 x8_1 x9_1 = some (r1, r2)) ∧ Aside0 (kq ≤ k) ∧ Aside0 (Kd.R k26 26 w' w.heap.size (fun _ => True) v218 t217) ∧ Aside0 (w'.heap[gb216]? = some (.cells #[.string t221, .string t222] 32 (0, 0))) ∧ Aside0 (Below w.heap.size w w'))
    case atStart => exact ⟨(0), (0), (by first | rfl | (simp; done) | (simp [*]; done)), (by first | rfl | (simp; done) | (simp [*]; done)), H', ⟨Nat.le_refl _⟩, ⟨by (with_reducible repeat (first | apply Kd.R_alloc | apply Kd.R_drewN | apply Kd.R_drew)); exact HO219.out⟩, ⟨by (with_reducible repeat (first | refine blk_drewN ?_ _ | refine blk_drew ?_ | refine blk_alloc ?_ _)); exact BK216.out⟩, ⟨bwl_⟩⟩
    case round =>
     clear H'
     (try clear c4);(try clear c4b0);(try clear c4b1);(try clear c8);(try clear c9);(try clear c9b0);(try clear c9b1)
     obtain ⟨x8_1, x9_1, rfl, rfl, HA, HK1, HO_6, BK216, HB⟩ := hrel
     cases gk with
     | zero => exact absurd HA.out (by simp [spec_CountKinds.l0])
     | succ k1 =>
      have H := HA.out
      clear HA
      simp only [spec_CountKinds.l0] at H
      by_cases c12 : x9_1 < (t217.length : Int)
      ·rw [if_pos c12] at H
       have c12b0 : decide (x9_1 < (t217.length : Int)) = true := decide_eq_true c12
       clear c12
       by_cases c13 : 0 ≤ x9_1
       ·rw [if_pos c13] at H
        have c13b0 : decide (0 ≤ x9_1) = true := decide_eq_true c13
        clear c13
        by_cases c14 : ((rd_T26 t217 x9_1).f1).toList = a1.toList
        ·rw [if_pos c14] at H
         have c14b0 : (((rd_T26 t217 x9_1).f1).toList == a1.toList) = true := beq_iff_eq.mpr c14
         have c14b1 : (((rd_T26 t217 x9_1).f1).toList != a1.toList) = false := bne_eq_false_iff_eq.mpr c14
         clear c14
         have H' := Aside0.mk H
         clear H
         obtain ⟨Ao15, co15, eo15⟩ := Kd.R_slice HO_6.out
         subst eo15
         have p224 : 0 ≤ (x9_1 : Int) := od_
         have q224 : x9_1 < (t217.length : Int) := od_
         obtain ⟨ad224, e224, hx224_0, hx224_1, hx224_2⟩ := at_T26 (Kd.R_reads' HO_6.out).2.2 x9_1 p224 q224
         cases e224
         replace p224 := eq_true p224
         replace q224 := eq_true q224
         go_wp2
         go_roundg k1
         case measure => have := HK1.out; omega
         case rel => exact ⟨(wrap64 (x8_1 + 1)), (wrap64 (x9_1 + 1)), (by first | rfl | (simp; done) | (simp [*]; done)), (by first | rfl | (simp; done) | (simp [*]; done)), H', ⟨by have := HK1.out; omega⟩, ⟨by (with_reducible repeat (first | apply Kd.R_alloc | apply Kd.R_drewN | apply Kd.R_drew)); exact HO_6.out⟩, ⟨by (with_reducible repeat (first | refine blk_drewN ?_ _ | refine blk_drew ?_ | refine blk_alloc ?_ _)); exact BK216.out⟩, ⟨bwl_⟩⟩
        ·rw [if_neg c14] at H
         have c14b0 : (((rd_T26 t217 x9_1).f1).toList == a1.toList) = false := beq_eq_false_iff_ne.mpr c14
         have c14b1 : (((rd_T26 t217 x9_1).f1).toList != a1.toList) = true := bne_iff_ne.mpr c14
         have H' := Aside0.mk H
         clear H
         obtain ⟨Ao16, co16, eo16⟩ := Kd.R_slice HO_6.out
         subst eo16
         have p224 : 0 ≤ (x9_1 : Int) := od_
         have q224 : x9_1 < (t217.length : Int) := od_
         obtain ⟨ad224, e224, hx224_0, hx224_1, hx224_2⟩ := at_T26 (Kd.R_reads' HO_6.out).2.2 x9_1 p224 q224
         cases e224
         replace p224 := eq_true p224
         replace q224 := eq_true q224
         go_wp2
         go_roundg k1
         case measure => have := HK1.out; omega
         case rel => exact ⟨(x8_1), (wrap64 (x9_1 + 1)), (by first | rfl | (simp; done) | (simp [*]; done)), (by first | rfl | (simp; done) | (simp [*]; done)), H', ⟨by have := HK1.out; omega⟩, ⟨by (with_reducible repeat (first | apply Kd.R_alloc | apply Kd.R_drewN | apply Kd.R_drew)); exact HO_6.out⟩, ⟨by (with_reducible repeat (first | refine blk_drewN ?_ _ | refine blk_drew ?_ | refine blk_alloc ?_ _)); exact BK216.out⟩, ⟨bwl_⟩⟩
       ·rw [if_neg c13] at H
        exact absurd H (by simp)
      ·rw [if_neg c12] at H
       have c12b0 : decide (x9_1 < (t217.length : Int)) = false := decide_eq_false c12
       clear c12
       simp only [Option.some.injEq, Prod.mk.injEq] at H
       obtain ⟨rfl, rfl⟩ := H
       obtain ⟨Ao17, co17, eo17⟩ := Kd.R_slice HO_6.out
       subst eo17
       go_wp2
       go_ret2
       exact ⟨rr_, bwl_⟩
   ·rw [if_neg c9] at H
    have c9b0 : (t220 == 0) = false := beq_eq_false_iff_ne.mpr c9
    have c9b1 : (t220 != 0) = true := bne_iff_ne.mpr c9
    simp only [Option.some.injEq, Prod.mk.injEq] at H
    obtain ⟨rfl, rfl⟩ := H
    go_enter Tryd.func34, Tryd.ntmps34
    go_wp2_with (first | ((with_reducible refine gate_dst (N := 2) rfl ?_); refine be_ 2 #[.string a0_0, .string a0_1] 32 ?_; intro gb216 hg w18 hbox hb; have BK216 := Aside0.mk (hbox); have GW216 := bsz_ hg; have GE216 := bsz_ hg; replace HB := bst_ hb; clear hb hbox hg; have HI216 : Aside0 (IsS32 w _ gb216 a0_0 a0_1) := ⟨⟨by (with_reducible repeat (first | refine blk_drewN ?_ _ | refine blk_drew ?_ | refine blk_alloc ?_ _)); exact BK216.out, GW216.out⟩⟩; clear BK216) | ((with_reducible refine gate_callee (f := 68) rfl ?_); refine gl_ (some 11) Tryd.func68 #[.pointer (some ⟨gb216, 0, none⟩)] ?_; (with_reducible refine (spec_l27All.calls k gb216 a0_0 a0_1 t217 t220 t221 t222 w _ ?side1 ?side2 A3.out).mono ?_); (case side1 => exact isk32_x11 HI216); (case side2 => exact bwi32_x11); rintro e w19 ⟨v218, rfl, ho0, hi, hb, hk⟩; refine ⟨_, rfl, ?_⟩; have HO219 := Aside0.mk (Kd.R_lower ho0 (below_size bwi32_x11)); replace HB := Aside0.mk (hb); have BK216 := Aside0.mk (hi.1); clear HI216; clear hb hk hi ho0) | ((with_reducible refine gate_callee (f := 69) rfl ?_); refine gl_ (some 18) Tryd.func69 #[.string a1] ?_; (with_reducible refine (spec_IsName.calls k a1 true _ A7.out).mono ?_); rintro e w' ⟨rfl, ⟨nd, rfl⟩⟩; refine ⟨_, rfl, ?_⟩))
    go_ret2
    exact ⟨rr_, bwl_⟩
  ·replace c8 := Bool.eq_false_iff.mpr c8
   subst c8
   rw [if_neg (show ¬ (false = true) by decide)] at H
   simp only [Option.some.injEq, Prod.mk.injEq] at H
   obtain ⟨rfl, rfl⟩ := H
   go_enter Tryd.func34, Tryd.ntmps34
   go_wp2_with (first | ((with_reducible refine gate_dst (N := 2) rfl ?_); refine be_ 2 #[.string a0_0, .string a0_1] 32 ?_; intro gb216 hg w20 hbox hb; have BK216 := Aside0.mk (hbox); have GW216 := bsz_ hg; have GE216 := bsz_ hg; replace HB := bst_ hb; clear hb hbox hg; have HI216 : Aside0 (IsS32 w _ gb216 a0_0 a0_1) := ⟨⟨by (with_reducible repeat (first | refine blk_drewN ?_ _ | refine blk_drew ?_ | refine blk_alloc ?_ _)); exact BK216.out, GW216.out⟩⟩; clear BK216) | ((with_reducible refine gate_callee (f := 68) rfl ?_); refine gl_ (some 11) Tryd.func68 #[.pointer (some ⟨gb216, 0, none⟩)] ?_; (with_reducible refine (spec_l27All.calls k gb216 a0_0 a0_1 t217 t220 t221 t222 w _ ?side1 ?side2 A3.out).mono ?_); (case side1 => exact isk32_x11 HI216); (case side2 => exact bwi32_x11); rintro e w21 ⟨v218, rfl, ho0, hi, hb, hk⟩; refine ⟨_, rfl, ?_⟩; have HO219 := Aside0.mk (Kd.R_lower ho0 (below_size bwi32_x11)); replace HB := Aside0.mk (hb); have BK216 := Aside0.mk (hi.1); clear HI216; clear hb hk hi ho0) | ((with_reducible refine gate_callee (f := 69) rfl ?_); refine gl_ (some 18) Tryd.func69 #[.string a1] ?_; (with_reducible refine (spec_IsName.calls k a1 false _ A7.out).mono ?_); rintro e w' ⟨rfl, ⟨nd, rfl⟩⟩; refine ⟨_, rfl, ?_⟩))
   go_ret2
   exact ⟨rr_, bwl_⟩
def impl_isWhole.f (k : Nat) (a0_0 : ByteArray) (a0_1 : ByteArray) : Option (Bool) := (impl_ReadFrames.f k a0_0).bind fun bt226 => (some (bt226.2 == (a0_0.size : Int)))
theorem impl_isWhole.mono : ∀ a0 a1 k, LeO (impl_isWhole.f k a0 a1) (impl_isWhole.f (k + 1) a0 a1) := by
 intro a0 a1 k
 unfold impl_isWhole.f
 repeat' first
   | (with_reducible exact impl_ReadFrames.mono _ _)
   | (with_reducible exact LeO.refl _)
   | (with_reducible exact LeO.none _)
   | (with_reducible refine LeO.ite ?_ ?_)
   | (with_reducible refine LeO.bind ?_ (fun _ => ?_))
   | exact impl_ReadFrames.mono _ _
   | exact LeO.none _
   | refine LeO.ite ?_ ?_
   | refine LeO.bind ?_ (fun _ => ?_)
set_option maxHeartbeats 8000000 in
set_option maxRecDepth 100000 in
theorem impl_isWhole.calls (k : Nat) (a0_0 : ByteArray) (a0_1 : ByteArray) (r : Bool) (w : World) (h : impl_isWhole.f k a0_0 a0_1 = some r) (hT : Go.Proofs.YtlcgonaapmmnkaaDoor.Base.Tb2 w) :
  Calls Tryd.prog 71 #[.agg #[.string a0_0, .string a0_1]] w fun e w' => e = .returned (.bool r) ∧ Below w.heap.size w w' := by
 have HTB := Aside0.mk hT
 clear hT
 have hu32 := Tryd.underlying32
 have HB := Aside0.mk (Below.refl w.heap.size w)
 have H : ((impl_ReadFrames.f k a0_0).bind fun bt226 => (some (bt226.2 == (a0_0.size : Int)))) = some r := h
 clear h
 replace H := Option.bind_eq_some_iff.mp H
 obtain ⟨⟨t226, t227⟩, A20, H⟩ := H
 (try dsimp only at H)
 have A2 := Aside0.mk A20
 clear A20
 obtain rfl := Option.some.inj H
 go_enter Tryd.func71, Tryd.ntmps71
 go_wp2_with (first | ((with_reducible refine gate_dst (N := 1) rfl ?_); refine be_ 1 #[.string a0_0, .string a0_1] 32 ?_; intro gb225 hg w3 hbox hb; have BK225 := Aside0.mk (hbox); have GW225 := bsz_ hg; have GE225 := bsz_ hg; replace HB := bst_ hb; clear hb hbox hg; have hcz4_0 := b20_ BK225; have hcz4_1 := b21_ BK225; have hfz4_0 := blk_frozen BK225.out 0; have hfz4_1 := blk_frozen BK225.out 1) | ((with_reducible refine gate_callee (f := 28) rfl ?_); refine gl_ (some 8) Tryd.func28 #[.string a0_0] ?_; (with_reducible refine (impl_ReadFrames.calls k a0_0 t226 t227 _ A2.out ?side1).mono ?_); (case side1 => exact HTB.out.below bwl_); rintro e w5 ⟨v228, rfl, ho0, hb⟩; refine ⟨_, rfl, ?_⟩; have HO229 := Aside0.mk (Kd.R_lower ho0 (below_size bwl_)); replace BK225 := bkb_ BK225 hb; replace HB := bst_ hb; clear hb ho0; have hcz6_0 := b20_ BK225; have hcz6_1 := b21_ BK225; have hfz6_0 := blk_frozen BK225.out 0; have hfz6_1 := blk_frozen BK225.out 1))
 go_ret
 exact ⟨rr_, bwl_⟩
def impl_entriesOf.f (k : Nat) (a0_0 : ByteArray) (a0_1 : ByteArray) : Option ((List (S26))) := (impl_ReadFrames.f k a0_0).bind fun bt231 => ((impl_ReadFrames.f k a0_1).bind fun bt235 => (if bt231.1.length + bt235.1.length < 3518437208883 then (some (bt231.1 ++ bt235.1)) else (none)))
theorem impl_entriesOf.mono : ∀ a0 a1 k, LeO (impl_entriesOf.f k a0 a1) (impl_entriesOf.f (k + 1) a0 a1) := by
 intro a0 a1 k
 unfold impl_entriesOf.f
 repeat' first
   | (with_reducible exact impl_ReadFrames.mono _ _)
   | (with_reducible exact LeO.refl _)
   | (with_reducible exact LeO.none _)
   | (with_reducible refine LeO.ite ?_ ?_)
   | (with_reducible refine LeO.bind ?_ (fun _ => ?_))
   | exact impl_ReadFrames.mono _ _
   | exact LeO.none _
   | refine LeO.ite ?_ ?_
   | refine LeO.bind ?_ (fun _ => ?_)
set_option maxHeartbeats 8000000 in
set_option maxRecDepth 100000 in
theorem impl_entriesOf.calls (k : Nat) (a0_0 : ByteArray) (a0_1 : ByteArray) (r : List (S26)) (w : World) (h : impl_entriesOf.f k a0_0 a0_1 = some r) (hT : Go.Proofs.YtlcgonaapmmnkaaDoor.Base.Tb2 w) :
  Calls Tryd.prog 72 #[.agg #[.string a0_0, .string a0_1]] w fun e w' => ∃ v0_ : Value, e = .returned (v0_) ∧ Kd.R k26 26 w' w.heap.size (fun _ => True) v0_ r ∧ Below w.heap.size w w' := by
 have HTB := Aside0.mk hT
 clear hT
 have hu32 := Tryd.underlying32
 have HB := Aside0.mk (Below.refl w.heap.size w)
 have H : ((impl_ReadFrames.f k a0_0).bind fun bt231 => ((impl_ReadFrames.f k a0_1).bind fun bt235 => (if bt231.1.length + bt235.1.length < 3518437208883 then (some (bt231.1 ++ bt235.1)) else (none)))) = some r := h
 clear h
 replace H := Option.bind_eq_some_iff.mp H
 obtain ⟨⟨t231, t232⟩, A20, H⟩ := H
 (try dsimp only at H)
 have A2 := Aside0.mk A20
 clear A20
 replace H := Option.bind_eq_some_iff.mp H
 obtain ⟨⟨t235, t236⟩, A30, H⟩ := H
 (try dsimp only at H)
 have A3 := Aside0.mk A30
 clear A30
 by_cases c4 : t231.length + t235.length < 3518437208883
 ·rw [if_pos c4] at H
  have LMc4 := Aside0.mk c4
  clear c4
  obtain ⟨y239, hy239⟩ : ∃ y_ : List (S26), y_ = (t231 ++ t235) := ⟨_, rfl⟩
  replace H : (some y239) = some r := by first | (rw [hy239]; with_reducible exact H) | (have H2_ := (Option.bind_some _ _).symm.trans H; rw [hy239]; with_reducible exact H2_) | (have H2_ := (Option.bind_some _ _).symm.trans H; with_reducible exact H2_) | with_reducible exact H | (rw [hy239]; exact H) | exact H
  have Ny239 := Aside0.mk hy239
  clear hy239
  obtain rfl := Option.some.inj H
  go_enter Tryd.func72, Tryd.ntmps72
  go_wp2_with (first | ((with_reducible refine gate_dst (N := 1) rfl ?_); refine be_ 1 #[.string a0_0, .string a0_1] 32 ?_; intro gb230 hg w5 hbox hb; have BK230 := Aside0.mk (hbox); have GW230 := bsz_ hg; have GE230 := bsz_ hg; replace HB := bst_ hb; clear hb hbox hg; have hcz6_0 := b20_ BK230; have hcz6_1 := b21_ BK230; have hfz6_0 := blk_frozen BK230.out 0; have hfz6_1 := blk_frozen BK230.out 1) | ((with_reducible refine gate_callee (f := 28) rfl ?_); refine gl_ (some 10) Tryd.func28 #[.string a0_0] ?_; (with_reducible refine (impl_ReadFrames.calls k a0_0 t231 t232 _ A2.out ?side1).mono ?_); (case side1 => exact HTB.out.below bwl_); rintro e w7 ⟨v233, rfl, ho0, hb⟩; refine ⟨_, rfl, ?_⟩; have HO234 := Aside0.mk (Kd.R_lower ho0 (below_size bwl_)); replace BK230 := bkb_ BK230 hb; replace HB := bst_ hb; clear hb ho0; have hcz8_0 := b20_ BK230; have hcz8_1 := b21_ BK230; have hfz8_0 := blk_frozen BK230.out 0; have hfz8_1 := blk_frozen BK230.out 1) | ((with_reducible refine gate_callee (f := 28) rfl ?_); refine gl_ (some 16) Tryd.func28 #[.string a0_1] ?_; (with_reducible refine (impl_ReadFrames.calls k a0_1 t235 t236 _ A3.out ?side1).mono ?_); (case side1 => exact HTB.out.below bwl_); rintro e w9 ⟨v237, rfl, ho0, hb⟩; refine ⟨_, rfl, ?_⟩; have HO238 := Aside0.mk (Kd.R_lower (Kd.R_new' ho0 (Kd.R_lt (by (with_reducible repeat (first | apply Kd.R_alloc | apply Kd.R_drewN | apply Kd.R_drew)); exact HO234.out))) (below_size bwl_)); replace HO234 := Aside0.mk (Kd.R_elder' (by (with_reducible repeat (first | apply Kd.R_alloc | apply Kd.R_drewN | apply Kd.R_drew)); exact HO234.out) (Kd.R_base ho0) hb); replace BK230 := bkb_ BK230 hb; replace HB := bst_ hb; clear hb ho0; obtain ⟨Ao11, co11, eo11⟩ := Kd.R_slice HO238.out; subst eo11) | ((with_reducible refine gate_builtin (b := .append) (xs := #[.tmp 19, .tmp 20]) rfl ?_); at_builtin; refine Kd.R_append_rows k26 (w0 := w) w.heap.size rfl (.tmp 19) (.tmp 20) 42 26 (.agg #[(.int .i64 0), (.string ⟨#[]⟩), (.string ⟨#[]⟩)]) 40 rfl Tryd.underlying42 info26 rfl (by decide) (by omega) v233 t231 t235 _ _ _ (fun k_ => some k_ ≠ (.slice Ao11 t235.length co11 : Value).ownBlock) (fun _ => False) rfl rfl ?aO ?aR (fun _ _ h => h) (fun _ h => h.elim) ?aF ?aB ?aS ?aL ?_; (case aR => repeat (first | exact (Kd.R_reads' HO238.out).2.2 | (with_reducible refine Kd.C_alloc ?_ _) | (with_reducible refine Kd.C_drewN ?_ _) | (with_reducible refine Kd.C_drew ?_))); (case aB => exact bwl_); (case aF => exact (fun k_ hk => Kd.fresh' (Kd.R_lt (by (with_reducible repeat (first | apply Kd.R_alloc | apply Kd.R_drewN | apply Kd.R_drew)); exact HO238.out)) k_ hk)); (case aO => exact (by (with_reducible repeat (first | apply Kd.R_alloc | apply Kd.R_drewN | apply Kd.R_drew)); exact Kd.R_mono HO234.out (fun _ hk => hk.2))); (case aS => exact (below_size bwl_)); (case aL => have := LMc4.out; omega); intro v240 w10 ho hb hg hat; rw [← Ny239.out] at ho; replace BK230 := Aside0.mk (blk_grown (g := gb230) (o := .cells #[.string a0_0, .string a0_1] 32 (0, 0)) (by (with_reducible repeat (first | refine blk_drewN ?_ _ | refine blk_drew ?_ | refine blk_alloc ?_ _)); exact BK230.out) hg (Kd.R_ne HO234.out BK230.out (by decide))); replace HO238 := Aside0.mk (Kd.R_after (ok := (fun _ => True)) (by (with_reducible repeat (first | apply Kd.R_alloc | apply Kd.R_drewN | apply Kd.R_drew)); exact HO238.out) hg hat); replace HB := Aside0.mk (hb); have HO241 := Aside0.mk (ho); clear HO234; clear ho hb hg hat))
  go_ret
  exact ⟨_, by first | rfl | (simp [errW_none, errW_some] <;> rfl) | (simp [*, errW_none, errW_some] <;> rfl), by (with_reducible repeat (first | apply Kd.R_alloc | apply Kd.R_drewN | apply Kd.R_drew)); exact Kd.R_mono HO241.out (fun _ hk => trivial), bwl_⟩
 ·rw [if_neg c4] at H
  exact absurd H (by simp)
def impl_CountKinds.l0 : Nat → ByteArray → Int → List (S26) → Int → Int → Option (Int × Int)
 | 0, _, _, _, _, _ => none
 | k + 1, x1, x6, x22, x23, x24 => if x24 < x23 then (if 0 ≤ x24 then (if x24 < (x22.length : Int) then (if ((rd_T26 x22 x24).f1).toList = x1.toList then (impl_CountKinds.l0 k x1 (wrap64 (x6 + 1)) x22 x23 (wrap64 (x24 + 1))) else (impl_CountKinds.l0 k x1 x6 x22 x23 (wrap64 (x24 + 1)))) else (none)) else (none)) else (some (x6, 0))
def impl_CountKinds.f (k : Nat) (a0_0 : ByteArray) (a0_1 : ByteArray) (a1 : ByteArray) : Option (Int × Int) := (impl_validLog.f k a0_0 a0_1).bind fun t243 => (if t243 = true then ((impl_IsName.f k a1).bind fun t244 => (if t244 = true then ((impl_isWhole.f k a0_0 a0_1).bind fun t245 => (if t245 = true then ((impl_entriesOf.f k a0_0 a0_1).bind fun t246 => (impl_CountKinds.l0 k a1 0 t246 (t246.length : Int) 0)) else (some (0, 6)))) else (some (0, 2)))) else (some (0, 1)))
theorem impl_CountKinds.mono_l : ∀ k, (∀ y0 y1 y2 y3 y4, LeO (impl_CountKinds.l0 k y0 y1 y2 y3 y4) (impl_CountKinds.l0 (k + 1) y0 y1 y2 y3 y4))
 | 0 => fun _ _ _ _ _ r h => by simp [impl_CountKinds.l0] at h
 | k + 1 => by
  have ih0 := impl_CountKinds.mono_l k
  ·intro y0 y1 y2 y3 y4
   unfold impl_CountKinds.l0
   repeat' first
   | (with_reducible exact ih0 _ _ _ _ _)
   | (with_reducible exact impl_IsName.mono _ _)
   | (with_reducible exact impl_entriesOf.mono _ _ _)
   | (with_reducible exact impl_isWhole.mono _ _ _)
   | (with_reducible exact impl_validLog.mono _ _ _)
   | (with_reducible exact LeO.refl _)
   | (with_reducible exact LeO.none _)
   | (with_reducible refine LeO.ite ?_ ?_)
   | (with_reducible refine LeO.bind ?_ (fun _ => ?_))
   | exact ih0 _ _ _ _ _
   | exact impl_IsName.mono _ _
   | exact impl_entriesOf.mono _ _ _
   | exact impl_isWhole.mono _ _ _
   | exact impl_validLog.mono _ _ _
   | exact LeO.none _
   | refine LeO.ite ?_ ?_
   | refine LeO.bind ?_ (fun _ => ?_)
theorem impl_CountKinds.mono : ∀ a0 a1 a2 k, LeO (impl_CountKinds.f k a0 a1 a2) (impl_CountKinds.f (k + 1) a0 a1 a2) := by
 intro a0 a1 a2 k
 have ih0 := impl_CountKinds.mono_l k
 unfold impl_CountKinds.f
 repeat' first
   | (with_reducible exact ih0 _ _ _ _ _)
   | (with_reducible exact impl_IsName.mono _ _)
   | (with_reducible exact impl_entriesOf.mono _ _ _)
   | (with_reducible exact impl_isWhole.mono _ _ _)
   | (with_reducible exact impl_validLog.mono _ _ _)
   | (with_reducible exact LeO.refl _)
   | (with_reducible exact LeO.none _)
   | (with_reducible refine LeO.ite ?_ ?_)
   | (with_reducible refine LeO.bind ?_ (fun _ => ?_))
   | exact ih0 _ _ _ _ _
   | exact impl_IsName.mono _ _
   | exact impl_entriesOf.mono _ _ _
   | exact impl_isWhole.mono _ _ _
   | exact impl_validLog.mono _ _ _
   | exact LeO.none _
   | refine LeO.ite ?_ ?_
   | refine LeO.bind ?_ (fun _ => ?_)
set_option maxHeartbeats 8000000 in
set_option maxRecDepth 100000 in
theorem impl_CountKinds.calls (k : Nat) (a0_0 : ByteArray) (a0_1 : ByteArray) (a1 : ByteArray) (r1 : Int) (r2 : Int) (w : World) (h : impl_CountKinds.f k a0_0 a0_1 a1 = some (r1, r2)) (hT : Go.Proofs.YtlcgonaapmmnkaaDoor.Base.Tb2 w) :
  Calls Tryd.prog 35 #[.agg #[.string a0_0, .string a0_1], .string a1] w fun e w' => e = .returned (.tuple #[.int .i64 r1, .int .i64 r2]) ∧ Below w.heap.size w w' := by
 have HTB := Aside0.mk hT
 clear hT
 have hu32 := Tryd.underlying32
 have hu26 := Tryd.underlying26
 have HB := Aside0.mk (Below.refl w.heap.size w)
 have H : ((impl_validLog.f k a0_0 a0_1).bind fun t243 => (if t243 = true then ((impl_IsName.f k a1).bind fun t244 => (if t244 = true then ((impl_isWhole.f k a0_0 a0_1).bind fun t245 => (if t245 = true then ((impl_entriesOf.f k a0_0 a0_1).bind fun t246 => (impl_CountKinds.l0 k a1 0 t246 (t246.length : Int) 0)) else (some (0, 6)))) else (some (0, 2)))) else (some (0, 1)))) = some (r1, r2) := h
 clear h
 replace H := Option.bind_eq_some_iff.mp H
 obtain ⟨t243, A30, H⟩ := H
 (try dsimp only at H)
 have A3 := Aside0.mk A30
 clear A30
 by_cases c4 : t243 = true
 ·subst c4
  rw [if_pos rfl] at H
  replace H := Option.bind_eq_some_iff.mp H
  obtain ⟨t244, A50, H⟩ := H
  (try dsimp only at H)
  have A5 := Aside0.mk A50
  clear A50
  by_cases c6 : t244 = true
  ·subst c6
   rw [if_pos rfl] at H
   replace H := Option.bind_eq_some_iff.mp H
   obtain ⟨t245, A70, H⟩ := H
   (try dsimp only at H)
   have A7 := Aside0.mk A70
   clear A70
   by_cases c8 : t245 = true
   ·subst c8
    rw [if_pos rfl] at H
    replace H := Option.bind_eq_some_iff.mp H
    obtain ⟨t246, A90, H⟩ := H
    (try dsimp only at H)
    have A9 := Aside0.mk A90
    clear A90
    have H' := Aside0.mk H
    clear H
    go_enter Tryd.func35, Tryd.ntmps35
    go_wp2_with (first | ((with_reducible refine gate_dst (N := 2) rfl ?_); refine be_ 2 #[.string a0_0, .string a0_1] 32 ?_; intro gb242 hg w10 hbox hb; have BK242 := Aside0.mk (hbox); have GW242 := bsz_ hg; have GE242 := bsz_ hg; replace HB := bst_ hb; clear hb hbox hg; have hcz11_0 := b20_ BK242; have hcz11_1 := b21_ BK242; have hfz11_0 := blk_frozen BK242.out 0; have hfz11_1 := blk_frozen BK242.out 1) | ((with_reducible refine gate_callee (f := 61) rfl ?_); refine gl_ (some 11) Tryd.func61 #[.agg #[.string a0_0, .string a0_1]] ?_; (with_reducible refine (impl_validLog.calls k a0_0 a0_1 true _ A3.out ?side1).mono ?_); (case side1 => exact HTB.out.below bwl_); rintro e w12 ⟨rfl, hb⟩; refine ⟨_, rfl, ?_⟩; replace BK242 := bkb_ BK242 hb; replace HB := bst_ hb; clear hb) | ((with_reducible refine gate_callee (f := 70) rfl ?_); refine gl_ (some 15) Tryd.func70 #[.string a1] ?_; (with_reducible refine (impl_IsName.calls k a1 true _ A5.out).mono ?_); rintro e w' ⟨rfl, ⟨nd, rfl⟩⟩; refine ⟨_, rfl, ?_⟩; have hcz13_0 := b20_ BK242; have hcz13_1 := b21_ BK242; have hfz13_0 := blk_frozen BK242.out 0; have hfz13_1 := blk_frozen BK242.out 1) | ((with_reducible refine gate_callee (f := 71) rfl ?_); refine gl_ (some 19) Tryd.func71 #[.agg #[.string a0_0, .string a0_1]] ?_; (with_reducible refine (impl_isWhole.calls k a0_0 a0_1 true _ A7.out ?side1).mono ?_); (case side1 => exact HTB.out.below bwl_); rintro e w14 ⟨rfl, hb⟩; refine ⟨_, rfl, ?_⟩; replace BK242 := bkb_ BK242 hb; replace HB := bst_ hb; clear hb; have hcz15_0 := b20_ BK242; have hcz15_1 := b21_ BK242; have hfz15_0 := blk_frozen BK242.out 0; have hfz15_1 := blk_frozen BK242.out 1) | ((with_reducible refine gate_callee (f := 72) rfl ?_); refine gl_ (some 22) Tryd.func72 #[.agg #[.string a0_0, .string a0_1]] ?_; (with_reducible refine (impl_entriesOf.calls k a0_0 a0_1 t246 _ A9.out ?side1).mono ?_); (case side1 => exact HTB.out.below bwl_); rintro e w16 ⟨v247, rfl, ho0, hb⟩; refine ⟨_, rfl, ?_⟩; have HO248 := Aside0.mk (Kd.R_lower ho0 (below_size bwl_)); replace BK242 := bkb_ BK242 hb; replace HB := bst_ hb; clear hb ho0; obtain ⟨Ao17, co17, eo17⟩ := Kd.R_slice HO248.out; subst eo17))
    go_loopg [6, 24] k (fun kq v6 v24 w' => ∃ (x6_1 : Int) (x24_1 : Int), v6 = .int .i64 x6_1 ∧ v24 = .int .i64 x24_1 ∧ Aside0 (impl_CountKinds.l0 kq a1 x6_1 t246 (t246.length : Int) x24_1 = some (r1, r2)) ∧ Aside0 (kq ≤ k) ∧ Aside0 (Kd.R k26 26 w' w.heap.size (fun _ => True) (.slice Ao17 t246.length co17) t246) ∧ Aside0 (w'.heap[gb242]? = some (.cells #[.string a0_0, .string a0_1] 32 (0, 0))) ∧ Aside0 (Below w.heap.size w w'))
    case atStart => exact ⟨(0), (0), (by first | rfl | (simp; done) | (simp [*]; done)), (by first | rfl | (simp; done) | (simp [*]; done)), H', ⟨Nat.le_refl _⟩, ⟨by (with_reducible repeat (first | apply Kd.R_alloc | apply Kd.R_drewN | apply Kd.R_drew)); exact HO248.out⟩, ⟨by (with_reducible repeat (first | refine blk_drewN ?_ _ | refine blk_drew ?_ | refine blk_alloc ?_ _)); exact BK242.out⟩, ⟨bwl_⟩⟩
    case round =>
     clear H'
     (try clear c4);(try clear c6);(try clear c8);(try clear hcz11_0);(try clear hcz11_1);(try clear hcz13_0);(try clear hcz13_1);(try clear hcz15_0);(try clear hcz15_1);(try clear hfz11_0);(try clear hfz11_1);(try clear hfz13_0);(try clear hfz13_1);(try clear hfz15_0);(try clear hfz15_1)
     obtain ⟨x6_1, x24_1, rfl, rfl, HA, HK1, HO_22, BK242, HB⟩ := hrel
     cases gk with
     | zero => exact absurd HA.out (by simp [impl_CountKinds.l0])
     | succ k1 =>
      have H := HA.out
      clear HA
      simp only [impl_CountKinds.l0] at H
      by_cases c18 : x24_1 < (t246.length : Int)
      ·rw [if_pos c18] at H
       have c18b0 : decide (x24_1 < (t246.length : Int)) = true := decide_eq_true c18
       clear c18
       by_cases c19 : 0 ≤ x24_1
       ·rw [if_pos c19] at H
        have c19b0 : decide (0 ≤ x24_1) = true := decide_eq_true c19
        clear c19
        by_cases c20 : x24_1 < (t246.length : Int)
        ·rw [if_pos c20] at H
         have c20b0 : decide (x24_1 < (t246.length : Int)) = true := decide_eq_true c20
         clear c20
         by_cases c21 : ((rd_T26 t246 x24_1).f1).toList = a1.toList
         ·rw [if_pos c21] at H
          have c21b0 : (((rd_T26 t246 x24_1).f1).toList == a1.toList) = true := beq_iff_eq.mpr c21
          have c21b1 : (((rd_T26 t246 x24_1).f1).toList != a1.toList) = false := bne_eq_false_iff_eq.mpr c21
          clear c21
          have H' := Aside0.mk H
          clear H
          have p249 : 0 ≤ (x24_1 : Int) := od_
          have q249 : x24_1 < (t246.length : Int) := od_
          obtain ⟨ad249, e249, hx249_0, hx249_1, hx249_2⟩ := at_T26 (Kd.R_reads' HO_22.out).2.2 x24_1 p249 q249
          cases e249
          replace p249 := eq_true p249
          replace q249 := eq_true q249
          go_wp2_with (first | ((with_reducible refine gate_dst (N := 8) rfl ?_); refine be_ 8 #[.int .i64 0, .string (⟨#[]⟩ : ByteArray), .string (⟨#[]⟩ : ByteArray)] 26 ?_; intro gb250 hg w22 hbox hb; replace HO_22 := Aside0.mk (Kd.R_below (Kd.R_elderB (by (with_reducible repeat (first | apply Kd.R_alloc | apply Kd.R_drewN | apply Kd.R_drew)); exact HO_22.out) gb250 (Nat.le_of_eq hg.symm)) hb); have BK250 := Aside0.mk (hbox); have GW250 := bsz_ hg; have GE250 := bsz_ hg; replace HB := bst_ hb; have NB242_250 := nbl_ BK242 hg; have NB250_242 := nbr_ BK242 hg; replace BK242 := bkb_ BK242 hb; clear hb hbox hg; have hnb23 := NB250_242.out; have hnc23 := NB242_250.out; have hcz24_0 := b30_ BK250; have hcz24_1 := b31_ BK250; have hcz24_2 := b32_ BK250; have hfz24_0 := blk_frozen BK250.out 0; have hfz24_1 := blk_frozen BK250.out 1; have hfz24_2 := blk_frozen BK250.out 2))
          go_roundg k1
          case measure => have := HK1.out; omega
          case rel => exact ⟨(wrap64 (x6_1 + 1)), (wrap64 (x24_1 + 1)), (by first | rfl | (simp; done) | (simp [*]; done)), (by first | rfl | (simp; done) | (simp [*]; done)), H', ⟨by have := HK1.out; omega⟩, ⟨by (with_reducible repeat (first | apply Kd.R_alloc | apply Kd.R_drewN | apply Kd.R_drew)); exact Kd.R_mono (Kd.R_far (p := ⟨gb250, 2, none⟩) (Kd.R_far (p := ⟨gb250, 1, none⟩) (Kd.R_far (p := ⟨gb250, 0, none⟩) (Kd.R_mono HO_22.out (fun k_ hk => (⟨hk, hk.2⟩ : _ ∧ k_ ≠ gb250))) (fun _ hk => hk.2) (.int .i64 ((rd_T26 t246 x24_1).f0))) (fun _ hk => hk.2) (.string ((rd_T26 t246 x24_1).f1))) (fun _ hk => hk.2) (.string ((rd_T26 t246 x24_1).f2))) (fun _ hk => trivial)⟩, ⟨by (with_reducible repeat (first | refine blk_drewN ?_ _ | refine blk_drew ?_ | refine blk_alloc ?_ _)); refine blk_far ?_ NB242_250.out _; (with_reducible repeat (first | refine blk_drewN ?_ _ | refine blk_drew ?_ | refine blk_alloc ?_ _)); refine blk_far ?_ NB242_250.out _; (with_reducible repeat (first | refine blk_drewN ?_ _ | refine blk_drew ?_ | refine blk_alloc ?_ _)); refine blk_far ?_ NB242_250.out _; (with_reducible repeat (first | refine blk_drewN ?_ _ | refine blk_drew ?_ | refine blk_alloc ?_ _)); exact BK242.out⟩, ⟨bwl_⟩⟩
         ·rw [if_neg c21] at H
          have c21b0 : (((rd_T26 t246 x24_1).f1).toList == a1.toList) = false := beq_eq_false_iff_ne.mpr c21
          have c21b1 : (((rd_T26 t246 x24_1).f1).toList != a1.toList) = true := bne_iff_ne.mpr c21
          have H' := Aside0.mk H
          clear H
          have p249 : 0 ≤ (x24_1 : Int) := od_
          have q249 : x24_1 < (t246.length : Int) := od_
          obtain ⟨ad249, e249, hx249_0, hx249_1, hx249_2⟩ := at_T26 (Kd.R_reads' HO_22.out).2.2 x24_1 p249 q249
          cases e249
          replace p249 := eq_true p249
          replace q249 := eq_true q249
          go_wp2_with (first | ((with_reducible refine gate_dst (N := 8) rfl ?_); refine be_ 8 #[.int .i64 0, .string (⟨#[]⟩ : ByteArray), .string (⟨#[]⟩ : ByteArray)] 26 ?_; intro gb250 hg w25 hbox hb; replace HO_22 := Aside0.mk (Kd.R_below (Kd.R_elderB (by (with_reducible repeat (first | apply Kd.R_alloc | apply Kd.R_drewN | apply Kd.R_drew)); exact HO_22.out) gb250 (Nat.le_of_eq hg.symm)) hb); have BK250 := Aside0.mk (hbox); have GW250 := bsz_ hg; have GE250 := bsz_ hg; replace HB := bst_ hb; have NB242_250 := nbl_ BK242 hg; have NB250_242 := nbr_ BK242 hg; replace BK242 := bkb_ BK242 hb; clear hb hbox hg; have hnb26 := NB250_242.out; have hnc26 := NB242_250.out; have hcz27_0 := b30_ BK250; have hcz27_1 := b31_ BK250; have hcz27_2 := b32_ BK250; have hfz27_0 := blk_frozen BK250.out 0; have hfz27_1 := blk_frozen BK250.out 1; have hfz27_2 := blk_frozen BK250.out 2))
          go_roundg k1
          case measure => have := HK1.out; omega
          case rel => exact ⟨(x6_1), (wrap64 (x24_1 + 1)), (by first | rfl | (simp; done) | (simp [*]; done)), (by first | rfl | (simp; done) | (simp [*]; done)), H', ⟨by have := HK1.out; omega⟩, ⟨by (with_reducible repeat (first | apply Kd.R_alloc | apply Kd.R_drewN | apply Kd.R_drew)); exact Kd.R_mono (Kd.R_far (p := ⟨gb250, 2, none⟩) (Kd.R_far (p := ⟨gb250, 1, none⟩) (Kd.R_far (p := ⟨gb250, 0, none⟩) (Kd.R_mono HO_22.out (fun k_ hk => (⟨hk, hk.2⟩ : _ ∧ k_ ≠ gb250))) (fun _ hk => hk.2) (.int .i64 ((rd_T26 t246 x24_1).f0))) (fun _ hk => hk.2) (.string ((rd_T26 t246 x24_1).f1))) (fun _ hk => hk.2) (.string ((rd_T26 t246 x24_1).f2))) (fun _ hk => trivial)⟩, ⟨by (with_reducible repeat (first | refine blk_drewN ?_ _ | refine blk_drew ?_ | refine blk_alloc ?_ _)); refine blk_far ?_ NB242_250.out _; (with_reducible repeat (first | refine blk_drewN ?_ _ | refine blk_drew ?_ | refine blk_alloc ?_ _)); refine blk_far ?_ NB242_250.out _; (with_reducible repeat (first | refine blk_drewN ?_ _ | refine blk_drew ?_ | refine blk_alloc ?_ _)); refine blk_far ?_ NB242_250.out _; (with_reducible repeat (first | refine blk_drewN ?_ _ | refine blk_drew ?_ | refine blk_alloc ?_ _)); exact BK242.out⟩, ⟨bwl_⟩⟩
        ·rw [if_neg c20] at H
         exact absurd H (by simp)
       ·rw [if_neg c19] at H
        exact absurd H (by simp)
      ·rw [if_neg c18] at H
       have c18b0 : decide (x24_1 < (t246.length : Int)) = false := decide_eq_false c18
       clear c18
       simp only [Option.some.injEq, Prod.mk.injEq] at H
       obtain ⟨rfl, rfl⟩ := H
       go_wp2
       go_ret2
       exact ⟨rr_, bwl_⟩
   ·replace c8 := Bool.eq_false_iff.mpr c8
    subst c8
    rw [if_neg (show ¬ (false = true) by decide)] at H
    simp only [Option.some.injEq, Prod.mk.injEq] at H
    obtain ⟨rfl, rfl⟩ := H
    go_enter Tryd.func35, Tryd.ntmps35
    go_wp2_with (first | ((with_reducible refine gate_dst (N := 2) rfl ?_); refine be_ 2 #[.string a0_0, .string a0_1] 32 ?_; intro gb242 hg w28 hbox hb; have BK242 := Aside0.mk (hbox); have GW242 := bsz_ hg; have GE242 := bsz_ hg; replace HB := bst_ hb; clear hb hbox hg; have hcz29_0 := b20_ BK242; have hcz29_1 := b21_ BK242; have hfz29_0 := blk_frozen BK242.out 0; have hfz29_1 := blk_frozen BK242.out 1) | ((with_reducible refine gate_callee (f := 61) rfl ?_); refine gl_ (some 11) Tryd.func61 #[.agg #[.string a0_0, .string a0_1]] ?_; (with_reducible refine (impl_validLog.calls k a0_0 a0_1 true _ A3.out ?side1).mono ?_); (case side1 => exact HTB.out.below bwl_); rintro e w30 ⟨rfl, hb⟩; refine ⟨_, rfl, ?_⟩; replace BK242 := bkb_ BK242 hb; replace HB := bst_ hb; clear hb) | ((with_reducible refine gate_callee (f := 70) rfl ?_); refine gl_ (some 15) Tryd.func70 #[.string a1] ?_; (with_reducible refine (impl_IsName.calls k a1 true _ A5.out).mono ?_); rintro e w' ⟨rfl, ⟨nd, rfl⟩⟩; refine ⟨_, rfl, ?_⟩; have hcz31_0 := b20_ BK242; have hcz31_1 := b21_ BK242; have hfz31_0 := blk_frozen BK242.out 0; have hfz31_1 := blk_frozen BK242.out 1) | ((with_reducible refine gate_callee (f := 71) rfl ?_); refine gl_ (some 19) Tryd.func71 #[.agg #[.string a0_0, .string a0_1]] ?_; (with_reducible refine (impl_isWhole.calls k a0_0 a0_1 false _ A7.out ?side1).mono ?_); (case side1 => exact HTB.out.below bwl_); rintro e w32 ⟨rfl, hb⟩; refine ⟨_, rfl, ?_⟩; replace BK242 := bkb_ BK242 hb; replace HB := bst_ hb; clear hb))
    go_ret2
    exact ⟨rr_, bwl_⟩
  ·replace c6 := Bool.eq_false_iff.mpr c6
   subst c6
   rw [if_neg (show ¬ (false = true) by decide)] at H
   simp only [Option.some.injEq, Prod.mk.injEq] at H
   obtain ⟨rfl, rfl⟩ := H
   go_enter Tryd.func35, Tryd.ntmps35
   go_wp2_with (first | ((with_reducible refine gate_dst (N := 2) rfl ?_); refine be_ 2 #[.string a0_0, .string a0_1] 32 ?_; intro gb242 hg w33 hbox hb; have BK242 := Aside0.mk (hbox); have GW242 := bsz_ hg; have GE242 := bsz_ hg; replace HB := bst_ hb; clear hb hbox hg; have hcz34_0 := b20_ BK242; have hcz34_1 := b21_ BK242; have hfz34_0 := blk_frozen BK242.out 0; have hfz34_1 := blk_frozen BK242.out 1) | ((with_reducible refine gate_callee (f := 61) rfl ?_); refine gl_ (some 11) Tryd.func61 #[.agg #[.string a0_0, .string a0_1]] ?_; (with_reducible refine (impl_validLog.calls k a0_0 a0_1 true _ A3.out ?side1).mono ?_); (case side1 => exact HTB.out.below bwl_); rintro e w35 ⟨rfl, hb⟩; refine ⟨_, rfl, ?_⟩; replace BK242 := bkb_ BK242 hb; replace HB := bst_ hb; clear hb) | ((with_reducible refine gate_callee (f := 70) rfl ?_); refine gl_ (some 15) Tryd.func70 #[.string a1] ?_; (with_reducible refine (impl_IsName.calls k a1 false _ A5.out).mono ?_); rintro e w' ⟨rfl, ⟨nd, rfl⟩⟩; refine ⟨_, rfl, ?_⟩))
   go_ret2
   exact ⟨rr_, bwl_⟩
 ·replace c4 := Bool.eq_false_iff.mpr c4
  subst c4
  rw [if_neg (show ¬ (false = true) by decide)] at H
  simp only [Option.some.injEq, Prod.mk.injEq] at H
  obtain ⟨rfl, rfl⟩ := H
  go_enter Tryd.func35, Tryd.ntmps35
  go_wp2_with (first | ((with_reducible refine gate_dst (N := 2) rfl ?_); refine be_ 2 #[.string a0_0, .string a0_1] 32 ?_; intro gb242 hg w36 hbox hb; have BK242 := Aside0.mk (hbox); have GW242 := bsz_ hg; have GE242 := bsz_ hg; replace HB := bst_ hb; clear hb hbox hg; have hcz37_0 := b20_ BK242; have hcz37_1 := b21_ BK242; have hfz37_0 := blk_frozen BK242.out 0; have hfz37_1 := blk_frozen BK242.out 1) | ((with_reducible refine gate_callee (f := 61) rfl ?_); refine gl_ (some 11) Tryd.func61 #[.agg #[.string a0_0, .string a0_1]] ?_; (with_reducible refine (impl_validLog.calls k a0_0 a0_1 false _ A3.out ?side1).mono ?_); (case side1 => exact HTB.out.below bwl_); rintro e w38 ⟨rfl, hb⟩; refine ⟨_, rfl, ?_⟩; replace BK242 := bkb_ BK242 hb; replace HB := bst_ hb; clear hb))
  go_ret2
  exact ⟨rr_, bwl_⟩
section
open Go.Proofs.YtlcgonaapmmnkaaDoor.Base
def spec_EntriesOf.f (k : Nat) (a0_0 : ByteArray) (a0_1 : ByteArray) : Option (List S26 × Int) := (spec_l27All.f k a0_0 a0_1).bind fun t => some (t.1, t.2.1)
theorem spec_EntriesOf.mono : ∀ a0 a1 k, LeO (spec_EntriesOf.f k a0 a1) (spec_EntriesOf.f (k + 1) a0 a1) := fun a0 a1 k => LeO.bind (spec_l27All.mono a0 a1 k) (fun _ => LeO.refl _)
set_option maxHeartbeats 8000000 in
set_option maxRecDepth 100000 in
theorem spec_EntriesOf.calls (k : Nat) (a0_0 : ByteArray) (a0_1 : ByteArray) (r1 : List S26) (r2 : Int) (w : World) (h : spec_EntriesOf.f k a0_0 a0_1 = some (r1, r2)) :
  Calls Tryd.prog 36 #[.agg #[.string a0_0, .string a0_1]] w fun e w' => ∃ v0_ : Value, e = .returned (.tuple #[v0_, .int .i64 r2]) ∧ Kd.R k26 26 w' w.heap.size (fun _ => True) v0_ r1 ∧ Below w.heap.size w w' := by
 unfold spec_EntriesOf.f at h
 replace h := Option.bind_eq_some_iff.mp h
 obtain ⟨⟨t0, t1, t2, t3⟩, hu, h⟩ := h
 simp only [Option.some.injEq, Prod.mk.injEq] at h
 obtain ⟨rfl, rfl⟩ := h
 have HU := Aside0.mk hu
 clear hu
 go_enter Tryd.func36, Tryd.ntmps36
 go_wp2_with (first | ((with_reducible refine gate_dst (N := 1) rfl ?_); refine be_ 1 #[.string a0_0, .string a0_1] 32 ?_; intro gp hg w2 hbox hb; have HI2 : Aside0 (IsS32 w w2 gp a0_0 a0_1) := ⟨⟨hbox, Nat.le_of_eq hg.symm⟩⟩; have HB2 := Aside0.mk hb; clear hbox hb hg) | (go_at_call 68; refine Calls.mono (spec_l27All.calls k gp a0_0 a0_1 _ _ _ _ w _ HI2.out HB2.out HU.out) ?_; rintro e w4 ⟨v0, rfl, hR4, hI4, hB4, hK4⟩; have HB4 := Aside0.mk hB4; have HR4 := Aside0.mk (Kd.R_lower hR4 HB2.out.size); clear hR4 hI4 hB4 hK4))
 go_ret2
 exact ⟨_, rfl, HR4.out, HB4.out⟩
end
def impl_EntriesOf.f (k : Nat) (a0_0 : ByteArray) (a0_1 : ByteArray) : Option ((List (S26)) × Int) := (impl_validLog.f k a0_0 a0_1).bind fun t252 => (if t252 = true then ((impl_isWhole.f k a0_0 a0_1).bind fun t253 => (if t253 = true then ((impl_entriesOf.f k a0_0 a0_1).bind fun t254 => (some (t254, 0))) else (some (([] : List (S26)), 6)))) else (some (([] : List (S26)), 1)))
theorem impl_EntriesOf.mono : ∀ a0 a1 k, LeO (impl_EntriesOf.f k a0 a1) (impl_EntriesOf.f (k + 1) a0 a1) := by
 intro a0 a1 k
 unfold impl_EntriesOf.f
 repeat' first
   | (with_reducible exact impl_entriesOf.mono _ _ _)
   | (with_reducible exact impl_isWhole.mono _ _ _)
   | (with_reducible exact impl_validLog.mono _ _ _)
   | (with_reducible exact LeO.refl _)
   | (with_reducible exact LeO.none _)
   | (with_reducible refine LeO.ite ?_ ?_)
   | (with_reducible refine LeO.bind ?_ (fun _ => ?_))
   | exact impl_entriesOf.mono _ _ _
   | exact impl_isWhole.mono _ _ _
   | exact impl_validLog.mono _ _ _
   | exact LeO.none _
   | refine LeO.ite ?_ ?_
   | refine LeO.bind ?_ (fun _ => ?_)
set_option maxHeartbeats 8000000 in
set_option maxRecDepth 100000 in
theorem impl_EntriesOf.calls (k : Nat) (a0_0 : ByteArray) (a0_1 : ByteArray) (r1 : List (S26)) (r2 : Int) (w : World) (h : impl_EntriesOf.f k a0_0 a0_1 = some (r1, r2)) (hT : Go.Proofs.YtlcgonaapmmnkaaDoor.Base.Tb2 w) :
  Calls Tryd.prog 37 #[.agg #[.string a0_0, .string a0_1]] w fun e w' => ∃ v0_ : Value, e = .returned (.tuple #[v0_, .int .i64 r2]) ∧ Kd.R k26 26 w' w.heap.size (fun _ => True) v0_ r1 ∧ Below w.heap.size w w' := by
 have HTB := Aside0.mk hT
 clear hT
 have hu32 := Tryd.underlying32
 have HB := Aside0.mk (Below.refl w.heap.size w)
 have H : ((impl_validLog.f k a0_0 a0_1).bind fun t252 => (if t252 = true then ((impl_isWhole.f k a0_0 a0_1).bind fun t253 => (if t253 = true then ((impl_entriesOf.f k a0_0 a0_1).bind fun t254 => (some (t254, 0))) else (some (([] : List (S26)), 6)))) else (some (([] : List (S26)), 1)))) = some (r1, r2) := h
 clear h
 replace H := Option.bind_eq_some_iff.mp H
 obtain ⟨t252, A20, H⟩ := H
 (try dsimp only at H)
 have A2 := Aside0.mk A20
 clear A20
 by_cases c3 : t252 = true
 ·subst c3
  rw [if_pos rfl] at H
  replace H := Option.bind_eq_some_iff.mp H
  obtain ⟨t253, A40, H⟩ := H
  (try dsimp only at H)
  have A4 := Aside0.mk A40
  clear A40
  by_cases c5 : t253 = true
  ·subst c5
   rw [if_pos rfl] at H
   replace H := Option.bind_eq_some_iff.mp H
   obtain ⟨t254, A60, H⟩ := H
   (try dsimp only at H)
   have A6 := Aside0.mk A60
   clear A60
   simp only [Option.some.injEq, Prod.mk.injEq] at H
   obtain ⟨rfl, rfl⟩ := H
   go_enter Tryd.func37, Tryd.ntmps37
   go_wp2_with (first | ((with_reducible refine gate_dst (N := 1) rfl ?_); refine be_ 1 #[.string a0_0, .string a0_1] 32 ?_; intro gb251 hg w7 hbox hb; have BK251 := Aside0.mk (hbox); have GW251 := bsz_ hg; have GE251 := bsz_ hg; replace HB := bst_ hb; clear hb hbox hg; have hcz8_0 := b20_ BK251; have hcz8_1 := b21_ BK251; have hfz8_0 := blk_frozen BK251.out 0; have hfz8_1 := blk_frozen BK251.out 1) | ((with_reducible refine gate_callee (f := 61) rfl ?_); refine gl_ (some 5) Tryd.func61 #[.agg #[.string a0_0, .string a0_1]] ?_; (with_reducible refine (impl_validLog.calls k a0_0 a0_1 true _ A2.out ?side1).mono ?_); (case side1 => exact HTB.out.below bwl_); rintro e w9 ⟨rfl, hb⟩; refine ⟨_, rfl, ?_⟩; replace BK251 := bkb_ BK251 hb; replace HB := bst_ hb; clear hb; have hcz10_0 := b20_ BK251; have hcz10_1 := b21_ BK251; have hfz10_0 := blk_frozen BK251.out 0; have hfz10_1 := blk_frozen BK251.out 1) | ((with_reducible refine gate_callee (f := 71) rfl ?_); refine gl_ (some 8) Tryd.func71 #[.agg #[.string a0_0, .string a0_1]] ?_; (with_reducible refine (impl_isWhole.calls k a0_0 a0_1 true _ A4.out ?side1).mono ?_); (case side1 => exact HTB.out.below bwl_); rintro e w11 ⟨rfl, hb⟩; refine ⟨_, rfl, ?_⟩; replace BK251 := bkb_ BK251 hb; replace HB := bst_ hb; clear hb; have hcz12_0 := b20_ BK251; have hcz12_1 := b21_ BK251; have hfz12_0 := blk_frozen BK251.out 0; have hfz12_1 := blk_frozen BK251.out 1) | ((with_reducible refine gate_callee (f := 72) rfl ?_); refine gl_ (some 11) Tryd.func72 #[.agg #[.string a0_0, .string a0_1]] ?_; (with_reducible refine (impl_entriesOf.calls k a0_0 a0_1 t254 _ A6.out ?side1).mono ?_); (case side1 => exact HTB.out.below bwl_); rintro e w13 ⟨v255, rfl, ho0, hb⟩; refine ⟨_, rfl, ?_⟩; have HO256 := Aside0.mk (Kd.R_lower ho0 (below_size bwl_)); replace BK251 := bkb_ BK251 hb; replace HB := bst_ hb; clear hb ho0))
   go_ret2
   exact ⟨_, by first | rfl | (simp [errW_none, errW_some] <;> rfl) | (simp [*, errW_none, errW_some] <;> rfl), by (with_reducible repeat (first | apply Kd.R_alloc | apply Kd.R_drewN | apply Kd.R_drew)); exact HO256.out, bwl_⟩
  ·replace c5 := Bool.eq_false_iff.mpr c5
   subst c5
   rw [if_neg (show ¬ (false = true) by decide)] at H
   simp only [Option.some.injEq, Prod.mk.injEq] at H
   obtain ⟨rfl, rfl⟩ := H
   go_enter Tryd.func37, Tryd.ntmps37
   go_wp2_with (first | ((with_reducible refine gate_dst (N := 1) rfl ?_); refine be_ 1 #[.string a0_0, .string a0_1] 32 ?_; intro gb251 hg w14 hbox hb; have BK251 := Aside0.mk (hbox); have GW251 := bsz_ hg; have GE251 := bsz_ hg; replace HB := bst_ hb; clear hb hbox hg; have hcz15_0 := b20_ BK251; have hcz15_1 := b21_ BK251; have hfz15_0 := blk_frozen BK251.out 0; have hfz15_1 := blk_frozen BK251.out 1) | ((with_reducible refine gate_callee (f := 61) rfl ?_); refine gl_ (some 5) Tryd.func61 #[.agg #[.string a0_0, .string a0_1]] ?_; (with_reducible refine (impl_validLog.calls k a0_0 a0_1 true _ A2.out ?side1).mono ?_); (case side1 => exact HTB.out.below bwl_); rintro e w16 ⟨rfl, hb⟩; refine ⟨_, rfl, ?_⟩; replace BK251 := bkb_ BK251 hb; replace HB := bst_ hb; clear hb; have hcz17_0 := b20_ BK251; have hcz17_1 := b21_ BK251; have hfz17_0 := blk_frozen BK251.out 0; have hfz17_1 := blk_frozen BK251.out 1) | ((with_reducible refine gate_callee (f := 71) rfl ?_); refine gl_ (some 8) Tryd.func71 #[.agg #[.string a0_0, .string a0_1]] ?_; (with_reducible refine (impl_isWhole.calls k a0_0 a0_1 false _ A4.out ?side1).mono ?_); (case side1 => exact HTB.out.below bwl_); rintro e w18 ⟨rfl, hb⟩; refine ⟨_, rfl, ?_⟩; replace BK251 := bkb_ BK251 hb; replace HB := bst_ hb; clear hb))
   go_ret2
   exact ⟨_, by first | rfl | (simp [errW_none, errW_some] <;> rfl) | (simp [*, errW_none, errW_some] <;> rfl), by first | exact Kd.R_nil _ _ _ _ _ | exact Kd.N_nil _ _ _ _ _ | exact Kd.V_nil _ _ _ _ _ | exact Kd.Q_nil _ _ _ _ _ | exact Kd.S_nil _ _ _ _ _, bwl_⟩
 ·replace c3 := Bool.eq_false_iff.mpr c3
  subst c3
  rw [if_neg (show ¬ (false = true) by decide)] at H
  simp only [Option.some.injEq, Prod.mk.injEq] at H
  obtain ⟨rfl, rfl⟩ := H
  go_enter Tryd.func37, Tryd.ntmps37
  go_wp2_with (first | ((with_reducible refine gate_dst (N := 1) rfl ?_); refine be_ 1 #[.string a0_0, .string a0_1] 32 ?_; intro gb251 hg w19 hbox hb; have BK251 := Aside0.mk (hbox); have GW251 := bsz_ hg; have GE251 := bsz_ hg; replace HB := bst_ hb; clear hb hbox hg; have hcz20_0 := b20_ BK251; have hcz20_1 := b21_ BK251; have hfz20_0 := blk_frozen BK251.out 0; have hfz20_1 := blk_frozen BK251.out 1) | ((with_reducible refine gate_callee (f := 61) rfl ?_); refine gl_ (some 5) Tryd.func61 #[.agg #[.string a0_0, .string a0_1]] ?_; (with_reducible refine (impl_validLog.calls k a0_0 a0_1 false _ A2.out ?side1).mono ?_); (case side1 => exact HTB.out.below bwl_); rintro e w21 ⟨rfl, hb⟩; refine ⟨_, rfl, ?_⟩; replace BK251 := bkb_ BK251 hb; replace HB := bst_ hb; clear hb))
  go_ret2
  exact ⟨_, by first | rfl | (simp [errW_none, errW_some] <;> rfl) | (simp [*, errW_none, errW_some] <;> rfl), by first | exact Kd.R_nil _ _ _ _ _ | exact Kd.N_nil _ _ _ _ _ | exact Kd.V_nil _ _ _ _ _ | exact Kd.Q_nil _ _ _ _ _ | exact Kd.S_nil _ _ _ _ _, bwl_⟩
mutual
def spec_EntriesBetween.j0 : Nat → Int → Int → List (S26) → Int → Bool → Option ((List (S26)) × Int)
 | 0, _, _, _, _, _ => none
 | k + 1, x1, x2, x8, x9, x27 => if x27 = true then (some (([] : List (S26)), 2)) else (if x9 = 0 then (spec_EntriesBetween.l0 k x1 x2 x8 (([] : List (S26))) 0) else (some (([] : List (S26)), x9)))
def spec_EntriesBetween.l0 : Nat → Int → Int → List (S26) → List (S26) → Int → Option ((List (S26)) × Int)
 | 0, _, _, _, _, _ => none
 | k + 1, x1, x2, x8, x10, x11 => if x11 < (x8.length : Int) then (if 0 ≤ x11 then ((spec_l00In.f ((rd_T26 x8 x11).f0) x1 x2).bind fun t270 => (if t270 = true then (if x10.length < 3518437208883 then (spec_EntriesBetween.l0 k x1 x2 x8 (x10 ++ [(⟨(rd_T26 x8 x11).f0, (rd_T26 x8 x11).f1, (rd_T26 x8 x11).f2⟩ : S26)]) (wrap64 (x11 + 1))) else (none)) else (spec_EntriesBetween.l0 k x1 x2 x8 x10 (wrap64 (x11 + 1))))) else (none)) else (some (x10, 0))
end
def spec_EntriesBetween.f (k : Nat) (a0_0 : ByteArray) (a0_1 : ByteArray) (a1 : Int) (a2 : Int) : Option ((List (S26)) × Int) := (spec_l27All.f k a0_0 a0_1).bind fun bt258 => (if bt258.2.1 = 1 then (some (([] : List (S26)), bt258.2.1)) else ((spec_l00In.f a1 0 20000).bind fun t264 => (if t264 = true then ((spec_l00In.f a2 a1 20000).bind fun t265 => (spec_EntriesBetween.j0 k a1 a2 bt258.1 bt258.2.1 (!t265))) else (spec_EntriesBetween.j0 k a1 a2 bt258.1 bt258.2.1 true))))
theorem spec_EntriesBetween.mono_l : ∀ k, (∀ y0 y1 y2 y3 y4, LeO (spec_EntriesBetween.j0 k y0 y1 y2 y3 y4) (spec_EntriesBetween.j0 (k + 1) y0 y1 y2 y3 y4)) ∧ (∀ y0 y1 y2 y3 y4, LeO (spec_EntriesBetween.l0 k y0 y1 y2 y3 y4) (spec_EntriesBetween.l0 (k + 1) y0 y1 y2 y3 y4))
 | 0 => ⟨fun _ _ _ _ _ r h => by simp [spec_EntriesBetween.j0] at h, fun _ _ _ _ _ r h => by simp [spec_EntriesBetween.l0] at h⟩
 | k + 1 => by
  obtain ⟨ih0, ih1⟩ := spec_EntriesBetween.mono_l k
  refine ⟨?_, ?_⟩
  ·intro y0 y1 y2 y3 y4
   unfold spec_EntriesBetween.j0
   repeat' first
   | (with_reducible exact ih0 _ _ _ _ _)
   | (with_reducible exact ih1 _ _ _ _ _)
   | (with_reducible exact spec_l27All.mono _ _ _)
   | (with_reducible exact LeO.refl _)
   | (with_reducible exact LeO.none _)
   | (with_reducible refine LeO.ite ?_ ?_)
   | (with_reducible refine LeO.bind ?_ (fun _ => ?_))
   | exact ih0 _ _ _ _ _
   | exact ih1 _ _ _ _ _
   | exact spec_l27All.mono _ _ _
   | exact LeO.none _
   | refine LeO.ite ?_ ?_
   | refine LeO.bind ?_ (fun _ => ?_)
  ·intro y0 y1 y2 y3 y4
   unfold spec_EntriesBetween.l0
   repeat' first
   | (with_reducible exact ih0 _ _ _ _ _)
   | (with_reducible exact ih1 _ _ _ _ _)
   | (with_reducible exact spec_l27All.mono _ _ _)
   | (with_reducible exact LeO.refl _)
   | (with_reducible exact LeO.none _)
   | (with_reducible refine LeO.ite ?_ ?_)
   | (with_reducible refine LeO.bind ?_ (fun _ => ?_))
   | exact ih0 _ _ _ _ _
   | exact ih1 _ _ _ _ _
   | exact spec_l27All.mono _ _ _
   | exact LeO.none _
   | refine LeO.ite ?_ ?_
   | refine LeO.bind ?_ (fun _ => ?_)
theorem spec_EntriesBetween.mono : ∀ a0 a1 a2 a3 k, LeO (spec_EntriesBetween.f k a0 a1 a2 a3) (spec_EntriesBetween.f (k + 1) a0 a1 a2 a3) := by
 intro a0 a1 a2 a3 k
 obtain ⟨ih0, ih1⟩ := spec_EntriesBetween.mono_l k
 unfold spec_EntriesBetween.f
 repeat' first
   | (with_reducible exact ih0 _ _ _ _ _)
   | (with_reducible exact ih1 _ _ _ _ _)
   | (with_reducible exact spec_l27All.mono _ _ _)
   | (with_reducible exact LeO.refl _)
   | (with_reducible exact LeO.none _)
   | (with_reducible refine LeO.ite ?_ ?_)
   | (with_reducible refine LeO.bind ?_ (fun _ => ?_))
   | exact ih0 _ _ _ _ _
   | exact ih1 _ _ _ _ _
   | exact spec_l27All.mono _ _ _
   | exact LeO.none _
   | refine LeO.ite ?_ ?_
   | refine LeO.bind ?_ (fun _ => ?_)
set_option maxHeartbeats 8000000 in
set_option maxRecDepth 100000 in
theorem spec_EntriesBetween.calls (k : Nat) (a0_0 : ByteArray) (a0_1 : ByteArray) (a1 : Int) (a2 : Int) (r1 : List (S26)) (r2 : Int) (w : World) (h : spec_EntriesBetween.f k a0_0 a0_1 a1 a2 = some (r1, r2)) :
  Calls Tryd.prog 38 #[.agg #[.string a0_0, .string a0_1], .int .i64 a1, .int .i64 a2] w fun e w' => ∃ v0_ : Value, e = .returned (.tuple #[v0_, .int .i64 r2]) ∧ Kd.R k26 26 w' w.heap.size (fun _ => True) v0_ r1 ∧ Below w.heap.size w w' := by
 have hu32 := Tryd.underlying32
 have hu26 := Tryd.underlying26
 have HB := Aside0.mk (Below.refl w.heap.size w)
 have H : ((spec_l27All.f k a0_0 a0_1).bind fun bt258 => (if bt258.2.1 = 1 then (some (([] : List (S26)), bt258.2.1)) else ((spec_l00In.f a1 0 20000).bind fun t264 => (if t264 = true then ((spec_l00In.f a2 a1 20000).bind fun t265 => (spec_EntriesBetween.j0 k a1 a2 bt258.1 bt258.2.1 (!t265))) else (spec_EntriesBetween.j0 k a1 a2 bt258.1 bt258.2.1 true))))) = some (r1, r2) := h
 clear h
 replace H := Option.bind_eq_some_iff.mp H
 obtain ⟨⟨t258, t261, t262, t263⟩, A40, H⟩ := H
 (try dsimp only at H)
 have A4 := Aside0.mk A40
 clear A40
 by_cases c5 : t261 = 1
 ·rw [if_pos c5] at H
  have c5b0 : (t261 == 1) = true := beq_iff_eq.mpr c5
  have c5b1 : (t261 != 1) = false := bne_eq_false_iff_eq.mpr c5
  clear c5
  simp only [Option.some.injEq, Prod.mk.injEq] at H
  obtain ⟨rfl, rfl⟩ := H
  go_enter Tryd.func38, Tryd.ntmps38
  go_wp2_with (first | ((with_reducible refine gate_dst (N := 3) rfl ?_); refine be_ 3 #[.string a0_0, .string a0_1] 32 ?_; intro gb257 hg w6 hbox hb; have BK257 := Aside0.mk (hbox); have GW257 := bsz_ hg; have GE257 := bsz_ hg; replace HB := bst_ hb; clear hb hbox hg; have HI257 : Aside0 (IsS32 w _ gb257 a0_0 a0_1) := ⟨⟨by (with_reducible repeat (first | refine blk_drewN ?_ _ | refine blk_drew ?_ | refine blk_alloc ?_ _)); exact BK257.out, GW257.out⟩⟩; clear BK257) | ((with_reducible refine gate_callee (f := 68) rfl ?_); refine gl_ (some 13) Tryd.func68 #[.pointer (some ⟨gb257, 0, none⟩)] ?_; (with_reducible refine (spec_l27All.calls k gb257 a0_0 a0_1 t258 t261 t262 t263 w _ ?side1 ?side2 A4.out).mono ?_); (case side1 => exact isk32_x11 HI257); (case side2 => exact bwi32_x11); rintro e w7 ⟨v259, rfl, ho0, hi, hb, hk⟩; refine ⟨_, rfl, ?_⟩; have HO260 := Aside0.mk (Kd.R_lower ho0 (below_size bwi32_x11)); replace HB := Aside0.mk (hb); have BK257 := Aside0.mk (hi.1); clear HI257; clear hb hk hi ho0))
  go_ret2
  exact ⟨_, by first | rfl | (simp [errW_none, errW_some] <;> rfl) | (simp [*, errW_none, errW_some] <;> rfl), by first | exact Kd.R_nil _ _ _ _ _ | exact Kd.N_nil _ _ _ _ _ | exact Kd.V_nil _ _ _ _ _ | exact Kd.Q_nil _ _ _ _ _ | exact Kd.S_nil _ _ _ _ _, bwl_⟩
 ·rw [if_neg c5] at H
  have c5b0 : (t261 == 1) = false := beq_eq_false_iff_ne.mpr c5
  have c5b1 : (t261 != 1) = true := bne_iff_ne.mpr c5
  have HC8 := Aside0.mk H
  clear H
  go_enter Tryd.func38, Tryd.ntmps38
  go_upto_region 4 with (first | ((with_reducible refine gate_dst (N := 3) rfl ?_); refine be_ 3 #[.string a0_0, .string a0_1] 32 ?_; intro gb257 hg w9 hbox hb; have BK257 := Aside0.mk (hbox); have GW257 := bsz_ hg; have GE257 := bsz_ hg; replace HB := bst_ hb; clear hb hbox hg; have HI257 : Aside0 (IsS32 w _ gb257 a0_0 a0_1) := ⟨⟨by (with_reducible repeat (first | refine blk_drewN ?_ _ | refine blk_drew ?_ | refine blk_alloc ?_ _)); exact BK257.out, GW257.out⟩⟩; clear BK257) | ((with_reducible refine gate_callee (f := 68) rfl ?_); refine gl_ (some 13) Tryd.func68 #[.pointer (some ⟨gb257, 0, none⟩)] ?_; (with_reducible refine (spec_l27All.calls k gb257 a0_0 a0_1 t258 t261 t262 t263 w _ ?side1 ?side2 A4.out).mono ?_); (case side1 => exact isk32_x11 HI257); (case side2 => exact bwi32_x11); rintro e w10 ⟨v259, rfl, ho0, hi, hb, hk⟩; refine ⟨_, rfl, ?_⟩; have HO260 := Aside0.mk (Kd.R_lower ho0 (below_size bwi32_x11)); replace HB := Aside0.mk (hb); have BK257 := Aside0.mk (hi.1); clear HI257; clear hb hk hi ho0))
  (try simp only [Act.put, List.setIfInBounds_toArray, List.set_cons_zero, List.set_cons_succ])
  go_cut [27] (fun v27 wc => ∃ (kq : Nat) (x27_7 : Bool), v27 = .bool x27_7 ∧ Aside0 (spec_EntriesBetween.j0 kq a1 a2 t258 t261 x27_7 = some (r1, r2)) ∧ Aside0 (kq ≤ k) ∧ Aside0 (Kd.R k26 26 wc w.heap.size (fun _ => True) v259 t258) ∧ Aside0 (wc.heap[gb257]? = some (.cells #[.string t262, .string t263] 32 (0, 0))) ∧ Aside0 (Below w.heap.size w wc))
  case first =>
   have H := HC8.out
   clear HC8
   replace H := Option.bind_eq_some_iff.mp H
   obtain ⟨t264, A110, H⟩ := H
   (try dsimp only at H)
   have A11 := Aside0.mk A110
   clear A110
   by_cases c12 : t264 = true
   ·subst c12
    rw [if_pos rfl] at H
    replace H := Option.bind_eq_some_iff.mp H
    obtain ⟨t265, A130, H⟩ := H
    (try dsimp only at H)
    have A13 := Aside0.mk A130
    clear A130
    have H' := Aside0.mk H
    clear H
    go_wp2_with (first | ((with_reducible refine gate_callee (f := 62) rfl ?_); refine gl_ (some 20) Tryd.func62 #[.int .i64 a1, .int .i64 0, .int .i64 20000] ?_; (with_reducible refine (spec_l00In.calls a1 0 20000 true _ A11.out).mono ?_); rintro e w' ⟨rfl, ⟨nd, rfl⟩⟩; refine ⟨_, rfl, ?_⟩) | (go_at_call 62; (with_reducible refine (spec_l00In.calls a2 a1 20000 t265 _ A13.out).mono ?_); rintro e w' ⟨rfl, ⟨nd, rfl⟩⟩))
    go_meet
    case rel => exact ⟨_, (!t265), (by first | rfl | (simp; done) | (simp [*]; done)), H', ⟨by first | omega | exact Nat.le_refl _⟩, ⟨by (with_reducible repeat (first | apply Kd.R_alloc | apply Kd.R_drewN | apply Kd.R_drew)); exact HO260.out⟩, ⟨by (with_reducible repeat (first | refine blk_drewN ?_ _ | refine blk_drew ?_ | refine blk_alloc ?_ _)); exact BK257.out⟩, ⟨bwl_⟩⟩
   ·replace c12 := Bool.eq_false_iff.mpr c12
    subst c12
    rw [if_neg (show ¬ (false = true) by decide)] at H
    have H' := Aside0.mk H
    clear H
    go_wp2_with (first | ((with_reducible refine gate_callee (f := 62) rfl ?_); refine gl_ (some 20) Tryd.func62 #[.int .i64 a1, .int .i64 0, .int .i64 20000] ?_; (with_reducible refine (spec_l00In.calls a1 0 20000 false _ A11.out).mono ?_); rintro e w' ⟨rfl, ⟨nd, rfl⟩⟩; refine ⟨_, rfl, ?_⟩))
    go_meet
    case rel => exact ⟨_, (true), (by first | rfl | (simp; done) | (simp [*]; done)), H', ⟨by first | omega | exact Nat.le_refl _⟩, ⟨by (with_reducible repeat (first | apply Kd.R_alloc | apply Kd.R_drewN | apply Kd.R_drew)); exact HO260.out⟩, ⟨by (with_reducible repeat (first | refine blk_drewN ?_ _ | refine blk_drew ?_ | refine blk_alloc ?_ _)); exact BK257.out⟩, ⟨bwl_⟩⟩
  case rest =>
   clear HC8
   (try clear c5);(try clear c5b0);(try clear c5b1);(try clear c12)
   obtain ⟨kq, x27_7, rfl, HA, HJ7, HO_8, BK257, HB⟩ := hcut
   cases kq with
   | zero => exact absurd HA.out (by simp [spec_EntriesBetween.j0])
   | succ kj7 =>
    have H := HA.out
    clear HA
    simp only [spec_EntriesBetween.j0] at H
    by_cases c14 : x27_7 = true
    ·subst c14
     rw [if_pos rfl] at H
     simp only [Option.some.injEq, Prod.mk.injEq] at H
     obtain ⟨rfl, rfl⟩ := H
     go_wp2
     go_ret2
     exact ⟨_, by first | rfl | (simp [errW_none, errW_some] <;> rfl) | (simp [*, errW_none, errW_some] <;> rfl), by first | exact Kd.R_nil _ _ _ _ _ | exact Kd.N_nil _ _ _ _ _ | exact Kd.V_nil _ _ _ _ _ | exact Kd.Q_nil _ _ _ _ _ | exact Kd.S_nil _ _ _ _ _, bwl_⟩
    ·replace c14 := Bool.eq_false_iff.mpr c14
     subst c14
     rw [if_neg (show ¬ (false = true) by decide)] at H
     by_cases c15 : t261 = 0
     ·rw [if_pos c15] at H
      have c15b0 : (t261 == 0) = true := beq_iff_eq.mpr c15
      have c15b1 : (t261 != 0) = false := bne_eq_false_iff_eq.mpr c15
      clear c15
      obtain ⟨y266, hy266⟩ : ∃ y_ : List (S26), y_ = (([] : List (S26))) := ⟨_, rfl⟩
      replace H : (spec_EntriesBetween.l0 kj7 a1 a2 t258 y266 0) = some (r1, r2) := by first | (rw [hy266]; with_reducible exact H) | (have H2_ := (Option.bind_some _ _).symm.trans H; rw [hy266]; with_reducible exact H2_) | (have H2_ := (Option.bind_some _ _).symm.trans H; with_reducible exact H2_) | with_reducible exact H | (rw [hy266]; exact H) | exact H
      have Ny266 := Aside0.mk hy266
      clear hy266
      have H' := Aside0.mk H
      clear H
      go_wp2_with (first | ((with_reducible refine gate_dst (N := 31) rfl ?_); refine Kd.R_lit k26 _ 26 ?hg (N := 31) ?hd (xs := ([] : List (S26))) (inner := []) (ok := fun _ => True) (okp := fun _ => True) ?hr ?hp (fun _ hk => hk) trivial (Below.refl _ _) (Nat.le_refl _) (by simp) ?_; (case hd => rfl); (case hg => rfl); (case hr => first | (go_simp; done) | (go_simp; rfl)); (case hp => exact (Reps.none _ _)); intro v267 w16 ho17 hb hg_ hnew_; clear hg_ hnew_; (first | rw [← Ny266.out] at ho17 | (simp only [Int.reduceToNat] at ho17; rw [← Ny266.out] at ho17)); have HO268 := Aside0.mk (Kd.R_lower (Kd.R_new' ho17 (Kd.R_lt (by (with_reducible repeat (first | apply Kd.R_alloc | apply Kd.R_drewN | apply Kd.R_drew)); exact HO_8.out))) (below_size bwl_)); replace HO_8 := Aside0.mk (Kd.R_elder' (by (with_reducible repeat (first | apply Kd.R_alloc | apply Kd.R_drewN | apply Kd.R_drew)); exact HO_8.out) (Kd.R_base ho17) hb); replace BK257 := bkb_ BK257 hb; replace HB := bst_ hb; clear hb ho17))
      go_loopg [10, 11] kj7 (fun kq v10 v11 w' => ∃ (x10_2 : List (S26)) (x11_2 : Int), v11 = .int .i64 x11_2 ∧ Aside0 (spec_EntriesBetween.l0 kq a1 a2 t258 x10_2 x11_2 = some (r1, r2)) ∧ Aside0 (kq ≤ kj7) ∧ Aside0 (Kd.R k26 26 w' w.heap.size (fun k_ => some k_ ≠ (v10 : Value).ownBlock) v259 t258) ∧ Aside0 (Kd.R k26 26 w' w.heap.size (fun k_ => some k_ ≠ (v259 : Value).ownBlock) v10 x10_2) ∧ Aside0 (w'.heap[gb257]? = some (.cells #[.string t262, .string t263] 32 (0, 0))) ∧ Aside0 (Below w.heap.size w w'))
      case atStart => exact ⟨(y266), (0), (by first | rfl | (simp; done) | (simp [*]; done)), H', ⟨Nat.le_refl _⟩, ⟨by (with_reducible repeat (first | apply Kd.R_alloc | apply Kd.R_drewN | apply Kd.R_drew)); exact Kd.R_mono HO_8.out (fun _ hk => hk.2)⟩, ⟨by (with_reducible repeat (first | apply Kd.R_alloc | apply Kd.R_drewN | apply Kd.R_drew)); exact Kd.R_mono HO268.out (fun _ hk => hk.2)⟩, ⟨by (with_reducible repeat (first | refine blk_drewN ?_ _ | refine blk_drew ?_ | refine blk_alloc ?_ _)); exact BK257.out⟩, ⟨bwl_⟩⟩
      case round =>
       clear H'
       (try clear c5);(try clear c5b0);(try clear c5b1);(try clear c12);(try clear c14);(try clear c15);(try clear c15b0);(try clear c15b1)
       obtain ⟨x10_2, x11_2, rfl, HA, HK2, HO_8, HO_10, BK257, HB⟩ := hrel
       cases gk with
       | zero => exact absurd HA.out (by simp [spec_EntriesBetween.l0])
       | succ k2 =>
        have H := HA.out
        clear HA
        simp only [spec_EntriesBetween.l0] at H
        by_cases c18 : x11_2 < (t258.length : Int)
        ·rw [if_pos c18] at H
         have c18b0 : decide (x11_2 < (t258.length : Int)) = true := decide_eq_true c18
         clear c18
         by_cases c19 : 0 ≤ x11_2
         ·rw [if_pos c19] at H
          have c19b0 : decide (0 ≤ x11_2) = true := decide_eq_true c19
          clear c19
          replace H := Option.bind_eq_some_iff.mp H
          obtain ⟨t270, A200, H⟩ := H
          (try dsimp only at H)
          have A20 := Aside0.mk A200
          clear A200
          by_cases c21 : t270 = true
          ·subst c21
           rw [if_pos rfl] at H
           by_cases c22 : x10_2.length < 3518437208883
           ·rw [if_pos c22] at H
            have LMc22 := Aside0.mk c22
            clear c22
            obtain ⟨y272, hy272⟩ : ∃ y_ : List (S26), y_ = (x10_2 ++ [(⟨(rd_T26 t258 x11_2).f0, (rd_T26 t258 x11_2).f1, (rd_T26 t258 x11_2).f2⟩ : S26)]) := ⟨_, rfl⟩
            replace H : (spec_EntriesBetween.l0 k2 a1 a2 t258 y272 (wrap64 (x11_2 + 1))) = some (r1, r2) := by first | (rw [hy272]; with_reducible exact H) | (have H2_ := (Option.bind_some _ _).symm.trans H; rw [hy272]; with_reducible exact H2_) | (have H2_ := (Option.bind_some _ _).symm.trans H; with_reducible exact H2_) | with_reducible exact H | (rw [hy272]; exact H) | exact H
            have Ny272 := Aside0.mk hy272
            clear hy272
            have H' := Aside0.mk H
            clear H
            obtain ⟨Ao23, co23, eo23⟩ := Kd.R_slice HO_8.out
            subst eo23
            have p269 : 0 ≤ (x11_2 : Int) := od_
            have q269 : x11_2 < (t258.length : Int) := od_
            obtain ⟨ad269, e269, hx269_0, hx269_1, hx269_2⟩ := at_T26 (Kd.R_reads' HO_8.out).2.2 x11_2 p269 q269
            cases e269
            replace p269 := eq_true p269
            replace q269 := eq_true q269
            go_wp2_with (first | ((with_reducible refine gate_callee (f := 62) rfl ?_); refine gl_ (some 45) Tryd.func62 #[.int .i64 ((rd_T26 t258 x11_2).f0), .int .i64 a1, .int .i64 a2] ?_; (with_reducible refine (spec_l00In.calls ((rd_T26 t258 x11_2).f0) a1 a2 true _ A20.out).mono ?_); rintro e w' ⟨rfl, ⟨nd, rfl⟩⟩; refine ⟨_, rfl, ?_⟩; have p271 : 0 ≤ (x11_2 : Int) := od_; have q271 : x11_2 < (t258.length : Int) := od_; obtain ⟨ad271, e271, hx271_0, hx271_1, hx271_2⟩ := at_T26 (Kd.R_reads' HO_8.out).2.2 x11_2 p271 q271; obtain rfl : ad269 = ad271 := (by injection e271); replace p271 := eq_true p271; replace q271 := eq_true q271) | ((with_reducible refine gate_builtin (b := .append) (xs := #[.tmp 46, .tmp 51]) rfl ?_); at_builtin; refine Kd.R_append k26 (w0 := w) w.heap.size rfl (.tmp 46) (.tmp 51) 42 26 (.agg #[(.int .i64 0), (.string ⟨#[]⟩), (.string ⟨#[]⟩)]) 40 rfl Tryd.underlying42 info26 rfl (by decide) (by omega) u10 x10_2 (⟨(rd_T26 t258 x11_2).f0, (rd_T26 t258 x11_2).f1, (rd_T26 t258 x11_2).f2⟩ : S26) [.int .i64 ((rd_T26 t258 x11_2).f0), .string ((rd_T26 t258 x11_2).f1), .string ((rd_T26 t258 x11_2).f2)] (fun k_ => some k_ ≠ (.slice (some ad269) t258.length co23 : Value).ownBlock) (fun _ => False) rfl rfl ?aP (fun _ hk => hk.elim) ?aF ?aO ?aB ?aS ?aL ?_; (case aP => exact k26_mkM _ _ _ (⟨(rd_T26 t258 x11_2).f0, (rd_T26 t258 x11_2).f1, (rd_T26 t258 x11_2).f2⟩ : S26)); (case aB => exact bwl_); (case aF => exact (fun k_ hk => Kd.fresh' (Kd.R_lt (by (with_reducible repeat (first | apply Kd.R_alloc | apply Kd.R_drewN | apply Kd.R_drew)); exact HO_8.out)) k_ hk)); (case aO => exact (by (with_reducible repeat (first | apply Kd.R_alloc | apply Kd.R_drewN | apply Kd.R_drew)); exact HO_10.out)); (case aS => exact (below_size bwl_)); (case aL => have := LMc22.out; omega); intro v273 w24 ho hb hg hat; rw [← Ny272.out] at ho; replace HO_8 := Aside0.mk (Kd.R_after (ok := (fun _ => True)) (by (with_reducible repeat (first | apply Kd.R_alloc | apply Kd.R_drewN | apply Kd.R_drew)); exact Kd.R_mono HO_8.out (fun _ hk => ⟨trivial, hk⟩)) hg hat); replace BK257 := Aside0.mk (blk_grown (g := gb257) (o := .cells #[.string t262, .string t263] 32 (0, 0)) (by (with_reducible repeat (first | refine blk_drewN ?_ _ | refine blk_drew ?_ | refine blk_alloc ?_ _)); exact BK257.out) hg (Kd.R_ne HO_10.out BK257.out (by decide))); replace HB := Aside0.mk (hb); have HO274 := Aside0.mk (ho); clear HO_10; clear ho hb hg hat))
            go_roundg k2
            case measure => have := HJ7.out; have := HK2.out; omega
            case rel => exact ⟨(y272), (wrap64 (x11_2 + 1)), (by first | rfl | (simp; done) | (simp [*]; done)), H', ⟨by have := HJ7.out; have := HK2.out; omega⟩, ⟨by (with_reducible repeat (first | apply Kd.R_alloc | apply Kd.R_drewN | apply Kd.R_drew)); exact Kd.R_mono HO_8.out (fun _ hk => hk.2)⟩, ⟨by (with_reducible repeat (first | apply Kd.R_alloc | apply Kd.R_drewN | apply Kd.R_drew)); exact HO274.out⟩, ⟨by (with_reducible repeat (first | refine blk_drewN ?_ _ | refine blk_drew ?_ | refine blk_alloc ?_ _)); exact BK257.out⟩, ⟨bwl_⟩⟩
           ·rw [if_neg c22] at H
            exact absurd H (by simp)
          ·replace c21 := Bool.eq_false_iff.mpr c21
           subst c21
           rw [if_neg (show ¬ (false = true) by decide)] at H
           have H' := Aside0.mk H
           clear H
           obtain ⟨Ao25, co25, eo25⟩ := Kd.R_slice HO_8.out
           subst eo25
           have p269 : 0 ≤ (x11_2 : Int) := od_
           have q269 : x11_2 < (t258.length : Int) := od_
           obtain ⟨ad269, e269, hx269_0, hx269_1, hx269_2⟩ := at_T26 (Kd.R_reads' HO_8.out).2.2 x11_2 p269 q269
           cases e269
           replace p269 := eq_true p269
           replace q269 := eq_true q269
           go_wp2_with (first | ((with_reducible refine gate_callee (f := 62) rfl ?_); refine gl_ (some 45) Tryd.func62 #[.int .i64 ((rd_T26 t258 x11_2).f0), .int .i64 a1, .int .i64 a2] ?_; (with_reducible refine (spec_l00In.calls ((rd_T26 t258 x11_2).f0) a1 a2 false _ A20.out).mono ?_); rintro e w' ⟨rfl, ⟨nd, rfl⟩⟩; refine ⟨_, rfl, ?_⟩))
           go_roundg k2
           case measure => have := HJ7.out; have := HK2.out; omega
           case rel => exact ⟨(x10_2), (wrap64 (x11_2 + 1)), (by first | rfl | (simp; done) | (simp [*]; done)), H', ⟨by have := HJ7.out; have := HK2.out; omega⟩, ⟨by (with_reducible repeat (first | apply Kd.R_alloc | apply Kd.R_drewN | apply Kd.R_drew)); exact HO_8.out⟩, ⟨by (with_reducible repeat (first | apply Kd.R_alloc | apply Kd.R_drewN | apply Kd.R_drew)); exact HO_10.out⟩, ⟨by (with_reducible repeat (first | refine blk_drewN ?_ _ | refine blk_drew ?_ | refine blk_alloc ?_ _)); exact BK257.out⟩, ⟨bwl_⟩⟩
         ·rw [if_neg c19] at H
          exact absurd H (by simp)
        ·rw [if_neg c18] at H
         have c18b0 : decide (x11_2 < (t258.length : Int)) = false := decide_eq_false c18
         clear c18
         simp only [Option.some.injEq, Prod.mk.injEq] at H
         obtain ⟨rfl, rfl⟩ := H
         obtain ⟨Ao26, co26, eo26⟩ := Kd.R_slice HO_8.out
         subst eo26
         go_wp2
         go_ret2
         exact ⟨_, by first | rfl | (simp [errW_none, errW_some] <;> rfl) | (simp [*, errW_none, errW_some] <;> rfl), by (with_reducible repeat (first | apply Kd.R_alloc | apply Kd.R_drewN | apply Kd.R_drew)); exact Kd.R_mono HO_10.out (fun _ hk => trivial), bwl_⟩
     ·rw [if_neg c15] at H
      have c15b0 : (t261 == 0) = false := beq_eq_false_iff_ne.mpr c15
      have c15b1 : (t261 != 0) = true := bne_iff_ne.mpr c15
      simp only [Option.some.injEq, Prod.mk.injEq] at H
      obtain ⟨rfl, rfl⟩ := H
      go_wp2
      go_ret2
      exact ⟨_, by first | rfl | (simp [errW_none, errW_some] <;> rfl) | (simp [*, errW_none, errW_some] <;> rfl), by first | exact Kd.R_nil _ _ _ _ _ | exact Kd.N_nil _ _ _ _ _ | exact Kd.V_nil _ _ _ _ _ | exact Kd.Q_nil _ _ _ _ _ | exact Kd.S_nil _ _ _ _ _, bwl_⟩
end Go.Proofs.YtlcgonaapmmnkaaDoor.QFnLogs
