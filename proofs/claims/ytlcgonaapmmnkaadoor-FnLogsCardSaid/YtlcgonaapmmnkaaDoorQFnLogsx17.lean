import Derived.Test.YtlcgonaapmmnkaaDoorSq
import Derived.Test.YtlcgonaapmmnkaaDoorQFnLogsx0
import Derived.Test.YtlcgonaapmmnkaaDoorQFnLogsx12
namespace Go.Proofs.YtlcgonaapmmnkaaDoor.QFnLogs
open Sq (fl pu_ gl_ b20_ b21_ b30_ b31_ b32_ od_ rr_ be_)
open Base (bwl_ bst_ bsz_ bkb_ nbl_ nbr_ kbl_ bkm_)
open Go.RowKit Go.Proofs.YtlcgonaapmmnkaaDoorW.PrintWords Go.Proofs.YtlcgonaapmmnkaaDoorW.PrintLast Go.Proofs.YtlcgonaapmmnkaaDoorW.PrintMore
attribute [local go_sem] max2_int min2_int max_two min_two max_three min_three max_four min_four
set_option linter.unusedVariables false
set_option linter.unusedSimpArgs false
theorem isk112_x17 {P Q : Prop} (h : Aside0 P) (k : P → Q := by (intro h; repeat (first | (with_reducible first | exact h | apply IsS112.alloc | apply IsS112.drew | apply IsS112.drewN | apply IsS112.set_1 | apply IsS112.set_2 | refine IsS112.far ?_ (Aside0.out (by assumption)) _) | exact h))) : Q := k h.out
theorem bwi112_x17 {w W : World} (h : Below w.heap.size w W := by repeat (first | (with_reducible first | exact HB.out | apply below_alloc | apply pw_below_drewN | apply below_drew1 | refine below_set ?_ (Aside0.out (by assumption)) | refine below_set ?_ (IsS112.ge (Aside0.out (by assumption)))) | exact HB.out)) : Below w.heap.size w W := h
mutual
def spec_DrawSameEntries.l0 : Nat → List (S26) → Int → List Int → Int → Int → Option ((List (S26)) × (List (S26)))
 | 0, _, _, _, _, _ => none
 | k + 1, x5, x6, x496000, x496001, x496002 => if x6 > 0 then ((spec_l27New.f x496000 x496001 x496002).bind fun bt502 => (if x5.length < 3518437208883 then (spec_DrawSameEntries.l0 k (x5 ++ [(⟨bt502.1, bt502.2.1, bt502.2.2.1⟩ : S26)]) (wrap64 (x6 - 1)) x496000 bt502.2.2.2.1 bt502.2.2.2.2) else (none))) else ((some (([] : List (S26)) : List (S26))).bind fun y510 => (if y510.length + x5.length < 3518437208883 then ((some (y510 ++ x5 : List (S26))).bind fun y513 => (if (y513.length : Int) > 0 then ((spec_l00Src_one.f x496000 x496001 x496002 2).bind fun bt516 => (spec_DrawSameEntries.j1 k x5 y513 bt516.1 x496000 bt516.2.1 bt516.2.2)) else (spec_DrawSameEntries.j1 k x5 y513 false x496000 x496001 x496002))) else (none)))
def spec_DrawSameEntries.j1 : Nat → List (S26) → List (S26) → Bool → List Int → Int → Int → Option ((List (S26)) × (List (S26)))
 | 0, _, _, _, _, _, _ => none
 | k + 1, x5, x7, x31, x496000, x496001, x496002 => if x31 = true then (if 0 < (x7.length : Int) then ((spec_l00Src_text.f x496000 x496001 x496002 (([(⟨#[]⟩ : ByteArray), (⟨#[120]⟩ : ByteArray)] : List ByteArray))).bind fun bt523 => (if ((rd_T26 x7 0).f2).size + bt523.1.size ≤ 9223372036854775807 then ((some (x7.set (0 : Int).toNat (⟨(rd_T26 x7 0).f0, (rd_T26 x7 0).f1, ((rd_T26 x7 0).f2) ++ bt523.1⟩ : S26) : List (S26))).bind fun y526 => ((spec_l00Src_one.f x496000 bt523.2.1 bt523.2.2 5).bind fun bt527 => (if bt527.1 = true then (if y526.length < 3518437208883 then (some (x5, (y526 ++ [(⟨0, (⟨#[]⟩ : ByteArray), (⟨#[]⟩ : ByteArray)⟩ : S26)]))) else (none)) else (some (x5, y526))))) else (none))) else (none)) else ((spec_l00Src_one.f x496000 x496001 x496002 5).bind fun bt533 => (if bt533.1 = true then (if x7.length < 3518437208883 then (some (x5, (x7 ++ [(⟨0, (⟨#[]⟩ : ByteArray), (⟨#[]⟩ : ByteArray)⟩ : S26)]))) else (none)) else (some (x5, x7))))
end
def spec_DrawSameEntries.f (k : Nat) (l0 : List Int) : Option ((List (S26)) × (List (S26))) := (spec_l00From.f l0).bind fun bt492 => ((spec_l00Src_pick.f bt492.1 bt492.2.1 bt492.2.2 5).bind fun bt499 => (spec_DrawSameEntries.l0 k (([] : List (S26))) bt499.1 bt492.1 bt499.2.1 bt499.2.2))
theorem spec_DrawSameEntries.mono_l : ∀ k, (∀ y0 y1 y2 y3 y4, LeO (spec_DrawSameEntries.l0 k y0 y1 y2 y3 y4) (spec_DrawSameEntries.l0 (k + 1) y0 y1 y2 y3 y4)) ∧ (∀ y0 y1 y2 y3 y4 y5, LeO (spec_DrawSameEntries.j1 k y0 y1 y2 y3 y4 y5) (spec_DrawSameEntries.j1 (k + 1) y0 y1 y2 y3 y4 y5))
 | 0 => ⟨fun _ _ _ _ _ r h => by simp [spec_DrawSameEntries.l0] at h, fun _ _ _ _ _ _ r h => by simp [spec_DrawSameEntries.j1] at h⟩
 | k + 1 => by
  obtain ⟨ih0, ih1⟩ := spec_DrawSameEntries.mono_l k
  refine ⟨?_, ?_⟩
  ·intro y0 y1 y2 y3 y4
   unfold spec_DrawSameEntries.l0
   repeat' first
   | (with_reducible exact ih0 _ _ _ _ _)
   | (with_reducible exact ih1 _ _ _ _ _ _)
   | (with_reducible exact LeO.refl _)
   | (with_reducible exact LeO.none _)
   | (with_reducible refine LeO.ite ?_ ?_)
   | (with_reducible refine LeO.bind ?_ (fun _ => ?_))
   | exact ih0 _ _ _ _ _
   | exact ih1 _ _ _ _ _ _
   | exact LeO.none _
   | refine LeO.ite ?_ ?_
   | refine LeO.bind ?_ (fun _ => ?_)
  ·intro y0 y1 y2 y3 y4 y5
   unfold spec_DrawSameEntries.j1
   repeat' first
   | (with_reducible exact ih0 _ _ _ _ _)
   | (with_reducible exact ih1 _ _ _ _ _ _)
   | (with_reducible exact LeO.refl _)
   | (with_reducible exact LeO.none _)
   | (with_reducible refine LeO.ite ?_ ?_)
   | (with_reducible refine LeO.bind ?_ (fun _ => ?_))
   | exact ih0 _ _ _ _ _
   | exact ih1 _ _ _ _ _ _
   | exact LeO.none _
   | refine LeO.ite ?_ ?_
   | refine LeO.bind ?_ (fun _ => ?_)
theorem spec_DrawSameEntries.mono : ∀ a0 k, LeO (spec_DrawSameEntries.f k a0) (spec_DrawSameEntries.f (k + 1) a0) := by
 intro a0 k
 obtain ⟨ih0, ih1⟩ := spec_DrawSameEntries.mono_l k
 unfold spec_DrawSameEntries.f
 repeat' first
   | (with_reducible exact ih0 _ _ _ _ _)
   | (with_reducible exact ih1 _ _ _ _ _ _)
   | (with_reducible exact LeO.refl _)
   | (with_reducible exact LeO.none _)
   | (with_reducible refine LeO.ite ?_ ?_)
   | (with_reducible refine LeO.bind ?_ (fun _ => ?_))
   | exact ih0 _ _ _ _ _
   | exact ih1 _ _ _ _ _ _
   | exact LeO.none _
   | refine LeO.ite ?_ ?_
   | refine LeO.bind ?_ (fun _ => ?_)
def spec_DrawSameEntries.T9 : Bool × List (List Nat × List Nat) := (true, [([], []), ([0], [0]), ([1], [1]), ([2], [2]), ([], []), ([], []), ([4, 5], [4, 5]), ([3, 6], [3, 6]), ([0, 0, 1, 2, 3, 4, 5, 6, 7], [0]), ([8, 0, 1, 2, 3, 4, 5, 6, 7], [8]), ([9, 7, 6, 0, 1, 2, 3, 4, 5, 6, 7], [7, 9])])
def spec_DrawSameEntries.B9 : List Nat := [0, 1, 3, 7, 0, 0, 48, 127, 255, 511, 1023]
theorem spec_DrawSameEntries.tab9 : rtab .any (opsOf Tryd.f50 9) = spec_DrawSameEntries.T9 := by kernel_rfl
theorem spec_DrawSameEntries.bits9 : waitsOk spec_DrawSameEntries.T9.2 spec_DrawSameEntries.B9 = true := by kernel_rfl
set_option maxHeartbeats 8000000 in
set_option maxRecDepth 100000 in
theorem spec_DrawSameEntries.calls (k : Nat) (A0 : Option Addr) (c0 : Nat) (l0 : List Int) (r1 : List (S26)) (r2 : List (S26)) (w : World) (hr0 : Kd.C (Kd.int .u8) w A0 l0.length l0) (hc0 : l0.length ≤ c0) (h : spec_DrawSameEntries.f k l0 = some (r1, r2)) :
  Calls Tryd.prog 50 #[.slice A0 l0.length c0] w fun e w' => ∃ v0_ v1_ : Value, e = .returned (.tuple #[v0_, v1_]) ∧ Kd.R k26 26 w' w.heap.size (fun k_ => some k_ ≠ (v1_ : Value).ownBlock) v0_ r1 ∧ Kd.R k26 26 w' w.heap.size (fun k_ => some k_ ≠ (v0_ : Value).ownBlock) v1_ r2 ∧ Below w.heap.size w w' := by
 have hu26 := Tryd.underlying26
 have HR0 := Aside0.mk hr0
 have HC0 := Aside0.mk hc0
 clear hr0 hc0
 have HB := Aside0.mk (Below.refl w.heap.size w)
 have H : ((spec_l00From.f l0).bind fun bt492 => ((spec_l00Src_pick.f bt492.1 bt492.2.1 bt492.2.2 5).bind fun bt499 => (spec_DrawSameEntries.l0 k (([] : List (S26))) bt499.1 bt492.1 bt499.2.1 bt499.2.2))) = some (r1, r2) := h
 clear h
 replace H := Option.bind_eq_some_iff.mp H
 obtain ⟨⟨t492, t493, t494⟩, A20, H⟩ := H
 (try dsimp only at H)
 have A2 := Aside0.mk A20
 clear A20
 obtain ⟨y496, hy496⟩ : ∃ y_ : List (S26), y_ = (([] : List (S26))) := ⟨_, rfl⟩
 replace H : ((spec_l00Src_pick.f t492 t493 t494 5).bind fun bt499 => (spec_DrawSameEntries.l0 k y496 bt499.1 t492 bt499.2.1 bt499.2.2)) = some (r1, r2) := by first | (rw [hy496]; with_reducible exact H) | (have H2_ := (Option.bind_some _ _).symm.trans H; rw [hy496]; with_reducible exact H2_) | (have H2_ := (Option.bind_some _ _).symm.trans H; with_reducible exact H2_) | with_reducible exact H | (rw [hy496]; exact H) | exact H
 have Ny496 := Aside0.mk hy496
 clear hy496
 replace H := Option.bind_eq_some_iff.mp H
 obtain ⟨⟨t499, t500, t501⟩, A30, H⟩ := H
 (try dsimp only at H)
 have A3 := Aside0.mk A30
 clear A30
 have H' := Aside0.mk H
 clear H
 go_enter Tryd.func50, Tryd.ntmps50
 go_wp2_with (first | ((with_reducible refine gate_callee (f := 73) rfl ?_); refine gl_ (some 9) Tryd.func73 #[.slice A0 l0.length c0] ?_; (with_reducible refine (spec_l00From.calls _ _ l0 t492 t493 t494 w _ ?side1 ?side2 ?side3 A2.out).mono ?_); (case side1 => exact bwl_); (case side2 => exact HR0.out); (case side3 => exact HC0.out); rintro e w4 ⟨g495, rfl, hi, hb, hb2⟩; refine ⟨_, rfl, ?_⟩; replace HB := Aside0.mk (hb); have HI495 := Aside0.mk (hi); clear hb hb2 hi) | ((with_reducible refine gate_dst (N := 10) rfl ?_); refine Kd.R_lit k26 _ 26 ?hg (N := 10) ?hd (xs := ([] : List (S26))) (inner := []) (ok := fun _ => True) (okp := fun _ => True) ?hr ?hp (fun _ hk => hk) trivial (Below.refl _ _) (Nat.le_refl _) (by simp) ?_; (case hd => rfl); (case hg => rfl); (case hr => first | (go_simp; done) | (go_simp; rfl)); (case hp => exact (Reps.none _ _)); intro v497 w5 ho6 hb hg_ hnew_; clear hg_ hnew_; (first | rw [← Ny496.out] at ho6 | (simp only [Int.reduceToNat] at ho6; rw [← Ny496.out] at ho6)); have HO498 := Aside0.mk (Kd.R_lower ho6 (below_size bwi112_x17)); replace HB := Aside0.mk (below_step bwi112_x17 hb); replace HI495 := Aside0.mk (IsS112.below (isk112_x17 HI495) hb); clear hb ho6) | ((with_reducible refine gate_callee (f := 77) rfl ?_); refine gl_ (some 12) Tryd.func77 #[.pointer (some ⟨g495, 0, none⟩), .int .i64 5] ?_; (with_reducible refine (spec_l00Src_pick.calls g495 t492 t493 t494 5 t499 t500 t501 w _ ?side1 ?side2 A3.out).mono ?_); (case side1 => exact isk112_x17 HI495); (case side2 => exact bwi112_x17); rintro e w7 ⟨rfl, hi, hb, hk⟩; refine ⟨_, rfl, ?_⟩; replace HO498 := Aside0.mk (Kd.R_mono (Kd.R_keep (IsS112.apart (show IsS112 w _ g495 t492 t493 t494 from by repeat (first | (with_reducible first | exact HI495.out | apply IsS112.alloc | apply IsS112.drewN | apply IsS112.drew | apply IsS112.set_1 | apply IsS112.set_2) | exact HI495.out)) (by (with_reducible repeat (first | apply Kd.R_alloc | apply Kd.R_drewN | apply Kd.R_drew)); exact HO498.out) (by decide)) hk (fun _ h => h.2)) (fun _ h => h.1)); replace HB := Aside0.mk (hb); replace HI495 := Aside0.mk (hi); clear hb hk hi))
 go_loopg [5, 6] k (fun kq v5 v6 w' => ∃ (x5_1 : List (S26)) (x6_1 : Int) (x496001_1 : Int) (x496002_1 : Int), v6 = .int .i64 x6_1 ∧ Aside0 (spec_DrawSameEntries.l0 kq x5_1 x6_1 t492 x496001_1 x496002_1 = some (r1, r2)) ∧ Aside0 (kq ≤ k) ∧ Aside0 (Kd.R k26 26 w' w.heap.size (fun _ => True) v5 x5_1) ∧ Aside0 (IsS112 w w' g495 t492 x496001_1 x496002_1) ∧ Aside0 (Below w.heap.size w w'))
 case atStart => exact ⟨(y496), (t499), (t500), (t501), (by first | rfl | (simp; done) | (simp [*]; done)), H', ⟨Nat.le_refl _⟩, ⟨by (with_reducible repeat (first | apply Kd.R_alloc | apply Kd.R_drewN | apply Kd.R_drew)); exact HO498.out⟩, ⟨isk112_x17 HI495⟩, ⟨bwi112_x17⟩⟩
 case round =>
  clear H'
  obtain ⟨x5_1, x6_1, x496001_1, x496002_1, rfl, HA, HK1, HO_5, HI495, HB⟩ := hrel
  cases gk with
  | zero => exact absurd HA.out (by simp [spec_DrawSameEntries.l0])
  | succ k1 =>
   have H := HA.out
   clear HA
   simp only [spec_DrawSameEntries.l0] at H
   by_cases c8 : x6_1 > 0
   ·rw [if_pos c8] at H
    have c8b0 : decide (0 < x6_1) = true := decide_eq_true c8
    clear c8
    replace H := Option.bind_eq_some_iff.mp H
    obtain ⟨⟨t502, t503, t504, t505, t506⟩, A90, H⟩ := H
    (try dsimp only at H)
    have A9 := Aside0.mk A90
    clear A90
    by_cases c10 : x5_1.length < 3518437208883
    ·rw [if_pos c10] at H
     have LMc10 := Aside0.mk c10
     clear c10
     obtain ⟨y507, hy507⟩ : ∃ y_ : List (S26), y_ = (x5_1 ++ [(⟨t502, t503, t504⟩ : S26)]) := ⟨_, rfl⟩
     replace H : (spec_DrawSameEntries.l0 k1 y507 (wrap64 (x6_1 - 1)) t492 t505 t506) = some (r1, r2) := by first | (rw [hy507]; with_reducible exact H) | (have H2_ := (Option.bind_some _ _).symm.trans H; rw [hy507]; with_reducible exact H2_) | (have H2_ := (Option.bind_some _ _).symm.trans H; with_reducible exact H2_) | with_reducible exact H | (rw [hy507]; exact H) | exact H
     have Ny507 := Aside0.mk hy507
     clear hy507
     have H' := Aside0.mk H
     clear H
     go_wp2_with (first | ((with_reducible refine gate_callee (f := 78) rfl ?_); refine gl_ (some 19) Tryd.func78 #[.pointer (some ⟨g495, 0, none⟩)] ?_; (with_reducible refine (spec_l27New.calls g495 t492 x496001_1 x496002_1 t502 t503 t504 t505 t506 w _ ?side1 ?side2 A9.out).mono ?_); (case side1 => exact isk112_x17 HI495); (case side2 => exact bwi112_x17); rintro e w11 ⟨rfl, hi, hb, hk⟩; refine ⟨_, rfl, ?_⟩; replace HO_5 := Aside0.mk (Kd.R_mono (Kd.R_keep (IsS112.apart (show IsS112 w _ g495 t492 x496001_1 x496002_1 from by repeat (first | (with_reducible first | exact HI495.out | apply IsS112.alloc | apply IsS112.drewN | apply IsS112.drew | apply IsS112.set_1 | apply IsS112.set_2) | exact HI495.out)) (by (with_reducible repeat (first | apply Kd.R_alloc | apply Kd.R_drewN | apply Kd.R_drew)); exact HO_5.out) (by decide)) hk (fun _ h => h.2)) (fun _ h => h.1)); replace HB := Aside0.mk (hb); replace HI495 := Aside0.mk (hi); clear hb hk hi) | ((with_reducible refine gate_builtin (b := .append) (xs := #[.tmp 17, .tmp 20]) rfl ?_); at_builtin; refine Kd.R_append k26 (w0 := w) w.heap.size rfl (.tmp 17) (.tmp 20) 42 26 (.agg #[(.int .i64 0), (.string ⟨#[]⟩), (.string ⟨#[]⟩)]) 40 rfl Tryd.underlying42 info26 rfl (by decide) (by omega) u5 x5_1 (⟨t502, t503, t504⟩ : S26) [.int .i64 t502, .string t503, .string t504] (fun _ => True) (fun _ => False) rfl rfl ?aP (fun _ hk => hk.elim) ?aF ?aO ?aB ?aS ?aL ?_; (case aP => exact k26_mkM _ _ _ (⟨t502, t503, t504⟩ : S26)); (case aB => exact bwi112_x17); (case aF => exact (fun _ _ => trivial)); (case aO => exact (by (with_reducible repeat (first | apply Kd.R_alloc | apply Kd.R_drewN | apply Kd.R_drew)); exact HO_5.out)); (case aS => exact (below_size bwi112_x17)); (case aL => have := LMc10.out; omega); intro v508 w12 ho hb hg hat; rw [← Ny507.out] at ho; replace HI495 := Aside0.mk (IsS112.grown (isk112_x17 HI495) hg (IsS112.own_ne HI495.out HO_5.out (by decide))); replace HB := Aside0.mk (hb); have HO509 := Aside0.mk (ho); clear HO_5; clear ho hb hg hat))
     go_roundg k1
     case measure => have := HK1.out; omega
     case rel => exact ⟨(y507), (wrap64 (x6_1 - 1)), (t505), (t506), (by first | rfl | (simp; done) | (simp [*]; done)), H', ⟨by have := HK1.out; omega⟩, ⟨by (with_reducible repeat (first | apply Kd.R_alloc | apply Kd.R_drewN | apply Kd.R_drew)); exact HO509.out⟩, ⟨isk112_x17 HI495⟩, ⟨bwi112_x17⟩⟩
    ·rw [if_neg c10] at H
     exact absurd H (by simp)
   ·rw [if_neg c8] at H
    have c8b0 : decide (0 < x6_1) = false := decide_eq_false c8
    clear c8
    obtain ⟨y510, hy510⟩ : ∃ y_ : List (S26), y_ = (([] : List (S26))) := ⟨_, rfl⟩
    replace H : (if y510.length + x5_1.length < 3518437208883 then ((some (y510 ++ x5_1 : List (S26))).bind fun y513 => (if (y513.length : Int) > 0 then ((spec_l00Src_one.f t492 x496001_1 x496002_1 2).bind fun bt516 => (spec_DrawSameEntries.j1 k1 x5_1 y513 bt516.1 t492 bt516.2.1 bt516.2.2)) else (spec_DrawSameEntries.j1 k1 x5_1 y513 false t492 x496001_1 x496002_1))) else (none)) = some (r1, r2) := by first | (rw [hy510]; with_reducible exact H) | (have H2_ := (Option.bind_some _ _).symm.trans H; rw [hy510]; with_reducible exact H2_) | (have H2_ := (Option.bind_some _ _).symm.trans H; with_reducible exact H2_) | with_reducible exact H | (rw [hy510]; exact H) | exact H
    have Ny510 := Aside0.mk hy510
    clear hy510
    by_cases c13 : y510.length + x5_1.length < 3518437208883
    ·rw [if_pos c13] at H
     have LMc13 := Aside0.mk c13
     clear c13
     obtain ⟨y513, hy513⟩ : ∃ y_ : List (S26), y_ = (y510 ++ x5_1) := ⟨_, rfl⟩
     replace H : (if (y513.length : Int) > 0 then ((spec_l00Src_one.f t492 x496001_1 x496002_1 2).bind fun bt516 => (spec_DrawSameEntries.j1 k1 x5_1 y513 bt516.1 t492 bt516.2.1 bt516.2.2)) else (spec_DrawSameEntries.j1 k1 x5_1 y513 false t492 x496001_1 x496002_1)) = some (r1, r2) := by first | (rw [hy513]; with_reducible exact H) | (have H2_ := (Option.bind_some _ _).symm.trans H; rw [hy513]; with_reducible exact H2_) | (have H2_ := (Option.bind_some _ _).symm.trans H; with_reducible exact H2_) | with_reducible exact H | (rw [hy513]; exact H) | exact H
     have Ny513 := Aside0.mk hy513
     clear hy513
     have HC14 := Aside0.mk H
     clear H
     go_upto_region 8 with (first | ((with_reducible refine gate_dst (N := 22) rfl ?_); refine Kd.R_lit k26 _ 26 ?hg (N := 22) ?hd (xs := ([] : List (S26))) (inner := []) (ok := fun _ => True) (okp := fun _ => True) ?hr ?hp (fun _ hk => hk) trivial (Below.refl _ _) (Nat.le_refl _) (by simp) ?_; (case hd => rfl); (case hg => rfl); (case hr => first | (go_simp; done) | (go_simp; rfl)); (case hp => exact (Reps.none _ _)); intro v511 w15 ho16 hb hg_ hnew_; clear hg_ hnew_; (first | rw [← Ny510.out] at ho16 | (simp only [Int.reduceToNat] at ho16; rw [← Ny510.out] at ho16)); have HO512 := Aside0.mk (Kd.R_lower (Kd.R_new' ho16 (Kd.R_lt (by (with_reducible repeat (first | apply Kd.R_alloc | apply Kd.R_drewN | apply Kd.R_drew)); exact HO_5.out))) (below_size bwi112_x17)); replace HO_5 := Aside0.mk (Kd.R_elder' (by (with_reducible repeat (first | apply Kd.R_alloc | apply Kd.R_drewN | apply Kd.R_drew)); exact HO_5.out) (Kd.R_base ho16) hb); replace HB := Aside0.mk (below_step bwi112_x17 hb); replace HI495 := Aside0.mk (IsS112.below (isk112_x17 HI495) hb); clear hb ho16; obtain ⟨Ao18, co18, eo18⟩ := Kd.R_slice HO_5.out; subst eo18) | ((with_reducible refine gate_builtin (b := .append) (xs := #[.tmp 22, .tmp 23]) rfl ?_); at_builtin; refine Kd.R_append_rows k26 (w0 := w) w.heap.size rfl (.tmp 22) (.tmp 23) 42 26 (.agg #[(.int .i64 0), (.string ⟨#[]⟩), (.string ⟨#[]⟩)]) 40 rfl Tryd.underlying42 info26 rfl (by decide) (by omega) v511 y510 x5_1 _ _ _ (fun k_ => some k_ ≠ (.slice Ao18 x5_1.length co18 : Value).ownBlock) (fun _ => False) rfl rfl ?aO ?aR (fun _ _ h => h) (fun _ h => h.elim) ?aF ?aB ?aS ?aL ?_; (case aR => repeat (first | exact (Kd.R_reads' HO_5.out).2.2 | (with_reducible refine Kd.C_alloc ?_ _) | (with_reducible refine Kd.C_drewN ?_ _) | (with_reducible refine Kd.C_drew ?_))); (case aB => exact bwi112_x17); (case aF => exact (fun k_ hk => Kd.fresh' (Kd.R_lt (by (with_reducible repeat (first | apply Kd.R_alloc | apply Kd.R_drewN | apply Kd.R_drew)); exact HO_5.out)) k_ hk)); (case aO => exact (by (with_reducible repeat (first | apply Kd.R_alloc | apply Kd.R_drewN | apply Kd.R_drew)); exact Kd.R_mono HO512.out (fun _ hk => hk.2))); (case aS => exact (below_size bwi112_x17)); (case aL => have := LMc13.out; omega); intro v514 w17 ho hb hg hat; rw [← Ny513.out] at ho; replace HO_5 := Aside0.mk (Kd.R_after (ok := (fun _ => True)) (by (with_reducible repeat (first | apply Kd.R_alloc | apply Kd.R_drewN | apply Kd.R_drew)); exact HO_5.out) hg hat); replace HI495 := Aside0.mk (IsS112.grown (isk112_x17 HI495) hg (IsS112.own_ne HI495.out HO512.out (by decide))); replace HB := Aside0.mk (hb); have HO515 := Aside0.mk (ho); clear HO512; clear ho hb hg hat))
     (try simp only [Act.put, List.setIfInBounds_toArray, List.set_cons_zero, List.set_cons_succ])
     go_cut [31] (fun v31 wc => ∃ (kq : Nat) (x31_13 : Bool) (x496001_13 : Int) (x496002_13 : Int), v31 = .bool x31_13 ∧ Aside0 (spec_DrawSameEntries.j1 kq x5_1 y513 x31_13 t492 x496001_13 x496002_13 = some (r1, r2)) ∧ Aside0 (kq ≤ k1) ∧ Aside0 (Kd.R k26 26 wc w.heap.size (fun k_ => some k_ ≠ (v514 : Value).ownBlock) (.slice Ao18 x5_1.length co18) x5_1) ∧ Aside0 (Kd.R k26 26 wc w.heap.size (fun k_ => some k_ ≠ ((.slice Ao18 x5_1.length co18) : Value).ownBlock) v514 y513) ∧ Aside0 (IsS112 w wc g495 t492 x496001_13 x496002_13) ∧ Aside0 (Below w.heap.size w wc))
     case first =>
      have H := HC14.out
      clear HC14
      by_cases c19 : (y513.length : Int) > 0
      ·rw [if_pos c19] at H
       have c19b0 : decide (0 < (y513.length : Int)) = true := decide_eq_true c19
       have c19b1 : decide (0 < y513.length) = true := decide_eq_true (by omega)
       clear c19
       (first | rw [c19b0] | (simp only [i64_w, i32_w]; rw [c19b0]) | skip)
       replace H := Option.bind_eq_some_iff.mp H
       obtain ⟨⟨t516, t517, t518⟩, A200, H⟩ := H
       (try dsimp only at H)
       have A20 := Aside0.mk A200
       clear A200
       have H' := Aside0.mk H
       clear H
       obtain ⟨Ao21, co21, eo21⟩ := Kd.R_slice HO515.out
       subst eo21
       go_wp2_with (first | (go_at_call 75; (with_reducible refine (spec_l00Src_one.calls g495 t492 x496001_1 x496002_1 2 t516 t517 t518 w _ ?side1 ?side2 A20.out).mono ?_); (case side1 => exact isk112_x17 HI495); (case side2 => exact bwi112_x17); rintro e w22 ⟨rfl, hi, hb, hk⟩; replace HO_5 := Aside0.mk (Kd.R_mono (Kd.R_keep (IsS112.apart (show IsS112 w _ g495 t492 x496001_1 x496002_1 from by repeat (first | (with_reducible first | exact HI495.out | apply IsS112.alloc | apply IsS112.drewN | apply IsS112.drew | apply IsS112.set_1 | apply IsS112.set_2) | exact HI495.out)) (by (with_reducible repeat (first | apply Kd.R_alloc | apply Kd.R_drewN | apply Kd.R_drew)); exact HO_5.out) (by decide)) hk (fun _ h => h.2)) (fun _ h => h.1)); replace HO515 := Aside0.mk (Kd.R_mono (Kd.R_keep (IsS112.apart (show IsS112 w _ g495 t492 x496001_1 x496002_1 from by repeat (first | (with_reducible first | exact HI495.out | apply IsS112.alloc | apply IsS112.drewN | apply IsS112.drew | apply IsS112.set_1 | apply IsS112.set_2) | exact HI495.out)) (by (with_reducible repeat (first | apply Kd.R_alloc | apply Kd.R_drewN | apply Kd.R_drew)); exact HO515.out) (by decide)) hk (fun _ h => h.2)) (fun _ h => h.1)); replace HB := Aside0.mk (hb); replace HI495 := Aside0.mk (hi); clear hb hk hi))
       go_meet
       case rel => exact ⟨_, (t516), (t517), (t518), (by first | rfl | (simp; done) | (simp [*]; done)), H', ⟨by have := HK1.out; first | omega | exact Nat.le_refl _⟩, ⟨by (with_reducible repeat (first | apply Kd.R_alloc | apply Kd.R_drewN | apply Kd.R_drew)); exact Kd.R_mono HO_5.out (fun _ hk => hk.2)⟩, ⟨by (with_reducible repeat (first | apply Kd.R_alloc | apply Kd.R_drewN | apply Kd.R_drew)); exact HO515.out⟩, ⟨isk112_x17 HI495⟩, ⟨bwi112_x17⟩⟩
      ·rw [if_neg c19] at H
       have c19b0 : decide (0 < (y513.length : Int)) = false := decide_eq_false c19
       have c19b1 : decide (0 < y513.length) = false := decide_eq_false (by omega)
       clear c19
       (first | rw [c19b0] | (simp only [i64_w, i32_w]; rw [c19b0]) | skip)
       have H' := Aside0.mk H
       clear H
       obtain ⟨Ao23, co23, eo23⟩ := Kd.R_slice HO515.out
       subst eo23
       go_wp2
       go_meet
       case rel => exact ⟨_, (false), (x496001_1), (x496002_1), (by first | rfl | (simp; done) | (simp [*]; done)), H', ⟨by have := HK1.out; first | omega | exact Nat.le_refl _⟩, ⟨by (with_reducible repeat (first | apply Kd.R_alloc | apply Kd.R_drewN | apply Kd.R_drew)); exact Kd.R_mono HO_5.out (fun _ hk => hk.2)⟩, ⟨by (with_reducible repeat (first | apply Kd.R_alloc | apply Kd.R_drewN | apply Kd.R_drew)); exact HO515.out⟩, ⟨isk112_x17 HI495⟩, ⟨bwi112_x17⟩⟩
     case rest =>
      clear HC14
      (try clear c8);(try clear c8b0);(try clear c10);(try clear c13);(try clear c19);(try clear c19b0);(try clear c19b1)
      obtain ⟨kq, x31_13, x496001_13, x496002_13, rfl, HA, HJ13, HO_5, HO_7, HI495, HB⟩ := hcut
      cases kq with
      | zero => exact absurd HA.out (by simp [spec_DrawSameEntries.j1])
      | succ kj13 =>
       have H := HA.out
       clear HA
       simp only [spec_DrawSameEntries.j1] at H
       by_cases c24 : x31_13 = true
       ·subst c24
        rw [if_pos rfl] at H
        by_cases c25 : 0 < (y513.length : Int)
        ·rw [if_pos c25] at H
         have c25b0 : decide (0 < (y513.length : Int)) = true := decide_eq_true c25
         have c25b1 : decide (0 < y513.length) = true := decide_eq_true (by omega)
         clear c25
         obtain ⟨y520, hy520⟩ : ∃ y_ : List ByteArray, y_ = (([(⟨#[]⟩ : ByteArray), (⟨#[120]⟩ : ByteArray)] : List ByteArray)) := ⟨_, rfl⟩
         replace H : ((spec_l00Src_text.f t492 x496001_13 x496002_13 y520).bind fun bt523 => (if ((rd_T26 y513 0).f2).size + bt523.1.size ≤ 9223372036854775807 then ((some (y513.set (0 : Int).toNat (⟨(rd_T26 y513 0).f0, (rd_T26 y513 0).f1, ((rd_T26 y513 0).f2) ++ bt523.1⟩ : S26) : List (S26))).bind fun y526 => ((spec_l00Src_one.f t492 bt523.2.1 bt523.2.2 5).bind fun bt527 => (if bt527.1 = true then (if y526.length < 3518437208883 then (some (x5_1, (y526 ++ [(⟨0, (⟨#[]⟩ : ByteArray), (⟨#[]⟩ : ByteArray)⟩ : S26)]))) else (none)) else (some (x5_1, y526))))) else (none))) = some (r1, r2) := by first | (rw [hy520]; with_reducible exact H) | (have H2_ := (Option.bind_some _ _).symm.trans H; rw [hy520]; with_reducible exact H2_) | (have H2_ := (Option.bind_some _ _).symm.trans H; with_reducible exact H2_) | with_reducible exact H | (rw [hy520]; exact H) | exact H
         have Ny520 := Aside0.mk hy520
         clear hy520
         replace H := Option.bind_eq_some_iff.mp H
         obtain ⟨⟨t523, t524, t525⟩, A260, H⟩ := H
         (try dsimp only at H)
         have A26 := Aside0.mk A260
         clear A260
         by_cases c27 : ((rd_T26 y513 0).f2).size + t523.size ≤ 9223372036854775807
         ·rw [if_pos c27] at H
          have c27b0 := eq_true c27
          have c27b1 : decide (((rd_T26 y513 0).f2).size + t523.size ≤ 9223372036854775807) = true := decide_eq_true c27
          try have c27b2 : (9223372036854775807 < ((rd_T26 y513 0).f2).size + t523.size) = False := eq_false (Nat.not_lt.2 c27)
          obtain ⟨y526, hy526⟩ : ∃ y_ : List (S26), y_ = (y513.set (0 : Int).toNat (⟨(rd_T26 y513 0).f0, (rd_T26 y513 0).f1, ((rd_T26 y513 0).f2) ++ t523⟩ : S26)) := ⟨_, rfl⟩
          replace H : ((spec_l00Src_one.f t492 t524 t525 5).bind fun bt527 => (if bt527.1 = true then (if y526.length < 3518437208883 then (some (x5_1, (y526 ++ [(⟨0, (⟨#[]⟩ : ByteArray), (⟨#[]⟩ : ByteArray)⟩ : S26)]))) else (none)) else (some (x5_1, y526)))) = some (r1, r2) := by first | (rw [hy526]; with_reducible exact H) | (have H2_ := (Option.bind_some _ _).symm.trans H; rw [hy526]; with_reducible exact H2_) | (have H2_ := (Option.bind_some _ _).symm.trans H; with_reducible exact H2_) | with_reducible exact H | (rw [hy526]; exact H) | exact H
          have Ny526 := Aside0.mk hy526
          clear hy526
          replace H := Option.bind_eq_some_iff.mp H
          obtain ⟨⟨t527, t528, t529⟩, A290, H⟩ := H
          (try dsimp only at H)
          have A29 := Aside0.mk A290
          clear A290
          by_cases c30 : t527 = true
          ·subst c30
           rw [if_pos rfl] at H
           by_cases c31 : y526.length < 3518437208883
           ·rw [if_pos c31] at H
            have LMc31 := Aside0.mk c31
            clear c31
            obtain ⟨y530, hy530⟩ : ∃ y_ : List (S26), y_ = (y526 ++ [(⟨0, (⟨#[]⟩ : ByteArray), (⟨#[]⟩ : ByteArray)⟩ : S26)]) := ⟨_, rfl⟩
            replace H : (some (x5_1, y530)) = some (r1, r2) := by first | (rw [hy530]; with_reducible exact H) | (have H2_ := (Option.bind_some _ _).symm.trans H; rw [hy530]; with_reducible exact H2_) | (have H2_ := (Option.bind_some _ _).symm.trans H; with_reducible exact H2_) | with_reducible exact H | (rw [hy530]; exact H) | exact H
            have Ny530 := Aside0.mk hy530
            clear hy530
            simp only [Option.some.injEq, Prod.mk.injEq] at H
            obtain ⟨rfl, rfl⟩ := H
            try go_wp2
            replace HO_5 := Aside0.mk (Kd.R_drew HO_5.out)
            replace HO_7 := Aside0.mk (Kd.R_drew HO_7.out)
            replace HI495 := Aside0.mk (IsS112.drew HI495.out)
            replace HB := Aside0.mk (below_drew1 HB.out)
            obtain ⟨Ao33, co33, eo33⟩ := Kd.R_slice HO_7.out
            (first | subst eo33 | (injection eo33 with f1_ f2_ f3_; have f4_ := f1_.symm; have f5_ := f3_.symm; clear f1_ f2_ f3_; subst f4_; subst f5_))
            have p519 : 0 ≤ (0 : Int) := (by omega)
            have q519 : 0 < (y513.length : Int) := od_
            obtain ⟨ad519, e519, hx519_0, hx519_1, hx519_2⟩ := at_T26 (Kd.R_reads' HO_7.out).2.2 0 p519 q519
            cases e519
            have qi519 : (0 < y513.length) = True := eq_true (by omega)
            (try rw [show ((0 : Int)).toNat = 0 from rfl] at hx519_0)
            (try rw [show 0 * 3 = 0 from rfl] at hx519_0)
            (try rw [Addr.add_zero'] at hx519_0)
            (try rw [show ((0 : Int)).toNat = 0 from rfl] at hx519_1)
            (try rw [show 0 * 3 = 0 from rfl] at hx519_1)
            (try rw [Addr.add_zero'] at hx519_1)
            (try rw [show ((0 : Int)).toNat = 0 from rfl] at hx519_2)
            (try rw [show 0 * 3 = 0 from rfl] at hx519_2)
            (try rw [Addr.add_zero'] at hx519_2)
            replace p519 := eq_true p519
            replace q519 := eq_true q519
            refine start_ (n := 11) (S := fun w' => w'.cell? ad519 = some (.int .i64 ((rd_T26 y513 0).f0)) ∧ w'.cell? ⟨ad519.block, ad519.off + 1, none⟩ = some (.string ((rd_T26 y513 0).f1)) ∧ w'.cell? ⟨ad519.block, ad519.off + 2, none⟩ = some (.string ((rd_T26 y513 0).f2))) (ds := [10]) (fl 11 0) (by kernel_rfl) rfl rfl ⟨hx519_0, hx519_1, hx519_2⟩ (fun hHeld => ?_); refine with_tabW spec_DrawSameEntries.tab9 spec_DrawSameEntries.bits9 (fun HT_ HW_ => ?_)
            generalize wc.drew = w32 at HO_5 HO_7 HI495 HB hx519_0 hx519_1 hx519_2 hHeld ⊢
            refine pu_ (i := 0) (N := some 32) (fl 11 1) (any_of HT_.out (by kernel_rfl)) ?_
            refine pu_ (i := 1) (N := some 33) (fl 11 3) (any_of HT_.out (by kernel_rfl)) ?_
            refine pu_ (i := 2) (N := some 34) (fl 11 7) (any_of HT_.out (by kernel_rfl)) ?_
            refine pu_ (i := 4) (N := some 36) (fl 11 23) (any_of HT_.out (by kernel_rfl)) ?_
            refine take_ (i := 3) (N := some 35) (v := ?_) (a' := ?_) (fl 11 31) rfl rfl (take_ofW HT_.out HW_.out (by kernel_rfl)) (fun _ _ _ h => h) (Or.inl ⟨by rfl, ?_⟩) hHeld ?_ ?_
            rotate_left
            ·rintro w' ⟨s0, s1, s2⟩
             go_simp
             with_reducible rfl
            rotate_left
            ·simp only [Act.put, List.setIfInBounds_toArray, List.set_cons_zero, List.set_cons_succ, i64_w, i32_w]
             rfl
            refine one_ (i := 5) (N := some 37) (fl 11 63) rfl rfl (one_of HT_.out (by kernel_rfl)) (by decide) (fun K hK => ?_)
            refine Kd.R_lit_step Kd.string _ 9 ?hg (N := 37) ?hd (xs := ([(⟨#[]⟩ : ByteArray), (⟨#[120]⟩ : ByteArray)] : List ByteArray)) (inner := [.string (⟨#[]⟩ : ByteArray), .string (⟨#[120]⟩ : ByteArray)]) (ok := fun _ => True) (okp := fun _ => True) ?hr ?hp (fun _ hk => hk) trivial (Below.refl _ _) (Nat.le_refl _) (by simp) ?_; (case hd => rfl); (case hg => rfl); (case hr => first | (go_simp; done) | (go_simp; rfl)); (case hp => exact (Reps.one (show Kd.M Kd.string _ _ _ (⟨#[]⟩ : ByteArray) [.string (⟨#[]⟩ : ByteArray)] from rfl) (Reps.one (show Kd.M Kd.string _ _ _ (⟨#[120]⟩ : ByteArray) [.string (⟨#[120]⟩ : ByteArray)] from rfl) (Reps.none _ _))))
            intro v521 w34 ho35 hb hg_ hnew_
            have HS0_ := (hb.cell (World.block_lt_of_cell? _ _ (hHeld.1))).trans (hHeld.1)
            have HS1_ := (hb.cell (World.block_lt_of_cell? _ _ (hHeld.2.1))).trans (hHeld.2.1)
            have HS2_ := (hb.cell (World.block_lt_of_cell? _ _ (hHeld.2.2))).trans (hHeld.2.2)
            clear hg_ hnew_
            (first | rw [← Ny520.out] at ho35 | (simp only [Int.reduceToNat] at ho35; rw [← Ny520.out] at ho35))
            replace HO_5 := Aside0.mk (Kd.R_below (by (with_reducible repeat (first | apply Kd.R_alloc | apply Kd.R_drewN | apply Kd.R_drew)); exact HO_5.out) hb)
            replace HO_7 := Aside0.mk (Kd.R_below (by (with_reducible repeat (first | apply Kd.R_alloc | apply Kd.R_drewN | apply Kd.R_drew)); exact HO_7.out) hb)
            have HO522 := Aside0.mk (Kd.R_lower ho35 (below_size bwi112_x17))
            replace HB := Aside0.mk (below_step bwi112_x17 hb)
            replace HI495 := Aside0.mk (IsS112.below (isk112_x17 HI495) hb)
            clear hb ho35
            obtain ⟨Ao36, co36, eo36⟩ := Kd.R_slice HO522.out
            (first | subst eo36 | (injection eo36 with f1_ f2_ f3_; have f4_ := f1_.symm; have f5_ := f3_.symm; clear f1_ f2_ f3_; subst f4_; subst f5_))
            refine hK.out _ _ ⟨HS0_, HS1_, HS2_⟩ (fun hHeld => ?_)
            clear hK K
            refine norm_ (a' := ?_) ?_ ?_
            rotate_left
            ·show Act.put _ (some 37) _ = _
             simp only [Act.put, List.setIfInBounds_toArray, List.set_cons_zero, List.set_cons_succ, i64_w, i32_w]
             rfl
            refine one_ (i := 6) (N := some 38) (fl 11 127) rfl rfl (one_of HT_.out (by kernel_rfl)) (by decide) (fun K hK => ?_)
            refine goes_ Tryd.func82 (by kernel_rfl) rfl #[.pointer (some ⟨g495, 0, none⟩), .slice Ao36 y520.length co36] (by rfl) rfl rfl (by (try simp only [List.map_toArray, List.map_cons, List.map_nil]); first | done | rfl | (simp only [List.length_drop, List.length_take]; rfl) | (simp only [ByteArray.size_append, Int.natCast_add]; rfl)) ?_
            with_reducible refine (spec_l00Src_text.calls g495 t492 x496001_13 x496002_13 _ _ y520 t523 t524 t525 w _ ?side1 ?side2 ?side3 ?side4 ?side5 A26.out).mono ?_
            (case side1 => exact isk112_x17 HI495)
            (case side2 => exact bwi112_x17)
            (case side3 => repeat (first | exact (Kd.R_reads' HO522.out).2.2 | (with_reducible refine Kd.C_alloc ?_ _) | (with_reducible refine Kd.C_drewN ?_ _) | (with_reducible refine Kd.C_drew ?_)))
            (case side4 => exact (Kd.R_reads' HO522.out).2.1)
            (case side5 => exact far_slice (IsS112.own_ne HI495.out HO522.out (by decide)))
            rintro e w37 ⟨rfl, hi, hb, hk⟩
            have HS0_ := keep_cell hk (hHeld.1) (by first | (rw [add_block]; exact Kd.own_blk (IsS112.own_ne HI495.out HO_7.out (by decide))) | (show (Addr.add _ _).block ≠ _; rw [add_block]; exact Kd.own_blk (IsS112.own_ne HI495.out HO_7.out (by decide))) | exact Kd.own_blk (IsS112.own_ne HI495.out HO_7.out (by decide)))
            have HS1_ := keep_cell hk (hHeld.2.1) (by first | (show ad519.block ≠ _; exact Kd.own_blk (IsS112.own_ne HI495.out HO_7.out (by decide))) | (rw [add_block]; exact Kd.own_blk (IsS112.own_ne HI495.out HO_7.out (by decide))) | (show (Addr.add _ _).block ≠ _; rw [add_block]; exact Kd.own_blk (IsS112.own_ne HI495.out HO_7.out (by decide))) | exact Kd.own_blk (IsS112.own_ne HI495.out HO_7.out (by decide)))
            have HS2_ := keep_cell hk (hHeld.2.2) (by first | (show ad519.block ≠ _; exact Kd.own_blk (IsS112.own_ne HI495.out HO_7.out (by decide))) | (rw [add_block]; exact Kd.own_blk (IsS112.own_ne HI495.out HO_7.out (by decide))) | (show (Addr.add _ _).block ≠ _; rw [add_block]; exact Kd.own_blk (IsS112.own_ne HI495.out HO_7.out (by decide))) | exact Kd.own_blk (IsS112.own_ne HI495.out HO_7.out (by decide)))
            refine ⟨_, rfl, ?_⟩
            replace HO_5 := Aside0.mk (Kd.R_mono (Kd.R_keep (IsS112.apart (show IsS112 w _ g495 t492 x496001_13 x496002_13 from by repeat (first | (with_reducible first | exact HI495.out | apply IsS112.alloc | apply IsS112.drewN | apply IsS112.drew | apply IsS112.set_1 | apply IsS112.set_2) | exact HI495.out)) (by (with_reducible repeat (first | apply Kd.R_alloc | apply Kd.R_drewN | apply Kd.R_drew)); exact HO_5.out) (by decide)) hk (fun _ h => h.2)) (fun _ h => h.1))
            replace HO_7 := Aside0.mk (Kd.R_mono (Kd.R_keep (IsS112.apart (show IsS112 w _ g495 t492 x496001_13 x496002_13 from by repeat (first | (with_reducible first | exact HI495.out | apply IsS112.alloc | apply IsS112.drewN | apply IsS112.drew | apply IsS112.set_1 | apply IsS112.set_2) | exact HI495.out)) (by (with_reducible repeat (first | apply Kd.R_alloc | apply Kd.R_drewN | apply Kd.R_drew)); exact HO_7.out) (by decide)) hk (fun _ h => h.2)) (fun _ h => h.1))
            replace HO522 := Aside0.mk (Kd.R_mono (Kd.R_keep (IsS112.apart (show IsS112 w _ g495 t492 x496001_13 x496002_13 from by repeat (first | (with_reducible first | exact HI495.out | apply IsS112.alloc | apply IsS112.drewN | apply IsS112.drew | apply IsS112.set_1 | apply IsS112.set_2) | exact HI495.out)) (by (with_reducible repeat (first | apply Kd.R_alloc | apply Kd.R_drewN | apply Kd.R_drew)); exact HO522.out) (by decide)) hk (fun _ h => h.2)) (fun _ h => h.1))
            replace HB := Aside0.mk (hb)
            replace HI495 := Aside0.mk (hi)
            (try clear hb);(try clear hb2);(try clear hk);(try clear hi)
            have p28 : 0 ≤ (0 : Int) := (by omega)
            have q28 : (0 : Int) < ((y513.length : Int) : Int) := od_
            have qi28 : (0 < y513.length) = True := eq_true (by omega)
            obtain ⟨go28, co28, eo28, gb28, gl28, cl28, HG28⟩ := Kd.R_form HO_7.out (by omega)
            (first | cases eo28 | (injection eo28 with ea_ en_ ec_; (first | subst ea_ | (injection ea_ with ea_; subst ea_)); subst ec_; clear en_))
            have GB28 := Aside0.mk gb28
            have GG28 := Aside0.mk HG28
            clear gb28 gl28 HG28
            (first | simp only [add_plain] at hx519_0 | skip)
            (first | simp only [add_plain] at hx519_1 | skip)
            (first | simp only [add_plain] at hx519_2 | skip)
            obtain ⟨ce28, hcl28, hM28, hcc28, hfr28⟩ := Kd.R_elem HO_7.out z26 (0 : Int) p28 q28
            obtain rfl := k26_openM hM28
            have hx28_0 : World.cell? _ ⟨go28, (0 : Int).toNat * 3, none⟩ = some (.int .i64 ((rd_T26 y513 0).f0)) := hcc28 0 _ rfl
            have hx28_1 : World.cell? _ ⟨go28, (0 : Int).toNat * 3 + 1, none⟩ = some (.string ((rd_T26 y513 0).f1)) := hcc28 1 _ rfl
            have hx28_2 : World.cell? _ ⟨go28, (0 : Int).toNat * 3 + 2, none⟩ = some (.string ((rd_T26 y513 0).f2)) := hcc28 2 _ rfl
            have hf28_0 : World.frozen? _ ⟨go28, (0 : Int).toNat * 3, none⟩ = false := hfr28 0
            have hf28_1 : World.frozen? _ ⟨go28, (0 : Int).toNat * 3 + 1, none⟩ = false := hfr28 1
            have hf28_2 : World.frozen? _ ⟨go28, (0 : Int).toNat * 3 + 2, none⟩ = false := hfr28 2
            clear hcl28 hcc28 hfr28 hM28
            (try rw [show ((0 : Int)).toNat = 0 from rfl] at hx28_0)
            (try simp only [Nat.reduceMul, Nat.zero_mul, Nat.zero_add, Nat.reduceAdd] at hx28_0)
            (try rw [show ((0 : Int)).toNat = 0 from rfl] at hf28_0)
            (try simp only [Nat.reduceMul, Nat.zero_mul, Nat.zero_add, Nat.reduceAdd] at hf28_0)
            (try rw [show ((0 : Int)).toNat = 0 from rfl] at hx28_1)
            (try simp only [Nat.reduceMul, Nat.zero_mul, Nat.zero_add, Nat.reduceAdd] at hx28_1)
            (try rw [show ((0 : Int)).toNat = 0 from rfl] at hf28_1)
            (try simp only [Nat.reduceMul, Nat.zero_mul, Nat.zero_add, Nat.reduceAdd] at hf28_1)
            (try rw [show ((0 : Int)).toNat = 0 from rfl] at hx28_2)
            (try simp only [Nat.reduceMul, Nat.zero_mul, Nat.zero_add, Nat.reduceAdd] at hx28_2)
            (try rw [show ((0 : Int)).toNat = 0 from rfl] at hf28_2)
            (try simp only [Nat.reduceMul, Nat.zero_mul, Nat.zero_add, Nat.reduceAdd] at hf28_2)
            replace p28 := eq_true p28
            replace q28 := eq_true q28
            have HN495_go28 := Aside0.mk (show g495 ≠ go28 from by have h_ := IsS112.own_ne HI495.out HO_7.out (by decide); intro e_; exact h_ (by rw [e_]; rfl))
            obtain ⟨ce38, hcl38, hM38, hcc38, hfr38⟩ := Kd.R_elem HO_7.out z26 (0 : Int) (by omega) (by have h_ : (0 : Int) < ((y513.length : Int) : Int) := od_; first | exact h_ | (have e_ := (Kd.R_reads' HO_7.out).1; omega) | simpa using h_)
            obtain rfl := k26_openM hM38
            have HP38 := (Kd.R_seg HO_7.out (0 : Int) (by omega) (by have h_ : (0 : Int) < ((y513.length : Int) : Int) := od_; first | exact h_ | (have e_ := (Kd.R_reads' HO_7.out).1; omega) | simpa using h_) (seg := [.string (((rd_T26 y513 0).f2) ++ t523)]) (j := 2) hcl38 hcc38 (show 3 ≤ 3 from by decide) (x' := (⟨(rd_T26 y513 0).f0, (rd_T26 y513 0).f1, ((rd_T26 y513 0).f2) ++ t523⟩ : S26)) (k26_mkM _ _ _ (⟨(rd_T26 y513 0).f0, (rd_T26 y513 0).f1, ((rd_T26 y513 0).f2) ++ t523⟩ : S26) ) (fun _ hk => hk)).1
            rw [← Ny526.out] at HP38
            have HQ38 := Aside0.mk HP38
            clear hcl38 hcc38 hfr38 hM38 HP38
            refine hK.out _ _ ⟨HS0_, HS1_, HS2_⟩ (fun hHeld => ?_)
            clear hK K
            refine norm_ (a' := ?_) ?_ ?_
            rotate_left
            ·show Act.put _ (some 38) _ = _
             simp only [Act.put, List.setIfInBounds_toArray, List.set_cons_zero, List.set_cons_succ, i64_w, i32_w]
             rfl
            refine pu_ (i := 7) (N := some 39) (fl 11 255) (any_of HT_.out (by kernel_rfl)) ?_
            refine pu_ (i := 8) (N := some 40) (fl 11 511) (any_of HT_.out (by kernel_rfl)) ?_
            refine pu_ (i := 9) (N := some 41) (fl 11 1023) (any_of HT_.out (by kernel_rfl)) ?_
            refine last_ (i := 10) (N := none) (fl 11 2047) rfl rfl (one_of HT_.out (by kernel_rfl)) (by decide) (fun K hK => ?_)
            refine skip_ (w1 := ?_) (by rfl) rfl ?_ ?_
            rotate_left
            ·go_simp
             rfl
            refine hK.out _ _ ?_
            clear hK K
            refine done_ (done_of HT_.out (by kernel_rfl)) ?_
            try go_wp2_with (first | ((with_reducible refine gate_callee (f := 75) rfl ?_); refine gl_ (some 43) Tryd.func75 #[.pointer (some ⟨g495, 0, none⟩), .int .i64 5] ?_; (with_reducible refine (spec_l00Src_one.calls g495 t492 t524 t525 5 true t528 t529 w _ ?side1 ?side2 A29.out).mono ?_); (case side1 => exact isk112_x17 HI495); (case side2 => exact bwi112_x17); rintro e w39 ⟨rfl, hi, hb, hk⟩; refine ⟨_, rfl, ?_⟩; replace HO_5 := Aside0.mk (Kd.R_mono (Kd.R_keep (IsS112.apart (show IsS112 w _ g495 t492 t524 t525 from by repeat (first | (with_reducible first | exact HI495.out | apply IsS112.alloc | apply IsS112.drewN | apply IsS112.drew | apply IsS112.set_1 | apply IsS112.set_2 | refine IsS112.far ?_ HN495_go28.out _) | exact HI495.out)) (by (with_reducible repeat (first | apply Kd.R_alloc | apply Kd.R_drewN | apply Kd.R_drew)); exact (Kd.R_mono (Kd.R_far (p := ⟨go28, 2, none⟩) (Kd.R_mono HO_5.out (fun k_ hk => (⟨hk, fun e_ => hk (by rw [e_]; rfl)⟩ : _ ∧ k_ ≠ go28))) (fun _ hk => hk.2) (.string (((rd_T26 y513 0).f2) ++ t523))) (fun _ h_ => h_.1))) (by decide)) hk (fun _ h => h.2)) (fun _ h => h.1)); replace HO_7 := Aside0.mk (Kd.R_mono (Kd.R_keep (IsS112.apart (show IsS112 w _ g495 t492 t524 t525 from by repeat (first | (with_reducible first | exact HI495.out | apply IsS112.alloc | apply IsS112.drewN | apply IsS112.drew | apply IsS112.set_1 | apply IsS112.set_2 | refine IsS112.far ?_ HN495_go28.out _) | exact HI495.out)) (by (with_reducible repeat (first | apply Kd.R_alloc | apply Kd.R_drewN | apply Kd.R_drew)); exact HQ38.out) (by decide)) hk (fun _ h => h.2)) (fun _ h => h.1)); replace HO522 := Aside0.mk (Kd.R_mono (Kd.R_keep (IsS112.apart (show IsS112 w _ g495 t492 t524 t525 from by repeat (first | (with_reducible first | exact HI495.out | apply IsS112.alloc | apply IsS112.drewN | apply IsS112.drew | apply IsS112.set_1 | apply IsS112.set_2 | refine IsS112.far ?_ HN495_go28.out _) | exact HI495.out)) (by (with_reducible repeat (first | apply Kd.R_alloc | apply Kd.R_drewN | apply Kd.R_drew)); exact (Kd.R_mono (Kd.R_far (p := ⟨go28, 2, none⟩) (Kd.R_types HO522.out GG28.out (by decide)) (fun _ hk => hk.2) (.string (((rd_T26 y513 0).f2) ++ t523))) (fun _ h_ => h_.1))) (by decide)) hk (fun _ h => h.2)) (fun _ h => h.1)); replace HB := Aside0.mk (hb); replace HI495 := Aside0.mk (hi); clear hb hk hi) | ((with_reducible refine gate_builtin (b := .append) (xs := #[.tmp 44, .tmp 46]) rfl ?_); at_builtin; refine Kd.R_append k26 (w0 := w) w.heap.size rfl (.tmp 44) (.tmp 46) 42 26 (.agg #[(.int .i64 0), (.string ⟨#[]⟩), (.string ⟨#[]⟩)]) 40 rfl Tryd.underlying42 info26 rfl (by decide) (by omega) (.slice (some ⟨go28, 0, none⟩) y513.length co33) y526 (⟨0, (⟨#[]⟩ : ByteArray), (⟨#[]⟩ : ByteArray)⟩ : S26) [.int .i64 0, .string (⟨#[]⟩ : ByteArray), .string (⟨#[]⟩ : ByteArray)] (fun k_ => some k_ ≠ (.slice Ao18 x5_1.length co18 : Value).ownBlock) (fun _ => False) rfl rfl ?aP (fun _ hk => hk.elim) ?aF ?aO ?aB ?aS ?aL ?_; (case aP => exact k26_mkM _ _ _ (⟨0, (⟨#[]⟩ : ByteArray), (⟨#[]⟩ : ByteArray)⟩ : S26)); (case aB => exact bwi112_x17); (case aF => exact (fun k_ hk => Kd.fresh' (Kd.R_lt (by (with_reducible repeat (first | apply Kd.R_alloc | apply Kd.R_drewN | apply Kd.R_drew)); exact HO_5.out)) k_ hk)); (case aO => exact (by (with_reducible repeat (first | apply Kd.R_alloc | apply Kd.R_drewN | apply Kd.R_drew)); exact HO_7.out)); (case aS => exact (below_size bwi112_x17)); (case aL => have := LMc31.out; omega); intro v531 w40 ho hb hg hat; rw [← Ny530.out] at ho; replace HO_5 := Aside0.mk (Kd.R_after (ok := (fun _ => True)) (by (with_reducible repeat (first | apply Kd.R_alloc | apply Kd.R_drewN | apply Kd.R_drew)); exact Kd.R_mono HO_5.out (fun _ hk => ⟨trivial, hk⟩)) hg hat); replace HI495 := Aside0.mk (IsS112.grown (isk112_x17 HI495) hg (IsS112.own_ne HI495.out HO_7.out (by decide))); replace HO522 := Aside0.mk (Kd.R_over' (by (with_reducible repeat (first | apply Kd.R_alloc | apply Kd.R_drewN | apply Kd.R_drew)); exact HO522.out) (Kd.R_typed (by (with_reducible repeat (first | apply Kd.R_alloc | apply Kd.R_drewN | apply Kd.R_drew)); exact HO_7.out)) (by decide) hg); replace HB := Aside0.mk (hb); have HO532 := Aside0.mk (ho); clear HO_7; clear ho hb hg hat))
            go_ret2
            exact ⟨_, _, by first | rfl | (simp [errW_none, errW_some] <;> rfl) | (simp [*, errW_none, errW_some] <;> rfl), by (with_reducible repeat (first | apply Kd.R_alloc | apply Kd.R_drewN | apply Kd.R_drew)); exact Kd.R_mono HO_5.out (fun _ hk => hk.2), by (with_reducible repeat (first | apply Kd.R_alloc | apply Kd.R_drewN | apply Kd.R_drew)); exact HO532.out, bwi112_x17⟩
           ·rw [if_neg c31] at H
            exact absurd H (by simp)
          ·replace c30 := Bool.eq_false_iff.mpr c30
           subst c30
           rw [if_neg (show ¬ (false = true) by decide)] at H
           simp only [Option.some.injEq, Prod.mk.injEq] at H
           obtain ⟨rfl, rfl⟩ := H
           try go_wp2
           replace HO_5 := Aside0.mk (Kd.R_drew HO_5.out)
           replace HO_7 := Aside0.mk (Kd.R_drew HO_7.out)
           replace HI495 := Aside0.mk (IsS112.drew HI495.out)
           replace HB := Aside0.mk (below_drew1 HB.out)
           obtain ⟨Ao42, co42, eo42⟩ := Kd.R_slice HO_7.out
           (first | subst eo42 | (injection eo42 with f1_ f2_ f3_; have f4_ := f1_.symm; have f5_ := f3_.symm; clear f1_ f2_ f3_; subst f4_; subst f5_))
           have p519 : 0 ≤ (0 : Int) := (by omega)
           have q519 : 0 < (y513.length : Int) := od_
           obtain ⟨ad519, e519, hx519_0, hx519_1, hx519_2⟩ := at_T26 (Kd.R_reads' HO_7.out).2.2 0 p519 q519
           cases e519
           have qi519 : (0 < y513.length) = True := eq_true (by omega)
           (try rw [show ((0 : Int)).toNat = 0 from rfl] at hx519_0)
           (try rw [show 0 * 3 = 0 from rfl] at hx519_0)
           (try rw [Addr.add_zero'] at hx519_0)
           (try rw [show ((0 : Int)).toNat = 0 from rfl] at hx519_1)
           (try rw [show 0 * 3 = 0 from rfl] at hx519_1)
           (try rw [Addr.add_zero'] at hx519_1)
           (try rw [show ((0 : Int)).toNat = 0 from rfl] at hx519_2)
           (try rw [show 0 * 3 = 0 from rfl] at hx519_2)
           (try rw [Addr.add_zero'] at hx519_2)
           replace p519 := eq_true p519
           replace q519 := eq_true q519
           refine start_ (n := 11) (S := fun w' => w'.cell? ad519 = some (.int .i64 ((rd_T26 y513 0).f0)) ∧ w'.cell? ⟨ad519.block, ad519.off + 1, none⟩ = some (.string ((rd_T26 y513 0).f1)) ∧ w'.cell? ⟨ad519.block, ad519.off + 2, none⟩ = some (.string ((rd_T26 y513 0).f2))) (ds := [10]) (fl 11 0) (by kernel_rfl) rfl rfl ⟨hx519_0, hx519_1, hx519_2⟩ (fun hHeld => ?_); refine with_tabW spec_DrawSameEntries.tab9 spec_DrawSameEntries.bits9 (fun HT_ HW_ => ?_)
           generalize wc.drew = w41 at HO_5 HO_7 HI495 HB hx519_0 hx519_1 hx519_2 hHeld ⊢
           refine pu_ (i := 0) (N := some 32) (fl 11 1) (any_of HT_.out (by kernel_rfl)) ?_
           refine pu_ (i := 1) (N := some 33) (fl 11 3) (any_of HT_.out (by kernel_rfl)) ?_
           refine pu_ (i := 2) (N := some 34) (fl 11 7) (any_of HT_.out (by kernel_rfl)) ?_
           refine pu_ (i := 4) (N := some 36) (fl 11 23) (any_of HT_.out (by kernel_rfl)) ?_
           refine take_ (i := 3) (N := some 35) (v := ?_) (a' := ?_) (fl 11 31) rfl rfl (take_ofW HT_.out HW_.out (by kernel_rfl)) (fun _ _ _ h => h) (Or.inl ⟨by rfl, ?_⟩) hHeld ?_ ?_
           rotate_left
           ·rintro w' ⟨s0, s1, s2⟩
            go_simp
            with_reducible rfl
           rotate_left
           ·simp only [Act.put, List.setIfInBounds_toArray, List.set_cons_zero, List.set_cons_succ, i64_w, i32_w]
            rfl
           refine one_ (i := 5) (N := some 37) (fl 11 63) rfl rfl (one_of HT_.out (by kernel_rfl)) (by decide) (fun K hK => ?_)
           refine Kd.R_lit_step Kd.string _ 9 ?hg (N := 37) ?hd (xs := ([(⟨#[]⟩ : ByteArray), (⟨#[120]⟩ : ByteArray)] : List ByteArray)) (inner := [.string (⟨#[]⟩ : ByteArray), .string (⟨#[120]⟩ : ByteArray)]) (ok := fun _ => True) (okp := fun _ => True) ?hr ?hp (fun _ hk => hk) trivial (Below.refl _ _) (Nat.le_refl _) (by simp) ?_; (case hd => rfl); (case hg => rfl); (case hr => first | (go_simp; done) | (go_simp; rfl)); (case hp => exact (Reps.one (show Kd.M Kd.string _ _ _ (⟨#[]⟩ : ByteArray) [.string (⟨#[]⟩ : ByteArray)] from rfl) (Reps.one (show Kd.M Kd.string _ _ _ (⟨#[120]⟩ : ByteArray) [.string (⟨#[120]⟩ : ByteArray)] from rfl) (Reps.none _ _))))
           intro v521 w43 ho44 hb hg_ hnew_
           have HS0_ := (hb.cell (World.block_lt_of_cell? _ _ (hHeld.1))).trans (hHeld.1)
           have HS1_ := (hb.cell (World.block_lt_of_cell? _ _ (hHeld.2.1))).trans (hHeld.2.1)
           have HS2_ := (hb.cell (World.block_lt_of_cell? _ _ (hHeld.2.2))).trans (hHeld.2.2)
           clear hg_ hnew_
           (first | rw [← Ny520.out] at ho44 | (simp only [Int.reduceToNat] at ho44; rw [← Ny520.out] at ho44))
           replace HO_5 := Aside0.mk (Kd.R_below (by (with_reducible repeat (first | apply Kd.R_alloc | apply Kd.R_drewN | apply Kd.R_drew)); exact HO_5.out) hb)
           replace HO_7 := Aside0.mk (Kd.R_below (by (with_reducible repeat (first | apply Kd.R_alloc | apply Kd.R_drewN | apply Kd.R_drew)); exact HO_7.out) hb)
           have HO522 := Aside0.mk (Kd.R_lower ho44 (below_size bwi112_x17))
           replace HB := Aside0.mk (below_step bwi112_x17 hb)
           replace HI495 := Aside0.mk (IsS112.below (isk112_x17 HI495) hb)
           clear hb ho44
           obtain ⟨Ao45, co45, eo45⟩ := Kd.R_slice HO522.out
           (first | subst eo45 | (injection eo45 with f1_ f2_ f3_; have f4_ := f1_.symm; have f5_ := f3_.symm; clear f1_ f2_ f3_; subst f4_; subst f5_))
           refine hK.out _ _ ⟨HS0_, HS1_, HS2_⟩ (fun hHeld => ?_)
           clear hK K
           refine norm_ (a' := ?_) ?_ ?_
           rotate_left
           ·show Act.put _ (some 37) _ = _
            simp only [Act.put, List.setIfInBounds_toArray, List.set_cons_zero, List.set_cons_succ, i64_w, i32_w]
            rfl
           refine one_ (i := 6) (N := some 38) (fl 11 127) rfl rfl (one_of HT_.out (by kernel_rfl)) (by decide) (fun K hK => ?_)
           refine goes_ Tryd.func82 (by kernel_rfl) rfl #[.pointer (some ⟨g495, 0, none⟩), .slice Ao45 y520.length co45] (by rfl) rfl rfl (by (try simp only [List.map_toArray, List.map_cons, List.map_nil]); first | done | rfl | (simp only [List.length_drop, List.length_take]; rfl) | (simp only [ByteArray.size_append, Int.natCast_add]; rfl)) ?_
           with_reducible refine (spec_l00Src_text.calls g495 t492 x496001_13 x496002_13 _ _ y520 t523 t524 t525 w _ ?side1 ?side2 ?side3 ?side4 ?side5 A26.out).mono ?_
           (case side1 => exact isk112_x17 HI495)
           (case side2 => exact bwi112_x17)
           (case side3 => repeat (first | exact (Kd.R_reads' HO522.out).2.2 | (with_reducible refine Kd.C_alloc ?_ _) | (with_reducible refine Kd.C_drewN ?_ _) | (with_reducible refine Kd.C_drew ?_)))
           (case side4 => exact (Kd.R_reads' HO522.out).2.1)
           (case side5 => exact far_slice (IsS112.own_ne HI495.out HO522.out (by decide)))
           rintro e w46 ⟨rfl, hi, hb, hk⟩
           have HS0_ := keep_cell hk (hHeld.1) (by first | (rw [add_block]; exact Kd.own_blk (IsS112.own_ne HI495.out HO_7.out (by decide))) | (show (Addr.add _ _).block ≠ _; rw [add_block]; exact Kd.own_blk (IsS112.own_ne HI495.out HO_7.out (by decide))) | exact Kd.own_blk (IsS112.own_ne HI495.out HO_7.out (by decide)))
           have HS1_ := keep_cell hk (hHeld.2.1) (by first | (show ad519.block ≠ _; exact Kd.own_blk (IsS112.own_ne HI495.out HO_7.out (by decide))) | (rw [add_block]; exact Kd.own_blk (IsS112.own_ne HI495.out HO_7.out (by decide))) | (show (Addr.add _ _).block ≠ _; rw [add_block]; exact Kd.own_blk (IsS112.own_ne HI495.out HO_7.out (by decide))) | exact Kd.own_blk (IsS112.own_ne HI495.out HO_7.out (by decide)))
           have HS2_ := keep_cell hk (hHeld.2.2) (by first | (show ad519.block ≠ _; exact Kd.own_blk (IsS112.own_ne HI495.out HO_7.out (by decide))) | (rw [add_block]; exact Kd.own_blk (IsS112.own_ne HI495.out HO_7.out (by decide))) | (show (Addr.add _ _).block ≠ _; rw [add_block]; exact Kd.own_blk (IsS112.own_ne HI495.out HO_7.out (by decide))) | exact Kd.own_blk (IsS112.own_ne HI495.out HO_7.out (by decide)))
           refine ⟨_, rfl, ?_⟩
           replace HO_5 := Aside0.mk (Kd.R_mono (Kd.R_keep (IsS112.apart (show IsS112 w _ g495 t492 x496001_13 x496002_13 from by repeat (first | (with_reducible first | exact HI495.out | apply IsS112.alloc | apply IsS112.drewN | apply IsS112.drew | apply IsS112.set_1 | apply IsS112.set_2) | exact HI495.out)) (by (with_reducible repeat (first | apply Kd.R_alloc | apply Kd.R_drewN | apply Kd.R_drew)); exact HO_5.out) (by decide)) hk (fun _ h => h.2)) (fun _ h => h.1))
           replace HO_7 := Aside0.mk (Kd.R_mono (Kd.R_keep (IsS112.apart (show IsS112 w _ g495 t492 x496001_13 x496002_13 from by repeat (first | (with_reducible first | exact HI495.out | apply IsS112.alloc | apply IsS112.drewN | apply IsS112.drew | apply IsS112.set_1 | apply IsS112.set_2) | exact HI495.out)) (by (with_reducible repeat (first | apply Kd.R_alloc | apply Kd.R_drewN | apply Kd.R_drew)); exact HO_7.out) (by decide)) hk (fun _ h => h.2)) (fun _ h => h.1))
           replace HO522 := Aside0.mk (Kd.R_mono (Kd.R_keep (IsS112.apart (show IsS112 w _ g495 t492 x496001_13 x496002_13 from by repeat (first | (with_reducible first | exact HI495.out | apply IsS112.alloc | apply IsS112.drewN | apply IsS112.drew | apply IsS112.set_1 | apply IsS112.set_2) | exact HI495.out)) (by (with_reducible repeat (first | apply Kd.R_alloc | apply Kd.R_drewN | apply Kd.R_drew)); exact HO522.out) (by decide)) hk (fun _ h => h.2)) (fun _ h => h.1))
           replace HB := Aside0.mk (hb)
           replace HI495 := Aside0.mk (hi)
           (try clear hb);(try clear hb2);(try clear hk);(try clear hi)
           have p28 : 0 ≤ (0 : Int) := (by omega)
           have q28 : (0 : Int) < ((y513.length : Int) : Int) := od_
           have qi28 : (0 < y513.length) = True := eq_true (by omega)
           obtain ⟨go28, co28, eo28, gb28, gl28, cl28, HG28⟩ := Kd.R_form HO_7.out (by omega)
           (first | cases eo28 | (injection eo28 with ea_ en_ ec_; (first | subst ea_ | (injection ea_ with ea_; subst ea_)); subst ec_; clear en_))
           have GB28 := Aside0.mk gb28
           have GG28 := Aside0.mk HG28
           clear gb28 gl28 HG28
           (first | simp only [add_plain] at hx519_0 | skip)
           (first | simp only [add_plain] at hx519_1 | skip)
           (first | simp only [add_plain] at hx519_2 | skip)
           obtain ⟨ce28, hcl28, hM28, hcc28, hfr28⟩ := Kd.R_elem HO_7.out z26 (0 : Int) p28 q28
           obtain rfl := k26_openM hM28
           have hx28_0 : World.cell? _ ⟨go28, (0 : Int).toNat * 3, none⟩ = some (.int .i64 ((rd_T26 y513 0).f0)) := hcc28 0 _ rfl
           have hx28_1 : World.cell? _ ⟨go28, (0 : Int).toNat * 3 + 1, none⟩ = some (.string ((rd_T26 y513 0).f1)) := hcc28 1 _ rfl
           have hx28_2 : World.cell? _ ⟨go28, (0 : Int).toNat * 3 + 2, none⟩ = some (.string ((rd_T26 y513 0).f2)) := hcc28 2 _ rfl
           have hf28_0 : World.frozen? _ ⟨go28, (0 : Int).toNat * 3, none⟩ = false := hfr28 0
           have hf28_1 : World.frozen? _ ⟨go28, (0 : Int).toNat * 3 + 1, none⟩ = false := hfr28 1
           have hf28_2 : World.frozen? _ ⟨go28, (0 : Int).toNat * 3 + 2, none⟩ = false := hfr28 2
           clear hcl28 hcc28 hfr28 hM28
           (try rw [show ((0 : Int)).toNat = 0 from rfl] at hx28_0)
           (try simp only [Nat.reduceMul, Nat.zero_mul, Nat.zero_add, Nat.reduceAdd] at hx28_0)
           (try rw [show ((0 : Int)).toNat = 0 from rfl] at hf28_0)
           (try simp only [Nat.reduceMul, Nat.zero_mul, Nat.zero_add, Nat.reduceAdd] at hf28_0)
           (try rw [show ((0 : Int)).toNat = 0 from rfl] at hx28_1)
           (try simp only [Nat.reduceMul, Nat.zero_mul, Nat.zero_add, Nat.reduceAdd] at hx28_1)
           (try rw [show ((0 : Int)).toNat = 0 from rfl] at hf28_1)
           (try simp only [Nat.reduceMul, Nat.zero_mul, Nat.zero_add, Nat.reduceAdd] at hf28_1)
           (try rw [show ((0 : Int)).toNat = 0 from rfl] at hx28_2)
           (try simp only [Nat.reduceMul, Nat.zero_mul, Nat.zero_add, Nat.reduceAdd] at hx28_2)
           (try rw [show ((0 : Int)).toNat = 0 from rfl] at hf28_2)
           (try simp only [Nat.reduceMul, Nat.zero_mul, Nat.zero_add, Nat.reduceAdd] at hf28_2)
           replace p28 := eq_true p28
           replace q28 := eq_true q28
           have HN495_go28 := Aside0.mk (show g495 ≠ go28 from by have h_ := IsS112.own_ne HI495.out HO_7.out (by decide); intro e_; exact h_ (by rw [e_]; rfl))
           obtain ⟨ce47, hcl47, hM47, hcc47, hfr47⟩ := Kd.R_elem HO_7.out z26 (0 : Int) (by omega) (by have h_ : (0 : Int) < ((y513.length : Int) : Int) := od_; first | exact h_ | (have e_ := (Kd.R_reads' HO_7.out).1; omega) | simpa using h_)
           obtain rfl := k26_openM hM47
           have HP47 := (Kd.R_seg HO_7.out (0 : Int) (by omega) (by have h_ : (0 : Int) < ((y513.length : Int) : Int) := od_; first | exact h_ | (have e_ := (Kd.R_reads' HO_7.out).1; omega) | simpa using h_) (seg := [.string (((rd_T26 y513 0).f2) ++ t523)]) (j := 2) hcl47 hcc47 (show 3 ≤ 3 from by decide) (x' := (⟨(rd_T26 y513 0).f0, (rd_T26 y513 0).f1, ((rd_T26 y513 0).f2) ++ t523⟩ : S26)) (k26_mkM _ _ _ (⟨(rd_T26 y513 0).f0, (rd_T26 y513 0).f1, ((rd_T26 y513 0).f2) ++ t523⟩ : S26) ) (fun _ hk => hk)).1
           rw [← Ny526.out] at HP47
           have HQ47 := Aside0.mk HP47
           clear hcl47 hcc47 hfr47 hM47 HP47
           refine hK.out _ _ ⟨HS0_, HS1_, HS2_⟩ (fun hHeld => ?_)
           clear hK K
           refine norm_ (a' := ?_) ?_ ?_
           rotate_left
           ·show Act.put _ (some 38) _ = _
            simp only [Act.put, List.setIfInBounds_toArray, List.set_cons_zero, List.set_cons_succ, i64_w, i32_w]
            rfl
           refine pu_ (i := 7) (N := some 39) (fl 11 255) (any_of HT_.out (by kernel_rfl)) ?_
           refine pu_ (i := 8) (N := some 40) (fl 11 511) (any_of HT_.out (by kernel_rfl)) ?_
           refine pu_ (i := 9) (N := some 41) (fl 11 1023) (any_of HT_.out (by kernel_rfl)) ?_
           refine last_ (i := 10) (N := none) (fl 11 2047) rfl rfl (one_of HT_.out (by kernel_rfl)) (by decide) (fun K hK => ?_)
           refine skip_ (w1 := ?_) (by rfl) rfl ?_ ?_
           rotate_left
           ·go_simp
            rfl
           refine hK.out _ _ ?_
           clear hK K
           refine done_ (done_of HT_.out (by kernel_rfl)) ?_
           try go_wp2_with (first | ((with_reducible refine gate_callee (f := 75) rfl ?_); refine gl_ (some 43) Tryd.func75 #[.pointer (some ⟨g495, 0, none⟩), .int .i64 5] ?_; (with_reducible refine (spec_l00Src_one.calls g495 t492 t524 t525 5 false t528 t529 w _ ?side1 ?side2 A29.out).mono ?_); (case side1 => exact isk112_x17 HI495); (case side2 => exact bwi112_x17); rintro e w48 ⟨rfl, hi, hb, hk⟩; refine ⟨_, rfl, ?_⟩; replace HO_5 := Aside0.mk (Kd.R_mono (Kd.R_keep (IsS112.apart (show IsS112 w _ g495 t492 t524 t525 from by repeat (first | (with_reducible first | exact HI495.out | apply IsS112.alloc | apply IsS112.drewN | apply IsS112.drew | apply IsS112.set_1 | apply IsS112.set_2 | refine IsS112.far ?_ HN495_go28.out _) | exact HI495.out)) (by (with_reducible repeat (first | apply Kd.R_alloc | apply Kd.R_drewN | apply Kd.R_drew)); exact (Kd.R_mono (Kd.R_far (p := ⟨go28, 2, none⟩) (Kd.R_mono HO_5.out (fun k_ hk => (⟨hk, fun e_ => hk (by rw [e_]; rfl)⟩ : _ ∧ k_ ≠ go28))) (fun _ hk => hk.2) (.string (((rd_T26 y513 0).f2) ++ t523))) (fun _ h_ => h_.1))) (by decide)) hk (fun _ h => h.2)) (fun _ h => h.1)); replace HO_7 := Aside0.mk (Kd.R_mono (Kd.R_keep (IsS112.apart (show IsS112 w _ g495 t492 t524 t525 from by repeat (first | (with_reducible first | exact HI495.out | apply IsS112.alloc | apply IsS112.drewN | apply IsS112.drew | apply IsS112.set_1 | apply IsS112.set_2 | refine IsS112.far ?_ HN495_go28.out _) | exact HI495.out)) (by (with_reducible repeat (first | apply Kd.R_alloc | apply Kd.R_drewN | apply Kd.R_drew)); exact HQ47.out) (by decide)) hk (fun _ h => h.2)) (fun _ h => h.1)); replace HO522 := Aside0.mk (Kd.R_mono (Kd.R_keep (IsS112.apart (show IsS112 w _ g495 t492 t524 t525 from by repeat (first | (with_reducible first | exact HI495.out | apply IsS112.alloc | apply IsS112.drewN | apply IsS112.drew | apply IsS112.set_1 | apply IsS112.set_2 | refine IsS112.far ?_ HN495_go28.out _) | exact HI495.out)) (by (with_reducible repeat (first | apply Kd.R_alloc | apply Kd.R_drewN | apply Kd.R_drew)); exact (Kd.R_mono (Kd.R_far (p := ⟨go28, 2, none⟩) (Kd.R_types HO522.out GG28.out (by decide)) (fun _ hk => hk.2) (.string (((rd_T26 y513 0).f2) ++ t523))) (fun _ h_ => h_.1))) (by decide)) hk (fun _ h => h.2)) (fun _ h => h.1)); replace HB := Aside0.mk (hb); replace HI495 := Aside0.mk (hi); clear hb hk hi))
           go_ret2
           exact ⟨_, _, by first | rfl | (simp [errW_none, errW_some] <;> rfl) | (simp [*, errW_none, errW_some] <;> rfl), by (with_reducible repeat (first | apply Kd.R_alloc | apply Kd.R_drewN | apply Kd.R_drew)); exact HO_5.out, by (with_reducible repeat (first | apply Kd.R_alloc | apply Kd.R_drewN | apply Kd.R_drew)); exact HO_7.out, bwi112_x17⟩
         ·rw [if_neg c27] at H
          exact absurd H (by simp)
        ·rw [if_neg c25] at H
         exact absurd H (by simp)
       ·replace c24 := Bool.eq_false_iff.mpr c24
        subst c24
        rw [if_neg (show ¬ (false = true) by decide)] at H
        replace H := Option.bind_eq_some_iff.mp H
        obtain ⟨⟨t533, t534, t535⟩, A490, H⟩ := H
        (try dsimp only at H)
        have A49 := Aside0.mk A490
        clear A490
        by_cases c50 : t533 = true
        ·subst c50
         rw [if_pos rfl] at H
         by_cases c51 : y513.length < 3518437208883
         ·rw [if_pos c51] at H
          have LMc51 := Aside0.mk c51
          clear c51
          obtain ⟨y536, hy536⟩ : ∃ y_ : List (S26), y_ = (y513 ++ [(⟨0, (⟨#[]⟩ : ByteArray), (⟨#[]⟩ : ByteArray)⟩ : S26)]) := ⟨_, rfl⟩
          replace H : (some (x5_1, y536)) = some (r1, r2) := by first | (rw [hy536]; with_reducible exact H) | (have H2_ := (Option.bind_some _ _).symm.trans H; rw [hy536]; with_reducible exact H2_) | (have H2_ := (Option.bind_some _ _).symm.trans H; with_reducible exact H2_) | with_reducible exact H | (rw [hy536]; exact H) | exact H
          have Ny536 := Aside0.mk hy536
          clear hy536
          simp only [Option.some.injEq, Prod.mk.injEq] at H
          obtain ⟨rfl, rfl⟩ := H
          go_wp2_with (first | ((with_reducible refine gate_callee (f := 75) rfl ?_); refine gl_ (some 43) Tryd.func75 #[.pointer (some ⟨g495, 0, none⟩), .int .i64 5] ?_; (with_reducible refine (spec_l00Src_one.calls g495 t492 x496001_13 x496002_13 5 true t534 t535 w _ ?side1 ?side2 A49.out).mono ?_); (case side1 => exact isk112_x17 HI495); (case side2 => exact bwi112_x17); rintro e w52 ⟨rfl, hi, hb, hk⟩; refine ⟨_, rfl, ?_⟩; replace HO_5 := Aside0.mk (Kd.R_mono (Kd.R_keep (IsS112.apart (show IsS112 w _ g495 t492 x496001_13 x496002_13 from by repeat (first | (with_reducible first | exact HI495.out | apply IsS112.alloc | apply IsS112.drewN | apply IsS112.drew | apply IsS112.set_1 | apply IsS112.set_2) | exact HI495.out)) (by (with_reducible repeat (first | apply Kd.R_alloc | apply Kd.R_drewN | apply Kd.R_drew)); exact HO_5.out) (by decide)) hk (fun _ h => h.2)) (fun _ h => h.1)); replace HO_7 := Aside0.mk (Kd.R_mono (Kd.R_keep (IsS112.apart (show IsS112 w _ g495 t492 x496001_13 x496002_13 from by repeat (first | (with_reducible first | exact HI495.out | apply IsS112.alloc | apply IsS112.drewN | apply IsS112.drew | apply IsS112.set_1 | apply IsS112.set_2) | exact HI495.out)) (by (with_reducible repeat (first | apply Kd.R_alloc | apply Kd.R_drewN | apply Kd.R_drew)); exact HO_7.out) (by decide)) hk (fun _ h => h.2)) (fun _ h => h.1)); replace HB := Aside0.mk (hb); replace HI495 := Aside0.mk (hi); clear hb hk hi) | ((with_reducible refine gate_builtin (b := .append) (xs := #[.tmp 44, .tmp 46]) rfl ?_); at_builtin; refine Kd.R_append k26 (w0 := w) w.heap.size rfl (.tmp 44) (.tmp 46) 42 26 (.agg #[(.int .i64 0), (.string ⟨#[]⟩), (.string ⟨#[]⟩)]) 40 rfl Tryd.underlying42 info26 rfl (by decide) (by omega) v514 y513 (⟨0, (⟨#[]⟩ : ByteArray), (⟨#[]⟩ : ByteArray)⟩ : S26) [.int .i64 0, .string (⟨#[]⟩ : ByteArray), .string (⟨#[]⟩ : ByteArray)] (fun k_ => some k_ ≠ (.slice Ao18 x5_1.length co18 : Value).ownBlock) (fun _ => False) rfl rfl ?aP (fun _ hk => hk.elim) ?aF ?aO ?aB ?aS ?aL ?_; (case aP => exact k26_mkM _ _ _ (⟨0, (⟨#[]⟩ : ByteArray), (⟨#[]⟩ : ByteArray)⟩ : S26)); (case aB => exact bwi112_x17); (case aF => exact (fun k_ hk => Kd.fresh' (Kd.R_lt (by (with_reducible repeat (first | apply Kd.R_alloc | apply Kd.R_drewN | apply Kd.R_drew)); exact HO_5.out)) k_ hk)); (case aO => exact (by (with_reducible repeat (first | apply Kd.R_alloc | apply Kd.R_drewN | apply Kd.R_drew)); exact HO_7.out)); (case aS => exact (below_size bwi112_x17)); (case aL => have := LMc51.out; omega); intro v537 w53 ho hb hg hat; rw [← Ny536.out] at ho; replace HO_5 := Aside0.mk (Kd.R_after (ok := (fun _ => True)) (by (with_reducible repeat (first | apply Kd.R_alloc | apply Kd.R_drewN | apply Kd.R_drew)); exact Kd.R_mono HO_5.out (fun _ hk => ⟨trivial, hk⟩)) hg hat); replace HI495 := Aside0.mk (IsS112.grown (isk112_x17 HI495) hg (IsS112.own_ne HI495.out HO_7.out (by decide))); replace HB := Aside0.mk (hb); have HO538 := Aside0.mk (ho); clear HO_7; clear ho hb hg hat))
          go_ret2
          exact ⟨_, _, by first | rfl | (simp [errW_none, errW_some] <;> rfl) | (simp [*, errW_none, errW_some] <;> rfl), by (with_reducible repeat (first | apply Kd.R_alloc | apply Kd.R_drewN | apply Kd.R_drew)); exact Kd.R_mono HO_5.out (fun _ hk => hk.2), by (with_reducible repeat (first | apply Kd.R_alloc | apply Kd.R_drewN | apply Kd.R_drew)); exact HO538.out, bwi112_x17⟩
         ·rw [if_neg c51] at H
          exact absurd H (by simp)
        ·replace c50 := Bool.eq_false_iff.mpr c50
         subst c50
         rw [if_neg (show ¬ (false = true) by decide)] at H
         simp only [Option.some.injEq, Prod.mk.injEq] at H
         obtain ⟨rfl, rfl⟩ := H
         go_wp2_with (first | ((with_reducible refine gate_callee (f := 75) rfl ?_); refine gl_ (some 43) Tryd.func75 #[.pointer (some ⟨g495, 0, none⟩), .int .i64 5] ?_; (with_reducible refine (spec_l00Src_one.calls g495 t492 x496001_13 x496002_13 5 false t534 t535 w _ ?side1 ?side2 A49.out).mono ?_); (case side1 => exact isk112_x17 HI495); (case side2 => exact bwi112_x17); rintro e w54 ⟨rfl, hi, hb, hk⟩; refine ⟨_, rfl, ?_⟩; replace HO_5 := Aside0.mk (Kd.R_mono (Kd.R_keep (IsS112.apart (show IsS112 w _ g495 t492 x496001_13 x496002_13 from by repeat (first | (with_reducible first | exact HI495.out | apply IsS112.alloc | apply IsS112.drewN | apply IsS112.drew | apply IsS112.set_1 | apply IsS112.set_2) | exact HI495.out)) (by (with_reducible repeat (first | apply Kd.R_alloc | apply Kd.R_drewN | apply Kd.R_drew)); exact HO_5.out) (by decide)) hk (fun _ h => h.2)) (fun _ h => h.1)); replace HO_7 := Aside0.mk (Kd.R_mono (Kd.R_keep (IsS112.apart (show IsS112 w _ g495 t492 x496001_13 x496002_13 from by repeat (first | (with_reducible first | exact HI495.out | apply IsS112.alloc | apply IsS112.drewN | apply IsS112.drew | apply IsS112.set_1 | apply IsS112.set_2) | exact HI495.out)) (by (with_reducible repeat (first | apply Kd.R_alloc | apply Kd.R_drewN | apply Kd.R_drew)); exact HO_7.out) (by decide)) hk (fun _ h => h.2)) (fun _ h => h.1)); replace HB := Aside0.mk (hb); replace HI495 := Aside0.mk (hi); clear hb hk hi))
         go_ret2
         exact ⟨_, _, by first | rfl | (simp [errW_none, errW_some] <;> rfl) | (simp [*, errW_none, errW_some] <;> rfl), by (with_reducible repeat (first | apply Kd.R_alloc | apply Kd.R_drewN | apply Kd.R_drew)); exact HO_5.out, by (with_reducible repeat (first | apply Kd.R_alloc | apply Kd.R_drewN | apply Kd.R_drew)); exact HO_7.out, bwi112_x17⟩
    ·rw [if_neg c13] at H
     exact absurd H (by simp)
def spec_l00Src_word.l0 : Nat → List Int → Int → List Int → Int → Int → Option (ByteArray × Int × Int)
 | 0, _, _, _, _, _ => none
 | k + 1, x5, x6, x1000, x1001, x1002 => if x6 > 0 then ((spec_l00Src_next.f x1000 x1001 x1002).bind fun bt545 => (if x5.length < 140737488355328 then (spec_l00Src_word.l0 k (x5 ++ [(bt545.1) % 256]) (wrap64 (x6 - 1)) x1000 bt545.2.1 bt545.2.2) else (none))) else (some (strOfNums x5, x1001, x1002))
def spec_l00Src_word.f (k : Nat) (s0_0 : List Int) (s0_1 : Int) (s0_2 : Int) (a1 : Int) : Option (ByteArray × Int × Int) := (spec_l00Src_pick.f s0_0 s0_1 s0_2 a1).bind fun bt542 => (spec_l00Src_word.l0 k (([] : List Int)) bt542.1 s0_0 bt542.2.1 bt542.2.2)
theorem spec_l00Src_word.mono_l : ∀ k, (∀ y0 y1 y2 y3 y4, LeO (spec_l00Src_word.l0 k y0 y1 y2 y3 y4) (spec_l00Src_word.l0 (k + 1) y0 y1 y2 y3 y4))
 | 0 => fun _ _ _ _ _ r h => by simp [spec_l00Src_word.l0] at h
 | k + 1 => by
  have ih0 := spec_l00Src_word.mono_l k
  ·intro y0 y1 y2 y3 y4
   unfold spec_l00Src_word.l0
   repeat' first
   | (with_reducible exact ih0 _ _ _ _ _)
   | (with_reducible exact LeO.refl _)
   | (with_reducible exact LeO.none _)
   | (with_reducible refine LeO.ite ?_ ?_)
   | (with_reducible refine LeO.bind ?_ (fun _ => ?_))
   | exact ih0 _ _ _ _ _
   | exact LeO.none _
   | refine LeO.ite ?_ ?_
   | refine LeO.bind ?_ (fun _ => ?_)
theorem spec_l00Src_word.mono : ∀ a0 a1 a2 a3 k, LeO (spec_l00Src_word.f k a0 a1 a2 a3) (spec_l00Src_word.f (k + 1) a0 a1 a2 a3) := by
 intro a0 a1 a2 a3 k
 have ih0 := spec_l00Src_word.mono_l k
 unfold spec_l00Src_word.f
 repeat' first
   | (with_reducible exact ih0 _ _ _ _ _)
   | (with_reducible exact LeO.refl _)
   | (with_reducible exact LeO.none _)
   | (with_reducible refine LeO.ite ?_ ?_)
   | (with_reducible refine LeO.bind ?_ (fun _ => ?_))
   | exact ih0 _ _ _ _ _
   | exact LeO.none _
   | refine LeO.ite ?_ ?_
   | refine LeO.bind ?_ (fun _ => ?_)
set_option maxHeartbeats 8000000 in
set_option maxRecDepth 100000 in
theorem spec_l00Src_word.calls (k : Nat) (g : Nat) (s0_0 : List Int) (s0_1 : Int) (s0_2 : Int) (a1 : Int) (r1 : ByteArray) (r2 : Int) (r3 : Int) (w0 w : World) (hI : IsS112 w0 w g s0_0 s0_1 s0_2) (hB : Below w0.heap.size w0 w) (h : spec_l00Src_word.f k s0_0 s0_1 s0_2 a1 = some (r1, r2, r3)) :
  Calls Tryd.prog 83 #[.pointer (some ⟨g, 0, none⟩), .int .i64 a1] w fun e w' => e = .returned (.string r1) ∧ IsS112 w0 w' g s0_0 r2 r3 ∧ Below w0.heap.size w0 w' ∧ KeepBut w w' g none := by
 have HI0 := Aside0.mk hI
 have HK := Aside0.mk (KeepBut.refl w g none)
 have HL := Aside0.mk hB.size
 clear hI
 have HW0 := Aside0.mk hB.size
 have HB := Aside0.mk hB
 clear hB
 have H : ((spec_l00Src_pick.f s0_0 s0_1 s0_2 a1).bind fun bt542 => (spec_l00Src_word.l0 k (([] : List Int)) bt542.1 s0_0 bt542.2.1 bt542.2.2)) = some (r1, r2, r3) := h
 clear h
 obtain ⟨y539, hy539⟩ : ∃ y_ : List Int, y_ = (([] : List Int)) := ⟨_, rfl⟩
 replace H : ((spec_l00Src_pick.f s0_0 s0_1 s0_2 a1).bind fun bt542 => (spec_l00Src_word.l0 k y539 bt542.1 s0_0 bt542.2.1 bt542.2.2)) = some (r1, r2, r3) := by first | (rw [hy539]; with_reducible exact H) | (have H2_ := (Option.bind_some _ _).symm.trans H; rw [hy539]; with_reducible exact H2_) | (have H2_ := (Option.bind_some _ _).symm.trans H; with_reducible exact H2_) | with_reducible exact H | (rw [hy539]; exact H) | exact H
 have Ny539 := Aside0.mk hy539
 clear hy539
 replace H := Option.bind_eq_some_iff.mp H
 obtain ⟨⟨t542, t543, t544⟩, A30, H⟩ := H
 (try dsimp only at H)
 have A3 := Aside0.mk A30
 clear A30
 have H' := Aside0.mk H
 clear H
 go_enter Tryd.func83, Tryd.ntmps83
 go_wp2_with (first | ((with_reducible refine gate_dst (N := 7) rfl ?_); refine Kd.R_lit (Kd.int .u8) _ 5 ?hg (N := 7) ?hd (xs := ([] : List Int)) (inner := []) (ok := fun _ => True) (okp := fun _ => True) ?hr ?hp (fun _ hk => hk) trivial (Below.refl _ _) (Nat.le_refl _) (by simp) ?_; (case hd => rfl); (case hg => rfl); (case hr => first | (go_simp; done) | (go_simp; rfl)); (case hp => exact (Reps.none _ _)); intro v540 w4 ho5 hb hg_ hnew_; clear hg_ hnew_; (first | rw [← Ny539.out] at ho5 | (simp only [Int.reduceToNat] at ho5; rw [← Ny539.out] at ho5)); have HO541 := Aside0.mk (Kd.R_lower ho5 (keep_size (w := w) (g := g) (row := none) (kbl_ HK))); replace HK := Aside0.mk (KeepBut.trans (kbl_ HK) (KeepBut.of_below hb g none) (.inl rfl)); replace HB := Aside0.mk (below_step bwi112_x17 hb); replace HI0 := Aside0.mk (IsS112.below (isk112_x17 HI0) hb); clear hb ho5) | ((with_reducible refine gate_callee (f := 77) rfl ?_); refine gl_ (some 10) Tryd.func77 #[.pointer (some ⟨g, 0, none⟩), .int .i64 a1] ?_; (with_reducible refine (spec_l00Src_pick.calls g s0_0 s0_1 s0_2 a1 t542 t543 t544 w0 _ ?side1 ?side2 A3.out).mono ?_); (case side1 => exact isk112_x17 HI0); (case side2 => exact bwi112_x17); rintro e w6 ⟨rfl, hi, hb, hk⟩; refine ⟨_, rfl, ?_⟩; replace HO541 := Aside0.mk (Kd.R_mono (Kd.R_keep (IsS112.apart (show IsS112 w0 _ g s0_0 s0_1 s0_2 from by repeat (first | (with_reducible first | exact HI0.out | apply IsS112.alloc | apply IsS112.drewN | apply IsS112.drew | apply IsS112.set_1 | apply IsS112.set_2) | exact HI0.out)) (by (with_reducible repeat (first | apply Kd.R_alloc | apply Kd.R_drewN | apply Kd.R_drew)); exact HO541.out) (by decide)) hk (fun _ h => h.2)) (fun _ h => h.1)); replace HK := Aside0.mk (KeepBut.trans (kbl_ HK) hk (.inl rfl)); replace HB := Aside0.mk (hb); replace HI0 := Aside0.mk (hi); clear hb hk hi))
 go_loopg [5, 6] k (fun kq v5 v6 w' => ∃ (x5_1 : List Int) (x6_1 : Int) (x1001_1 : Int) (x1002_1 : Int), v6 = .int .i64 x6_1 ∧ Aside0 (spec_l00Src_word.l0 kq x5_1 x6_1 s0_0 x1001_1 x1002_1 = some (r1, r2, r3)) ∧ Aside0 (kq ≤ k) ∧ Aside0 (Kd.R (Kd.int .u8) 5 w' w.heap.size (fun _ => True) v5 x5_1) ∧ Aside0 (IsS112 w0 w' g s0_0 x1001_1 x1002_1) ∧ Aside0 (KeepBut w w' g none) ∧ Aside0 (Below w0.heap.size w0 w'))
 case atStart => exact ⟨(y539), (t542), (t543), (t544), (by first | rfl | (simp; done) | (simp [*]; done)), H', ⟨Nat.le_refl _⟩, ⟨by (with_reducible repeat (first | apply Kd.R_alloc | apply Kd.R_drewN | apply Kd.R_drew)); exact HO541.out⟩, ⟨isk112_x17 HI0⟩, ⟨kbl_ HK⟩, ⟨bwi112_x17⟩⟩
 case round =>
  clear H'
  obtain ⟨x5_1, x6_1, x1001_1, x1002_1, rfl, HA, HK1, HO_5, HI0, HK, HB⟩ := hrel
  cases gk with
  | zero => exact absurd HA.out (by simp [spec_l00Src_word.l0])
  | succ k1 =>
   have H := HA.out
   clear HA
   simp only [spec_l00Src_word.l0] at H
   by_cases c7 : x6_1 > 0
   ·rw [if_pos c7] at H
    have c7b0 : decide (0 < x6_1) = true := decide_eq_true c7
    clear c7
    replace H := Option.bind_eq_some_iff.mp H
    obtain ⟨⟨t545, t546, t547⟩, A80, H⟩ := H
    (try dsimp only at H)
    have A8 := Aside0.mk A80
    clear A80
    by_cases c9 : x5_1.length < 140737488355328
    ·rw [if_pos c9] at H
     have LMc9 := Aside0.mk c9
     clear c9
     obtain ⟨y548, hy548⟩ : ∃ y_ : List Int, y_ = (x5_1 ++ [(t545) % 256]) := ⟨_, rfl⟩
     replace H : (spec_l00Src_word.l0 k1 y548 (wrap64 (x6_1 - 1)) s0_0 t546 t547) = some (r1, r2, r3) := by first | (rw [hy548]; with_reducible exact H) | (have H2_ := (Option.bind_some _ _).symm.trans H; rw [hy548]; with_reducible exact H2_) | (have H2_ := (Option.bind_some _ _).symm.trans H; with_reducible exact H2_) | with_reducible exact H | (rw [hy548]; exact H) | exact H
     have Ny548 := Aside0.mk hy548
     clear hy548
     have H' := Aside0.mk H
     clear H
     go_wp2_with (first | ((with_reducible refine gate_callee (f := 95) rfl ?_); refine gl_ (some 17) Tryd.func95 #[.pointer (some ⟨g, 0, none⟩)] ?_; (with_reducible refine (spec_l00Src_next.calls g s0_0 x1001_1 x1002_1 t545 t546 t547 w0 _ ?side1 ?side2 A8.out).mono ?_); (case side1 => exact isk112_x17 HI0); (case side2 => exact bwi112_x17); rintro e w10 ⟨rfl, hi, hb, hk⟩; refine ⟨_, rfl, ?_⟩; replace HO_5 := Aside0.mk (Kd.R_mono (Kd.R_keep (IsS112.apart (show IsS112 w0 _ g s0_0 x1001_1 x1002_1 from by repeat (first | (with_reducible first | exact HI0.out | apply IsS112.alloc | apply IsS112.drewN | apply IsS112.drew | apply IsS112.set_1 | apply IsS112.set_2) | exact HI0.out)) (by (with_reducible repeat (first | apply Kd.R_alloc | apply Kd.R_drewN | apply Kd.R_drew)); exact HO_5.out) (by decide)) hk (fun _ h => h.2)) (fun _ h => h.1)); replace HK := Aside0.mk (KeepBut.trans (kbl_ HK) hk (.inl rfl)); replace HB := Aside0.mk (hb); replace HI0 := Aside0.mk (hi); clear hb hk hi) | ((with_reducible refine gate_builtin (b := .append) (xs := #[.tmp 15, .tmp 19]) rfl ?_); at_builtin; refine Kd.R_append (Kd.int .u8) w.heap.size rfl (.tmp 15) (.tmp 19) 56 5 (.int .u8 0) 1 rfl Tryd.underlying56 info5 rfl (by decide) (by omega) u5 x5_1 ((t545) % 256) [.int .u8 ((t545) % 256)] (fun _ => True) (fun _ => False) rfl rfl ?aP (fun _ hk => hk.elim) ?aF ?aO (Below.refl _ _) ?aS ?aL ?_; (case aP => exact rfl); (case aF => exact (fun _ _ => trivial)); (case aO => exact (by (with_reducible repeat (first | apply Kd.R_alloc | apply Kd.R_drewN | apply Kd.R_drew)); exact HO_5.out)); (case aS => exact (keep_size (w := w) (g := g) (row := none) (kbl_ HK))); (case aL => have := LMc9.out; omega); intro v549 w11 ho hb hg hat; rw [← Ny548.out] at ho; replace HB := Aside0.mk (below_weaken bwi112_x17 HL.out hb); replace HI0 := Aside0.mk (IsS112.grown (isk112_x17 HI0) hg (IsS112.own_ne HI0.out HO_5.out (by decide))); replace HK := Aside0.mk (KeepBut.trans (kbl_ HK) (KeepBut.of_grown hg g) (Kd.R_base2 HO_5.out)); have HO550 := Aside0.mk (ho); clear HO_5; clear ho hb hg hat))
     go_roundg k1
     case measure => have := HK1.out; omega
     case rel => exact ⟨(y548), (wrap64 (x6_1 - 1)), (t546), (t547), (by first | rfl | (simp; done) | (simp [*]; done)), H', ⟨by have := HK1.out; omega⟩, ⟨by (with_reducible repeat (first | apply Kd.R_alloc | apply Kd.R_drewN | apply Kd.R_drew)); exact HO550.out⟩, ⟨isk112_x17 HI0⟩, ⟨kbl_ HK⟩, ⟨bwi112_x17⟩⟩
    ·rw [if_neg c9] at H
     exact absurd H (by simp)
   ·rw [if_neg c7] at H
    have c7b0 : decide (0 < x6_1) = false := decide_eq_false c7
    clear c7
    simp only [Option.some.injEq, Prod.mk.injEq] at H
    obtain ⟨rfl, rfl, rfl⟩ := H
    have hcv12 := own_string (P := Tryd.prog) Tryd.underlying56 Tryd.underlying5 Tryd.underlying9 (Kd.own_of_R HO_5.out)
    go_wp2
    go_ret
    exact ⟨rr_, isk112_x17 HI0, bwi112_x17, kbl_ HK⟩
end Go.Proofs.YtlcgonaapmmnkaaDoor.QFnLogs
