import Derived.Test.YtlcgonaapmmnkaaDoorSq
import Derived.Test.YtlcgonaapmmnkaaDoorQFnLogsx0
import Derived.Test.YtlcgonaapmmnkaaDoorQFnLogsx12
import Derived.Test.YtlcgonaapmmnkaaDoorQFnLogsx13
namespace Go.Proofs.YtlcgonaapmmnkaaDoor.QFnLogs
open Sq (fl pu_ gl_ b20_ b21_ b30_ b31_ b32_ od_ rr_ be_)
open Base (bwl_ bst_ bsz_ bkb_ nbl_ nbr_ kbl_ bkm_)
open Go.RowKit Go.Proofs.YtlcgonaapmmnkaaDoorW.PrintWords Go.Proofs.YtlcgonaapmmnkaaDoorW.PrintLast Go.Proofs.YtlcgonaapmmnkaaDoorW.PrintMore
attribute [local go_sem] max2_int min2_int max_two min_two max_three min_three max_four min_four
set_option linter.unusedVariables false
set_option linter.unusedSimpArgs false
theorem isk112_x16 {P Q : Prop} (h : Aside0 P) (k : P → Q := by (intro h; repeat (first | (with_reducible first | exact h | apply IsS112.alloc | apply IsS112.drew | apply IsS112.drewN | apply IsS112.set_1 | apply IsS112.set_2 | refine IsS112.far ?_ (Aside0.out (by assumption)) _) | exact h))) : Q := k h.out
theorem bwi112_x16 {w W : World} (h : Below w.heap.size w W := by repeat (first | (with_reducible first | exact HB.out | apply below_alloc | apply pw_below_drewN | apply below_drew1 | refine below_set ?_ (Aside0.out (by assumption)) | refine below_set ?_ (IsS112.ge (Aside0.out (by assumption)))) | exact HB.out)) : Below w.heap.size w W := h
def spec_DrawEntriesBetween.j0 : Nat → Int → List Int → Int → Int → ByteArray → ByteArray → Option (ByteArray × ByteArray × Int × Int)
 | 0, _, _, _, _, _, _ => none
 | k + 1, x7, x447000, x447001, x447002, x452000, x452001 => (spec_l00Src_one.f x447000 x447001 x447002 10).bind fun bt464 => (if bt464.1 = true then ((spec_l00Src_among.f x447000 bt464.2.1 bt464.2.2 (([(-1), x7, 20000, 20001] : List Int))).bind fun bt470 => (some (x452000, x452001, x7, bt470.1))) else ((spec_l00Src_pick.f x447000 bt464.2.1 bt464.2.2 40).bind fun bt473 => (some (x452000, x452001, x7, wrap64 (x7 + bt473.1)))))
def spec_DrawEntriesBetween.f (k : Nat) (l0 : List Int) : Option (ByteArray × ByteArray × Int × Int) := (spec_l00From.f l0).bind fun bt443 => ((spec_l27Draw.f k bt443.1 bt443.2.1 bt443.2.2).bind fun bt447 => ((spec_l00Src_pick.f bt443.1 bt447.2.2.1 bt447.2.2.2 80).bind fun bt452 => ((spec_l00Src_one.f bt443.1 bt452.2.1 bt452.2.2 10).bind fun bt455 => (if bt455.1 = true then ((spec_l00Src_among.f bt443.1 bt455.2.1 bt455.2.2 (([(-1), 0, 20000, 20001] : List Int))).bind fun bt461 => (spec_DrawEntriesBetween.j0 k bt461.1 bt443.1 bt461.2.1 bt461.2.2 bt447.1 bt447.2.1)) else (spec_DrawEntriesBetween.j0 k bt452.1 bt443.1 bt455.2.1 bt455.2.2 bt447.1 bt447.2.1)))))
theorem spec_DrawEntriesBetween.mono_l : ∀ k, (∀ y0 y1 y2 y3 y4 y5, LeO (spec_DrawEntriesBetween.j0 k y0 y1 y2 y3 y4 y5) (spec_DrawEntriesBetween.j0 (k + 1) y0 y1 y2 y3 y4 y5))
 | 0 => fun _ _ _ _ _ _ r h => by simp [spec_DrawEntriesBetween.j0] at h
 | k + 1 => by
  have ih0 := spec_DrawEntriesBetween.mono_l k
  ·intro y0 y1 y2 y3 y4 y5
   unfold spec_DrawEntriesBetween.j0
   repeat' first
   | (with_reducible exact ih0 _ _ _ _ _ _)
   | (with_reducible exact spec_l27Draw.mono _ _ _ _)
   | (with_reducible exact LeO.refl _)
   | (with_reducible exact LeO.none _)
   | (with_reducible refine LeO.ite ?_ ?_)
   | (with_reducible refine LeO.bind ?_ (fun _ => ?_))
   | exact ih0 _ _ _ _ _ _
   | exact spec_l27Draw.mono _ _ _ _
   | exact LeO.none _
   | refine LeO.ite ?_ ?_
   | refine LeO.bind ?_ (fun _ => ?_)
theorem spec_DrawEntriesBetween.mono : ∀ a0 k, LeO (spec_DrawEntriesBetween.f k a0) (spec_DrawEntriesBetween.f (k + 1) a0) := by
 intro a0 k
 have ih0 := spec_DrawEntriesBetween.mono_l k
 unfold spec_DrawEntriesBetween.f
 repeat' first
   | (with_reducible exact ih0 _ _ _ _ _ _)
   | (with_reducible exact spec_l27Draw.mono _ _ _ _)
   | (with_reducible exact LeO.refl _)
   | (with_reducible exact LeO.none _)
   | (with_reducible refine LeO.ite ?_ ?_)
   | (with_reducible refine LeO.bind ?_ (fun _ => ?_))
   | exact ih0 _ _ _ _ _ _
   | exact spec_l27Draw.mono _ _ _ _
   | exact LeO.none _
   | refine LeO.ite ?_ ?_
   | refine LeO.bind ?_ (fun _ => ?_)
def spec_DrawEntriesBetween.T7 : Bool × List (List Nat × List Nat) := (true, [([], []), ([], []), ([], []), ([], []), ([3], [3]), ([2, 4], [2, 4]), ([0, 5, 0], [0]), ([1, 6, 0, 1, 6], [1]), ([5, 7, 0, 1, 2, 3, 4, 5, 6, 7], [5])])
def spec_DrawEntriesBetween.B7 : List Nat := [0, 0, 0, 0, 8, 28, 61, 127, 255]
theorem spec_DrawEntriesBetween.tab7 : rtab .any (opsOf Tryd.f48 7) = spec_DrawEntriesBetween.T7 := by kernel_rfl
theorem spec_DrawEntriesBetween.bits7 : waitsOk spec_DrawEntriesBetween.T7.2 spec_DrawEntriesBetween.B7 = true := by kernel_rfl
def spec_DrawEntriesBetween.T8 : Bool × List (List Nat × List Nat) := (true, [([], []), ([], []), ([], []), ([], []), ([3], [3]), ([2, 4], [2, 4]), ([0, 4, 0], [0]), ([1, 6, 0, 1, 6], [1]), ([5, 7, 0, 1, 2, 3, 4, 5, 6, 7], [5])])
def spec_DrawEntriesBetween.B8 : List Nat := [0, 0, 0, 0, 8, 28, 25, 91, 255]
theorem spec_DrawEntriesBetween.tab8 : rtab .any (opsOf Tryd.f48 8) = spec_DrawEntriesBetween.T8 := by kernel_rfl
theorem spec_DrawEntriesBetween.bits8 : waitsOk spec_DrawEntriesBetween.T8.2 spec_DrawEntriesBetween.B8 = true := by kernel_rfl
set_option maxHeartbeats 8000000 in
set_option maxRecDepth 100000 in
theorem spec_DrawEntriesBetween.calls (k : Nat) (A0 : Option Addr) (c0 : Nat) (l0 : List Int) (r1 : ByteArray) (r2 : ByteArray) (r3 : Int) (r4 : Int) (w : World) (hr0 : Kd.C (Kd.int .u8) w A0 l0.length l0) (hc0 : l0.length ≤ c0) (h : spec_DrawEntriesBetween.f k l0 = some (r1, r2, r3, r4)) :
  Calls Tryd.prog 48 #[.slice A0 l0.length c0] w fun e w' => e = .returned (.tuple #[.agg #[.string r1, .string r2], .int .i64 r3, .int .i64 r4]) ∧ Below w.heap.size w w' := by
 have hu32 := Tryd.underlying32
 have HR0 := Aside0.mk hr0
 have HC0 := Aside0.mk hc0
 clear hr0 hc0
 have HB := Aside0.mk (Below.refl w.heap.size w)
 have H : ((spec_l00From.f l0).bind fun bt443 => ((spec_l27Draw.f k bt443.1 bt443.2.1 bt443.2.2).bind fun bt447 => ((spec_l00Src_pick.f bt443.1 bt447.2.2.1 bt447.2.2.2 80).bind fun bt452 => ((spec_l00Src_one.f bt443.1 bt452.2.1 bt452.2.2 10).bind fun bt455 => (if bt455.1 = true then ((spec_l00Src_among.f bt443.1 bt455.2.1 bt455.2.2 (([(-1), 0, 20000, 20001] : List Int))).bind fun bt461 => (spec_DrawEntriesBetween.j0 k bt461.1 bt443.1 bt461.2.1 bt461.2.2 bt447.1 bt447.2.1)) else (spec_DrawEntriesBetween.j0 k bt452.1 bt443.1 bt455.2.1 bt455.2.2 bt447.1 bt447.2.1)))))) = some (r1, r2, r3, r4) := h
 clear h
 replace H := Option.bind_eq_some_iff.mp H
 obtain ⟨⟨t443, t444, t445⟩, A20, H⟩ := H
 (try dsimp only at H)
 have A2 := Aside0.mk A20
 clear A20
 replace H := Option.bind_eq_some_iff.mp H
 obtain ⟨⟨t447, t448, t449, t450⟩, A30, H⟩ := H
 (try dsimp only at H)
 have A3 := Aside0.mk A30
 clear A30
 replace H := Option.bind_eq_some_iff.mp H
 obtain ⟨⟨t452, t453, t454⟩, A40, H⟩ := H
 (try dsimp only at H)
 have A4 := Aside0.mk A40
 clear A40
 replace H := Option.bind_eq_some_iff.mp H
 obtain ⟨⟨t455, t456, t457⟩, A50, H⟩ := H
 (try dsimp only at H)
 have A5 := Aside0.mk A50
 clear A50
 have HC6 := Aside0.mk H
 clear H
 go_enter Tryd.func48, Tryd.ntmps48
 go_upto_if 15 with (first | ((with_reducible refine gate_dst (N := 2) rfl ?_); refine be_ 2 #[.string (⟨#[]⟩ : ByteArray), .string (⟨#[]⟩ : ByteArray)] 32 ?_; intro gb442 hg w7 hbox hb; have BK442 := Aside0.mk (hbox); have GW442 := bsz_ hg; have GE442 := bsz_ hg; replace HB := bst_ hb; clear hb hbox hg) | ((with_reducible refine gate_callee (f := 73) rfl ?_); refine goesL_ (some 9) rfl rfl Tryd.func73 (by kernel_rfl) rfl #[.slice A0 l0.length c0] rfl (by (try simp only [List.map_toArray, List.map_cons, List.map_nil]); first | done | rfl | (simp only [List.length_drop, List.length_take]; rfl)) ?_; (with_reducible refine (spec_l00From.calls _ _ l0 t443 t444 t445 w _ ?side1 ?side2 ?side3 A2.out).mono ?_); (case side1 => exact bwl_); (case side2 => exact HR0.out); (case side3 => exact HC0.out); rintro e w8 ⟨g446, rfl, hi, hb, hb2⟩; refine ⟨_, rfl, ?_⟩; replace HB := Aside0.mk (hb); have HI446 := Aside0.mk (hi); have NB446_442 := Aside0.mk (IsS112.ne_blk hi (blk_below (g := gb442) (o := .cells #[.string (⟨#[]⟩ : ByteArray), .string (⟨#[]⟩ : ByteArray)] 32 (0, 0)) (by (with_reducible repeat (first | refine blk_drewN ?_ _ | refine blk_drew ?_ | refine blk_alloc ?_ _)); exact BK442.out) hb2) (by decide)); have NB442_446 := Aside0.mk (Ne.symm (IsS112.ne_blk hi (blk_below (g := gb442) (o := .cells #[.string (⟨#[]⟩ : ByteArray), .string (⟨#[]⟩ : ByteArray)] 32 (0, 0)) (by (with_reducible repeat (first | refine blk_drewN ?_ _ | refine blk_drew ?_ | refine blk_alloc ?_ _)); exact BK442.out) hb2) (by decide))); replace BK442 := bkb_ BK442 hb2; clear hb hb2 hi) | ((with_reducible refine gate_callee (f := 74) rfl ?_); refine goesL_ (some 11) rfl rfl Tryd.func74 (by kernel_rfl) rfl #[.pointer (some ⟨g446, 0, none⟩)] rfl (by (try simp only [List.map_toArray, List.map_cons, List.map_nil]); first | done | rfl | (simp only [List.length_drop, List.length_take]; rfl)) ?_; (with_reducible refine (spec_l27Draw.calls k g446 t443 t444 t445 t447 t448 t449 t450 w _ ?side1 ?side2 A3.out).mono ?_); (case side1 => exact isk112_x16 HI446); (case side2 => exact bwi112_x16); rintro e w9 ⟨rfl, hi, hb, hk⟩; refine ⟨_, rfl, ?_⟩; replace BK442 := Aside0.mk (KeepBut.blk hk (g' := gb442) (o := .cells #[.string (⟨#[]⟩ : ByteArray), .string (⟨#[]⟩ : ByteArray)] 32 (0, 0)) (by (with_reducible repeat (first | refine blk_drewN ?_ _ | refine blk_drew ?_ | refine blk_alloc ?_ _)); exact BK442.out) NB442_446.out (by simp)); replace HB := Aside0.mk (hb); replace HI446 := Aside0.mk (hi); clear hb hk hi) | ((with_reducible refine gate_dst (N := 6) rfl ?_); refine be_ 6 #[.string (⟨#[]⟩ : ByteArray), .string (⟨#[]⟩ : ByteArray)] 32 ?_; intro gb451 hg w10 hbox hb; have BK451 := Aside0.mk (hbox); have GW451 := Aside0.mk ((by rw [hg]; exact (below_size bwi112_x16) : w.heap.size ≤ gb451)); have GE451 := Aside0.mk ((by rw [hg]; exact (below_size bwi112_x16) : w.heap.size ≤ gb451)); replace HB := Aside0.mk (below_step bwi112_x16 hb); have NB442_451 := nbl_ BK442 hg; have NB451_442 := nbr_ BK442 hg; replace BK442 := bkb_ BK442 hb; have NB446_451 := Aside0.mk ((by rw [hg]; exact Nat.ne_of_lt (IsS112.lt (show IsS112 w _ g446 t443 t449 t450 from by repeat (first | (with_reducible first | exact HI446.out | apply IsS112.alloc | apply IsS112.drewN | apply IsS112.drew | apply IsS112.set_1 | apply IsS112.set_2 | refine IsS112.far ?_ NB446_442.out _) | exact HI446.out))) : g446 ≠ gb451)); have NB451_446 := Aside0.mk ((by rw [hg]; exact Nat.ne_of_gt (IsS112.lt (show IsS112 w _ g446 t443 t449 t450 from by repeat (first | (with_reducible first | exact HI446.out | apply IsS112.alloc | apply IsS112.drewN | apply IsS112.drew | apply IsS112.set_1 | apply IsS112.set_2 | refine IsS112.far ?_ NB446_442.out _) | exact HI446.out))) : gb451 ≠ g446)); replace HI446 := Aside0.mk (IsS112.below (isk112_x16 HI446) hb); clear hb hbox hg; have hnb11 := NB451_442.out; have hnc11 := NB442_451.out; have hnb12 := NB451_446.out; have hnc12 := NB446_451.out; have hcz13_0 := b20_ BK451; have hcz13_1 := b21_ BK451; have hfz13_0 := blk_frozen BK451.out 0; have hfz13_1 := blk_frozen BK451.out 1) | ((with_reducible refine gate_callee (f := 77) rfl ?_); refine goesL_ (some 13) rfl rfl Tryd.func77 (by kernel_rfl) rfl #[.pointer (some ⟨g446, 0, none⟩), .int .i64 80] rfl (by (try simp only [List.map_toArray, List.map_cons, List.map_nil]); first | done | rfl | (simp only [List.length_drop, List.length_take]; rfl)) ?_; (with_reducible refine (spec_l00Src_pick.calls g446 t443 t449 t450 80 t452 t453 t454 w _ ?side1 ?side2 A4.out).mono ?_); (case side1 => exact isk112_x16 HI446); (case side2 => exact bwi112_x16); rintro e w14 ⟨rfl, hi, hb, hk⟩; refine ⟨_, rfl, ?_⟩; replace BK442 := Aside0.mk (KeepBut.blk hk (g' := gb442) (o := .cells #[.string (⟨#[]⟩ : ByteArray), .string (⟨#[]⟩ : ByteArray)] 32 (0, 0)) (by (with_reducible repeat (first | refine blk_drewN ?_ _ | refine blk_drew ?_ | refine blk_alloc ?_ _)); refine blk_far ?_ NB442_451.out _; (with_reducible repeat (first | refine blk_drewN ?_ _ | refine blk_drew ?_ | refine blk_alloc ?_ _)); refine blk_far ?_ NB442_451.out _; (with_reducible repeat (first | refine blk_drewN ?_ _ | refine blk_drew ?_ | refine blk_alloc ?_ _)); exact BK442.out) NB442_446.out (by simp)); replace BK451 := Aside0.mk (KeepBut.blk hk (g' := gb451) (o := .cells #[.string t447, .string t448] 32 (0, 0)) (by (with_reducible repeat (first | refine blk_drewN ?_ _ | refine blk_drew ?_ | refine blk_alloc ?_ _)); refine blk_put (cs := #[.string t447, .string (⟨#[]⟩ : ByteArray)]) ?_ 1 _ rfl; (with_reducible repeat (first | refine blk_drewN ?_ _ | refine blk_drew ?_ | refine blk_alloc ?_ _)); refine blk_put (cs := #[.string (⟨#[]⟩ : ByteArray), .string (⟨#[]⟩ : ByteArray)]) ?_ 0 _ rfl; (with_reducible repeat (first | refine blk_drewN ?_ _ | refine blk_drew ?_ | refine blk_alloc ?_ _)); exact BK451.out) NB451_446.out (by simp)); replace HB := Aside0.mk (hb); replace HI446 := Aside0.mk (hi); clear hb hk hi) | ((with_reducible refine gate_callee (f := 75) rfl ?_); refine goesL_ (some 15) rfl rfl Tryd.func75 (by kernel_rfl) rfl #[.pointer (some ⟨g446, 0, none⟩), .int .i64 10] rfl (by (try simp only [List.map_toArray, List.map_cons, List.map_nil]); first | done | rfl | (simp only [List.length_drop, List.length_take]; rfl)) ?_; (with_reducible refine (spec_l00Src_one.calls g446 t443 t453 t454 10 t455 t456 t457 w _ ?side1 ?side2 A5.out).mono ?_); (case side1 => exact isk112_x16 HI446); (case side2 => exact bwi112_x16); rintro e w15 ⟨rfl, hi, hb, hk⟩; refine ⟨_, rfl, ?_⟩; replace BK442 := Aside0.mk (KeepBut.blk hk (g' := gb442) (o := .cells #[.string (⟨#[]⟩ : ByteArray), .string (⟨#[]⟩ : ByteArray)] 32 (0, 0)) (by (with_reducible repeat (first | refine blk_drewN ?_ _ | refine blk_drew ?_ | refine blk_alloc ?_ _)); exact BK442.out) NB442_446.out (by simp)); replace BK451 := Aside0.mk (KeepBut.blk hk (g' := gb451) (o := .cells #[.string t447, .string t448] 32 (0, 0)) (by (with_reducible repeat (first | refine blk_drewN ?_ _ | refine blk_drew ?_ | refine blk_alloc ?_ _)); exact BK451.out) NB451_446.out (by simp)); replace HB := Aside0.mk (hb); replace HI446 := Aside0.mk (hi); clear hb hk hi))
 (try simp only [Act.put, List.setIfInBounds_toArray, List.set_cons_zero, List.set_cons_succ])
 go_cut [7] (fun v7 wc => ∃ (kq : Nat) (x7_5 : Int) (x447001_5 : Int) (x447002_5 : Int), v7 = .int .i64 x7_5 ∧ Aside0 (spec_DrawEntriesBetween.j0 kq x7_5 t443 x447001_5 x447002_5 t447 t448 = some (r1, r2, r3, r4)) ∧ Aside0 (kq ≤ k) ∧ Aside0 (wc.heap[gb442]? = some (.cells #[.string (⟨#[]⟩ : ByteArray), .string (⟨#[]⟩ : ByteArray)] 32 (0, 0))) ∧ Aside0 (wc.heap[gb451]? = some (.cells #[.string t447, .string t448] 32 (0, 0))) ∧ Aside0 (IsS112 w wc g446 t443 x447001_5 x447002_5) ∧ Aside0 (Below w.heap.size w wc))
 case first =>
  have H := HC6.out
  clear HC6
  by_cases c16 : t455 = true
  ·subst c16
   rw [if_pos rfl] at H
   obtain ⟨y458, hy458⟩ : ∃ y_ : List Int, y_ = (([(-1), 0, 20000, 20001] : List Int)) := ⟨_, rfl⟩
   replace H : ((spec_l00Src_among.f t443 t456 t457 y458).bind fun bt461 => (spec_DrawEntriesBetween.j0 k bt461.1 t443 bt461.2.1 bt461.2.2 t447 t448)) = some (r1, r2, r3, r4) := by first | (rw [hy458]; with_reducible exact H) | (have H2_ := (Option.bind_some _ _).symm.trans H; rw [hy458]; with_reducible exact H2_) | (have H2_ := (Option.bind_some _ _).symm.trans H; with_reducible exact H2_) | with_reducible exact H | (rw [hy458]; exact H) | exact H
   have Ny458 := Aside0.mk hy458
   clear hy458
   replace H := Option.bind_eq_some_iff.mp H
   obtain ⟨⟨t461, t462, t463⟩, A170, H⟩ := H
   (try dsimp only at H)
   have A17 := Aside0.mk A170
   clear A170
   have H' := Aside0.mk H
   clear H
   go_wp2_with (first | ((with_reducible refine gate_dst (N := 17) rfl ?_); refine Kd.R_lit (Kd.int .i64) _ 2 ?hg (N := 17) ?hd (xs := ([(-1), 0, 20000, 20001] : List Int)) (inner := [.int .i64 (-1), .int .i64 0, .int .i64 20000, .int .i64 20001]) (ok := fun _ => True) (okp := fun _ => True) ?hr ?hp (fun _ hk => hk) trivial (Below.refl _ _) (Nat.le_refl _) (by simp) ?_; (case hd => rfl); (case hg => rfl); (case hr => first | (go_simp; done) | (go_simp; rfl)); (case hp => exact (Reps.one (show Kd.M (Kd.int .i64) _ _ _ (-1) [.int .i64 (-1)] from rfl) (Reps.one (show Kd.M (Kd.int .i64) _ _ _ 0 [.int .i64 0] from rfl) (Reps.one (show Kd.M (Kd.int .i64) _ _ _ 20000 [.int .i64 20000] from rfl) (Reps.one (show Kd.M (Kd.int .i64) _ _ _ 20001 [.int .i64 20001] from rfl) (Reps.none _ _)))))); intro v459 w18 ho19 hb hg_ hnew_; clear hg_ hnew_; (first | rw [← Ny458.out] at ho19 | (simp only [Int.reduceToNat] at ho19; rw [← Ny458.out] at ho19)); have HO460 := Aside0.mk (Kd.R_lower ho19 (below_size bwi112_x16)); replace BK442 := bkb_ BK442 hb; replace BK451 := bkb_ BK451 hb; replace HB := Aside0.mk (below_step bwi112_x16 hb); replace HI446 := Aside0.mk (IsS112.below (isk112_x16 HI446) hb); clear hb ho19; obtain ⟨Ao20, co20, eo20⟩ := Kd.R_slice HO460.out; subst eo20) | ((with_reducible refine gate_callee (f := 76) rfl ?_); refine goesL_ (some 18) rfl rfl Tryd.func76 (by kernel_rfl) rfl #[.pointer (some ⟨g446, 0, none⟩), .slice Ao20 y458.length co20] rfl (by (try simp only [List.map_toArray, List.map_cons, List.map_nil]); first | done | rfl | (simp only [List.length_drop, List.length_take]; rfl)) ?_; (with_reducible refine (spec_l00Src_among.calls g446 t443 t456 t457 _ _ y458 t461 t462 t463 w _ ?side1 ?side2 ?side3 ?side4 ?side5 A17.out).mono ?_); (case side1 => exact isk112_x16 HI446); (case side2 => exact bwi112_x16); (case side3 => repeat (first | exact (Kd.R_reads' HO460.out).2.2 | (with_reducible refine Kd.C_alloc ?_ _) | (with_reducible refine Kd.C_drewN ?_ _) | (with_reducible refine Kd.C_drew ?_))); (case side4 => exact (Kd.R_reads' HO460.out).2.1); (case side5 => exact far_slice (IsS112.own_ne HI446.out HO460.out (by decide))); rintro e w21 ⟨rfl, hi, hb, hk⟩; refine ⟨_, rfl, ?_⟩; replace BK442 := Aside0.mk (KeepBut.blk hk (g' := gb442) (o := .cells #[.string (⟨#[]⟩ : ByteArray), .string (⟨#[]⟩ : ByteArray)] 32 (0, 0)) (by (with_reducible repeat (first | refine blk_drewN ?_ _ | refine blk_drew ?_ | refine blk_alloc ?_ _)); exact BK442.out) NB442_446.out (by simp)); replace BK451 := Aside0.mk (KeepBut.blk hk (g' := gb451) (o := .cells #[.string t447, .string t448] 32 (0, 0)) (by (with_reducible repeat (first | refine blk_drewN ?_ _ | refine blk_drew ?_ | refine blk_alloc ?_ _)); exact BK451.out) NB451_446.out (by simp)); replace HO460 := Aside0.mk (Kd.R_mono (Kd.R_keep (IsS112.apart (show IsS112 w _ g446 t443 t456 t457 from by repeat (first | (with_reducible first | exact HI446.out | apply IsS112.alloc | apply IsS112.drewN | apply IsS112.drew | apply IsS112.set_1 | apply IsS112.set_2 | refine IsS112.far ?_ NB446_442.out _ | refine IsS112.far ?_ NB446_451.out _) | exact HI446.out)) (by (with_reducible repeat (first | apply Kd.R_alloc | apply Kd.R_drewN | apply Kd.R_drew)); exact HO460.out) (by decide)) hk (fun _ h => h.2)) (fun _ h => h.1)); replace HB := Aside0.mk (hb); replace HI446 := Aside0.mk (hi); clear hb hk hi))
   go_meet
   case rel => exact ⟨_, (t461), (t462), (t463), (by first | rfl | (simp; done) | (simp [*]; done)), H', ⟨by first | omega | exact Nat.le_refl _⟩, ⟨by (with_reducible repeat (first | refine blk_drewN ?_ _ | refine blk_drew ?_ | refine blk_alloc ?_ _)); exact BK442.out⟩, ⟨by (with_reducible repeat (first | refine blk_drewN ?_ _ | refine blk_drew ?_ | refine blk_alloc ?_ _)); exact BK451.out⟩, ⟨isk112_x16 HI446⟩, ⟨bwi112_x16⟩⟩
  ·replace c16 := Bool.eq_false_iff.mpr c16
   subst c16
   rw [if_neg (show ¬ (false = true) by decide)] at H
   have H' := Aside0.mk H
   clear H
   go_wp2
   go_meet
   case rel => exact ⟨_, (t452), (t456), (t457), (by first | rfl | (simp; done) | (simp [*]; done)), H', ⟨by first | omega | exact Nat.le_refl _⟩, ⟨by (with_reducible repeat (first | refine blk_drewN ?_ _ | refine blk_drew ?_ | refine blk_alloc ?_ _)); exact BK442.out⟩, ⟨by (with_reducible repeat (first | refine blk_drewN ?_ _ | refine blk_drew ?_ | refine blk_alloc ?_ _)); exact BK451.out⟩, ⟨isk112_x16 HI446⟩, ⟨bwi112_x16⟩⟩
 case rest =>
  clear HC6
  (try clear c16);(try clear hcz13_0);(try clear hcz13_1);(try clear hfz13_0);(try clear hfz13_1)
  obtain ⟨kq, x7_5, x447001_5, x447002_5, rfl, HA, HJ5, BK442, BK451, HI446, HB⟩ := hcut
  cases kq with
  | zero => exact absurd HA.out (by simp [spec_DrawEntriesBetween.j0])
  | succ kj5 =>
   have H := HA.out
   clear HA
   simp only [spec_DrawEntriesBetween.j0] at H
   replace H := Option.bind_eq_some_iff.mp H
   obtain ⟨⟨t464, t465, t466⟩, A220, H⟩ := H
   (try dsimp only at H)
   have A22 := Aside0.mk A220
   clear A220
   by_cases c23 : t464 = true
   ·subst c23
    rw [if_pos rfl] at H
    obtain ⟨y467, hy467⟩ : ∃ y_ : List Int, y_ = (([(-1), x7_5, 20000, 20001] : List Int)) := ⟨_, rfl⟩
    replace H : ((spec_l00Src_among.f t443 t465 t466 y467).bind fun bt470 => (some (t447, t448, x7_5, bt470.1))) = some (r1, r2, r3, r4) := by first | (rw [hy467]; with_reducible exact H) | (have H2_ := (Option.bind_some _ _).symm.trans H; rw [hy467]; with_reducible exact H2_) | (have H2_ := (Option.bind_some _ _).symm.trans H; with_reducible exact H2_) | with_reducible exact H | (rw [hy467]; exact H) | exact H
    have Ny467 := Aside0.mk hy467
    clear hy467
    replace H := Option.bind_eq_some_iff.mp H
    obtain ⟨⟨t470, t471, t472⟩, A240, H⟩ := H
    (try dsimp only at H)
    have A24 := Aside0.mk A240
    clear A240
    simp only [Option.some.injEq, Prod.mk.injEq] at H
    obtain ⟨rfl, rfl, rfl, rfl⟩ := H
    try go_wp2_with (first | ((with_reducible refine gate_callee (f := 75) rfl ?_); refine goesL_ (some 20) rfl rfl Tryd.func75 (by kernel_rfl) rfl #[.pointer (some ⟨g446, 0, none⟩), .int .i64 10] rfl (by (try simp only [List.map_toArray, List.map_cons, List.map_nil]); first | done | rfl | (simp only [List.length_drop, List.length_take]; rfl)) ?_; (with_reducible refine (spec_l00Src_one.calls g446 t443 x447001_5 x447002_5 10 true t465 t466 w _ ?side1 ?side2 A22.out).mono ?_); (case side1 => exact isk112_x16 HI446); (case side2 => exact bwi112_x16); rintro e w25 ⟨rfl, hi, hb, hk⟩; refine ⟨_, rfl, ?_⟩; replace BK442 := Aside0.mk (KeepBut.blk hk (g' := gb442) (o := .cells #[.string (⟨#[]⟩ : ByteArray), .string (⟨#[]⟩ : ByteArray)] 32 (0, 0)) (by (with_reducible repeat (first | refine blk_drewN ?_ _ | refine blk_drew ?_ | refine blk_alloc ?_ _)); exact BK442.out) NB442_446.out (by simp)); replace BK451 := Aside0.mk (KeepBut.blk hk (g' := gb451) (o := .cells #[.string t447, .string t448] 32 (0, 0)) (by (with_reducible repeat (first | refine blk_drewN ?_ _ | refine blk_drew ?_ | refine blk_alloc ?_ _)); exact BK451.out) NB451_446.out (by simp)); replace HB := Aside0.mk (hb); replace HI446 := Aside0.mk (hi); clear hb hk hi))
    replace BK442 := Aside0.mk (blk_drew BK442.out)
    replace BK451 := Aside0.mk (blk_drew BK451.out)
    replace HI446 := Aside0.mk (IsS112.drew HI446.out)
    replace HB := Aside0.mk (below_drew1 HB.out)
    refine start_ (n := 9) (S := fun w' => w'.cell? ⟨gb451, 0, none⟩ = some (.string t447) ∧ w'.cell? ⟨gb451, 1, none⟩ = some (.string t448)) (ds := []) (fl 9 0) (by kernel_rfl) rfl rfl ⟨(blk_cell BK451.out 0).trans rfl, (blk_cell BK451.out 1).trans rfl⟩ (fun hHeld => ?_); refine with_tabW spec_DrawEntriesBetween.tab7 spec_DrawEntriesBetween.bits7 (fun HT_ HW_ => ?_)
    generalize w25.drew = w26 at BK442 BK451 HI446 HB hHeld ⊢
    refine pu_ (i := 1) (N := some 22) (fl 9 2) (any_of HT_.out (by kernel_rfl)) ?_
    refine pu_ (i := 2) (N := some 23) (fl 9 6) (any_of HT_.out (by kernel_rfl)) ?_
    refine pu_ (i := 3) (N := some 24) (fl 9 14) (any_of HT_.out (by kernel_rfl)) ?_
    refine take_ (i := 0) (N := some 21) (v := ?_) (a' := ?_) (fl 9 15) rfl rfl (take_ofW HT_.out HW_.out (by kernel_rfl)) (fun _ _ _ h => h) (Or.inl ⟨by rfl, ?_⟩) hHeld ?_ ?_
    rotate_left
    ·rintro w' ⟨s0, s1⟩
     go_simp
     with_reducible rfl
    rotate_left
    ·simp only [Act.put, List.setIfInBounds_toArray, List.set_cons_zero, List.set_cons_succ, i64_w, i32_w]
     rfl
    refine one_ (i := 4) (N := some 25) (fl 9 31) rfl rfl (one_of HT_.out (by kernel_rfl)) (by decide) (fun K hK => ?_)
    refine Kd.R_lit_step (Kd.int .i64) _ 2 ?hg (N := 25) ?hd (xs := ([(-1), x7_5, 20000, 20001] : List Int)) (inner := [.int .i64 (-1), .int .i64 x7_5, .int .i64 20000, .int .i64 20001]) (ok := fun _ => True) (okp := fun _ => True) ?hr ?hp (fun _ hk => hk) trivial (Below.refl _ _) (Nat.le_refl _) (by simp) ?_; (case hd => rfl); (case hg => rfl); (case hr => first | (go_simp; done) | (go_simp; rfl)); (case hp => exact (Reps.one (show Kd.M (Kd.int .i64) _ _ _ (-1) [.int .i64 (-1)] from rfl) (Reps.one (show Kd.M (Kd.int .i64) _ _ _ x7_5 [.int .i64 x7_5] from rfl) (Reps.one (show Kd.M (Kd.int .i64) _ _ _ 20000 [.int .i64 20000] from rfl) (Reps.one (show Kd.M (Kd.int .i64) _ _ _ 20001 [.int .i64 20001] from rfl) (Reps.none _ _))))))
    intro v468 w27 ho28 hb hg_ hnew_
    clear hg_ hnew_
    (first | rw [← Ny467.out] at ho28 | (simp only [Int.reduceToNat] at ho28; rw [← Ny467.out] at ho28))
    have HO469 := Aside0.mk (Kd.R_lower ho28 (below_size bwi112_x16))
    replace BK442 := bkb_ BK442 hb
    replace BK451 := bkb_ BK451 hb
    replace HB := Aside0.mk (below_step bwi112_x16 hb)
    replace HI446 := Aside0.mk (IsS112.below (isk112_x16 HI446) hb)
    clear hb ho28
    obtain ⟨Ao29, co29, eo29⟩ := Kd.R_slice HO469.out
    (first | subst eo29 | (injection eo29 with f1_ f2_ f3_; have f4_ := f1_.symm; have f5_ := f3_.symm; clear f1_ f2_ f3_; subst f4_; subst f5_))
    refine hK.out _ _ ⟨(blk_cell BK451.out 0).trans rfl, (blk_cell BK451.out 1).trans rfl⟩ (fun hHeld => ?_)
    clear hK K
    refine norm_ (a' := ?_) ?_ ?_
    rotate_left
    ·show Act.put _ (some 25) _ = _
     simp only [Act.put, List.setIfInBounds_toArray, List.set_cons_zero, List.set_cons_succ, i64_w, i32_w]
     rfl
    refine one_ (i := 5) (N := some 26) (fl 9 63) rfl rfl (one_of HT_.out (by kernel_rfl)) (by decide) (fun K hK => ?_)
    refine goes_ Tryd.func76 (by kernel_rfl) rfl #[.pointer (some ⟨g446, 0, none⟩), .slice Ao29 y467.length co29] (by rfl) rfl rfl (by (try simp only [List.map_toArray, List.map_cons, List.map_nil]); first | done | rfl | (simp only [List.length_drop, List.length_take]; rfl)) ?_
    with_reducible refine (spec_l00Src_among.calls g446 t443 t465 t466 _ _ y467 t470 t471 t472 w _ ?side1 ?side2 ?side3 ?side4 ?side5 A24.out).mono ?_
    (case side1 => exact isk112_x16 HI446)
    (case side2 => exact bwi112_x16)
    (case side3 => repeat (first | exact (Kd.R_reads' HO469.out).2.2 | (with_reducible refine Kd.C_alloc ?_ _) | (with_reducible refine Kd.C_drewN ?_ _) | (with_reducible refine Kd.C_drew ?_)))
    (case side4 => exact (Kd.R_reads' HO469.out).2.1)
    (case side5 => exact far_slice (IsS112.own_ne HI446.out HO469.out (by decide)))
    rintro e w30 ⟨rfl, hi, hb, hk⟩
    refine ⟨_, rfl, ?_⟩
    replace BK442 := Aside0.mk (KeepBut.blk hk (g' := gb442) (o := .cells #[.string (⟨#[]⟩ : ByteArray), .string (⟨#[]⟩ : ByteArray)] 32 (0, 0)) (by (with_reducible repeat (first | refine blk_drewN ?_ _ | refine blk_drew ?_ | refine blk_alloc ?_ _)); exact BK442.out) NB442_446.out (by simp))
    replace BK451 := Aside0.mk (KeepBut.blk hk (g' := gb451) (o := .cells #[.string t447, .string t448] 32 (0, 0)) (by (with_reducible repeat (first | refine blk_drewN ?_ _ | refine blk_drew ?_ | refine blk_alloc ?_ _)); exact BK451.out) NB451_446.out (by simp))
    replace HO469 := Aside0.mk (Kd.R_mono (Kd.R_keep (IsS112.apart (show IsS112 w _ g446 t443 t465 t466 from by repeat (first | (with_reducible first | exact HI446.out | apply IsS112.alloc | apply IsS112.drewN | apply IsS112.drew | apply IsS112.set_1 | apply IsS112.set_2 | refine IsS112.far ?_ NB446_442.out _ | refine IsS112.far ?_ NB446_451.out _) | exact HI446.out)) (by (with_reducible repeat (first | apply Kd.R_alloc | apply Kd.R_drewN | apply Kd.R_drew)); exact HO469.out) (by decide)) hk (fun _ h => h.2)) (fun _ h => h.1))
    replace HB := Aside0.mk (hb)
    replace HI446 := Aside0.mk (hi)
    (try clear hb);(try clear hb2);(try clear hk);(try clear hi)
    refine hK.out _ _ ⟨(blk_cell BK451.out 0).trans rfl, (blk_cell BK451.out 1).trans rfl⟩ (fun hHeld => ?_)
    clear hK K
    refine norm_ (a' := ?_) ?_ ?_
    rotate_left
    ·show Act.put _ (some 26) _ = _
     simp only [Act.put, List.setIfInBounds_toArray, List.set_cons_zero, List.set_cons_succ, i64_w, i32_w]
     rfl
    refine one_ (i := 6) (N := none) (fl 9 127) rfl rfl (one_of HT_.out (by kernel_rfl)) (by decide) (fun K hK => ?_)
    have hs31 : w30.cell? ⟨gb442, 0, none⟩ = some (.string (⟨#[]⟩ : ByteArray)) := (blk_cell BK442.out 0).trans rfl
    have hfs31 := blk_frozen BK442.out 0
    have hns31_1 := NB451_442.out
    have hms31_1 := NB442_451.out
    have hs32 : w30.cell? ⟨gb442, 1, none⟩ = some (.string (⟨#[]⟩ : ByteArray)) := (blk_cell BK442.out 1).trans rfl
    have hfs32 := blk_frozen BK442.out 1
    have hns32_1 := NB451_442.out
    have hms32_1 := NB442_451.out
    refine skip_ (w1 := ?_) (by rfl) rfl ?_ ?_
    rotate_left
    ·go_simp
     rfl
    refine hK.out _ _ ⟨((cell_far (p := ⟨gb442, _, none⟩) NB451_442.out _).trans (((cell_far (p := ⟨gb442, _, none⟩) NB451_442.out _).trans (hHeld.1)))), ((cell_far (p := ⟨gb442, _, none⟩) NB451_442.out _).trans (((cell_far (p := ⟨gb442, _, none⟩) NB451_442.out _).trans (hHeld.2))))⟩ (fun hHeld => ?_)
    clear hK K
    refine pu_ (i := 7) (N := some 3) (fl 9 255) (any_of HT_.out (by kernel_rfl)) ?_
    refine pu_ (i := 8) (N := some 4) (fl 9 511) (any_of HT_.out (by kernel_rfl)) ?_
    refine done_ (done_of HT_.out (by kernel_rfl)) ?_
    try go_wp2
    refine bodyPost_ret (results_ctt rfl _ _ gb442 32 #[.string t447, .string t448] (0, 0) _ rfl (by (with_reducible repeat (first | refine blk_drewN ?_ _ | refine blk_drew ?_ | refine blk_alloc ?_ _)); refine blk_put (cs := #[.string t447, .string (⟨#[]⟩ : ByteArray)]) ?_ 1 _ rfl; (with_reducible repeat (first | refine blk_drewN ?_ _ | refine blk_drew ?_ | refine blk_alloc ?_ _)); refine blk_put (cs := #[.string (⟨#[]⟩ : ByteArray), .string (⟨#[]⟩ : ByteArray)]) ?_ 0 _ rfl; (with_reducible repeat (first | refine blk_drewN ?_ _ | refine blk_drew ?_ | refine blk_alloc ?_ _)); exact BK442.out) Tryd.underlying32 rfl (by kernel_rfl)) rfl ?_
    exact ⟨rr_, bwi112_x16⟩
   ·replace c23 := Bool.eq_false_iff.mpr c23
    subst c23
    rw [if_neg (show ¬ (false = true) by decide)] at H
    replace H := Option.bind_eq_some_iff.mp H
    obtain ⟨⟨t473, t474, t475⟩, A330, H⟩ := H
    (try dsimp only at H)
    have A33 := Aside0.mk A330
    clear A330
    simp only [Option.some.injEq, Prod.mk.injEq] at H
    obtain ⟨rfl, rfl, rfl, rfl⟩ := H
    try go_wp2_with (first | ((with_reducible refine gate_callee (f := 75) rfl ?_); refine goesL_ (some 20) rfl rfl Tryd.func75 (by kernel_rfl) rfl #[.pointer (some ⟨g446, 0, none⟩), .int .i64 10] rfl (by (try simp only [List.map_toArray, List.map_cons, List.map_nil]); first | done | rfl | (simp only [List.length_drop, List.length_take]; rfl)) ?_; (with_reducible refine (spec_l00Src_one.calls g446 t443 x447001_5 x447002_5 10 false t465 t466 w _ ?side1 ?side2 A22.out).mono ?_); (case side1 => exact isk112_x16 HI446); (case side2 => exact bwi112_x16); rintro e w34 ⟨rfl, hi, hb, hk⟩; refine ⟨_, rfl, ?_⟩; replace BK442 := Aside0.mk (KeepBut.blk hk (g' := gb442) (o := .cells #[.string (⟨#[]⟩ : ByteArray), .string (⟨#[]⟩ : ByteArray)] 32 (0, 0)) (by (with_reducible repeat (first | refine blk_drewN ?_ _ | refine blk_drew ?_ | refine blk_alloc ?_ _)); exact BK442.out) NB442_446.out (by simp)); replace BK451 := Aside0.mk (KeepBut.blk hk (g' := gb451) (o := .cells #[.string t447, .string t448] 32 (0, 0)) (by (with_reducible repeat (first | refine blk_drewN ?_ _ | refine blk_drew ?_ | refine blk_alloc ?_ _)); exact BK451.out) NB451_446.out (by simp)); replace HB := Aside0.mk (hb); replace HI446 := Aside0.mk (hi); clear hb hk hi))
    replace BK442 := Aside0.mk (blk_drew BK442.out)
    replace BK451 := Aside0.mk (blk_drew BK451.out)
    replace HI446 := Aside0.mk (IsS112.drew HI446.out)
    replace HB := Aside0.mk (below_drew1 HB.out)
    refine start_ (n := 9) (S := fun w' => w'.cell? ⟨gb451, 0, none⟩ = some (.string t447) ∧ w'.cell? ⟨gb451, 1, none⟩ = some (.string t448)) (ds := []) (fl 9 0) (by kernel_rfl) rfl rfl ⟨(blk_cell BK451.out 0).trans rfl, (blk_cell BK451.out 1).trans rfl⟩ (fun hHeld => ?_); refine with_tabW spec_DrawEntriesBetween.tab8 spec_DrawEntriesBetween.bits8 (fun HT_ HW_ => ?_)
    generalize w34.drew = w35 at BK442 BK451 HI446 HB hHeld ⊢
    refine pu_ (i := 1) (N := some 28) (fl 9 2) (any_of HT_.out (by kernel_rfl)) ?_
    refine pu_ (i := 2) (N := some 29) (fl 9 6) (any_of HT_.out (by kernel_rfl)) ?_
    refine pu_ (i := 3) (N := some 30) (fl 9 14) (any_of HT_.out (by kernel_rfl)) ?_
    refine take_ (i := 0) (N := some 27) (v := ?_) (a' := ?_) (fl 9 15) rfl rfl (take_ofW HT_.out HW_.out (by kernel_rfl)) (fun _ _ _ h => h) (Or.inl ⟨by rfl, ?_⟩) hHeld ?_ ?_
    rotate_left
    ·rintro w' ⟨s0, s1⟩
     go_simp
     with_reducible rfl
    rotate_left
    ·simp only [Act.put, List.setIfInBounds_toArray, List.set_cons_zero, List.set_cons_succ, i64_w, i32_w]
     rfl
    refine one_ (i := 4) (N := some 31) (fl 9 31) rfl rfl (one_of HT_.out (by kernel_rfl)) (by decide) (fun K hK => ?_)
    refine goes_ Tryd.func77 (by kernel_rfl) rfl #[.pointer (some ⟨g446, 0, none⟩), .int .i64 40] (by rfl) rfl rfl (by (try simp only [List.map_toArray, List.map_cons, List.map_nil]); first | done | rfl | (simp only [List.length_drop, List.length_take]; rfl)) ?_
    with_reducible refine (spec_l00Src_pick.calls g446 t443 t465 t466 40 t473 t474 t475 w _ ?side1 ?side2 A33.out).mono ?_
    (case side1 => exact isk112_x16 HI446)
    (case side2 => exact bwi112_x16)
    rintro e w36 ⟨rfl, hi, hb, hk⟩
    refine ⟨_, rfl, ?_⟩
    replace BK442 := Aside0.mk (KeepBut.blk hk (g' := gb442) (o := .cells #[.string (⟨#[]⟩ : ByteArray), .string (⟨#[]⟩ : ByteArray)] 32 (0, 0)) (by (with_reducible repeat (first | refine blk_drewN ?_ _ | refine blk_drew ?_ | refine blk_alloc ?_ _)); exact BK442.out) NB442_446.out (by simp))
    replace BK451 := Aside0.mk (KeepBut.blk hk (g' := gb451) (o := .cells #[.string t447, .string t448] 32 (0, 0)) (by (with_reducible repeat (first | refine blk_drewN ?_ _ | refine blk_drew ?_ | refine blk_alloc ?_ _)); exact BK451.out) NB451_446.out (by simp))
    replace HB := Aside0.mk (hb)
    replace HI446 := Aside0.mk (hi)
    (try clear hb);(try clear hb2);(try clear hk);(try clear hi)
    refine hK.out _ _ ⟨(blk_cell BK451.out 0).trans rfl, (blk_cell BK451.out 1).trans rfl⟩ (fun hHeld => ?_)
    clear hK K
    refine norm_ (a' := ?_) ?_ ?_
    rotate_left
    ·show Act.put _ (some 31) _ = _
     simp only [Act.put, List.setIfInBounds_toArray, List.set_cons_zero, List.set_cons_succ, i64_w, i32_w]
     rfl
    refine pu_ (i := 5) (N := some 32) (fl 9 63) (any_of HT_.out (by kernel_rfl)) ?_
    refine one_ (i := 6) (N := none) (fl 9 127) rfl rfl (one_of HT_.out (by kernel_rfl)) (by decide) (fun K hK => ?_)
    have hs37 : w36.cell? ⟨gb442, 0, none⟩ = some (.string (⟨#[]⟩ : ByteArray)) := (blk_cell BK442.out 0).trans rfl
    have hfs37 := blk_frozen BK442.out 0
    have hns37_1 := NB451_442.out
    have hms37_1 := NB442_451.out
    have hs38 : w36.cell? ⟨gb442, 1, none⟩ = some (.string (⟨#[]⟩ : ByteArray)) := (blk_cell BK442.out 1).trans rfl
    have hfs38 := blk_frozen BK442.out 1
    have hns38_1 := NB451_442.out
    have hms38_1 := NB442_451.out
    refine skip_ (w1 := ?_) (by rfl) rfl ?_ ?_
    rotate_left
    ·go_simp
     rfl
    refine hK.out _ _ ⟨((cell_far (p := ⟨gb442, _, none⟩) NB451_442.out _).trans (((cell_far (p := ⟨gb442, _, none⟩) NB451_442.out _).trans (hHeld.1)))), ((cell_far (p := ⟨gb442, _, none⟩) NB451_442.out _).trans (((cell_far (p := ⟨gb442, _, none⟩) NB451_442.out _).trans (hHeld.2))))⟩ (fun hHeld => ?_)
    clear hK K
    refine pu_ (i := 7) (N := some 3) (fl 9 255) (any_of HT_.out (by kernel_rfl)) ?_
    refine pu_ (i := 8) (N := some 4) (fl 9 511) (any_of HT_.out (by kernel_rfl)) ?_
    refine done_ (done_of HT_.out (by kernel_rfl)) ?_
    try go_wp2
    refine bodyPost_ret (results_ctt rfl _ _ gb442 32 #[.string t447, .string t448] (0, 0) _ rfl (by (with_reducible repeat (first | refine blk_drewN ?_ _ | refine blk_drew ?_ | refine blk_alloc ?_ _)); refine blk_put (cs := #[.string t447, .string (⟨#[]⟩ : ByteArray)]) ?_ 1 _ rfl; (with_reducible repeat (first | refine blk_drewN ?_ _ | refine blk_drew ?_ | refine blk_alloc ?_ _)); refine blk_put (cs := #[.string (⟨#[]⟩ : ByteArray), .string (⟨#[]⟩ : ByteArray)]) ?_ 0 _ rfl; (with_reducible repeat (first | refine blk_drewN ?_ _ | refine blk_drew ?_ | refine blk_alloc ?_ _)); exact BK442.out) Tryd.underlying32 rfl (by kernel_rfl)) rfl ?_
    exact ⟨rr_, bwi112_x16⟩
def spec_DrawCountKinds.f (k : Nat) (l0 : List Int) : Option (ByteArray × ByteArray × ByteArray) := (spec_l00From.f l0).bind fun bt477 => ((spec_l27Draw.f k bt477.1 bt477.2.1 bt477.2.2).bind fun bt481 => ((spec_l00Src_text.f bt477.1 bt481.2.2.1 bt481.2.2.2 (([(⟨#[115, 112, 108, 105, 99, 101]⟩ : ByteArray), (⟨#[115, 97, 105, 108]⟩ : ByteArray), (⟨#[111, 114, 100, 101, 114]⟩ : ByteArray), (⟨#[110, 111, 110, 101]⟩ : ByteArray), (⟨#[]⟩ : ByteArray), (⟨#[83, 97, 105, 108]⟩ : ByteArray)] : List ByteArray))).bind fun bt489 => (some (bt481.1, bt481.2.1, bt489.1))))
theorem spec_DrawCountKinds.mono : ∀ a0 k, LeO (spec_DrawCountKinds.f k a0) (spec_DrawCountKinds.f (k + 1) a0) := by
 intro a0 k
 unfold spec_DrawCountKinds.f
 repeat' first
   | (with_reducible exact spec_l27Draw.mono _ _ _ _)
   | (with_reducible exact LeO.refl _)
   | (with_reducible exact LeO.none _)
   | (with_reducible refine LeO.ite ?_ ?_)
   | (with_reducible refine LeO.bind ?_ (fun _ => ?_))
   | exact spec_l27Draw.mono _ _ _ _
   | exact LeO.none _
   | refine LeO.ite ?_ ?_
   | refine LeO.bind ?_ (fun _ => ?_)
set_option maxHeartbeats 8000000 in
set_option maxRecDepth 100000 in
theorem spec_DrawCountKinds.calls (k : Nat) (A0 : Option Addr) (c0 : Nat) (l0 : List Int) (r1 : ByteArray) (r2 : ByteArray) (r3 : ByteArray) (w : World) (hr0 : Kd.C (Kd.int .u8) w A0 l0.length l0) (hc0 : l0.length ≤ c0) (h : spec_DrawCountKinds.f k l0 = some (r1, r2, r3)) :
  Calls Tryd.prog 49 #[.slice A0 l0.length c0] w fun e w' => e = .returned (.tuple #[.agg #[.string r1, .string r2], .string r3]) ∧ Below w.heap.size w w' := by
 have hu32 := Tryd.underlying32
 have HR0 := Aside0.mk hr0
 have HC0 := Aside0.mk hc0
 clear hr0 hc0
 have HB := Aside0.mk (Below.refl w.heap.size w)
 have H : ((spec_l00From.f l0).bind fun bt477 => ((spec_l27Draw.f k bt477.1 bt477.2.1 bt477.2.2).bind fun bt481 => ((spec_l00Src_text.f bt477.1 bt481.2.2.1 bt481.2.2.2 (([(⟨#[115, 112, 108, 105, 99, 101]⟩ : ByteArray), (⟨#[115, 97, 105, 108]⟩ : ByteArray), (⟨#[111, 114, 100, 101, 114]⟩ : ByteArray), (⟨#[110, 111, 110, 101]⟩ : ByteArray), (⟨#[]⟩ : ByteArray), (⟨#[83, 97, 105, 108]⟩ : ByteArray)] : List ByteArray))).bind fun bt489 => (some (bt481.1, bt481.2.1, bt489.1))))) = some (r1, r2, r3) := h
 clear h
 replace H := Option.bind_eq_some_iff.mp H
 obtain ⟨⟨t477, t478, t479⟩, A20, H⟩ := H
 (try dsimp only at H)
 have A2 := Aside0.mk A20
 clear A20
 replace H := Option.bind_eq_some_iff.mp H
 obtain ⟨⟨t481, t482, t483, t484⟩, A30, H⟩ := H
 (try dsimp only at H)
 have A3 := Aside0.mk A30
 clear A30
 obtain ⟨y486, hy486⟩ : ∃ y_ : List ByteArray, y_ = (([(⟨#[115, 112, 108, 105, 99, 101]⟩ : ByteArray), (⟨#[115, 97, 105, 108]⟩ : ByteArray), (⟨#[111, 114, 100, 101, 114]⟩ : ByteArray), (⟨#[110, 111, 110, 101]⟩ : ByteArray), (⟨#[]⟩ : ByteArray), (⟨#[83, 97, 105, 108]⟩ : ByteArray)] : List ByteArray)) := ⟨_, rfl⟩
 replace H : ((spec_l00Src_text.f t477 t483 t484 y486).bind fun bt489 => (some (t481, t482, bt489.1))) = some (r1, r2, r3) := by first | (rw [hy486]; with_reducible exact H) | (have H2_ := (Option.bind_some _ _).symm.trans H; rw [hy486]; with_reducible exact H2_) | (have H2_ := (Option.bind_some _ _).symm.trans H; with_reducible exact H2_) | with_reducible exact H | (rw [hy486]; exact H) | exact H
 have Ny486 := Aside0.mk hy486
 clear hy486
 replace H := Option.bind_eq_some_iff.mp H
 obtain ⟨⟨t489, t490, t491⟩, A40, H⟩ := H
 (try dsimp only at H)
 have A4 := Aside0.mk A40
 clear A40
 simp only [Option.some.injEq, Prod.mk.injEq] at H
 obtain ⟨rfl, rfl, rfl⟩ := H
 go_enter Tryd.func49, Tryd.ntmps49
 try go_wp2_with (first | ((with_reducible refine gate_dst (N := 2) rfl ?_); refine be_ 2 #[.string (⟨#[]⟩ : ByteArray), .string (⟨#[]⟩ : ByteArray)] 32 ?_; intro gb476 hg w5 hbox hb; have BK476 := Aside0.mk (hbox); have GW476 := bsz_ hg; have GE476 := bsz_ hg; replace HB := bst_ hb; clear hb hbox hg) | ((with_reducible refine gate_callee (f := 73) rfl ?_); refine goesL_ (some 7) rfl rfl Tryd.func73 (by kernel_rfl) rfl #[.slice A0 l0.length c0] rfl (by (try simp only [List.map_toArray, List.map_cons, List.map_nil]); first | done | rfl | (simp only [List.length_drop, List.length_take]; rfl)) ?_; (with_reducible refine (spec_l00From.calls _ _ l0 t477 t478 t479 w _ ?side1 ?side2 ?side3 A2.out).mono ?_); (case side1 => exact bwl_); (case side2 => exact HR0.out); (case side3 => exact HC0.out); rintro e w6 ⟨g480, rfl, hi, hb, hb2⟩; refine ⟨_, rfl, ?_⟩; replace HB := Aside0.mk (hb); have HI480 := Aside0.mk (hi); have NB480_476 := Aside0.mk (IsS112.ne_blk hi (blk_below (g := gb476) (o := .cells #[.string (⟨#[]⟩ : ByteArray), .string (⟨#[]⟩ : ByteArray)] 32 (0, 0)) (by (with_reducible repeat (first | refine blk_drewN ?_ _ | refine blk_drew ?_ | refine blk_alloc ?_ _)); exact BK476.out) hb2) (by decide)); have NB476_480 := Aside0.mk (Ne.symm (IsS112.ne_blk hi (blk_below (g := gb476) (o := .cells #[.string (⟨#[]⟩ : ByteArray), .string (⟨#[]⟩ : ByteArray)] 32 (0, 0)) (by (with_reducible repeat (first | refine blk_drewN ?_ _ | refine blk_drew ?_ | refine blk_alloc ?_ _)); exact BK476.out) hb2) (by decide))); replace BK476 := bkb_ BK476 hb2; clear hb hb2 hi) | ((with_reducible refine gate_callee (f := 74) rfl ?_); refine goesL_ (some 9) rfl rfl Tryd.func74 (by kernel_rfl) rfl #[.pointer (some ⟨g480, 0, none⟩)] rfl (by (try simp only [List.map_toArray, List.map_cons, List.map_nil]); first | done | rfl | (simp only [List.length_drop, List.length_take]; rfl)) ?_; (with_reducible refine (spec_l27Draw.calls k g480 t477 t478 t479 t481 t482 t483 t484 w _ ?side1 ?side2 A3.out).mono ?_); (case side1 => exact isk112_x16 HI480); (case side2 => exact bwi112_x16); rintro e w7 ⟨rfl, hi, hb, hk⟩; refine ⟨_, rfl, ?_⟩; replace BK476 := Aside0.mk (KeepBut.blk hk (g' := gb476) (o := .cells #[.string (⟨#[]⟩ : ByteArray), .string (⟨#[]⟩ : ByteArray)] 32 (0, 0)) (by (with_reducible repeat (first | refine blk_drewN ?_ _ | refine blk_drew ?_ | refine blk_alloc ?_ _)); exact BK476.out) NB476_480.out (by simp)); replace HB := Aside0.mk (hb); replace HI480 := Aside0.mk (hi); clear hb hk hi) | ((with_reducible refine gate_dst (N := 5) rfl ?_); refine be_ 5 #[.string (⟨#[]⟩ : ByteArray), .string (⟨#[]⟩ : ByteArray)] 32 ?_; intro gb485 hg w8 hbox hb; have BK485 := Aside0.mk (hbox); have GW485 := Aside0.mk ((by rw [hg]; exact (below_size bwi112_x16) : w.heap.size ≤ gb485)); have GE485 := Aside0.mk ((by rw [hg]; exact (below_size bwi112_x16) : w.heap.size ≤ gb485)); replace HB := Aside0.mk (below_step bwi112_x16 hb); have NB476_485 := nbl_ BK476 hg; have NB485_476 := nbr_ BK476 hg; replace BK476 := bkb_ BK476 hb; have NB480_485 := Aside0.mk ((by rw [hg]; exact Nat.ne_of_lt (IsS112.lt (show IsS112 w _ g480 t477 t483 t484 from by repeat (first | (with_reducible first | exact HI480.out | apply IsS112.alloc | apply IsS112.drewN | apply IsS112.drew | apply IsS112.set_1 | apply IsS112.set_2 | refine IsS112.far ?_ NB480_476.out _) | exact HI480.out))) : g480 ≠ gb485)); have NB485_480 := Aside0.mk ((by rw [hg]; exact Nat.ne_of_gt (IsS112.lt (show IsS112 w _ g480 t477 t483 t484 from by repeat (first | (with_reducible first | exact HI480.out | apply IsS112.alloc | apply IsS112.drewN | apply IsS112.drew | apply IsS112.set_1 | apply IsS112.set_2 | refine IsS112.far ?_ NB480_476.out _) | exact HI480.out))) : gb485 ≠ g480)); replace HI480 := Aside0.mk (IsS112.below (isk112_x16 HI480) hb); clear hb hbox hg; have hnb9 := NB485_476.out; have hnc9 := NB476_485.out; have hnb10 := NB485_480.out; have hnc10 := NB480_485.out; have hcz11_0 := b20_ BK485; have hcz11_1 := b21_ BK485; have hfz11_0 := blk_frozen BK485.out 0; have hfz11_1 := blk_frozen BK485.out 1))
 have n0_ : Aside0 (((w8.setCell ⟨gb485, 0, none⟩ (.string t481)).setCell ⟨gb485, 1, none⟩ (.string t482)).heap[gb476]? = some (.cells #[.string (⟨#[]⟩ : ByteArray), .string (⟨#[]⟩ : ByteArray)] 32 (0, 0))) := ⟨by (with_reducible repeat (first | refine blk_drewN ?_ _ | refine blk_drew ?_ | refine blk_alloc ?_ _)); refine blk_far ?_ NB476_485.out _; (with_reducible repeat (first | refine blk_drewN ?_ _ | refine blk_drew ?_ | refine blk_alloc ?_ _)); refine blk_far ?_ NB476_485.out _; (with_reducible repeat (first | refine blk_drewN ?_ _ | refine blk_drew ?_ | refine blk_alloc ?_ _)); exact BK476.out⟩
 have n1_ : Aside0 (((w8.setCell ⟨gb485, 0, none⟩ (.string t481)).setCell ⟨gb485, 1, none⟩ (.string t482)).heap[gb485]? = some (.cells #[.string t481, .string t482] 32 (0, 0))) := ⟨by (with_reducible repeat (first | refine blk_drewN ?_ _ | refine blk_drew ?_ | refine blk_alloc ?_ _)); refine blk_put (cs := #[.string t481, .string (⟨#[]⟩ : ByteArray)]) ?_ 1 _ rfl; (with_reducible repeat (first | refine blk_drewN ?_ _ | refine blk_drew ?_ | refine blk_alloc ?_ _)); refine blk_put (cs := #[.string (⟨#[]⟩ : ByteArray), .string (⟨#[]⟩ : ByteArray)]) ?_ 0 _ rfl; (with_reducible repeat (first | refine blk_drewN ?_ _ | refine blk_drew ?_ | refine blk_alloc ?_ _)); exact BK485.out⟩
 have n2_ : Aside0 (IsS112 w ((w8.setCell ⟨gb485, 0, none⟩ (.string t481)).setCell ⟨gb485, 1, none⟩ (.string t482)) g480 t477 t483 t484) := ⟨isk112_x16 HI480⟩
 have n3_ : Aside0 (Below w.heap.size w ((w8.setCell ⟨gb485, 0, none⟩ (.string t481)).setCell ⟨gb485, 1, none⟩ (.string t482))) := ⟨bwi112_x16⟩
 (try clear BK476);(try clear BK485);(try clear HI480);(try clear HB)
 generalize ((w8.setCell ⟨gb485, 0, none⟩ (.string t481)).setCell ⟨gb485, 1, none⟩ (.string t482)) = w12 at n0_ n1_ n2_ n3_ ⊢
 have BK476 := n0_
 have BK485 := n1_
 have HI480 := n2_
 have HB := n3_
 clear n0_ n1_ n2_ n3_
 replace BK476 := Aside0.mk (blk_drew BK476.out)
 replace BK485 := Aside0.mk (blk_drew BK485.out)
 replace HI480 := Aside0.mk (IsS112.drew HI480.out)
 replace HB := Aside0.mk (below_drew1 HB.out)
 refine start_ (n := 6) (S := fun w' => w'.cell? ⟨gb485, 0, none⟩ = some (.string t481) ∧ w'.cell? ⟨gb485, 1, none⟩ = some (.string t482)) (ds := []) (fl 6 0) (by kernel_rfl) rfl rfl ⟨(blk_cell BK485.out 0).trans rfl, (blk_cell BK485.out 1).trans rfl⟩ (fun hHeld => ?_)
 generalize w12.drew = w13 at BK476 BK485 HI480 HB hHeld ⊢
 refine pu_ (i := 1) (N := some 11) (fl 6 2) (by kernel_rfl) ?_
 refine take_ (i := 0) (N := some 10) (v := ?_) (a' := ?_) (fl 6 3) rfl rfl (by kernel_rfl) (fun _ _ _ h => h) (Or.inl ⟨by rfl, ?_⟩) hHeld ?_ ?_
 rotate_left
 ·rintro w' ⟨s0, s1⟩
  go_simp
  with_reducible rfl
 rotate_left
 ·simp only [Act.put, List.setIfInBounds_toArray, List.set_cons_zero, List.set_cons_succ, i64_w, i32_w]
  rfl
 refine one_ (i := 2) (N := some 12) (fl 6 7) rfl rfl (by kernel_rfl) (by decide) (fun K hK => ?_)
 refine Kd.R_lit_step Kd.string _ 9 ?hg (N := 12) ?hd (xs := ([(⟨#[115, 112, 108, 105, 99, 101]⟩ : ByteArray), (⟨#[115, 97, 105, 108]⟩ : ByteArray), (⟨#[111, 114, 100, 101, 114]⟩ : ByteArray), (⟨#[110, 111, 110, 101]⟩ : ByteArray), (⟨#[]⟩ : ByteArray), (⟨#[83, 97, 105, 108]⟩ : ByteArray)] : List ByteArray)) (inner := [.string (⟨#[115, 112, 108, 105, 99, 101]⟩ : ByteArray), .string (⟨#[115, 97, 105, 108]⟩ : ByteArray), .string (⟨#[111, 114, 100, 101, 114]⟩ : ByteArray), .string (⟨#[110, 111, 110, 101]⟩ : ByteArray), .string (⟨#[]⟩ : ByteArray), .string (⟨#[83, 97, 105, 108]⟩ : ByteArray)]) (ok := fun _ => True) (okp := fun _ => True) ?hr ?hp (fun _ hk => hk) trivial (Below.refl _ _) (Nat.le_refl _) (by simp) ?_; (case hd => rfl); (case hg => rfl); (case hr => first | (go_simp; done) | (go_simp; rfl)); (case hp => exact (Reps.one (show Kd.M Kd.string _ _ _ (⟨#[115, 112, 108, 105, 99, 101]⟩ : ByteArray) [.string (⟨#[115, 112, 108, 105, 99, 101]⟩ : ByteArray)] from rfl) (Reps.one (show Kd.M Kd.string _ _ _ (⟨#[115, 97, 105, 108]⟩ : ByteArray) [.string (⟨#[115, 97, 105, 108]⟩ : ByteArray)] from rfl) (Reps.one (show Kd.M Kd.string _ _ _ (⟨#[111, 114, 100, 101, 114]⟩ : ByteArray) [.string (⟨#[111, 114, 100, 101, 114]⟩ : ByteArray)] from rfl) (Reps.one (show Kd.M Kd.string _ _ _ (⟨#[110, 111, 110, 101]⟩ : ByteArray) [.string (⟨#[110, 111, 110, 101]⟩ : ByteArray)] from rfl) (Reps.one (show Kd.M Kd.string _ _ _ (⟨#[]⟩ : ByteArray) [.string (⟨#[]⟩ : ByteArray)] from rfl) (Reps.one (show Kd.M Kd.string _ _ _ (⟨#[83, 97, 105, 108]⟩ : ByteArray) [.string (⟨#[83, 97, 105, 108]⟩ : ByteArray)] from rfl) (Reps.none _ _))))))))
 intro v487 w14 ho15 hb hg_ hnew_
 clear hg_ hnew_
 (first | rw [← Ny486.out] at ho15 | (simp only [Int.reduceToNat] at ho15; rw [← Ny486.out] at ho15))
 have HO488 := Aside0.mk (Kd.R_lower ho15 (below_size bwi112_x16))
 replace BK476 := bkb_ BK476 hb
 replace BK485 := bkb_ BK485 hb
 replace HB := Aside0.mk (below_step bwi112_x16 hb)
 replace HI480 := Aside0.mk (IsS112.below (isk112_x16 HI480) hb)
 clear hb ho15
 obtain ⟨Ao16, co16, eo16⟩ := Kd.R_slice HO488.out
 (first | subst eo16 | (injection eo16 with f1_ f2_ f3_; have f4_ := f1_.symm; have f5_ := f3_.symm; clear f1_ f2_ f3_; subst f4_; subst f5_))
 refine hK.out _ _ ⟨(blk_cell BK485.out 0).trans rfl, (blk_cell BK485.out 1).trans rfl⟩ (fun hHeld => ?_)
 clear hK K
 refine norm_ (a' := ?_) ?_ ?_
 rotate_left
 ·show Act.put _ (some 12) _ = _
  simp only [Act.put, List.setIfInBounds_toArray, List.set_cons_zero, List.set_cons_succ, i64_w, i32_w]
  rfl
 refine one_ (i := 3) (N := some 13) (fl 6 15) rfl rfl (by kernel_rfl) (by decide) (fun K hK => ?_)
 refine goes_ Tryd.func82 (by kernel_rfl) rfl #[.pointer (some ⟨g480, 0, none⟩), .slice Ao16 y486.length co16] (by rfl) rfl rfl (by (try simp only [List.map_toArray, List.map_cons, List.map_nil]); first | done | rfl | (simp only [List.length_drop, List.length_take]; rfl)) ?_
 with_reducible refine (spec_l00Src_text.calls g480 t477 t483 t484 _ _ y486 t489 t490 t491 w _ ?side1 ?side2 ?side3 ?side4 ?side5 A4.out).mono ?_
 (case side1 => exact isk112_x16 HI480)
 (case side2 => exact bwi112_x16)
 (case side3 => repeat (first | exact (Kd.R_reads' HO488.out).2.2 | (with_reducible refine Kd.C_alloc ?_ _) | (with_reducible refine Kd.C_drewN ?_ _) | (with_reducible refine Kd.C_drew ?_)))
 (case side4 => exact (Kd.R_reads' HO488.out).2.1)
 (case side5 => exact far_slice (IsS112.own_ne HI480.out HO488.out (by decide)))
 rintro e w17 ⟨rfl, hi, hb, hk⟩
 refine ⟨_, rfl, ?_⟩
 replace BK476 := Aside0.mk (KeepBut.blk hk (g' := gb476) (o := .cells #[.string (⟨#[]⟩ : ByteArray), .string (⟨#[]⟩ : ByteArray)] 32 (0, 0)) (by (with_reducible repeat (first | refine blk_drewN ?_ _ | refine blk_drew ?_ | refine blk_alloc ?_ _)); exact BK476.out) NB476_480.out (by simp))
 replace BK485 := Aside0.mk (KeepBut.blk hk (g' := gb485) (o := .cells #[.string t481, .string t482] 32 (0, 0)) (by (with_reducible repeat (first | refine blk_drewN ?_ _ | refine blk_drew ?_ | refine blk_alloc ?_ _)); exact BK485.out) NB485_480.out (by simp))
 replace HO488 := Aside0.mk (Kd.R_mono (Kd.R_keep (IsS112.apart (show IsS112 w _ g480 t477 t483 t484 from by repeat (first | (with_reducible first | exact HI480.out | apply IsS112.alloc | apply IsS112.drewN | apply IsS112.drew | apply IsS112.set_1 | apply IsS112.set_2 | refine IsS112.far ?_ NB480_476.out _ | refine IsS112.far ?_ NB480_485.out _) | exact HI480.out)) (by (with_reducible repeat (first | apply Kd.R_alloc | apply Kd.R_drewN | apply Kd.R_drew)); exact HO488.out) (by decide)) hk (fun _ h => h.2)) (fun _ h => h.1))
 replace HB := Aside0.mk (hb)
 replace HI480 := Aside0.mk (hi)
 (try clear hb);(try clear hb2);(try clear hk);(try clear hi)
 refine hK.out _ _ ⟨(blk_cell BK485.out 0).trans rfl, (blk_cell BK485.out 1).trans rfl⟩ (fun hHeld => ?_)
 clear hK K
 refine norm_ (a' := ?_) ?_ ?_
 rotate_left
 ·show Act.put _ (some 13) _ = _
  simp only [Act.put, List.setIfInBounds_toArray, List.set_cons_zero, List.set_cons_succ, i64_w, i32_w]
  rfl
 refine one_ (i := 4) (N := none) (fl 6 31) rfl rfl (by kernel_rfl) (by decide) (fun K hK => ?_)
 have hs18 : w17.cell? ⟨gb476, 0, none⟩ = some (.string (⟨#[]⟩ : ByteArray)) := (blk_cell BK476.out 0).trans rfl
 have hfs18 := blk_frozen BK476.out 0
 have hns18_1 := NB485_476.out
 have hms18_1 := NB476_485.out
 have hs19 : w17.cell? ⟨gb476, 1, none⟩ = some (.string (⟨#[]⟩ : ByteArray)) := (blk_cell BK476.out 1).trans rfl
 have hfs19 := blk_frozen BK476.out 1
 have hns19_1 := NB485_476.out
 have hms19_1 := NB476_485.out
 refine skip_ (w1 := ?_) (by rfl) rfl ?_ ?_
 rotate_left
 ·go_simp
  rfl
 refine hK.out _ _ ⟨((cell_far (p := ⟨gb476, _, none⟩) NB485_476.out _).trans (((cell_far (p := ⟨gb476, _, none⟩) NB485_476.out _).trans (hHeld.1)))), ((cell_far (p := ⟨gb476, _, none⟩) NB485_476.out _).trans (((cell_far (p := ⟨gb476, _, none⟩) NB485_476.out _).trans (hHeld.2))))⟩ (fun hHeld => ?_)
 clear hK K
 refine pu_ (i := 5) (N := some 3) (fl 6 63) (by kernel_rfl) ?_
 refine done_ (by kernel_rfl) ?_
 try go_wp2
 refine bodyPost_ret (results_ct rfl _ _ gb476 32 #[.string t481, .string t482] (0, 0) _ rfl (by (with_reducible repeat (first | refine blk_drewN ?_ _ | refine blk_drew ?_ | refine blk_alloc ?_ _)); refine blk_put (cs := #[.string t481, .string (⟨#[]⟩ : ByteArray)]) ?_ 1 _ rfl; (with_reducible repeat (first | refine blk_drewN ?_ _ | refine blk_drew ?_ | refine blk_alloc ?_ _)); refine blk_put (cs := #[.string (⟨#[]⟩ : ByteArray), .string (⟨#[]⟩ : ByteArray)]) ?_ 0 _ rfl; (with_reducible repeat (first | refine blk_drewN ?_ _ | refine blk_drew ?_ | refine blk_alloc ?_ _)); exact BK476.out) Tryd.underlying32 rfl (by kernel_rfl)) rfl ?_
 exact ⟨rr_, bwi112_x16⟩
end Go.Proofs.YtlcgonaapmmnkaaDoor.QFnLogs
